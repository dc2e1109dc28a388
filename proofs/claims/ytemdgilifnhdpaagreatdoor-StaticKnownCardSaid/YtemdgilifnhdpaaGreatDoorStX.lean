/-
Static: the law StaticBelow, walked.
-/
import Derived.Test.YtemdgilifnhdpaaGreatDoorStU
import Derived.Test.YtemdgilifnhdpaaGreatDoorStV
import Derived.Test.YtemdgilifnhdpaaGreatDoorZaw
set_option linter.unusedVariables false
set_option linter.unusedSimpArgs false
namespace Go.Proofs.YtemdgilifnhdpaaGreatDoor
open Go.RowKit

def lawLoc (root index : ByteArray) : Array Value := #[.string ⟨#[47]⟩, .int .i64 1, .string root, .string index, .int .i64 0, .int .i64 0, .string ⟨#[]⟩, .bool false, .int .i64 0, .int .i64 0, .int .i64 0, .string ⟨#[]⟩]
set_option maxRecDepth 100000 in
set_option maxHeartbeats 2000000 in
theorem lawLoc_c (r i : ByteArray) (w : World) : Calls Tryz.prog 10 #[.agg (lawLoc r i)] w (Gives (.agg (lawLoc r i)) w) := by
  unfold lawLoc
  go_enter Tryz.func10, Tryz.ntmps10
  go_wp2
  refine bodyPost_ret (v := .agg #[.string ⟨#[47]⟩, .int .i64 1, .string r, .string i, .int .i64 0, .int .i64 0, .string ⟨#[]⟩, .bool false, .int .i64 0, .int .i64 0, .int .i64 0, .string ⟨#[]⟩]) (by simp [results, Tryz.results10, go_sem]) rfl ⟨rfl, by (repeat (first | exact Ext.rfl' _ | assumption | refine Ext.dr ?_ | refine Ext.drN ?_ _ | refine Ext.al ?_ _ | refine Ext.st ?_ (by simp) _ | refine Ext.tr ?_ (by assumption)))⟩
theorem stServe_get (kw pw : Nat) (s : Wrl) (hk : Wok s) (root index path : List UInt8) (hp2 : root.length ≤ 140737488351232) (hp3 : index.length ≤ 140737488351232) (hp4 : path.length ≤ 140737488351232) (w : World) (o : Ow) (ho : ∀ b, b < w.heap.size → o b < 20) (hkw : kw < 17) (hw : WdAt w o kw pw s) (hM : Ev.MxE w) (hE : ErrR w) :
    Calls Tryz.prog 9 #[.pointer (some ⟨pw, 0, none⟩), .agg (lawLoc (str root) (str index)), .agg (reqC ⟨#[71, 69, 84]⟩ (.string ⟨#[]⟩) (.int .i64 0) none 0 0), .string (str path)] w (ServeTo w (serveS (findS s [47] root index path) 200 path)) := by
  cases hf : findS s [47] root index path with
  | inr n =>
    rw [← hf]
    exact stServe_not kw pw s hk [47] root index path (by simp) hp2 hp3 hp4 (.int .i64 0) (.string ⟨#[]⟩) (.bool false) (.int .i64 0) (.int .i64 0) (.int .i64 0) (.string ⟨#[]⟩) (.string ⟨#[]⟩) (.int .i64 0) none 0 0 w o ho hkw hw hM hE 200 n hf
  | inl nf =>
    obtain ⟨nm, f⟩ := nf
    rw [← hf]
    exact stServe_200 kw pw s hk [47] root index path (by simp) hp2 hp3 hp4 (.int .i64 0) (.string ⟨#[]⟩) (.bool false) (.int .i64 0) (.int .i64 0) (.int .i64 0) (.string ⟨#[]⟩) (.string ⟨#[]⟩) (.int .i64 0) none 0 0 w o ho hkw hw hM hE 200 nm f hf
      (fun w' _ => cdEval_no [] none 0 0 rfl (by decide) (by simp) ⟨rfl, rfl, rfl, rfl⟩ false true _ _ _ w' (Rd.nil_ _ _))
      (fun w' _ => cdInR_no [] none 0 0 rfl (by decide) (by simp) rfl false true _ _ _ w' (Rd.nil_ _ _))
      [] (by decide) (by decide) (fun w' _ => hValues_c [] [82, 97, 110, 103, 101] none 0 0 rfl (by decide) (by decide) (by simp) w' (Rd.nil_ _ _))
theorem Sl.low {w : World} {o : Ow} {k size n c : Nat} {A : Option Addr} {xs : List Value} (h : Sl w o k size A n c xs) (hk : k < 20) : Sl w (fun b => if o b < 20 then o b else 0) k size A n c xs := by
  refine ⟨h.len, h.le, h.max, ?_⟩
  rcases h.at_ with h0 | ⟨g, f, hA, ho, hl, hc, hr⟩
  · exact .inl h0
  · exact .inr ⟨g, f, hA, by show (if o g < 20 then o g else 0) = k; rw [ho, if_pos hk], hl, hc, hr⟩
theorem WdAt.low {w : World} {o : Ow} {k p : Nat} {s : Wrl} (h : WdAt w o k p s) (hk : k < 17) : WdAt w (fun b => if o b < 20 then o b else 0) k p s := by
  obtain ⟨mb, pl, hh, hm, hl, hi, hs⟩ := h.row
  exact ⟨by show (if o p < 20 then o p else 0) = k; rw [h.own, if_pos (by omega)], mb, pl, hh, by show (if o mb < 20 then o mb else 0) = k + 1; rw [hm, if_pos (by omega)], hl, hi, fun x hx => ⟨(hs x hx).1.low (by omega), (hs x hx).2⟩⟩
theorem low_lt (o : Ow) (b : Nat) : (if o b < 20 then o b else 0) < 20 := by split <;> omega
theorem find_code {s : Wrl} {pre root index path : List UInt8} {n : Int} (h : findS s pre root index path = .inr n) : n = 301 ∨ n = 400 ∨ n = 404 := by
  unfold findS at h
  split at h
  · rename_i n' ha
    injection h with h
    subst h
    unfold askS at ha
    split at ha
    · injection ha with ha; omega
    · split at ha
      · injection ha with ha; omega
      · split at ha
        · cases ha
        · split at ha
          · injection ha with ha; omega
          · cases ha
  · rename_i ha
    exfalso
    unfold askS at ha
    split at ha
    · cases ha
    · split at ha
      · cases ha
      · split at ha
        · injection ha with ha; cases ha
        · split at ha
          · cases ha
          · injection ha with ha; cases ha
  · split at h
    · cases h
    · split at h
      · injection h with h; omega
      · injection h with h; omega
end Go.Proofs.YtemdgilifnhdpaaGreatDoor
