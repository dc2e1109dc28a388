/-
Two files are the same; the list of paths as a slice that is owned.
-/
import Derived.Test.YtllpffdjlhamkaaWdA
import Derived.Test.YtllpffdjlhamkaaWdB
import Derived.Test.YtllpffdjlhamkaaAsc12
set_option linter.unusedVariables false
set_option linter.unusedSimpArgs false
namespace Go.Proofs.Ytllpffdjlhamkaa
open Go.RowKit

set_option maxRecDepth 100000 in
set_option maxHeartbeats 4000000 in
theorem same13_c (sl : ByteArray) (b : List UInt8) (A B : Option Addr) (n c d : Nat) (mt : Int) (hn : n = b.length) (w : World) (hA : Rd w A (bc b)) (hB : Rd w B (bc b)) :
    Calls Try.prog 20 #[.agg #[.string sl, .slice A n c, .int .i64 mt], .agg #[.string sl, .slice B n d, .int .i64 mt]] w (Gives (.bool true) w) := by
  have CA := fun x y => conv_bs (P := Try.prog) 32 9 5 Try.underlying32 Try.underlying5 Try.underlying9 (hA.ext (show Ext w ((w.alloc x).alloc y) by (repeat (first | exact Ext.rfl' _ | assumption | refine Ext.dr ?_ | refine Ext.drN ?_ _ | refine Ext.al ?_ _ | refine Ext.st ?_ (by simp) _ | refine Ext.tr ?_ (by assumption))))) n c hn
  have CB := fun x y => conv_bs (P := Try.prog) 32 9 5 Try.underlying32 Try.underlying5 Try.underlying9 (hB.ext (show Ext w ((w.alloc x).alloc y) by (repeat (first | exact Ext.rfl' _ | assumption | refine Ext.dr ?_ | refine Ext.drN ?_ _ | refine Ext.al ?_ _ | refine Ext.st ?_ (by simp) _ | refine Ext.tr ?_ (by assumption))))) n d hn
  obtain ⟨sb, hsb⟩ : ∃ sb, sb = str b := ⟨_, rfl⟩
  rw [← hsb] at CA CB
  clear hsb hn
  go_enter Try.func20, Try.ntmps20
  go_wp2
  go_ret
  exact ⟨rfl, by (repeat (first | exact Ext.rfl' _ | assumption | refine Ext.dr ?_ | refine Ext.drN ?_ _ | refine Ext.al ?_ _ | refine Ext.st ?_ (by simp) _ | refine Ext.tr ?_ (by assumption)))⟩
/-- What is a row of the call's own is a slice whose room an owner may have. -/
theorem sl_own {w : World} {o : Ow} {base e n : Nat} {v : Value} {xs : List Value} (h : w.ownsRow base e 1 v n xs) (j : Nat) (ho : ∀ b, base ≤ b → b < w.heap.size → o b = j) : ∃ A c, v = .slice A n c ∧ Sl w o j 1 A n c xs ∧ (A = none → c = 0) := by
  have h0 := h
  obtain ⟨hl, hv | ⟨g, cap, cur, hv, hg, hh, hnc, hcm, hcs, hx⟩⟩ := h
  · obtain ⟨hv, hn⟩ := hv
    subst hn
    obtain rfl : xs = [] := List.eq_nil_of_length_eq_zero (by omega)
    exact ⟨none, 0, hv, Sl.nil_ _ _ _ _ _, fun _ => rfl⟩
  · refine ⟨some ⟨g, 0, none⟩, cap, hv, ⟨hl, hnc, hcm, .inr ⟨g, 0, rfl, ho g hg (row_lt hh), row_lt hh, fun i u hu => ?_, fun i hi => ?_⟩⟩, fun h => by cases h⟩
    · have := h0.cells (g := g) (by rw [hv]; rfl) i u hu
      rw [add_mk] at this
      exact this
    · have hi' : i < cur.size := by omega
      have := row_facts hh i cur[i] (by simp [hi'])
      rw [Nat.zero_add]
      exact ⟨by rw [this.1]; rfl, this.2⟩
set_option maxRecDepth 100000 in
set_option maxHeartbeats 4000000 in
theorem wList_t (j : Nat) (w : World) (o : Ow) (k p : Nat) (s : Wrl) (h : WdAt w o k p s) (hk : Wok s) :
    Calls Try.prog 24 #[.pointer (some ⟨p, 0, none⟩)] w (Turns (fun _ => False) w o fun v w' o' => ∃ A c, v = .slice A (listW s).length c ∧ Sl w' o' j 1 A (listW s).length c (sc (listW s)) ∧ (A = none → c = 0)) := by
  obtain ⟨mb, pl, hh, hm, hlt, hi, hs⟩ := h.row
  have c0 := hh.c0
  have HH := Lib.hid (fun w' (e : Ext w w') => hh.ext e)
  have HI := Lib.hid (fun w' (e : Ext w w') => World.isM.same hi (e.block mb hlt))
  have hlen := enc_len pl s.L
  have hfew := hk.few
  have hkeys : (enc pl s.L).map (·.1) = s.L.map (·.1) := keys_map (fun k v => entV k (pl k) v) s.L
  have KEYS := Lib.hid hkeys
  clear hkeys
  go_enter Try.func24, Try.ntmps24
  go_wp2_with (first
    | (go_at_call 27; refine (none_no p mb _ c0).mono ?_; rintro e w1 ⟨rfl, hx1⟩; have u0 := (HH.out w1 hx1).c0; obtain ⟨D, hD1, hD2, hD3⟩ := isM_keys (HI.out w1 hx1))
    | (go_at_call 34; refine (mKeys_c _ _).mono ?_; rintro e w2 ⟨rfl, rfl⟩)
    | (go_at_call 33; refine (slSorted_c mb _ D heldR _ hD1 (by rw [hD3]; simp only [maxLen]; omega) (by rw [hD3]; omega)).mono ?_; rintro e w3 ⟨v, rfl, hv, hx3⟩))
  go_ret
  rw [hD2, KEYS.out] at hv
  have hsz : w.heap.size ≤ (w1.alloc (.cells #[.map (some mb)] 36)).heap.size := (show Ext w (w1.alloc _) by (repeat (first | exact Ext.rfl' _ | assumption | refine Ext.dr ?_ | refine Ext.drN ?_ _ | refine Ext.al ?_ _ | refine Ext.st ?_ (by simp) _ | refine Ext.tr ?_ (by assumption)))).size
  obtain ⟨A, c, rfl, hr, hn⟩ := sl_own (o := fun b => if b < w.heap.size then o b else j) hv j (fun b hb _ => if_neg (by omega))
  exact Turns.mk _ rfl ⟨A, c, rfl, hr, hn⟩ (Stp.ext2 (by (repeat (first | exact Ext.rfl' _ | assumption | refine Ext.dr ?_ | refine Ext.drN ?_ _ | refine Ext.al ?_ _ | refine Ext.st ?_ (by simp) _ | refine Ext.tr ?_ (by assumption)))) (fun b hb => if_pos hb))
theorem list_mem {s : Wrl} {l : List UInt8} (h : l ∈ listW s) : ∃ f, lkM s.L l = some f := by
  have h1 : l ∈ s.L.map (·.1) := (List.mergeSort_perm _ _).mem_iff.1 h
  obtain ⟨x, hx, rfl⟩ := List.mem_map.1 h1
  cases e : lkM s.L x.1 with
  | none => exact absurd rfl (lk_none_mem e x hx)
  | some f => exact ⟨f, rfl⟩
/-- Whatever is asked for. -/
theorem wFile_any (w : World) (o : Ow) (k p : Nat) (s : Wrl) (h : WdAt w o k p s) (hk : Wok s) (l : List UInt8) (hl : l.length ≤ 140737488355328) :
    Calls Try.prog 11 #[.pointer (some ⟨p, 0, none⟩), .string (str l)] w (Turns (fun _ => False) w o fun v _ _ => ∃ s' A' n' c' m' v' e', v = .tuple #[.agg #[.string s', .slice A' n' c', .int .i64 m'], .int .i64 v', .int .i64 e']) := by
  cases hf : lkM s.L l with
  | none =>
    refine (wFile_none w o k p s h l hl hf).mono ?_
    rintro e w' ⟨rfl, hx⟩
    exact Turns.mk o rfl ⟨_, _, _, _, _, _, _, rfl⟩ (Stp.ext hx)
  | some f =>
    refine (wFile_some 8 w o k p s h hk l hl f hf).mono ?_
    rintro e w' ⟨v, o', rfl, ⟨A, c, rfl, _, _⟩, st⟩
    exact Turns.mk o' rfl ⟨_, _, _, _, _, _, _, rfl⟩ st
theorem path_len {l : List UInt8} (h : pathF l = true) : l.length ≤ 4096 := by
  have h1 := (path_ok h).1
  unfold cleanL at h1
  split at h1
  · rename_i h2; exact h2.2.1
  · injection h1 with _ h2; cases h2
theorem list_len (s : Wrl) : (listW s).length = s.L.length := by unfold listW; rw [List.length_mergeSort, List.length_map]
end Go.Proofs.Ytllpffdjlhamkaa
