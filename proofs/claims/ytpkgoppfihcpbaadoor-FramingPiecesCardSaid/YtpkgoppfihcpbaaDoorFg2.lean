/-
Framing's Request: of fields without a Transfer-Encoding.
-/
import Derived.Test.YtpkgoppfihcpbaaDoorFg1
import Derived.Test.YtpkgoppfihcpbaaDoorHd1
set_option linter.unusedVariables false
set_option linter.unusedSimpArgs false
namespace Go.Proofs.YtpkgoppfihcpbaaDoor
open Go.RowKit

def clN : List UInt8 := [67, 111, 110, 116, 101, 110, 116, 45, 76, 101, 110, 103, 116, 104]
def teN : List UInt8 := [84, 114, 97, 110, 115, 102, 101, 114, 45, 69, 110, 99, 111, 100, 105, 110, 103]
theorem two_rowsF {w w1 : World} {x y : Array Value} {t u : TypeId} (e : Ext ((w.alloc (.cells x t)).alloc (.cells y u)) w1) : w1.heap[w.heap.size]? = some (.cells x t (0, 0)) ∧ w1.heap[w.heap.size + 1]? = some (.cells y u (0, 0)) := by
  have hz : (w.alloc (.cells x t)).heap.size = w.heap.size + 1 := by simp
  have h1 := heap_alloc_new (w.alloc (.cells x t)) (.cells y u)
  rw [hz] at h1
  exact ⟨(e.block w.heap.size (by simp; omega)).trans ((((Ext.rfl' (w.alloc _)).al _).block w.heap.size (by simp)).trans (heap_alloc_new w (.cells x t))), (e.block (w.heap.size + 1) (by simp)).trans h1⟩
/-- A body's length, as Request tells it of fields that name no coding. -/
def reqL (fs : List Fld) : Int × Int × Int := if valsH fs clN = [] then (0, 0, 0) else if (lenV (valsH fs clN)).2 ≠ 0 then (0, 0, (lenV (valsH fs clN)).2) else (1, (lenV (valsH fs clN)).1, 0)
set_option maxRecDepth 100000 in
set_option maxHeartbeats 4000000 in
theorem fRequest_cl (fs : List Fld) (A : Option Addr) (n c : Nat) (hn : fs.length = n) (hb : n ≤ 8796093022206) (hsz : ∀ p ∈ fs, p.1.length ≤ maxLen) (hte : valsH fs teN = []) (me ta : ByteArray) (mi : Int) (w : World) (hE : ErrR w) (h : Rd w A (fc fs))
    (hv : ∀ v ∈ valsH fs clN, v.length ≤ 1099511627776) (hT : (partsL (valsH fs clN)).length ≤ 1099511627776) (hP : ∀ s ∈ partsL (valsH fs clN), s.length ≤ 140737488355328) (hc8 : (valsH fs clN).length ≤ 8796093022206) :
    Calls Tryd.prog 7 #[.agg #[.string me, .string ta, .int .i64 mi, .slice A n c]] w (Gives (.tuple #[.agg #[.int .i64 (reqL fs).1, .int .i64 (reqL fs).2.1], .int .i64 (reqL fs).2.2]) w) := by
  have HR := Lib.hid h
  have HEE := Lib.hid hE
  have CCL := fun w' h' => hValues_c fs clN A n c hn hb (by decide) hsz w' h'
  rw [show str clN = ⟨#[67, 111, 110, 116, 101, 110, 116, 45, 76, 101, 110, 103, 116, 104]⟩ from rfl] at CCL
  have CCL := Lib.hid CCL
  have CTE := fun w' h' => hValues_c fs teN A n c hn hb (by decide) hsz w' h'
  rw [hte, show str teN = ⟨#[84, 114, 97, 110, 115, 102, 101, 114, 45, 69, 110, 99, 111, 100, 105, 110, 103]⟩ from rfl] at CTE
  have CTE := Lib.hid CTE
  have CLN := Lib.hid (fun (A' : Option Addr) (c' : Nat) (w' : World) (h0 : valsH fs clN ≠ []) hE' h' => fLengths_c (valsH fs clN) A' (valsH fs clN).length c' rfl (List.length_pos_iff.2 h0) hv hT hP hc8 w' hE' h')
  have HX := Lib.hid (fun w' (e : Ext ((w.alloc (.cells #[.string me, .string ta, .int .i64 mi, .slice A n c] 31)).alloc (.cells #[.int .i64 0, .int .i64 0] 26)) w') => show w'.cell? ⟨w.heap.size, 3, none⟩ = some (.slice A n c) from (row_facts (two_rowsF e).1 3 _ rfl).1)
  obtain ⟨vs, hvs⟩ : ∃ q, q = valsH fs clN := ⟨_, rfl⟩
  have HRL := Lib.hid (show reqL fs = if vs = [] then (0, 0, 0) else if (lenV vs).2 ≠ 0 then (0, 0, (lenV vs).2) else (1, (lenV vs).1, 0) from by rw [hvs]; rfl)
  rw [← hvs] at CCL CLN
  clear h hE hn hsz hte hv hT hP hvs hc8
  go_enter Tryd.func7, Tryd.ntmps7
  go_wp2
  have c0 := HX.out _ (Ext.rfl' _)
  go_region_with (first
    | (go_at_call_of 18 (Value.string ⟨#[67, 111, 110, 116, 101, 110, 116, 45, 76, 101, 110, 103, 116, 104]⟩); refine (CCL.out _ (HR.out.ext (by (repeat (first | exact Ext.rfl' _ | assumption | refine Ext.dr ?_ | refine Ext.drN ?_ _ | refine Ext.al ?_ _ | refine Ext.st ?_ (by simp) _ | refine Ext.tr ?_ (by assumption)))))).mono ?_; rintro e w3 ⟨v, rfl, ⟨A3, c3, rfl, hrd3⟩, hx3⟩; have hc3 := HX.out w3 (by (repeat (first | exact Ext.rfl' _ | assumption | refine Ext.dr ?_ | refine Ext.drN ?_ _ | refine Ext.al ?_ _ | refine Ext.st ?_ (by simp) _ | refine Ext.tr ?_ (by assumption)))))
    | (go_at_call_of 18 (Value.string ⟨#[84, 114, 97, 110, 115, 102, 101, 114, 45, 69, 110, 99, 111, 100, 105, 110, 103]⟩); refine (CTE.out _ (HR.out.ext (by (repeat (first | exact Ext.rfl' _ | assumption | refine Ext.dr ?_ | refine Ext.drN ?_ _ | refine Ext.al ?_ _ | refine Ext.st ?_ (by simp) _ | refine Ext.tr ?_ (by assumption)))))).mono ?_; rintro e w4 ⟨v, rfl, ⟨A4, c4, rfl, hrd4⟩, hx4⟩))
  all_goals (
    have e4 : Ext ((w.alloc (.cells #[.string me, .string ta, .int .i64 mi, .slice A n c] 31)).alloc (.cells #[.int .i64 0, .int .i64 0] 26)) w4 := by (repeat (first | exact Ext.rfl' _ | assumption | refine Ext.dr ?_ | refine Ext.drN ?_ _ | refine Ext.al ?_ _ | refine Ext.st ?_ (by simp) _ | refine Ext.tr ?_ (by assumption)))
    obtain ⟨_, r4⟩ := two_rowsF e4
    obtain ⟨p0, pf0⟩ := row_facts r4 0 _ rfl
    obtain ⟨p1, pf1⟩ := row_facts r4 1 _ rfl
    have E4 := Lib.hid e4
    clear r4 e4
    by_cases h0 : vs = []
    · subst h0
      go_wp2
      refine bodyPost_ret (v := .tuple #[.agg #[.int .i64 0, .int .i64 0], .int .i64 0]) (by simp [results, Tryd.results7, go_sem, p0, p1]) rfl ?_
      exact ⟨by rw [HRL.out]; rfl, by (repeat (first | exact Ext.rfl' _ | assumption | refine Ext.dr ?_ | refine Ext.drN ?_ _ | refine Ext.al ?_ _ | refine Ext.st ?_ (by simp) _ | refine Ext.tr ?_ (by assumption)))⟩
    · have hpos : (0 : Int) < (vs.length : Int) := by have := List.length_pos_iff.2 h0; omega
      have CL := Lib.hid (fun w' hE' h' => CLN.out A3 c3 w' h0 hE' h')
      have HRL2 := Lib.hid (show reqL fs = if (lenV vs).2 ≠ 0 then (0, 0, (lenV vs).2) else (1, (lenV vs).1, 0) from by rw [HRL.out, if_neg h0])
      obtain ⟨lv, hlv⟩ : ∃ q, q = (lenV vs).1 := ⟨_, rfl⟩
      obtain ⟨le, hle⟩ : ∃ q, q = (lenV vs).2 := ⟨_, rfl⟩
      rw [← hlv, ← hle] at CL HRL2
      clear hlv hle h0
      by_cases h1 : le = 0
      · subst h1
        go_wp2_with (go_at_call 20; refine (CL.out _ (HEE.out.ext (by (repeat (first | exact Ext.rfl' _ | assumption | refine Ext.dr ?_ | refine Ext.drN ?_ _ | refine Ext.al ?_ _ | refine Ext.st ?_ (by simp) _ | refine Ext.tr ?_ (by assumption))))) (hrd3.ext (by (repeat (first | exact Ext.rfl' _ | assumption | refine Ext.dr ?_ | refine Ext.drN ?_ _ | refine Ext.al ?_ _ | refine Ext.st ?_ (by simp) _ | refine Ext.tr ?_ (by assumption)))))).mono ?_; rintro e w5 ⟨rfl, hx5⟩; obtain ⟨_, r5⟩ := two_rowsF (E4.out.tr hx5); obtain ⟨q0, qf0⟩ := row_facts r5 0 _ rfl; obtain ⟨q1, qf1⟩ := row_facts r5 1 _ rfl; clear r5)
        refine bodyPost_ret (v := .tuple #[.agg #[.int .i64 1, .int .i64 lv], .int .i64 0]) (by simp [results, Tryd.results7, go_sem, q0, q1]) rfl ?_
        exact ⟨by rw [HRL2.out]; rfl, by (repeat (first | exact Ext.rfl' _ | assumption | refine Ext.dr ?_ | refine Ext.drN ?_ _ | refine Ext.al ?_ _ | refine Ext.st ?_ (by simp) _ | refine Ext.tr ?_ (by assumption)))⟩
      · have d1 : (le != 0) = true := by rw [bne_iff_ne]; exact h1
        go_wp2_with (go_at_call 20; refine (CL.out _ (HEE.out.ext (by (repeat (first | exact Ext.rfl' _ | assumption | refine Ext.dr ?_ | refine Ext.drN ?_ _ | refine Ext.al ?_ _ | refine Ext.st ?_ (by simp) _ | refine Ext.tr ?_ (by assumption))))) (hrd3.ext (by (repeat (first | exact Ext.rfl' _ | assumption | refine Ext.dr ?_ | refine Ext.drN ?_ _ | refine Ext.al ?_ _ | refine Ext.st ?_ (by simp) _ | refine Ext.tr ?_ (by assumption)))))).mono ?_; rintro e w5 ⟨rfl, hx5⟩; obtain ⟨_, r5⟩ := two_rowsF (E4.out.tr hx5); obtain ⟨q0, qf0⟩ := row_facts r5 0 _ rfl; obtain ⟨q1, qf1⟩ := row_facts r5 1 _ rfl; clear r5)
        refine bodyPost_ret (v := .tuple #[.agg #[.int .i64 0, .int .i64 0], .int .i64 le]) (by simp [results, Tryd.results7, go_sem, q0, q1]) rfl ?_
        exact ⟨by rw [HRL2.out, if_pos h1], by (repeat (first | exact Ext.rfl' _ | assumption | refine Ext.dr ?_ | refine Ext.drN ?_ _ | refine Ext.al ?_ _ | refine Ext.st ?_ (by simp) _ | refine Ext.tr ?_ (by assumption)))⟩)
end Go.Proofs.YtpkgoppfihcpbaaDoor
