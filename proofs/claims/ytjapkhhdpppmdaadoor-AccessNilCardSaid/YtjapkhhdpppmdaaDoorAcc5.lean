/-
An entry's parts: what each writes.
-/
import Derived.Test.YtjapkhhdpppmdaaDoorAcc2
import Derived.Test.YtjapkhhdpppmdaaDoorAcc3
import Derived.Test.YtjapkhhdpppmdaaDoorAcc4
set_option linter.unusedVariables false
set_option linter.unusedSimpArgs false
namespace Go.Proofs.YtjapkhhdpppmdaaDoor
open Go.RowKit

theorem aPartsN_c (a : Addr) (w : World) :
    Calls Tryd.prog 79 #[.pointer (some a)] w fun e w' => e = .returned (.func (.func 80) #[] #[.pointer (some ⟨w.heap.size, 0, none⟩)]) ∧ w' = w.alloc (.cells #[.pointer (some a)] 71) := by
  go_enter Tryd.func79, Tryd.ntmps79
  go_wp2
  go_ret
  exact ⟨rfl, rfl⟩
theorem aPartsT_c (a : Addr) (w : World) :
    Calls Tryd.prog 82 #[.pointer (some a)] w fun e w' => e = .returned (.func (.func 83) #[] #[.pointer (some ⟨w.heap.size, 0, none⟩)]) ∧ w' = w.alloc (.cells #[.pointer (some a)] 77) := by
  go_enter Tryd.func82, Tryd.ntmps82
  go_wp2
  go_ret
  exact ⟨rfl, rfl⟩
set_option maxRecDepth 100000 in
set_option maxHeartbeats 2000000 in
/-- A number's part, asked with no text: it is written. -/
theorem aPartsNF_nil (Bn B a : Nat) (n : Int) (w : World) (hE : ErrR w) (hP : Pow w) (h0 : -9223372036854775808 ≤ n) (h1 : n ≤ 9223372036854775807) (hBn : w.cell? ⟨Bn, 0, none⟩ = some (.pointer (some ⟨B, a, none⟩))) (hB : w.cell? ⟨B, a, none⟩ = some (.int .i64 n)) :
    Calls Tryd.prog 80 #[.string ⟨#[]⟩, .pointer (some ⟨Bn, 0, none⟩)] w (Gives (.tuple #[.string (decB n), .bool false]) w) := by
  have C := fun w hE => Decimal_c [] (by simp) w hE
  rw [show numL 10 1000000000000000000 [] = (0, 21) from by decide +kernel, show str ([] : List UInt8) = ⟨#[]⟩ from rfl] at C
  have C := Lib.hid C
  have D := Lib.hid (fun w hP => Digits_c n w hP h0 h1)
  have HE := Lib.hid hE
  have HP := Lib.hid hP
  have HX := Lib.hid (fun (w' : World) (x : Ext w w') => (show w'.cell? ⟨Bn, 0, none⟩ = some (.pointer (some ⟨B, a, none⟩)) ∧ w'.cell? ⟨B, a, none⟩ = some (.int .i64 n) from ⟨(x.cell (lt_of_cell hBn)).trans hBn, (x.cell (lt_of_cell hB)).trans hB⟩))
  clear hE hP hBn hB
  go_enter Tryd.func80, Tryd.ntmps80
  go_wp2_with (first
    | (go_at_call 67; refine (C.out _ (HE.out.ext (by (repeat (first | exact Ext.rfl' _ | assumption | refine Ext.dr ?_ | refine Ext.drN ?_ _ | refine Ext.al ?_ _ | refine Ext.st ?_ (by simp) _ | refine Ext.tr ?_ (by assumption)))))).mono ?_; rintro e w1 ⟨rfl, hx1⟩; have k1 := (HX.out w1 (by (repeat (first | exact Ext.rfl' _ | assumption | refine Ext.dr ?_ | refine Ext.drN ?_ _ | refine Ext.al ?_ _ | refine Ext.st ?_ (by simp) _ | refine Ext.tr ?_ (by assumption))))).1; have k2 := (HX.out w1 (by (repeat (first | exact Ext.rfl' _ | assumption | refine Ext.dr ?_ | refine Ext.drN ?_ _ | refine Ext.al ?_ _ | refine Ext.st ?_ (by simp) _ | refine Ext.tr ?_ (by assumption))))).2)
    | (go_at_call 81; refine (D.out _ (HP.out.ext (by (repeat (first | exact Ext.rfl' _ | assumption | refine Ext.dr ?_ | refine Ext.drN ?_ _ | refine Ext.al ?_ _ | refine Ext.st ?_ (by simp) _ | refine Ext.tr ?_ (by assumption)))))).mono ?_; rintro e w2 ⟨rfl, hx2⟩))
  go_ret2
  exact ⟨rfl, by (repeat (first | exact Ext.rfl' _ | assumption | refine Ext.dr ?_ | refine Ext.drN ?_ _ | refine Ext.al ?_ _ | refine Ext.st ?_ (by simp) _ | refine Ext.tr ?_ (by assumption)))⟩
set_option maxRecDepth 100000 in
set_option maxHeartbeats 2000000 in
/-- A text's part, asked with no text: it is written. -/
theorem aPartsTF_nil (Bn B a : Nat) (t : List UInt8) (w : World) (ht : t.length ≤ 35184372088832) (hBn : w.cell? ⟨Bn, 0, none⟩ = some (.pointer (some ⟨B, a, none⟩))) (hB : w.cell? ⟨B, a, none⟩ = some (.string (str t))) :
    Calls Tryd.prog 83 #[.string ⟨#[]⟩, .pointer (some ⟨Bn, 0, none⟩)] w (Gives (.tuple #[.string (str (escL t)), .bool false]) w) := by
  have C := Lib.hid (fun w => aEscape_c t ht w)
  go_enter Tryd.func83, Tryd.ntmps83
  go_wp2_with (first
    | (go_at_call 85; refine (C.out _).mono ?_; rintro e w1 ⟨rfl, hx1⟩))
  go_ret2
  exact ⟨rfl, by (repeat (first | exact Ext.rfl' _ | assumption | refine Ext.dr ?_ | refine Ext.drN ?_ _ | refine Ext.al ?_ _ | refine Ext.st ?_ (by simp) _ | refine Ext.tr ?_ (by assumption)))⟩
/-- The eight parts of the entry in block B, their own blocks from g on. -/
def partsV (g : Nat) : Value := .agg #[.func (.func 80) #[] #[.pointer (some ⟨g, 0, none⟩)], .func (.func 83) #[] #[.pointer (some ⟨g + 1, 0, none⟩)], .func (.func 83) #[] #[.pointer (some ⟨g + 2, 0, none⟩)], .func (.func 83) #[] #[.pointer (some ⟨g + 3, 0, none⟩)], .func (.func 83) #[] #[.pointer (some ⟨g + 4, 0, none⟩)], .func (.func 80) #[] #[.pointer (some ⟨g + 5, 0, none⟩)], .func (.func 80) #[] #[.pointer (some ⟨g + 6, 0, none⟩)], .func (.func 83) #[] #[.pointer (some ⟨g + 7, 0, none⟩)]]
theorem hp_al {w : World} {o x : Obj} {b : Nat} (h : w.heap[b]? = some x) : (w.alloc o).heap[b]? = some x := by
  rw [Below.heap_alloc _ _ _ (Array.getElem?_eq_some_iff.1 h).1]; exact h
theorem hp_dr {w : World} {x : Obj} {b : Nat} (h : w.heap[b]? = some x) : w.drew.heap[b]? = some x := h
theorem hp_drN {w : World} {x : Obj} {b n : Nat} (h : w.heap[b]? = some x) : (w.drewN n).heap[b]? = some x := h
theorem hp_new {w : World} {g : Nat} (hg : w.heap.size = g) (o : Obj) : (w.alloc o).heap[g]? = some o := by subst hg; exact heap_alloc_new w o
theorem cell_hp {w : World} {b j : Nat} {cs : Array Value} {t : TypeId} {v : Value} (h : w.heap[b]? = some (.cells cs t (0, 0))) (hv : cs[j]? = some v) : w.cell? ⟨b, j, none⟩ = some v := by
  simp [World.cell?, h, hv]
theorem parts_end {W : World} {g b : Nat} {T : Array Value} {cs : Array Value} {t : TypeId} (hT : T.getD 2 undef = .pointer (some ⟨b, 0, none⟩)) (hc : .agg cs = partsV g)
    (hr : W.heap[b]? = some (.cells cs t (0, 0))) : (results Tryd.f46 T).run Tryd.prog W = .ok (partsV g) W := by
  have hT' : T[2]?.getD undef = .pointer (some ⟨b, 0, none⟩) := by simpa using hT
  have h := fun j v => cell_hp (j := j) (v := v) hr
  unfold partsV at hc ⊢
  injection hc with hc
  subst hc
  have r0 := h 0 _ rfl
  have r1 := h 1 _ rfl
  have r2 := h 2 _ rfl
  have r3 := h 3 _ rfl
  have r4 := h 4 _ rfl
  have r5 := h 5 _ rfl
  have r6 := h 6 _ rfl
  have r7 := h 7 _ rfl
  clear h
  simp [results, Tryd.results46, go_sem, hT, hT', r0, r1, r2, r3, r4, r5, r6, r7]
set_option maxRecDepth 100000 in
set_option maxHeartbeats 8000000 in
theorem aParts_c (B : Nat) (w : World) :
    Calls Tryd.prog 46 #[.pointer (some ⟨B, 0, none⟩)] w fun e w' => e = .returned (partsV (w.heap.size + 1)) ∧ (∀ k, k < 8 → w'.cell? ⟨w.heap.size + 1 + k, 0, none⟩ = some (.pointer (some ⟨B, k, none⟩))) ∧ Ext w w' := by
  go_enter Tryd.func46, Tryd.ntmps46
  go_wp2
  go_region_held3 (fun _ => True) (trivial) (first
    | (go_at_call 79; refine (aPartsN_c _ _).mono ?_; rintro e w1 ⟨rfl, rfl⟩)
    | (go_at_call 82; refine (aPartsT_c _ _).mono ?_; rintro e w1 ⟨rfl, rfl⟩))
  all_goals go_wp2
  all_goals (
    refine bodyPost_ret (parts_end (g := w.heap.size + 1) (b := w.heap.size) rfl rfl (by repeat (first | (refine hp_new ?_ _; simp; done) | refine hp_al ?_ | refine hp_dr ?_ | refine hp_drN ?_))) rfl ⟨rfl, ?_, by (repeat (first | exact Ext.rfl' _ | assumption | refine Ext.dr ?_ | refine Ext.drN ?_ _ | refine Ext.al ?_ _ | refine Ext.st ?_ (by simp) _ | refine Ext.tr ?_ (by assumption)))⟩
    intro k hk
    have hk8 : k = 0 ∨ k = 1 ∨ k = 2 ∨ k = 3 ∨ k = 4 ∨ k = 5 ∨ k = 6 ∨ k = 7 := by omega
    rcases hk8 with rfl | rfl | rfl | rfl | rfl | rfl | rfl | rfl
    all_goals exact cell_hp (by repeat (first | (refine hp_new ?_ _; simp; done) | refine hp_al ?_ | refine hp_dr ?_ | refine hp_drN ?_)) rfl)
end Go.Proofs.YtjapkhhdpppmdaaDoor
