/-
The reference's Parse: no target, CONNECT, OPTIONS *.
-/
import Derived.Test.YtolfpfdmgelhhaaDoorUloc
import Derived.Test.YtolfpfdmgelhhaaDoorUHost
set_option linter.unusedVariables false
set_option linter.unusedSimpArgs false
namespace Go.Proofs.YtolfpfdmgelhhaaDoor
open Go.RowKit

/-- A target as a value. -/
def tgtV (x : TgtT × Int) : Value := .tuple #[.agg #[.int .i64 x.1.1, .string (str x.1.2.1), .int .i64 x.1.2.2.1, .string (str x.1.2.2.2.1), .string (str x.1.2.2.2.2.1), .bool x.1.2.2.2.2.2], .int .i64 x.2]
/-- Six cells, written one behind the other. -/
theorem put6 {W : World} {b : Nat} {x0 x1 x2 x3 x4 x5 : Value} {t : TypeId} (h : W.heap[b]? = some (.cells #[x0, x1, x2, x3, x4, x5] t (0, 0))) (v0 v1 v2 v3 v4 v5 : Value) :
    ((((((W.setCell ⟨b, 0, none⟩ v0).setCell ⟨b, 1, none⟩ v1).setCell ⟨b, 2, none⟩ v2).setCell ⟨b, 3, none⟩ v3).setCell ⟨b, 4, none⟩ v4).setCell ⟨b, 5, none⟩ v5).heap[b]? = some (.cells #[v0, v1, v2, v3, v4, v5] t (0, 0)) := by
  simp [World.setCell, Array.getElem?_modify, h]
theorem ext6 {w W : World} (x : Ext w W) (v0 v1 v2 v3 v4 v5 : Value) :
    Ext w ((((((W.setCell ⟨w.heap.size, 0, none⟩ v0).setCell ⟨w.heap.size, 1, none⟩ v1).setCell ⟨w.heap.size, 2, none⟩ v2).setCell ⟨w.heap.size, 3, none⟩ v3).setCell ⟨w.heap.size, 4, none⟩ v4).setCell ⟨w.heap.size, 5, none⟩ v5) :=
  ((((((x.st (Nat.le_refl _) _).st (Nat.le_refl _) _).st (Nat.le_refl _) _).st (Nat.le_refl _) _).st (Nat.le_refl _) _).st (Nat.le_refl _) _)
set_option maxRecDepth 100000 in
set_option maxHeartbeats 4000000 in
theorem urParse_long (m l : List UInt8) (h : 8192 < l.length) (w : World) :
    Calls Tryd.prog 36 #[.string (str m), .string (str l)] w (Gives (tgtV badT) w) := by
  have d1 : decide ((8192 : Int) < (l.length : Int)) = true := by rw [decide_eq_true_eq]; omega
  clear h
  go_enter Tryd.func36, Tryd.ntmps36
  go_wp2
  obtain ⟨⟨r0, r1, r2, r3, r4, r5⟩, _⟩ := six (heap_alloc_new w (.cells #[.int .i64 0, .string (str []), .int .i64 0, .string (str []), .string (str []), .bool false] 68)) (Ext.rfl' _)
  exact bodyPost_ret (v := tgtV ((0, [], 0, [], [], false), 40)) (by simp [results, Tryd.results36, go_sem, str, tgtV] at r0 r1 r2 r3 r4 r5 ⊢) rfl ⟨rfl, by (repeat (first | exact Ext.rfl' _ | assumption | refine Ext.dr ?_ | refine Ext.drN ?_ _ | refine Ext.al ?_ _ | refine Ext.st ?_ (by simp) _ | refine Ext.tr ?_ (by assumption)))⟩
set_option maxRecDepth 100000 in
set_option maxHeartbeats 4000000 in
theorem urParse_nil (m : List UInt8) (w : World) :
    Calls Tryd.prog 36 #[.string (str m), .string (str [])] w (Gives (tgtV badT) w) := by
  rw [show str ([] : List UInt8) = ⟨#[]⟩ from rfl]
  go_enter Tryd.func36, Tryd.ntmps36
  go_wp2
  obtain ⟨⟨r0, r1, r2, r3, r4, r5⟩, _⟩ := six (heap_alloc_new w (.cells #[.int .i64 0, .string (str []), .int .i64 0, .string (str []), .string (str []), .bool false] 68)) (Ext.rfl' _)
  exact bodyPost_ret (v := tgtV ((0, [], 0, [], [], false), 40)) (by simp [results, Tryd.results36, go_sem, str, tgtV] at r0 r1 r2 r3 r4 r5 ⊢) rfl ⟨rfl, by (repeat (first | exact Ext.rfl' _ | assumption | refine Ext.dr ?_ | refine Ext.drN ?_ _ | refine Ext.al ?_ _ | refine Ext.st ?_ (by simp) _ | refine Ext.tr ?_ (by assumption)))⟩
/-- The texts CONNECT and OPTIONS. -/
def conL : List UInt8 := [67, 79, 78, 78, 69, 67, 84]
def optL : List UInt8 := [79, 80, 84, 73, 79, 78, 83]
set_option maxRecDepth 100000 in
set_option maxHeartbeats 4000000 in
theorem urParse_con (l : List UInt8) (h1 : l ≠ []) (h2 : l.length ≤ 8192) (w : World) :
    Calls Tryd.prog 36 #[.string (str conL), .string (str l)] w (Gives (tgtV (if (hostL l).2.2 = 0 ∧ 0 ≤ (hostL l).2.1 then ((3, (hostL l).1, (hostL l).2.1, [], [], false), 0) else badT)) w) := by
  have d1 : decide ((8192 : Int) < (l.length : Int)) = false := by rw [decide_eq_false_iff_not]; omega
  have e1 : l.isEmpty = false := by rw [List.isEmpty_eq_false_iff]; exact h1
  have e2 : (str l).toList.isEmpty = false := by rw [Lib.toList_data]; exact e1
  have C := fun w => urHost_c l (by omega) w
  unfold hostV at C
  obtain ⟨H, hH⟩ : ∃ H, H = (hostL l).1 := ⟨_, rfl⟩
  obtain ⟨p, hp⟩ : ∃ p, p = (hostL l).2.1 := ⟨_, rfl⟩
  obtain ⟨e, he⟩ : ∃ e, e = (hostL l).2.2 := ⟨_, rfl⟩
  rw [← hH, ← hp, ← he] at C ⊢
  have C := Lib.hid C
  rw [show str conL = ⟨#[67, 79, 78, 78, 69, 67, 84]⟩ from rfl]
  clear hH hp he h2
  by_cases c1 : e = 0
  · subst c1
    by_cases c2 : 0 ≤ p
    · have d2 : decide (p < 0) = false := by rw [decide_eq_false_iff_not]; omega
      rw [if_pos ⟨rfl, c2⟩]
      go_enter Tryd.func36, Tryd.ntmps36
      go_wp2_with (go_at_call 83; refine (C.out _).mono ?_; rintro e w1 ⟨rfl, hx1⟩; have HB := Lib.hid ((hx1.block w.heap.size (by simp)).trans (heap_alloc_new w _)); obtain ⟨⟨r0, r1, r2, r3, r4, r5⟩, f0, f1, f2, f3, f4, f5⟩ := six (heap_alloc_new w _) hx1)
      clear r0 r1 r2 r3 r4 r5 f0 f1 f2 f3 f4 f5
      have hx9 : Ext w _ := ext6 (show Ext w w1 by (repeat (first | exact Ext.rfl' _ | assumption | refine Ext.dr ?_ | refine Ext.drN ?_ _ | refine Ext.al ?_ _ | refine Ext.st ?_ (by simp) _ | refine Ext.tr ?_ (by assumption)))) (.int .i64 3) (.string (str H)) (.int .i64 p) (.string (str [])) (.string (str [])) (.bool false)
      have hp9 := put6 HB.out (.int .i64 3) (.string (str H)) (.int .i64 p) (.string (str [])) (.string (str [])) (.bool false)
      obtain ⟨W9, hW9⟩ : ∃ W9, W9 = ((((((w1.setCell ⟨w.heap.size, 0, none⟩ (.int .i64 3)).setCell ⟨w.heap.size, 1, none⟩ (.string (str H))).setCell ⟨w.heap.size, 2, none⟩ (.int .i64 p)).setCell ⟨w.heap.size, 3, none⟩ (.string (str []))).setCell ⟨w.heap.size, 4, none⟩ (.string (str []))).setCell ⟨w.heap.size, 5, none⟩ (.bool false)) := ⟨_, rfl⟩
      rw [← hW9] at hx9 hp9
      simp only [show str ([] : List UInt8) = ⟨#[]⟩ from rfl] at hW9
      rw [← hW9]
      clear hW9
      obtain ⟨⟨r0, r1, r2, r3, r4, r5⟩, _⟩ := six hp9 (Ext.rfl' _)
      exact bodyPost_ret (v := tgtV ((3, H, p, [], [], false), 0)) (by simp [results, Tryd.results36, go_sem, tgtV, r0, r1, r2, r3, r4, r5]) rfl ⟨rfl, hx9⟩
    · have d2 : decide (p < 0) = true := by rw [decide_eq_true_eq]; omega
      rw [if_neg (fun h => c2 h.2)]
      go_enter Tryd.func36, Tryd.ntmps36
      go_wp2_with (go_at_call 83; refine (C.out _).mono ?_; rintro e w1 ⟨rfl, hx1⟩; have HB := Lib.hid ((hx1.block w.heap.size (by simp)).trans (heap_alloc_new w _)); obtain ⟨⟨r0, r1, r2, r3, r4, r5⟩, f0, f1, f2, f3, f4, f5⟩ := six (heap_alloc_new w _) hx1)
      clear r0 r1 r2 r3 r4 r5 f0 f1 f2 f3 f4 f5
      have hx9 : Ext w _ := ext6 (show Ext w w1 by (repeat (first | exact Ext.rfl' _ | assumption | refine Ext.dr ?_ | refine Ext.drN ?_ _ | refine Ext.al ?_ _ | refine Ext.st ?_ (by simp) _ | refine Ext.tr ?_ (by assumption)))) (.int .i64 0) (.string (str [])) (.int .i64 0) (.string (str [])) (.string (str [])) (.bool false)
      have hp9 := put6 HB.out (.int .i64 0) (.string (str [])) (.int .i64 0) (.string (str [])) (.string (str [])) (.bool false)
      obtain ⟨W9, hW9⟩ : ∃ W9, W9 = ((((((w1.setCell ⟨w.heap.size, 0, none⟩ (.int .i64 0)).setCell ⟨w.heap.size, 1, none⟩ (.string (str []))).setCell ⟨w.heap.size, 2, none⟩ (.int .i64 0)).setCell ⟨w.heap.size, 3, none⟩ (.string (str []))).setCell ⟨w.heap.size, 4, none⟩ (.string (str []))).setCell ⟨w.heap.size, 5, none⟩ (.bool false)) := ⟨_, rfl⟩
      rw [← hW9] at hx9 hp9
      simp only [show str ([] : List UInt8) = ⟨#[]⟩ from rfl] at hW9
      rw [← hW9]
      clear hW9
      obtain ⟨⟨r0, r1, r2, r3, r4, r5⟩, _⟩ := six hp9 (Ext.rfl' _)
      exact bodyPost_ret (v := tgtV ((0, [], 0, [], [], false), 40)) (by simp [results, Tryd.results36, go_sem, tgtV, r0, r1, r2, r3, r4, r5]) rfl ⟨rfl, hx9⟩
  · have d2 : (e != 0) = true := by rw [bne_iff_ne]; exact c1
    rw [if_neg (fun h => c1 h.1)]
    clear c1
    go_enter Tryd.func36, Tryd.ntmps36
    go_wp2_with (go_at_call 83; refine (C.out _).mono ?_; rintro e w1 ⟨rfl, hx1⟩; have HB := Lib.hid ((hx1.block w.heap.size (by simp)).trans (heap_alloc_new w _)); obtain ⟨⟨r0, r1, r2, r3, r4, r5⟩, f0, f1, f2, f3, f4, f5⟩ := six (heap_alloc_new w _) hx1)
    clear r0 r1 r2 r3 r4 r5 f0 f1 f2 f3 f4 f5
    have hx9 : Ext w _ := ext6 (show Ext w w1 by (repeat (first | exact Ext.rfl' _ | assumption | refine Ext.dr ?_ | refine Ext.drN ?_ _ | refine Ext.al ?_ _ | refine Ext.st ?_ (by simp) _ | refine Ext.tr ?_ (by assumption)))) (.int .i64 0) (.string (str [])) (.int .i64 0) (.string (str [])) (.string (str [])) (.bool false)
    have hp9 := put6 HB.out (.int .i64 0) (.string (str [])) (.int .i64 0) (.string (str [])) (.string (str [])) (.bool false)
    obtain ⟨W9, hW9⟩ : ∃ W9, W9 = ((((((w1.setCell ⟨w.heap.size, 0, none⟩ (.int .i64 0)).setCell ⟨w.heap.size, 1, none⟩ (.string (str []))).setCell ⟨w.heap.size, 2, none⟩ (.int .i64 0)).setCell ⟨w.heap.size, 3, none⟩ (.string (str []))).setCell ⟨w.heap.size, 4, none⟩ (.string (str []))).setCell ⟨w.heap.size, 5, none⟩ (.bool false)) := ⟨_, rfl⟩
    rw [← hW9] at hx9 hp9
    simp only [show str ([] : List UInt8) = ⟨#[]⟩ from rfl] at hW9
    rw [← hW9]
    clear hW9
    obtain ⟨⟨r0, r1, r2, r3, r4, r5⟩, _⟩ := six hp9 (Ext.rfl' _)
    exact bodyPost_ret (v := tgtV ((0, [], 0, [], [], false), 40)) (by simp [results, Tryd.results36, go_sem, tgtV, r0, r1, r2, r3, r4, r5]) rfl ⟨rfl, hx9⟩
end Go.Proofs.YtolfpfdmgelhhaaDoor
