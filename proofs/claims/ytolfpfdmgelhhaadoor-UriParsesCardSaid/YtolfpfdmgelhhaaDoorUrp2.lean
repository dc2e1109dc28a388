/-
The reference's Parse: OPTIONS *, and a path.
-/
import Derived.Test.YtolfpfdmgelhhaaDoorUrp1
set_option linter.unusedVariables false
set_option linter.unusedSimpArgs false
namespace Go.Proofs.YtolfpfdmgelhhaaDoor
open Go.RowKit

set_option maxRecDepth 100000 in
set_option maxHeartbeats 4000000 in
theorem urParse_opt (w : World) :
    Calls Tryd.prog 36 #[.string (str optL), .string (str [42])] w (Gives (tgtV ((4, [], -1, [], [], false), 0)) w) := by
  rw [show str optL = ⟨#[79, 80, 84, 73, 79, 78, 83]⟩ from rfl, show str [42] = ⟨#[42]⟩ from rfl]
  go_enter Tryd.func36, Tryd.ntmps36
  go_wp2
  obtain ⟨⟨r0, r1, r2, r3, r4, r5⟩, _⟩ := six (heap_alloc_new w (.cells #[.int .i64 4, .string (str []), .int .i64 (-1), .string (str []), .string (str []), .bool false] 68)) (Ext.rfl' _)
  exact bodyPost_ret (v := tgtV ((4, [], (-1), [], [], false), 0)) (by simp [results, Tryd.results36, go_sem, str, tgtV] at r0 r1 r2 r3 r4 r5 ⊢) rfl ⟨rfl, by (repeat (first | exact Ext.rfl' _ | assumption | refine Ext.dr ?_ | refine Ext.drN ?_ _ | refine Ext.al ?_ _ | refine Ext.st ?_ (by simp) _ | refine Ext.tr ?_ (by assumption)))⟩
theorem strN {m t : List UInt8} (h : ¬ m = t) : ((str m).toList == t) = false := by rw [beq_eq_false_iff_ne, Lib.toList_data]; exact h
set_option maxRecDepth 100000 in
set_option maxHeartbeats 4000000 in
theorem urParse_bad1 (m l : List UInt8) (hm : ¬ m = conL) (ho : ¬ (m = optL ∧ l = [42])) (h1 : l ≠ []) (h2 : l.length ≤ 8192) (hh : ¬ (7 ≤ l.length ∧ lowL (l.take 7) = httpL)) (h47 : ¬ l.head? = some 47) (w : World) :
    Calls Tryd.prog 36 #[.string (str m), .string (str l)] w (Gives (tgtV badT) w) := by
  have d1 : decide ((8192 : Int) < (l.length : Int)) = false := by rw [decide_eq_false_iff_not]; omega
  have e1 : l.isEmpty = false := by rw [List.isEmpty_eq_false_iff]; exact h1
  have e2 : (str l).toList.isEmpty = false := by rw [Lib.toList_data]; exact e1
  have hl0 : 0 < l.length := List.length_pos_iff.2 h1
  have hb : ((l[0].toNat : Int) != 47) = true := by
    rw [bne_iff_ne]; intro h; refine h47 ?_; rw [List.head?_eq_getElem?, List.getElem?_eq_getElem hl0]; exact congrArg some (UInt8.toNat_inj.1 (by show l[0].toNat = 47; omega))
  have m1 := strN hm
  have m2 : (m == conL) = false := by rw [beq_eq_false_iff_ne]; exact hm
  have C := fun w => rLower_c (l.take 7) (by unfold maxLen; rw [List.length_take]; omega) w
  obtain ⟨H, hH⟩ : ∃ H, H = lowL (l.take 7) := ⟨_, rfl⟩
  rw [← hH] at C hh
  have C := Lib.hid C
  unfold conL at hm m1 m2
  clear hH h47
  by_cases c1 : m = optL
  · have l1 : ¬ l = [42] := fun h => ho ⟨c1, h⟩
    have l2 := strN l1
    have l3 : (l == [42]) = false := by rw [beq_eq_false_iff_ne]; exact l1
    subst c1
    rw [show str optL = ⟨#[79, 80, 84, 73, 79, 78, 83]⟩ from rfl]
    clear m1 m2 hm ho
    by_cases c7 : 7 ≤ l.length
    · have d7 : decide ((7 : Int) ≤ (l.length : Int)) = true := by rw [decide_eq_true_eq]; omega
      have h7 : ¬ H = [104, 116, 116, 112, 58, 47, 47] := fun h => hh ⟨c7, h⟩
      have h8 := strN h7
      have h9 : (H == [104, 116, 116, 112, 58, 47, 47]) = false := by rw [beq_eq_false_iff_ne]; exact h7
      have n7 : (7 : Int) ≤ (l.length : Int) := by omega
      clear hh
      go_enter Tryd.func36, Tryd.ntmps36
      go_wp2_with (go_at_call 84; refine (C.out _).mono ?_; rintro e w1 ⟨rfl, hx1⟩; have HB := Lib.hid ((hx1.block w.heap.size (by simp; omega)).trans ((heap_next (by simp)).trans (heap_alloc_new w _))); obtain ⟨⟨r0, r1, r2, r3, r4, r5⟩, f0, f1, f2, f3, f4, f5⟩ := six HB.out (Ext.rfl' _))
      clear r0 r1 r2 r3 r4 r5 f0 f1 f2 f3 f4 f5
      have hx9 : Ext w _ := ext6 (show Ext w w1 by (repeat (first | exact Ext.rfl' _ | assumption | refine Ext.dr ?_ | refine Ext.drN ?_ _ | refine Ext.al ?_ _ | refine Ext.st ?_ (by simp) _ | refine Ext.tr ?_ (by assumption)))) (.int .i64 0) (.string (str [])) (.int .i64 0) (.string (str [])) (.string (str [])) (.bool false)
      have hp9 := put6 HB.out (.int .i64 0) (.string (str [])) (.int .i64 0) (.string (str [])) (.string (str [])) (.bool false)
      obtain ⟨W9, hW9⟩ : ∃ W9, W9 = ((((((w1.setCell ⟨w.heap.size, 0, none⟩ (.int .i64 0)).setCell ⟨w.heap.size, 1, none⟩ (.string (str []))).setCell ⟨w.heap.size, 2, none⟩ (.int .i64 0)).setCell ⟨w.heap.size, 3, none⟩ (.string (str []))).setCell ⟨w.heap.size, 4, none⟩ (.string (str []))).setCell ⟨w.heap.size, 5, none⟩ (.bool false)) := ⟨_, rfl⟩
      rw [← hW9] at hx9 hp9
      simp only [show str ([] : List UInt8) = ⟨#[]⟩ from rfl] at hW9
      rw [← hW9]
      clear hW9
      obtain ⟨⟨r0, r1, r2, r3, r4, r5⟩, _⟩ := six hp9 (Ext.rfl' _)
      exact bodyPost_ret (v := tgtV ((0, [], 0, [], [], false), 40)) (by simp [results, Tryd.results36, go_sem, tgtV, r0, r1, r2, r3, r4, r5]) rfl ⟨rfl, hx9⟩
    · have d7 : decide ((7 : Int) ≤ (l.length : Int)) = false := by rw [decide_eq_false_iff_not]; omega
      clear hh
      go_enter Tryd.func36, Tryd.ntmps36
      go_wp2
      have hp9 : ((w.alloc (.cells #[.int .i64 0, .string ⟨#[]⟩, .int .i64 0, .string ⟨#[]⟩, .string ⟨#[]⟩, .bool false] 68)).alloc (.cells #[.int .i64 1, .string ⟨#[]⟩, .int .i64 (-1), .string ⟨#[]⟩, .string ⟨#[]⟩, .bool false] 68)).heap[w.heap.size]? = _ := (heap_next (by simp)).trans (heap_alloc_new w _)
      obtain ⟨⟨r0, r1, r2, r3, r4, r5⟩, _⟩ := six hp9 (Ext.rfl' _)
      exact bodyPost_ret (v := tgtV badT) (by simp [results, Tryd.results36, go_sem, tgtV, badT, r0, r1, r2, r3, r4, r5, str]) rfl ⟨rfl, by (repeat (first | exact Ext.rfl' _ | assumption | refine Ext.dr ?_ | refine Ext.drN ?_ _ | refine Ext.al ?_ _ | refine Ext.st ?_ (by simp) _ | refine Ext.tr ?_ (by assumption)))⟩
  · have o1 := strN c1
    have o2 : (m == optL) = false := by rw [beq_eq_false_iff_ne]; exact c1
    unfold optL at c1 o1 o2
    clear ho
    by_cases c7 : 7 ≤ l.length
    · have d7 : decide ((7 : Int) ≤ (l.length : Int)) = true := by rw [decide_eq_true_eq]; omega
      have h7 : ¬ H = [104, 116, 116, 112, 58, 47, 47] := fun h => hh ⟨c7, h⟩
      have h8 := strN h7
      have h9 : (H == [104, 116, 116, 112, 58, 47, 47]) = false := by rw [beq_eq_false_iff_ne]; exact h7
      have n7 : (7 : Int) ≤ (l.length : Int) := by omega
      clear hh
      go_enter Tryd.func36, Tryd.ntmps36
      go_wp2_with (go_at_call 84; refine (C.out _).mono ?_; rintro e w1 ⟨rfl, hx1⟩; have HB := Lib.hid ((hx1.block w.heap.size (by simp; omega)).trans ((heap_next (by simp)).trans (heap_alloc_new w _))); obtain ⟨⟨r0, r1, r2, r3, r4, r5⟩, f0, f1, f2, f3, f4, f5⟩ := six HB.out (Ext.rfl' _))
      clear r0 r1 r2 r3 r4 r5 f0 f1 f2 f3 f4 f5
      have hx9 : Ext w _ := ext6 (show Ext w w1 by (repeat (first | exact Ext.rfl' _ | assumption | refine Ext.dr ?_ | refine Ext.drN ?_ _ | refine Ext.al ?_ _ | refine Ext.st ?_ (by simp) _ | refine Ext.tr ?_ (by assumption)))) (.int .i64 0) (.string (str [])) (.int .i64 0) (.string (str [])) (.string (str [])) (.bool false)
      have hp9 := put6 HB.out (.int .i64 0) (.string (str [])) (.int .i64 0) (.string (str [])) (.string (str [])) (.bool false)
      obtain ⟨W9, hW9⟩ : ∃ W9, W9 = ((((((w1.setCell ⟨w.heap.size, 0, none⟩ (.int .i64 0)).setCell ⟨w.heap.size, 1, none⟩ (.string (str []))).setCell ⟨w.heap.size, 2, none⟩ (.int .i64 0)).setCell ⟨w.heap.size, 3, none⟩ (.string (str []))).setCell ⟨w.heap.size, 4, none⟩ (.string (str []))).setCell ⟨w.heap.size, 5, none⟩ (.bool false)) := ⟨_, rfl⟩
      rw [← hW9] at hx9 hp9
      simp only [show str ([] : List UInt8) = ⟨#[]⟩ from rfl] at hW9
      rw [← hW9]
      clear hW9
      obtain ⟨⟨r0, r1, r2, r3, r4, r5⟩, _⟩ := six hp9 (Ext.rfl' _)
      exact bodyPost_ret (v := tgtV ((0, [], 0, [], [], false), 40)) (by simp [results, Tryd.results36, go_sem, tgtV, r0, r1, r2, r3, r4, r5]) rfl ⟨rfl, hx9⟩
    · have d7 : decide ((7 : Int) ≤ (l.length : Int)) = false := by rw [decide_eq_false_iff_not]; omega
      clear hh
      go_enter Tryd.func36, Tryd.ntmps36
      go_wp2
      have hp9 : ((w.alloc (.cells #[.int .i64 0, .string ⟨#[]⟩, .int .i64 0, .string ⟨#[]⟩, .string ⟨#[]⟩, .bool false] 68)).alloc (.cells #[.int .i64 1, .string ⟨#[]⟩, .int .i64 (-1), .string ⟨#[]⟩, .string ⟨#[]⟩, .bool false] 68)).heap[w.heap.size]? = _ := (heap_next (by simp)).trans (heap_alloc_new w _)
      obtain ⟨⟨r0, r1, r2, r3, r4, r5⟩, _⟩ := six hp9 (Ext.rfl' _)
      exact bodyPost_ret (v := tgtV badT) (by simp [results, Tryd.results36, go_sem, tgtV, badT, r0, r1, r2, r3, r4, r5, str]) rfl ⟨rfl, by (repeat (first | exact Ext.rfl' _ | assumption | refine Ext.dr ?_ | refine Ext.drN ?_ _ | refine Ext.al ?_ _ | refine Ext.st ?_ (by simp) _ | refine Ext.tr ?_ (by assumption)))⟩
end Go.Proofs.YtolfpfdmgelhhaaDoor
