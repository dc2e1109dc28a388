/-
The reference's Parse: a path.
-/
import Derived.Test.YtolfpfdmgelhhaaDoorUrp2
set_option linter.unusedVariables false
set_option linter.unusedSimpArgs false
namespace Go.Proofs.YtolfpfdmgelhhaaDoor
open Go.RowKit

theorem two (w : World) (o1 o2 : Obj) : ((w.alloc o1).alloc o2).heap[w.heap.size]? = some o1 ∧ ((w.alloc o1).alloc o2).heap[w.heap.size + 1]? = some o2 := by
  refine ⟨(heap_next (by simp)).trans (heap_alloc_new w o1), ?_⟩
  have := heap_alloc_new (w.alloc o1) o2
  simpa using this
theorem loc_ne {l p q : List UInt8} {a : Bool} (h : l.head? = some 47) (hl : localL l = some (p, q, a)) : p ≠ [] := by
  cases l with
  | nil => cases h
  | cons b t =>
    have hb : b = 47 := Option.some.inj h
    subst hb
    unfold localL at hl
    dsimp only at hl
    split at hl
    · have e := congrArg (fun x => x.1) (Option.some.inj hl)
      dsimp only at e
      rw [← e]
      simp
    · cases hl
set_option maxRecDepth 100000 in
set_option maxHeartbeats 8000000 in
theorem urParse_path (m l : List UInt8) (hm : ¬ m = conL) (ho : ¬ (m = optL ∧ l = [42])) (h1 : l ≠ []) (h2 : l.length ≤ 8192) (hh : ¬ (7 ≤ l.length ∧ lowL (l.take 7) = httpL)) (h47 : l.head? = some 47) (p q : List UInt8) (a : Bool) (hL : localL l = some (p, q, a)) (w : World) :
    Calls Tryd.prog 36 #[.string (str m), .string (str l)] w (Gives (tgtV ((1, [], -1, p, q, a), 0)) w) := by
  have d1 : decide ((8192 : Int) < (l.length : Int)) = false := by rw [decide_eq_false_iff_not]; omega
  have e1 : l.isEmpty = false := by rw [List.isEmpty_eq_false_iff]; exact h1
  have e2 : (str l).toList.isEmpty = false := by rw [Lib.toList_data]; exact e1
  have hl0 : 0 < l.length := List.length_pos_iff.2 h1
  have hb : ((l[0].toNat : Int) != 47) = false := by
    rw [List.head?_eq_getElem?, List.getElem?_eq_getElem hl0] at h47
    rw [Option.some.inj h47]; rfl
  have m1 := strN hm
  have m2 : (m == conL) = false := by rw [beq_eq_false_iff_ne]; exact hm
  have C := fun w => rLower_c (l.take 7) (by unfold maxLen; rw [List.length_take]; omega) w
  obtain ⟨H, hH⟩ : ∃ H, H = lowL (l.take 7) := ⟨_, rfl⟩
  rw [← hH] at C hh
  have C := Lib.hid C
  have D := fun w => urlocal_c l (by omega) w
  rw [hL] at D
  unfold locV at D
  have D := Lib.hid D
  have p1 := loc_ne h47 hL
  have p2 : p.isEmpty = false := by rw [List.isEmpty_eq_false_iff]; exact p1
  have p3 : (str p).toList.isEmpty = false := by rw [Lib.toList_data]; exact p2
  unfold conL at hm m1 m2
  clear hH h47 hL
  by_cases c1 : m = optL
  · have l1 : ¬ l = [42] := fun h => ho ⟨c1, h⟩
    have l2 := strN l1
    have l3 : (l == [42]) = false := by rw [beq_eq_false_iff_ne]; exact l1
    subst c1
    rw [show str optL = ⟨#[79, 80, 84, 73, 79, 78, 83]⟩ from rfl]
    clear m1 m2 hm ho
    by_cases c7 : 7 ≤ l.length
    · have d7 : decide ((7 : Int) ≤ (l.length : Int)) = true := by rw [decide_eq_true_eq]; omega
      have h7 : ¬ H = [104, 116, 116, 112, 58, 47, 47] := fun h => hh ⟨c7, h⟩
      have h8 := strN h7
      have h9 : (H == [104, 116, 116, 112, 58, 47, 47]) = false := by rw [beq_eq_false_iff_ne]; exact h7
      have n7 : (7 : Int) ≤ (l.length : Int) := by omega
      clear hh
      go_enter Tryd.func36, Tryd.ntmps36
      go_wp2_with (first
        | (go_at_call 84; refine (C.out _).mono ?_; rintro e w1 ⟨rfl, hx1⟩)
        | (go_at_call 85; refine (D.out _).mono ?_; rintro e w2 ⟨rfl, hx2⟩; have hq2 : Ext ((w.alloc (.cells #[.int .i64 0, .string ⟨#[]⟩, .int .i64 0, .string ⟨#[]⟩, .string ⟨#[]⟩, .bool false] 68)).alloc (.cells #[.int .i64 1, .string ⟨#[]⟩, .int .i64 (-1), .string ⟨#[]⟩, .string ⟨#[]⟩, .bool false] 68)) w2 := by (repeat (first | exact Ext.rfl' _ | assumption | refine Ext.dr ?_ | refine Ext.drN ?_ _ | refine Ext.al ?_ _ | refine Ext.st ?_ (by simp) _ | refine Ext.tr ?_ (by assumption)))
           have HB := Lib.hid ((hq2.block w.heap.size (by simp; omega)).trans (two w _ _).1); have HT := Lib.hid ((hq2.block (w.heap.size + 1) (by simp)).trans (two w _ _).2); obtain ⟨⟨r0, r1, r2, r3, r4, r5⟩, f0, f1, f2, f3, f4, f5⟩ := six HB.out (Ext.rfl' _); obtain ⟨⟨t0, t1, t2, t3, t4, t5⟩, g0, g1, g2, g3, g4, g5⟩ := six HT.out (Ext.rfl' _); have hw2 : Ext w w2 := by (repeat (first | exact Ext.rfl' _ | assumption | refine Ext.dr ?_ | refine Ext.drN ?_ _ | refine Ext.al ?_ _ | refine Ext.st ?_ (by simp) _ | refine Ext.tr ?_ (by assumption)))
           clear hq2 hx2))
      obtain ⟨w1, hW1⟩ : ∃ w1, w1 = ((w2.setCell ⟨w.heap.size + 1, 3, none⟩ (.string (str p))).setCell ⟨w.heap.size + 1, 4, none⟩ (.string (str q))).setCell ⟨w.heap.size + 1, 5, none⟩ (.bool a) := ⟨_, rfl⟩
      rw [← hW1]
      have hne : w.heap.size ≠ w.heap.size + 1 := by omega
      have hge : w.heap.size ≤ w.heap.size + 1 := by omega
      have HB := Lib.hid ((show w1.heap[w.heap.size]? = w2.heap[w.heap.size]? by rw [hW1, Below.heap_setCell _ _ _ _ hne, Below.heap_setCell _ _ _ _ hne, Below.heap_setCell _ _ _ _ hne]).trans HB.out)
      have hw1 : Ext w w1 := by rw [hW1]; exact ((hw2.st hge _).st hge _).st hge _
      clear hW1 t0 t1 t2 t3 t4 t5 g0 g1 g2 g3 g4 g5
      clear r0 r1 r2 r3 r4 r5 f0 f1 f2 f3 f4 f5
      have hx9 : Ext w _ := ext6 hw1 (.int .i64 1) (.string (str [])) (.int .i64 (-1)) (.string (str p)) (.string (str q)) (.bool a)
      have hp9 := put6 HB.out (.int .i64 1) (.string (str [])) (.int .i64 (-1)) (.string (str p)) (.string (str q)) (.bool a)
      obtain ⟨W9, hW9⟩ : ∃ W9, W9 = ((((((w1.setCell ⟨w.heap.size, 0, none⟩ (.int .i64 1)).setCell ⟨w.heap.size, 1, none⟩ (.string (str []))).setCell ⟨w.heap.size, 2, none⟩ (.int .i64 (-1))).setCell ⟨w.heap.size, 3, none⟩ (.string (str p))).setCell ⟨w.heap.size, 4, none⟩ (.string (str q))).setCell ⟨w.heap.size, 5, none⟩ (.bool a)) := ⟨_, rfl⟩
      rw [← hW9] at hx9 hp9
      simp only [show str ([] : List UInt8) = ⟨#[]⟩ from rfl] at hW9
      rw [← hW9]
      clear hW9
      obtain ⟨⟨r0, r1, r2, r3, r4, r5⟩, _⟩ := six hp9 (Ext.rfl' _)
      exact bodyPost_ret (v := tgtV ((1, [], (-1), p, q, a), 0)) (by simp [results, Tryd.results36, go_sem, tgtV, r0, r1, r2, r3, r4, r5]) rfl ⟨rfl, hx9⟩
    · have d7 : decide ((7 : Int) ≤ (l.length : Int)) = false := by rw [decide_eq_false_iff_not]; omega
      clear hh
      go_enter Tryd.func36, Tryd.ntmps36
      go_wp2_with (first
        | (go_at_call 84; refine (C.out _).mono ?_; rintro e w1 ⟨rfl, hx1⟩)
        | (go_at_call 85; refine (D.out _).mono ?_; rintro e w2 ⟨rfl, hx2⟩; have hq2 : Ext ((w.alloc (.cells #[.int .i64 0, .string ⟨#[]⟩, .int .i64 0, .string ⟨#[]⟩, .string ⟨#[]⟩, .bool false] 68)).alloc (.cells #[.int .i64 1, .string ⟨#[]⟩, .int .i64 (-1), .string ⟨#[]⟩, .string ⟨#[]⟩, .bool false] 68)) w2 := by (repeat (first | exact Ext.rfl' _ | assumption | refine Ext.dr ?_ | refine Ext.drN ?_ _ | refine Ext.al ?_ _ | refine Ext.st ?_ (by simp) _ | refine Ext.tr ?_ (by assumption)))
           have HB := Lib.hid ((hq2.block w.heap.size (by simp; omega)).trans (two w _ _).1); have HT := Lib.hid ((hq2.block (w.heap.size + 1) (by simp)).trans (two w _ _).2); obtain ⟨⟨r0, r1, r2, r3, r4, r5⟩, f0, f1, f2, f3, f4, f5⟩ := six HB.out (Ext.rfl' _); obtain ⟨⟨t0, t1, t2, t3, t4, t5⟩, g0, g1, g2, g3, g4, g5⟩ := six HT.out (Ext.rfl' _); have hw2 : Ext w w2 := by (repeat (first | exact Ext.rfl' _ | assumption | refine Ext.dr ?_ | refine Ext.drN ?_ _ | refine Ext.al ?_ _ | refine Ext.st ?_ (by simp) _ | refine Ext.tr ?_ (by assumption)))
           clear hq2 hx2))
      obtain ⟨w1, hW1⟩ : ∃ w1, w1 = ((w2.setCell ⟨w.heap.size + 1, 3, none⟩ (.string (str p))).setCell ⟨w.heap.size + 1, 4, none⟩ (.string (str q))).setCell ⟨w.heap.size + 1, 5, none⟩ (.bool a) := ⟨_, rfl⟩
      rw [← hW1]
      have hne : w.heap.size ≠ w.heap.size + 1 := by omega
      have hge : w.heap.size ≤ w.heap.size + 1 := by omega
      have HB := Lib.hid ((show w1.heap[w.heap.size]? = w2.heap[w.heap.size]? by rw [hW1, Below.heap_setCell _ _ _ _ hne, Below.heap_setCell _ _ _ _ hne, Below.heap_setCell _ _ _ _ hne]).trans HB.out)
      have hw1 : Ext w w1 := by rw [hW1]; exact ((hw2.st hge _).st hge _).st hge _
      clear hW1 t0 t1 t2 t3 t4 t5 g0 g1 g2 g3 g4 g5
      clear r0 r1 r2 r3 r4 r5 f0 f1 f2 f3 f4 f5
      have hx9 : Ext w _ := ext6 hw1 (.int .i64 1) (.string (str [])) (.int .i64 (-1)) (.string (str p)) (.string (str q)) (.bool a)
      have hp9 := put6 HB.out (.int .i64 1) (.string (str [])) (.int .i64 (-1)) (.string (str p)) (.string (str q)) (.bool a)
      obtain ⟨W9, hW9⟩ : ∃ W9, W9 = ((((((w1.setCell ⟨w.heap.size, 0, none⟩ (.int .i64 1)).setCell ⟨w.heap.size, 1, none⟩ (.string (str []))).setCell ⟨w.heap.size, 2, none⟩ (.int .i64 (-1))).setCell ⟨w.heap.size, 3, none⟩ (.string (str p))).setCell ⟨w.heap.size, 4, none⟩ (.string (str q))).setCell ⟨w.heap.size, 5, none⟩ (.bool a)) := ⟨_, rfl⟩
      rw [← hW9] at hx9 hp9
      simp only [show str ([] : List UInt8) = ⟨#[]⟩ from rfl] at hW9
      rw [← hW9]
      clear hW9
      obtain ⟨⟨r0, r1, r2, r3, r4, r5⟩, _⟩ := six hp9 (Ext.rfl' _)
      exact bodyPost_ret (v := tgtV ((1, [], (-1), p, q, a), 0)) (by simp [results, Tryd.results36, go_sem, tgtV, r0, r1, r2, r3, r4, r5]) rfl ⟨rfl, hx9⟩
  · have o1 := strN c1
    have o2 : (m == optL) = false := by rw [beq_eq_false_iff_ne]; exact c1
    unfold optL at c1 o1 o2
    clear ho
    by_cases c7 : 7 ≤ l.length
    · have d7 : decide ((7 : Int) ≤ (l.length : Int)) = true := by rw [decide_eq_true_eq]; omega
      have h7 : ¬ H = [104, 116, 116, 112, 58, 47, 47] := fun h => hh ⟨c7, h⟩
      have h8 := strN h7
      have h9 : (H == [104, 116, 116, 112, 58, 47, 47]) = false := by rw [beq_eq_false_iff_ne]; exact h7
      have n7 : (7 : Int) ≤ (l.length : Int) := by omega
      clear hh
      go_enter Tryd.func36, Tryd.ntmps36
      go_wp2_with (first
        | (go_at_call 84; refine (C.out _).mono ?_; rintro e w1 ⟨rfl, hx1⟩)
        | (go_at_call 85; refine (D.out _).mono ?_; rintro e w2 ⟨rfl, hx2⟩; have hq2 : Ext ((w.alloc (.cells #[.int .i64 0, .string ⟨#[]⟩, .int .i64 0, .string ⟨#[]⟩, .string ⟨#[]⟩, .bool false] 68)).alloc (.cells #[.int .i64 1, .string ⟨#[]⟩, .int .i64 (-1), .string ⟨#[]⟩, .string ⟨#[]⟩, .bool false] 68)) w2 := by (repeat (first | exact Ext.rfl' _ | assumption | refine Ext.dr ?_ | refine Ext.drN ?_ _ | refine Ext.al ?_ _ | refine Ext.st ?_ (by simp) _ | refine Ext.tr ?_ (by assumption)))
           have HB := Lib.hid ((hq2.block w.heap.size (by simp; omega)).trans (two w _ _).1); have HT := Lib.hid ((hq2.block (w.heap.size + 1) (by simp)).trans (two w _ _).2); obtain ⟨⟨r0, r1, r2, r3, r4, r5⟩, f0, f1, f2, f3, f4, f5⟩ := six HB.out (Ext.rfl' _); obtain ⟨⟨t0, t1, t2, t3, t4, t5⟩, g0, g1, g2, g3, g4, g5⟩ := six HT.out (Ext.rfl' _); have hw2 : Ext w w2 := by (repeat (first | exact Ext.rfl' _ | assumption | refine Ext.dr ?_ | refine Ext.drN ?_ _ | refine Ext.al ?_ _ | refine Ext.st ?_ (by simp) _ | refine Ext.tr ?_ (by assumption)))
           clear hq2 hx2))
      obtain ⟨w1, hW1⟩ : ∃ w1, w1 = ((w2.setCell ⟨w.heap.size + 1, 3, none⟩ (.string (str p))).setCell ⟨w.heap.size + 1, 4, none⟩ (.string (str q))).setCell ⟨w.heap.size + 1, 5, none⟩ (.bool a) := ⟨_, rfl⟩
      rw [← hW1]
      have hne : w.heap.size ≠ w.heap.size + 1 := by omega
      have hge : w.heap.size ≤ w.heap.size + 1 := by omega
      have HB := Lib.hid ((show w1.heap[w.heap.size]? = w2.heap[w.heap.size]? by rw [hW1, Below.heap_setCell _ _ _ _ hne, Below.heap_setCell _ _ _ _ hne, Below.heap_setCell _ _ _ _ hne]).trans HB.out)
      have hw1 : Ext w w1 := by rw [hW1]; exact ((hw2.st hge _).st hge _).st hge _
      clear hW1 t0 t1 t2 t3 t4 t5 g0 g1 g2 g3 g4 g5
      clear r0 r1 r2 r3 r4 r5 f0 f1 f2 f3 f4 f5
      have hx9 : Ext w _ := ext6 hw1 (.int .i64 1) (.string (str [])) (.int .i64 (-1)) (.string (str p)) (.string (str q)) (.bool a)
      have hp9 := put6 HB.out (.int .i64 1) (.string (str [])) (.int .i64 (-1)) (.string (str p)) (.string (str q)) (.bool a)
      obtain ⟨W9, hW9⟩ : ∃ W9, W9 = ((((((w1.setCell ⟨w.heap.size, 0, none⟩ (.int .i64 1)).setCell ⟨w.heap.size, 1, none⟩ (.string (str []))).setCell ⟨w.heap.size, 2, none⟩ (.int .i64 (-1))).setCell ⟨w.heap.size, 3, none⟩ (.string (str p))).setCell ⟨w.heap.size, 4, none⟩ (.string (str q))).setCell ⟨w.heap.size, 5, none⟩ (.bool a)) := ⟨_, rfl⟩
      rw [← hW9] at hx9 hp9
      simp only [show str ([] : List UInt8) = ⟨#[]⟩ from rfl] at hW9
      rw [← hW9]
      clear hW9
      obtain ⟨⟨r0, r1, r2, r3, r4, r5⟩, _⟩ := six hp9 (Ext.rfl' _)
      exact bodyPost_ret (v := tgtV ((1, [], (-1), p, q, a), 0)) (by simp [results, Tryd.results36, go_sem, tgtV, r0, r1, r2, r3, r4, r5]) rfl ⟨rfl, hx9⟩
    · have d7 : decide ((7 : Int) ≤ (l.length : Int)) = false := by rw [decide_eq_false_iff_not]; omega
      clear hh
      go_enter Tryd.func36, Tryd.ntmps36
      go_wp2_with (first
        | (go_at_call 84; refine (C.out _).mono ?_; rintro e w1 ⟨rfl, hx1⟩)
        | (go_at_call 85; refine (D.out _).mono ?_; rintro e w2 ⟨rfl, hx2⟩; have hq2 : Ext ((w.alloc (.cells #[.int .i64 0, .string ⟨#[]⟩, .int .i64 0, .string ⟨#[]⟩, .string ⟨#[]⟩, .bool false] 68)).alloc (.cells #[.int .i64 1, .string ⟨#[]⟩, .int .i64 (-1), .string ⟨#[]⟩, .string ⟨#[]⟩, .bool false] 68)) w2 := by (repeat (first | exact Ext.rfl' _ | assumption | refine Ext.dr ?_ | refine Ext.drN ?_ _ | refine Ext.al ?_ _ | refine Ext.st ?_ (by simp) _ | refine Ext.tr ?_ (by assumption)))
           have HB := Lib.hid ((hq2.block w.heap.size (by simp; omega)).trans (two w _ _).1); have HT := Lib.hid ((hq2.block (w.heap.size + 1) (by simp)).trans (two w _ _).2); obtain ⟨⟨r0, r1, r2, r3, r4, r5⟩, f0, f1, f2, f3, f4, f5⟩ := six HB.out (Ext.rfl' _); obtain ⟨⟨t0, t1, t2, t3, t4, t5⟩, g0, g1, g2, g3, g4, g5⟩ := six HT.out (Ext.rfl' _); have hw2 : Ext w w2 := by (repeat (first | exact Ext.rfl' _ | assumption | refine Ext.dr ?_ | refine Ext.drN ?_ _ | refine Ext.al ?_ _ | refine Ext.st ?_ (by simp) _ | refine Ext.tr ?_ (by assumption)))
           clear hq2 hx2))
      obtain ⟨w1, hW1⟩ : ∃ w1, w1 = ((w2.setCell ⟨w.heap.size + 1, 3, none⟩ (.string (str p))).setCell ⟨w.heap.size + 1, 4, none⟩ (.string (str q))).setCell ⟨w.heap.size + 1, 5, none⟩ (.bool a) := ⟨_, rfl⟩
      rw [← hW1]
      have hne : w.heap.size ≠ w.heap.size + 1 := by omega
      have hge : w.heap.size ≤ w.heap.size + 1 := by omega
      have HB := Lib.hid ((show w1.heap[w.heap.size]? = w2.heap[w.heap.size]? by rw [hW1, Below.heap_setCell _ _ _ _ hne, Below.heap_setCell _ _ _ _ hne, Below.heap_setCell _ _ _ _ hne]).trans HB.out)
      have hw1 : Ext w w1 := by rw [hW1]; exact ((hw2.st hge _).st hge _).st hge _
      clear hW1 t0 t1 t2 t3 t4 t5 g0 g1 g2 g3 g4 g5
      clear r0 r1 r2 r3 r4 r5 f0 f1 f2 f3 f4 f5
      have hx9 : Ext w _ := ext6 hw1 (.int .i64 1) (.string (str [])) (.int .i64 (-1)) (.string (str p)) (.string (str q)) (.bool a)
      have hp9 := put6 HB.out (.int .i64 1) (.string (str [])) (.int .i64 (-1)) (.string (str p)) (.string (str q)) (.bool a)
      obtain ⟨W9, hW9⟩ : ∃ W9, W9 = ((((((w1.setCell ⟨w.heap.size, 0, none⟩ (.int .i64 1)).setCell ⟨w.heap.size, 1, none⟩ (.string (str []))).setCell ⟨w.heap.size, 2, none⟩ (.int .i64 (-1))).setCell ⟨w.heap.size, 3, none⟩ (.string (str p))).setCell ⟨w.heap.size, 4, none⟩ (.string (str q))).setCell ⟨w.heap.size, 5, none⟩ (.bool a)) := ⟨_, rfl⟩
      rw [← hW9] at hx9 hp9
      simp only [show str ([] : List UInt8) = ⟨#[]⟩ from rfl] at hW9
      rw [← hW9]
      clear hW9
      obtain ⟨⟨r0, r1, r2, r3, r4, r5⟩, _⟩ := six hp9 (Ext.rfl' _)
      exact bodyPost_ret (v := tgtV ((1, [], (-1), p, q, a), 0)) (by simp [results, Tryd.results36, go_sem, tgtV, r0, r1, r2, r3, r4, r5]) rfl ⟨rfl, hx9⟩
end Go.Proofs.YtolfpfdmgelhhaaDoor
