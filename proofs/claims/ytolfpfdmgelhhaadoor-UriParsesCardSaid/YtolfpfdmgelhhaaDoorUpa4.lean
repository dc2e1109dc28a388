/-
The program's Parse: neither absolute nor a path; all ways in one.
-/
import Derived.Test.YtolfpfdmgelhhaaDoorUpa2
import Derived.Test.YtolfpfdmgelhhaaDoorUpa3
import Derived.Test.YtolfpfdmgelhhaaDoorUpa5
set_option linter.unusedVariables false
set_option linter.unusedSimpArgs false
namespace Go.Proofs.YtolfpfdmgelhhaaDoor
open Go.RowKit

set_option maxRecDepth 100000 in
set_option maxHeartbeats 8000000 in
theorem uParse_bad1 (m l : List UInt8) (hm : ¬ m = conL) (ho : ¬ (m = optL ∧ l = [42])) (h1 : l ≠ []) (h2 : l.length ≤ 8192) (hh : ¬ (7 ≤ l.length ∧ lowL (l.take 7) = httpL)) (h47 : ¬ l.head? = some 47) (w : World) :
    Calls Tryd.prog 35 #[.string (str m), .string (str l)] w (Gives (tgtV badT) w) := by
  have d1 : decide ((8192 : Int) < (l.length : Int)) = false := by rw [decide_eq_false_iff_not]; omega
  have e1 : l.isEmpty = false := by rw [List.isEmpty_eq_false_iff]; exact h1
  have e2 : (str l).toList.isEmpty = false := by rw [Lib.toList_data]; exact e1
  have hl0 : 0 < l.length := List.length_pos_iff.2 h1
  have hb : ((l[0].toNat : Int) != 47) = true := by
    rw [List.head?_eq_getElem?, List.getElem?_eq_getElem hl0] at h47
    rw [bne_iff_ne]; intro h; exact h47 (by rw [show l[0] = 47 from UInt8.toNat_inj.1 (by show l[0].toNat = 47; omega)])
  have m1 := strN hm
  have m2 : (m == conL) = false := by rw [beq_eq_false_iff_ne]; exact hm
  have C := fun w => Equal_c (l.take 7) httpL (by unfold maxLen; rw [List.length_take]; omega) (by decide) w
  rw [show str httpL = ⟨#[104, 116, 116, 112, 58, 47, 47]⟩ from rfl] at C
  unfold conL at hm m1 m2
  clear h47
  by_cases c1 : m = optL
  · have l1 : ¬ l = [42] := fun h => ho ⟨c1, h⟩
    have l2 := strN l1
    have l3 : (l == [42]) = false := by rw [beq_eq_false_iff_ne]; exact l1
    subst c1
    rw [show str optL = ⟨#[79, 80, 84, 73, 79, 78, 83]⟩ from rfl]
    clear m1 m2 hm ho
    by_cases c7 : 7 ≤ l.length
    · have d7 : decide ((7 : Int) ≤ (l.length : Int)) = true := by rw [decide_eq_true_eq]; omega
      have n7 : (7 : Int) ≤ (l.length : Int) := by omega
      have h7 : (lowL (l.take 7) == lowL httpL) = false := by
        rw [beq_eq_false_iff_ne]; intro h; exact hh ⟨c7, h.trans (by decide)⟩
      rw [h7] at C
      have C := Lib.hid C
      clear hh h7
      go_enter Tryd.func35, Tryd.ntmps35
      go_wp2_with (go_at_call 78; refine (C.out _).mono ?_; rintro e w1 ⟨rfl, hx0⟩; have hq : Ext (((w.alloc (.cells #[.int .i64 0, .string ⟨#[]⟩, .int .i64 0, .string ⟨#[]⟩, .string ⟨#[]⟩, .bool false] 65)).alloc (.cells #[.int .i64 0, .string ⟨#[]⟩, .int .i64 0, .string ⟨#[]⟩, .string ⟨#[]⟩, .bool false] 65)).alloc (.cells #[.int .i64 1, .string ⟨#[]⟩, .int .i64 (-1), .string ⟨#[]⟩, .string ⟨#[]⟩, .bool false] 65)) w1 := (by (repeat (first | exact Ext.rfl' _ | assumption | refine Ext.dr ?_ | refine Ext.drN ?_ _ | refine Ext.al ?_ _ | refine Ext.st ?_ (by simp) _ | refine Ext.tr ?_ (by assumption)))); have HB := Lib.hid ((hq.block w.heap.size (by first | (simp; done) | (simp; omega))).trans (three w _ _ _).1); have HN := Lib.hid ((hq.block (w.heap.size + 1) (by first | (simp; done) | (simp; omega))).trans (three_m w _ _ _)); have HT := Lib.hid ((hq.block (w.heap.size + 1 + 1) (by simp)).trans (three w _ _ _).2); have hw1 : Ext w w1 := (by (repeat (first | exact Ext.rfl' _ | assumption | refine Ext.dr ?_ | refine Ext.drN ?_ _ | refine Ext.al ?_ _ | refine Ext.st ?_ (by simp) _ | refine Ext.tr ?_ (by assumption)))); clear hq; obtain ⟨⟨r0, r1, r2, r3, r4, r5⟩, f0, f1, f2, f3, f4, f5⟩ := six HB.out (Ext.rfl' _); obtain ⟨⟨n0, n1, n2, n3, n4, n5⟩, m0, m1, m2, m3, m4, m5⟩ := six HN.out (Ext.rfl' _); obtain ⟨⟨t0, t1, t2, t3, t4, t5⟩, g0, g1, g2, g3, g4, g5⟩ := six HT.out (Ext.rfl' _))
      clear r0 r1 r2 r3 r4 r5 f0 f1 f2 f3 f4 f5 n0 n1 n2 n3 n4 n5 m0 m1 m2 m3 m4 m5 t0 t1 t2 t3 t4 t5 g0 g1 g2 g3 g4 g5
      have hx9 : Ext w _ := ext6 hw1 (.int .i64 0) (.string (str [])) (.int .i64 0) (.string (str [])) (.string (str [])) (.bool false)
      have hp9 := put6 HB.out (.int .i64 0) (.string (str [])) (.int .i64 0) (.string (str [])) (.string (str [])) (.bool false)
      obtain ⟨W9, hW9⟩ : ∃ W9, W9 = ((((((w1.setCell ⟨w.heap.size, 0, none⟩ (.int .i64 0)).setCell ⟨w.heap.size, 1, none⟩ (.string (str []))).setCell ⟨w.heap.size, 2, none⟩ (.int .i64 0)).setCell ⟨w.heap.size, 3, none⟩ (.string (str []))).setCell ⟨w.heap.size, 4, none⟩ (.string (str []))).setCell ⟨w.heap.size, 5, none⟩ (.bool false)) := ⟨_, rfl⟩
      rw [← hW9] at hx9 hp9
      try simp only [show str ([] : List UInt8) = ⟨#[]⟩ from rfl, show str ([47] : List UInt8) = ⟨#[47]⟩ from rfl] at hW9
      rw [← hW9]
      clear hW9
      obtain ⟨⟨r0, r1, r2, r3, r4, r5⟩, _⟩ := six hp9 (Ext.rfl' _)
      exact bodyPost_ret (v := tgtV ((0, [], 0, [], [], false), 40)) (by simp [results, Tryd.results35, go_sem, tgtV, r0, r1, r2, r3, r4, r5]) rfl ⟨by first | rfl | exact ret_val (by rw [HV.out]; try rfl), hx9⟩
    · have d7 : decide ((7 : Int) ≤ (l.length : Int)) = false := by rw [decide_eq_false_iff_not]; omega
      clear hh C
      go_enter Tryd.func35, Tryd.ntmps35
      go_wp2
      obtain ⟨⟨r0, r1, r2, r3, r4, r5⟩, _⟩ := six (three w (.cells #[.int .i64 0, .string ⟨#[]⟩, .int .i64 0, .string ⟨#[]⟩, .string ⟨#[]⟩, .bool false] 65) (.cells #[.int .i64 0, .string ⟨#[]⟩, .int .i64 0, .string ⟨#[]⟩, .string ⟨#[]⟩, .bool false] 65) (.cells #[.int .i64 1, .string ⟨#[]⟩, .int .i64 (-1), .string ⟨#[]⟩, .string ⟨#[]⟩, .bool false] 65)).1 (Ext.rfl' _)
      exact bodyPost_ret (v := tgtV badT) (by simp [results, Tryd.results35, go_sem, tgtV, badT, str] at r0 r1 r2 r3 r4 r5 ⊢) rfl ⟨rfl, by (repeat (first | exact Ext.rfl' _ | assumption | refine Ext.dr ?_ | refine Ext.drN ?_ _ | refine Ext.al ?_ _ | refine Ext.st ?_ (by simp) _ | refine Ext.tr ?_ (by assumption)))⟩
  · have o1 := strN c1
    have o2 : (m == optL) = false := by rw [beq_eq_false_iff_ne]; exact c1
    unfold optL at c1 o1 o2
    clear ho
    by_cases c7 : 7 ≤ l.length
    · have d7 : decide ((7 : Int) ≤ (l.length : Int)) = true := by rw [decide_eq_true_eq]; omega
      have n7 : (7 : Int) ≤ (l.length : Int) := by omega
      have h7 : (lowL (l.take 7) == lowL httpL) = false := by
        rw [beq_eq_false_iff_ne]; intro h; exact hh ⟨c7, h.trans (by decide)⟩
      rw [h7] at C
      have C := Lib.hid C
      clear hh h7
      go_enter Tryd.func35, Tryd.ntmps35
      go_wp2_with (go_at_call 78; refine (C.out _).mono ?_; rintro e w1 ⟨rfl, hx0⟩; have hq : Ext (((w.alloc (.cells #[.int .i64 0, .string ⟨#[]⟩, .int .i64 0, .string ⟨#[]⟩, .string ⟨#[]⟩, .bool false] 65)).alloc (.cells #[.int .i64 0, .string ⟨#[]⟩, .int .i64 0, .string ⟨#[]⟩, .string ⟨#[]⟩, .bool false] 65)).alloc (.cells #[.int .i64 1, .string ⟨#[]⟩, .int .i64 (-1), .string ⟨#[]⟩, .string ⟨#[]⟩, .bool false] 65)) w1 := (by (repeat (first | exact Ext.rfl' _ | assumption | refine Ext.dr ?_ | refine Ext.drN ?_ _ | refine Ext.al ?_ _ | refine Ext.st ?_ (by simp) _ | refine Ext.tr ?_ (by assumption)))); have HB := Lib.hid ((hq.block w.heap.size (by first | (simp; done) | (simp; omega))).trans (three w _ _ _).1); have HN := Lib.hid ((hq.block (w.heap.size + 1) (by first | (simp; done) | (simp; omega))).trans (three_m w _ _ _)); have HT := Lib.hid ((hq.block (w.heap.size + 1 + 1) (by simp)).trans (three w _ _ _).2); have hw1 : Ext w w1 := (by (repeat (first | exact Ext.rfl' _ | assumption | refine Ext.dr ?_ | refine Ext.drN ?_ _ | refine Ext.al ?_ _ | refine Ext.st ?_ (by simp) _ | refine Ext.tr ?_ (by assumption)))); clear hq; obtain ⟨⟨r0, r1, r2, r3, r4, r5⟩, f0, f1, f2, f3, f4, f5⟩ := six HB.out (Ext.rfl' _); obtain ⟨⟨n0, n1, n2, n3, n4, n5⟩, m0, m1, m2, m3, m4, m5⟩ := six HN.out (Ext.rfl' _); obtain ⟨⟨t0, t1, t2, t3, t4, t5⟩, g0, g1, g2, g3, g4, g5⟩ := six HT.out (Ext.rfl' _))
      clear r0 r1 r2 r3 r4 r5 f0 f1 f2 f3 f4 f5 n0 n1 n2 n3 n4 n5 m0 m1 m2 m3 m4 m5 t0 t1 t2 t3 t4 t5 g0 g1 g2 g3 g4 g5
      have hx9 : Ext w _ := ext6 hw1 (.int .i64 0) (.string (str [])) (.int .i64 0) (.string (str [])) (.string (str [])) (.bool false)
      have hp9 := put6 HB.out (.int .i64 0) (.string (str [])) (.int .i64 0) (.string (str [])) (.string (str [])) (.bool false)
      obtain ⟨W9, hW9⟩ : ∃ W9, W9 = ((((((w1.setCell ⟨w.heap.size, 0, none⟩ (.int .i64 0)).setCell ⟨w.heap.size, 1, none⟩ (.string (str []))).setCell ⟨w.heap.size, 2, none⟩ (.int .i64 0)).setCell ⟨w.heap.size, 3, none⟩ (.string (str []))).setCell ⟨w.heap.size, 4, none⟩ (.string (str []))).setCell ⟨w.heap.size, 5, none⟩ (.bool false)) := ⟨_, rfl⟩
      rw [← hW9] at hx9 hp9
      try simp only [show str ([] : List UInt8) = ⟨#[]⟩ from rfl, show str ([47] : List UInt8) = ⟨#[47]⟩ from rfl] at hW9
      rw [← hW9]
      clear hW9
      obtain ⟨⟨r0, r1, r2, r3, r4, r5⟩, _⟩ := six hp9 (Ext.rfl' _)
      exact bodyPost_ret (v := tgtV ((0, [], 0, [], [], false), 40)) (by simp [results, Tryd.results35, go_sem, tgtV, r0, r1, r2, r3, r4, r5]) rfl ⟨by first | rfl | exact ret_val (by rw [HV.out]; try rfl), hx9⟩
    · have d7 : decide ((7 : Int) ≤ (l.length : Int)) = false := by rw [decide_eq_false_iff_not]; omega
      clear hh C
      go_enter Tryd.func35, Tryd.ntmps35
      go_wp2
      obtain ⟨⟨r0, r1, r2, r3, r4, r5⟩, _⟩ := six (three w (.cells #[.int .i64 0, .string ⟨#[]⟩, .int .i64 0, .string ⟨#[]⟩, .string ⟨#[]⟩, .bool false] 65) (.cells #[.int .i64 0, .string ⟨#[]⟩, .int .i64 0, .string ⟨#[]⟩, .string ⟨#[]⟩, .bool false] 65) (.cells #[.int .i64 1, .string ⟨#[]⟩, .int .i64 (-1), .string ⟨#[]⟩, .string ⟨#[]⟩, .bool false] 65)).1 (Ext.rfl' _)
      exact bodyPost_ret (v := tgtV badT) (by simp [results, Tryd.results35, go_sem, tgtV, badT, str] at r0 r1 r2 r3 r4 r5 ⊢) rfl ⟨rfl, by (repeat (first | exact Ext.rfl' _ | assumption | refine Ext.dr ?_ | refine Ext.drN ?_ _ | refine Ext.al ?_ _ | refine Ext.st ?_ (by simp) _ | refine Ext.tr ?_ (by assumption)))⟩
theorem uParse_abs (m l : List UInt8) (hm : ¬ m = conL) (hmo : ¬ (m = optL ∧ l = [42])) (h1 : l ≠ []) (h2 : l.length ≤ 8192) (h7 : 7 ≤ l.length) (hH : lowL (l.take 7) = httpL) (w : World) (hE : ErrR w) :
    Calls Tryd.prog 35 #[.string (str m), .string (str l)] w (Gives (tgtV (if (hostL ((l.drop 7).take (authL (l.drop 7)))).2.2 = 0 then finT 2 (hostL ((l.drop 7).take (authL (l.drop 7)))).1 (hostL ((l.drop 7).take (authL (l.drop 7)))).2.1 ((l.drop 7).drop (authL (l.drop 7))) else badT)) w) := by
  by_cases c1 : m = optL
  · by_cases ck : authL (l.drop 7) < (l.drop 7).length
    · exact uParse_abs1 m l hm hmo h1 h2 h7 hH w hE c1 ck
    · exact uParse_abs2 m l hm hmo h1 h2 h7 hH w hE c1 ck
  · by_cases ck : authL (l.drop 7) < (l.drop 7).length
    · exact uParse_abs3 m l hm hmo h1 h2 h7 hH w hE c1 ck
    · exact uParse_abs4 m l hm hmo h1 h2 h7 hH w hE c1 ck
/-- The program's Parse. -/
theorem uParse_c (m l : List UInt8) (w : World) (hE : ErrR w) :
    Calls Tryd.prog 35 #[.string (str m), .string (str l)] w (Gives (tgtV (tgtL m l)) w) := by
  unfold tgtL
  rw [show ([67, 79, 78, 78, 69, 67, 84] : List UInt8) = conL from rfl, show ([79, 80, 84, 73, 79, 78, 83] : List UInt8) = optL from rfl]
  by_cases a1 : 8192 < l.length
  · rw [if_pos (.inl a1)]; exact uParse_long m l a1 w
  by_cases a2 : l = []
  · rw [if_pos (.inr a2)]; subst a2; exact uParse_nil m w
  rw [if_neg (by rintro (h | h); exact a1 h; exact a2 h)]
  by_cases a3 : m = conL
  · rw [if_pos a3]; subst a3; exact uParse_con l a2 (by omega) w hE
  rw [if_neg a3]
  by_cases a4 : m = optL ∧ l = [42]
  · rw [if_pos a4]; obtain ⟨rfl, rfl⟩ := a4; exact uParse_opt w
  rw [if_neg a4]
  by_cases a5 : 7 ≤ l.length ∧ lowL (l.take 7) = httpL
  · rw [if_pos a5]; exact uParse_abs m l a3 a4 a2 (by omega) a5.1 a5.2 w hE
  rw [if_neg a5]
  by_cases a6 : l.head? = some 47
  · rw [if_pos a6]; exact uParse_path m l a3 a4 a2 (by omega) a5 a6 w
  rw [if_neg a6]
  exact uParse_bad1 m l a3 a4 a2 (by omega) a5 a6 w
/-- The reference's Parse. -/
theorem urParse_c (m l : List UInt8) (w : World) :
    Calls Tryd.prog 36 #[.string (str m), .string (str l)] w (Gives (tgtV (tgtL m l)) w) := by
  unfold tgtL
  rw [show ([67, 79, 78, 78, 69, 67, 84] : List UInt8) = conL from rfl, show ([79, 80, 84, 73, 79, 78, 83] : List UInt8) = optL from rfl]
  by_cases a1 : 8192 < l.length
  · rw [if_pos (.inl a1)]; exact urParse_long m l a1 w
  by_cases a2 : l = []
  · rw [if_pos (.inr a2)]; subst a2; exact urParse_nil m w
  rw [if_neg (by rintro (h | h); exact a1 h; exact a2 h)]
  by_cases a3 : m = conL
  · rw [if_pos a3]; subst a3; exact urParse_con l a2 (by omega) w
  rw [if_neg a3]
  by_cases a4 : m = optL ∧ l = [42]
  · rw [if_pos a4]; obtain ⟨rfl, rfl⟩ := a4; exact urParse_opt w
  rw [if_neg a4]
  by_cases a5 : 7 ≤ l.length ∧ lowL (l.take 7) = httpL
  · rw [if_pos a5]; exact urParse_abs m l a3 a4 a2 (by omega) a5.1 a5.2 w
  rw [if_neg a5]
  by_cases a6 : l.head? = some 47
  · rw [if_pos a6]
    cases hL : localL l with
    | none =>
      have h := urParse_bad2 m l a3 a4 a2 (by omega) a5 a6 hL w
      rw [show finT 1 [] (-1) l = badT by unfold finT; rw [hL]]; exact h
    | some x =>
      obtain ⟨p, q, a⟩ := x
      have h := urParse_path m l a3 a4 a2 (by omega) a5 a6 p q a hL w
      rw [show finT 1 [] (-1) l = ((1, [], -1, p, q, a), 0) by unfold finT; rw [hL]; dsimp only; rw [if_neg (loc_ne a6 hL)]]; exact h
  rw [if_neg a6]
  exact urParse_bad1 m l a3 a4 a2 (by omega) a5 a6 w
set_option maxRecDepth 100000 in
set_option maxHeartbeats 4000000 in
theorem UriParses_w (m l : List UInt8) (w : World) (hE : ErrR w) :
    Calls Tryd.prog 8 #[.string (str m), .string (str l)] w (Gives (.bool true) w) := by
  have C1 := fun (w : World) (hE : ErrR w) => uParse_c m l w hE
  have C2 := fun (w : World) => urParse_c m l w
  obtain ⟨r, hr⟩ : ∃ r, r = tgtL m l := ⟨_, rfl⟩
  rw [← hr] at C1 C2
  clear hr
  obtain ⟨⟨f, h, p, u, q, a⟩, e⟩ := r
  unfold tgtV at C1 C2
  try dsimp only at C1 C2
  have C1 := Lib.hid C1
  have C2 := Lib.hid C2
  have HE := Lib.hid hE
  clear hE
  go_enter Tryd.func8, Tryd.ntmps8
  go_wp2_with (first
    | (go_at_call 35; refine (C1.out _ (HE.out.ext (by (repeat (first | exact Ext.rfl' _ | assumption | refine Ext.dr ?_ | refine Ext.drN ?_ _ | refine Ext.al ?_ _ | refine Ext.st ?_ (by simp) _ | refine Ext.tr ?_ (by assumption)))))).mono ?_; rintro e w1 ⟨rfl, hx1⟩)
    | (go_at_call 36; refine (C2.out _).mono ?_; rintro e w2 ⟨rfl, hx2⟩; obtain ⟨⟨t0, t1, t2, t3, t4, t5⟩, _⟩ := six (heap_alloc_new w1 _) hx2; have hl : w1.heap.size < w2.heap.size := (by have := hx2.size; simp at this; omega))
    | (go_at_call 37; refine (num08_c _ _).mono ?_; rintro e w3 ⟨rfl, rfl⟩)
    | (go_at_call 38; refine (knows08_c _ (HE.out.ext (by (repeat (first | exact Ext.rfl' _ | assumption | refine Ext.dr ?_ | refine Ext.drN ?_ _ | refine Ext.al ?_ _ | refine Ext.st ?_ (by simp) _ | refine Ext.tr ?_ (by assumption)))))).mono ?_; rintro e w6 ⟨rfl, hx6⟩))
  go_ret
  exact ⟨rfl, by (repeat (first | exact Ext.rfl' _ | assumption | refine Ext.dr ?_ | refine Ext.drN ?_ _ | refine Ext.al ?_ _ | refine Ext.st ?_ (by simp) _ | refine Ext.tr ?_ (by assumption)))⟩
end Go.Proofs.YtolfpfdmgelhhaaDoor
