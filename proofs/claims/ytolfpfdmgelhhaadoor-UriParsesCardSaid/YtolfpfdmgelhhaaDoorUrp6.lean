/-
The reference's Parse: an absolute target.
-/
import Derived.Test.YtolfpfdmgelhhaaDoorUrp5
import Derived.Test.YtolfpfdmgelhhaaDoorUrp4
set_option linter.unusedVariables false
set_option linter.unusedSimpArgs false
namespace Go.Proofs.YtolfpfdmgelhhaaDoor
open Go.RowKit

set_option maxRecDepth 100000 in
set_option maxHeartbeats 8000000 in
theorem urParse_abs (m l : List UInt8) (hm : ¬ m = conL) (hmo : ¬ (m = optL ∧ l = [42])) (h1 : l ≠ []) (h2 : l.length ≤ 8192) (h7 : 7 ≤ l.length) (hH : lowL (l.take 7) = httpL) (w : World) :
    Calls Tryd.prog 36 #[.string (str m), .string (str l)] w (Gives (tgtV (if (hostL ((l.drop 7).take (authL (l.drop 7)))).2.2 = 0 then finT 2 (hostL ((l.drop 7).take (authL (l.drop 7)))).1 (hostL ((l.drop 7).take (authL (l.drop 7)))).2.1 ((l.drop 7).drop (authL (l.drop 7))) else badT)) w) := by
  obtain ⟨R, hR⟩ : ∃ R, R = (if (hostL ((l.drop 7).take (authL (l.drop 7)))).2.2 = 0 then finT 2 (hostL ((l.drop 7).take (authL (l.drop 7)))).1 (hostL ((l.drop 7).take (authL (l.drop 7)))).2.1 ((l.drop 7).drop (authL (l.drop 7))) else badT) := ⟨_, rfl⟩
  rw [← hR]
  have HR := Lib.hid hR
  clear hR
  have d1 : decide ((8192 : Int) < (l.length : Int)) = false := by rw [decide_eq_false_iff_not]; omega
  have e1 : l.isEmpty = false := by rw [List.isEmpty_eq_false_iff]; exact h1
  have e2 : (str l).toList.isEmpty = false := by rw [Lib.toList_data]; exact e1
  have m1 := strN hm
  have m2 : (m == conL) = false := by rw [beq_eq_false_iff_ne]; exact hm
  have C := fun w => rLower_c (l.take 7) (by unfold maxLen; rw [List.length_take]; omega) w
  rw [hH, show str httpL = ⟨#[104, 116, 116, 112, 58, 47, 47]⟩ from rfl] at C
  have C := Lib.hid C
  unfold conL at hm m1 m2
  have d7 : decide ((7 : Int) ≤ (l.length : Int)) = true := by rw [decide_eq_true_eq]; omega
  have n7 : (7 : Int) ≤ (l.length : Int) := by omega
  clear hH
  by_cases c1 : m = optL
  · have l1 : ¬ l = [42] := fun h => hmo ⟨c1, h⟩
    have l2 := strN l1
    have l3 : (l == [42]) = false := by rw [beq_eq_false_iff_ne]; exact l1
    subst c1
    rw [show str optL = ⟨#[79, 80, 84, 73, 79, 78, 83]⟩ from rfl]
    clear m1 m2 hm hmo
    go_enter Tryd.func36, Tryd.ntmps36
    go_wp2_with (go_at_call 84; refine (C.out _).mono ?_; rintro e w2 ⟨rfl, hx2⟩; have hq2 : Ext ((w.alloc (.cells #[.int .i64 0, .string ⟨#[]⟩, .int .i64 0, .string ⟨#[]⟩, .string ⟨#[]⟩, .bool false] 68)).alloc (.cells #[.int .i64 1, .string ⟨#[]⟩, .int .i64 (-1), .string ⟨#[]⟩, .string ⟨#[]⟩, .bool false] 68)) w2 := (by (repeat (first | exact Ext.rfl' _ | assumption | refine Ext.dr ?_ | refine Ext.drN ?_ _ | refine Ext.al ?_ _ | refine Ext.st ?_ (by simp) _ | refine Ext.tr ?_ (by assumption)))); have HB := Lib.hid ((hq2.block w.heap.size (by simp; omega)).trans (two w _ _).1); have HT := Lib.hid ((hq2.block (w.heap.size + 1) (by simp)).trans (two w _ _).2); obtain ⟨⟨r0, r1, r2, r3, r4, r5⟩, f0, f1, f2, f3, f4, f5⟩ := six HB.out (Ext.rfl' _); obtain ⟨⟨t0, t1, t2, t3, t4, t5⟩, g0, g1, g2, g3, g4, g5⟩ := six HT.out (Ext.rfl' _); have hw2 : Ext w w2 := (by (repeat (first | exact Ext.rfl' _ | assumption | refine Ext.dr ?_ | refine Ext.drN ?_ _ | refine Ext.al ?_ _ | refine Ext.st ?_ (by simp) _ | refine Ext.tr ?_ (by assumption)))); clear hq2 hx2)
    obtain ⟨W3, hW3⟩ : ∃ W3, W3 = w2.setCell ⟨w.heap.size + 1, 0, none⟩ (.int .i64 2) := ⟨_, rfl⟩
    rw [← hW3]
    have hne : w.heap.size ≠ w.heap.size + 1 := by omega
    have hge : w.heap.size ≤ w.heap.size + 1 := by omega
    have HB3 := Lib.hid ((show W3.heap[w.heap.size]? = w2.heap[w.heap.size]? by rw [hW3, Below.heap_setCell _ _ _ _ hne]).trans HB.out)
    have hw3 : Ext w W3 := by rw [hW3]; exact hw2.st hge _
    have HT3 := Lib.hid (show W3.heap[w.heap.size + 1]? = some (.cells #[.int .i64 2, .string ⟨#[]⟩, .int .i64 (-1), .string ⟨#[]⟩, .string ⟨#[]⟩, .bool false] 68 (0, 0)) by rw [hW3]; simp [World.setCell, Array.getElem?_modify, HT.out])
    clear hW3 t0 t1 t2 t3 t4 t5 g0 g1 g2 g3 g4 g5 r0 r1 r2 r3 r4 r5 f0 f1 f2 f3 f4 f5 HB HT hw2
    go_loopw [11] (fun i wr => ∃ k : Nat, i = .int .i64 (k : Nat) ∧ 7 ≤ k ∧ k ≤ l.length ∧ ((l.take k).drop 7).all autB = true ∧ W3 = wr) (fun i _ => l.length - (intOf i).toNat)
    case atStart => exact ⟨7, rfl, Nat.le_refl _, h7, by rw [List.drop_eq_nil_of_le (by rw [List.length_take]; omega)]; rfl, rfl⟩
    case round =>
      obtain ⟨k, rfl, hk7, hk, hall, rfl⟩ := hrel
      have HA := Lib.hid hall
      clear hall
      by_cases hc : k < l.length ∧ (∀ h : k < l.length, autB l[k] = true)
      · have hlt := hc.1
        have hp := hc.2 hlt
        have HS := Lib.hid (show ((l.take (k + 1)).drop 7).all autB = true by rw [all_td l _ 7 k hk7 hlt, HA.out, hp]; rfl)
        have hki : IntKind.i64.wrap ((k : Int) + 1) = (k : Int) + 1 := by rw [IntKind.wrap_i64]; omega
        unfold autB at hp
        simp only [Bool.not_eq_true', Bool.or_eq_false_iff, beq_eq_false_iff_ne] at hp
        have e47 : ((l[k].toNat : Int) != 47) = true := by
          rw [bne_iff_ne]; intro h; exact hp.1 (UInt8.toNat_inj.1 (by show l[k].toNat = 47; omega))
        have e63 : ((l[k].toNat : Int) != 63) = true := by
          rw [bne_iff_ne]; intro h; exact hp.2 (UInt8.toNat_inj.1 (by show l[k].toNat = 63; omega))
        clear hc hp
        go_wp2
        go_roundw
        case rel => exact ⟨k + 1, by go_num, by omega, by omega, HS.out, by trivial⟩
        case measure => simp [intOf]; omega
      · by_cases hlt : k < l.length
        · have hf : autB l[k] = false := by
            cases hv : autB l[k]
            · rfl
            · exact absurd ⟨hlt, fun _ => hv⟩ hc
          have HS := Lib.hid hf
          by_cases h47 : l[k] = 47
          · have e47 : ((l[k].toNat : Int) != 47) = false := by rw [h47]; rfl
            clear hf h47
            have i1 : (7 : Int) ≤ (k : Int) := by omega
            have i2 : (k : Int) ≤ (l.length : Int) := by omega
            have hRk : R = if (hostL ((l.take k).drop 7)).2.2 = 0 then finT 2 (hostL ((l.take k).drop 7)).1 (hostL ((l.take k).drop 7)).2.1 (l.drop k) else badT := by
              obtain ⟨a1, a2, a3⟩ := auth_at k hk7 hk HA.out (fun _ => HS.out)
              rw [HR.out, a1, a2, a3]
            have CH := fun w => urHost_c ((l.take k).drop 7) (by rw [List.length_drop, List.length_take]; omega) w
            have D := fun w => urlocal_c (l.drop k) (by rw [List.length_drop]; omega) w
            unfold hostV at CH
            obtain ⟨H, hH⟩ : ∃ H, H = (hostL ((l.take k).drop 7)).1 := ⟨_, rfl⟩
            obtain ⟨p, hp⟩ : ∃ p, p = (hostL ((l.take k).drop 7)).2.1 := ⟨_, rfl⟩
            obtain ⟨e, he⟩ : ∃ e, e = (hostL ((l.take k).drop 7)).2.2 := ⟨_, rfl⟩
            rw [← hH, ← hp, ← he] at CH hRk
            have CH := Lib.hid CH
            clear hH hp he
            clear hc
            by_cases c1 : e = 0
            · subst c1
              rw [if_pos rfl] at hRk
              unfold finT at hRk
              rcases hL : localL (l.drop k) with _ | ⟨pp, q, a⟩
              · rw [hL] at hRk D
                have HN := Lib.hid hRk
                unfold locV at D
                have D := Lib.hid D
                clear hRk hL HR HA
                go_wp2_with (first | (go_at_call 83; refine (CH.out _).mono ?_; rintro e w4 ⟨rfl, hx4⟩; have HB4 := Lib.hid ((hx4.block w.heap.size (Array.getElem?_eq_some_iff.1 HB3.out).1).trans HB3.out); have HT4 := Lib.hid ((hx4.block (w.heap.size + 1) (Array.getElem?_eq_some_iff.1 HT3.out).1).trans HT3.out); obtain ⟨⟨r0, r1, r2, r3, r4, r5⟩, f0, f1, f2, f3, f4, f5⟩ := six HB4.out (Ext.rfl' _); obtain ⟨⟨t0, t1, t2, t3, t4, t5⟩, g0, g1, g2, g3, g4, g5⟩ := six HT4.out (Ext.rfl' _); have hw4 : Ext w w4 := (Ext.tr hw3 hx4); clear hx4) | (go_at_call 85; refine (D.out _).mono ?_; rintro e w1 ⟨rfl, hx5⟩; have hne : w.heap.size ≠ w.heap.size + 1 := (by omega); have hge : w.heap.size ≤ w.heap.size + 1 := (by omega); have hw5 : Ext w w1 := Ext.tr ((hw4.st hge _).st hge _) hx5; have HB5 := Lib.hid ((hx5.block w.heap.size (by simpa using (Array.getElem?_eq_some_iff.1 HB4.out).1)).trans ((Below.heap_setCell _ _ _ _ hne).trans ((Below.heap_setCell _ _ _ _ hne).trans HB4.out))); have HT5 := Lib.hid ((hx5.block (w.heap.size + 1) (by simpa using (Array.getElem?_eq_some_iff.1 HT4.out).1)).trans (show _ = some (.cells #[.int .i64 2, .string (str H), .int .i64 p, .string ⟨#[]⟩, .string ⟨#[]⟩, .bool false] 68 (0, 0)) by simp [World.setCell, Array.getElem?_modify, HT4.out])); clear t0 t1 t2 t3 t4 t5 g0 g1 g2 g3 g4 g5 r0 r1 r2 r3 r4 r5 f0 f1 f2 f3 f4 f5; obtain ⟨⟨r0, r1, r2, r3, r4, r5⟩, f0, f1, f2, f3, f4, f5⟩ := six HB5.out (Ext.rfl' _); obtain ⟨⟨t0, t1, t2, t3, t4, t5⟩, g0, g1, g2, g3, g4, g5⟩ := six HT5.out (Ext.rfl' _); clear hx5))
                have HB := HB5
                have hw1 := hw5
                clear r0 r1 r2 r3 r4 r5 f0 f1 f2 f3 f4 f5
                have hx9 : Ext w _ := ext6 hw1 (.int .i64 0) (.string (str [])) (.int .i64 0) (.string (str [])) (.string (str [])) (.bool false)
                have hp9 := put6 HB.out (.int .i64 0) (.string (str [])) (.int .i64 0) (.string (str [])) (.string (str [])) (.bool false)
                obtain ⟨W9, hW9⟩ : ∃ W9, W9 = ((((((w1.setCell ⟨w.heap.size, 0, none⟩ (.int .i64 0)).setCell ⟨w.heap.size, 1, none⟩ (.string (str []))).setCell ⟨w.heap.size, 2, none⟩ (.int .i64 0)).setCell ⟨w.heap.size, 3, none⟩ (.string (str []))).setCell ⟨w.heap.size, 4, none⟩ (.string (str []))).setCell ⟨w.heap.size, 5, none⟩ (.bool false)) := ⟨_, rfl⟩
                rw [← hW9] at hx9 hp9
                try simp only [show str ([] : List UInt8) = ⟨#[]⟩ from rfl, show str ([47] : List UInt8) = ⟨#[47]⟩ from rfl] at hW9
                rw [← hW9]
                clear hW9
                obtain ⟨⟨r0, r1, r2, r3, r4, r5⟩, _⟩ := six hp9 (Ext.rfl' _)
                exact bodyPost_ret (v := tgtV ((0, [], 0, [], [], false), 40)) (by simp [results, Tryd.results36, go_sem, tgtV, r0, r1, r2, r3, r4, r5]) rfl ⟨ret_val (by rw [HN.out]; try rfl), hx9⟩
              · rw [hL] at hRk D
                unfold locV at D
                dsimp only at hRk
                clear hL HR HA
                by_cases c2 : pp = []
                · rw [if_pos c2] at hRk
                  subst c2
                  dsimp only at D
                  rw [show str ([] : List UInt8) = ⟨#[]⟩ from rfl] at D
                  have D := Lib.hid D
                  have HN := Lib.hid hRk
                  clear hRk
                  go_wp2_with (first | (go_at_call 83; refine (CH.out _).mono ?_; rintro e w4 ⟨rfl, hx4⟩; have HB4 := Lib.hid ((hx4.block w.heap.size (Array.getElem?_eq_some_iff.1 HB3.out).1).trans HB3.out); have HT4 := Lib.hid ((hx4.block (w.heap.size + 1) (Array.getElem?_eq_some_iff.1 HT3.out).1).trans HT3.out); obtain ⟨⟨r0, r1, r2, r3, r4, r5⟩, f0, f1, f2, f3, f4, f5⟩ := six HB4.out (Ext.rfl' _); obtain ⟨⟨t0, t1, t2, t3, t4, t5⟩, g0, g1, g2, g3, g4, g5⟩ := six HT4.out (Ext.rfl' _); have hw4 : Ext w w4 := (Ext.tr hw3 hx4); clear hx4) | (go_at_call 85; refine (D.out _).mono ?_; rintro e w5 ⟨rfl, hx5⟩; have hne : w.heap.size ≠ w.heap.size + 1 := (by omega); have hge : w.heap.size ≤ w.heap.size + 1 := (by omega); have hw5 : Ext w w5 := Ext.tr ((hw4.st hge _).st hge _) hx5; have HB5 := Lib.hid ((hx5.block w.heap.size (by simpa using (Array.getElem?_eq_some_iff.1 HB4.out).1)).trans ((Below.heap_setCell _ _ _ _ hne).trans ((Below.heap_setCell _ _ _ _ hne).trans HB4.out))); have HT5 := Lib.hid ((hx5.block (w.heap.size + 1) (by simpa using (Array.getElem?_eq_some_iff.1 HT4.out).1)).trans (show _ = some (.cells #[.int .i64 2, .string (str H), .int .i64 p, .string ⟨#[]⟩, .string ⟨#[]⟩, .bool false] 68 (0, 0)) by simp [World.setCell, Array.getElem?_modify, HT4.out])); clear t0 t1 t2 t3 t4 t5 g0 g1 g2 g3 g4 g5 r0 r1 r2 r3 r4 r5 f0 f1 f2 f3 f4 f5; obtain ⟨⟨r0, r1, r2, r3, r4, r5⟩, f0, f1, f2, f3, f4, f5⟩ := six HB5.out (Ext.rfl' _); obtain ⟨⟨t0, t1, t2, t3, t4, t5⟩, g0, g1, g2, g3, g4, g5⟩ := six HT5.out (Ext.rfl' _); clear hx5))
                  obtain ⟨w1, hW1⟩ : ∃ w1, w1 = ((w5.setCell ⟨w.heap.size + 1, 3, none⟩ (.string (str [47]))).setCell ⟨w.heap.size + 1, 4, none⟩ (.string (str q))).setCell ⟨w.heap.size + 1, 5, none⟩ (.bool a) := ⟨_, rfl⟩
                  try simp only [show str ([47] : List UInt8) = ⟨#[47]⟩ from rfl] at hW1
                  rw [← hW1]
                  have hne : w.heap.size ≠ w.heap.size + 1 := by omega
                  have hge : w.heap.size ≤ w.heap.size + 1 := by omega
                  have HB := Lib.hid ((show w1.heap[w.heap.size]? = w5.heap[w.heap.size]? by rw [hW1, Below.heap_setCell _ _ _ _ hne, Below.heap_setCell _ _ _ _ hne, Below.heap_setCell _ _ _ _ hne]).trans HB5.out)
                  have hw1 : Ext w w1 := by rw [hW1]; exact ((hw5.st hge _).st hge _).st hge _
                  clear hW1 t0 t1 t2 t3 t4 t5 g0 g1 g2 g3 g4 g5
                  clear r0 r1 r2 r3 r4 r5 f0 f1 f2 f3 f4 f5
                  have hx9 : Ext w _ := ext6 hw1 (.int .i64 2) (.string (str H)) (.int .i64 p) (.string (str [47])) (.string (str q)) (.bool a)
                  have hp9 := put6 HB.out (.int .i64 2) (.string (str H)) (.int .i64 p) (.string (str [47])) (.string (str q)) (.bool a)
                  obtain ⟨W9, hW9⟩ : ∃ W9, W9 = ((((((w1.setCell ⟨w.heap.size, 0, none⟩ (.int .i64 2)).setCell ⟨w.heap.size, 1, none⟩ (.string (str H))).setCell ⟨w.heap.size, 2, none⟩ (.int .i64 p)).setCell ⟨w.heap.size, 3, none⟩ (.string (str [47]))).setCell ⟨w.heap.size, 4, none⟩ (.string (str q))).setCell ⟨w.heap.size, 5, none⟩ (.bool a)) := ⟨_, rfl⟩
                  rw [← hW9] at hx9 hp9
                  try simp only [show str ([] : List UInt8) = ⟨#[]⟩ from rfl, show str ([47] : List UInt8) = ⟨#[47]⟩ from rfl] at hW9
                  rw [← hW9]
                  clear hW9
                  obtain ⟨⟨r0, r1, r2, r3, r4, r5⟩, _⟩ := six hp9 (Ext.rfl' _)
                  exact bodyPost_ret (v := tgtV ((2, H, p, [47], q, a), 0)) (by simp [results, Tryd.results36, go_sem, tgtV, r0, r1, r2, r3, r4, r5]) rfl ⟨ret_val (by rw [HN.out]; try rfl), hx9⟩
                · rw [if_neg c2] at hRk
                  have D := Lib.hid D
                  have HN := Lib.hid hRk
                  have p2 : pp.isEmpty = false := by rw [List.isEmpty_eq_false_iff]; exact c2
                  have p3 : (str pp).toList.isEmpty = false := by rw [Lib.toList_data]; exact p2
                  clear hRk
                  go_wp2_with (first | (go_at_call 83; refine (CH.out _).mono ?_; rintro e w4 ⟨rfl, hx4⟩; have HB4 := Lib.hid ((hx4.block w.heap.size (Array.getElem?_eq_some_iff.1 HB3.out).1).trans HB3.out); have HT4 := Lib.hid ((hx4.block (w.heap.size + 1) (Array.getElem?_eq_some_iff.1 HT3.out).1).trans HT3.out); obtain ⟨⟨r0, r1, r2, r3, r4, r5⟩, f0, f1, f2, f3, f4, f5⟩ := six HB4.out (Ext.rfl' _); obtain ⟨⟨t0, t1, t2, t3, t4, t5⟩, g0, g1, g2, g3, g4, g5⟩ := six HT4.out (Ext.rfl' _); have hw4 : Ext w w4 := (Ext.tr hw3 hx4); clear hx4) | (go_at_call 85; refine (D.out _).mono ?_; rintro e w5 ⟨rfl, hx5⟩; have hne : w.heap.size ≠ w.heap.size + 1 := (by omega); have hge : w.heap.size ≤ w.heap.size + 1 := (by omega); have hw5 : Ext w w5 := Ext.tr ((hw4.st hge _).st hge _) hx5; have HB5 := Lib.hid ((hx5.block w.heap.size (by simpa using (Array.getElem?_eq_some_iff.1 HB4.out).1)).trans ((Below.heap_setCell _ _ _ _ hne).trans ((Below.heap_setCell _ _ _ _ hne).trans HB4.out))); have HT5 := Lib.hid ((hx5.block (w.heap.size + 1) (by simpa using (Array.getElem?_eq_some_iff.1 HT4.out).1)).trans (show _ = some (.cells #[.int .i64 2, .string (str H), .int .i64 p, .string ⟨#[]⟩, .string ⟨#[]⟩, .bool false] 68 (0, 0)) by simp [World.setCell, Array.getElem?_modify, HT4.out])); clear t0 t1 t2 t3 t4 t5 g0 g1 g2 g3 g4 g5 r0 r1 r2 r3 r4 r5 f0 f1 f2 f3 f4 f5; obtain ⟨⟨r0, r1, r2, r3, r4, r5⟩, f0, f1, f2, f3, f4, f5⟩ := six HB5.out (Ext.rfl' _); obtain ⟨⟨t0, t1, t2, t3, t4, t5⟩, g0, g1, g2, g3, g4, g5⟩ := six HT5.out (Ext.rfl' _); clear hx5))
                  obtain ⟨w1, hW1⟩ : ∃ w1, w1 = ((w5.setCell ⟨w.heap.size + 1, 3, none⟩ (.string (str pp))).setCell ⟨w.heap.size + 1, 4, none⟩ (.string (str q))).setCell ⟨w.heap.size + 1, 5, none⟩ (.bool a) := ⟨_, rfl⟩
                  try simp only [show str ([47] : List UInt8) = ⟨#[47]⟩ from rfl] at hW1
                  rw [← hW1]
                  have hne : w.heap.size ≠ w.heap.size + 1 := by omega
                  have hge : w.heap.size ≤ w.heap.size + 1 := by omega
                  have HB := Lib.hid ((show w1.heap[w.heap.size]? = w5.heap[w.heap.size]? by rw [hW1, Below.heap_setCell _ _ _ _ hne, Below.heap_setCell _ _ _ _ hne, Below.heap_setCell _ _ _ _ hne]).trans HB5.out)
                  have hw1 : Ext w w1 := by rw [hW1]; exact ((hw5.st hge _).st hge _).st hge _
                  clear hW1 t0 t1 t2 t3 t4 t5 g0 g1 g2 g3 g4 g5
                  clear r0 r1 r2 r3 r4 r5 f0 f1 f2 f3 f4 f5
                  have hx9 : Ext w _ := ext6 hw1 (.int .i64 2) (.string (str H)) (.int .i64 p) (.string (str pp)) (.string (str q)) (.bool a)
                  have hp9 := put6 HB.out (.int .i64 2) (.string (str H)) (.int .i64 p) (.string (str pp)) (.string (str q)) (.bool a)
                  obtain ⟨W9, hW9⟩ : ∃ W9, W9 = ((((((w1.setCell ⟨w.heap.size, 0, none⟩ (.int .i64 2)).setCell ⟨w.heap.size, 1, none⟩ (.string (str H))).setCell ⟨w.heap.size, 2, none⟩ (.int .i64 p)).setCell ⟨w.heap.size, 3, none⟩ (.string (str pp))).setCell ⟨w.heap.size, 4, none⟩ (.string (str q))).setCell ⟨w.heap.size, 5, none⟩ (.bool a)) := ⟨_, rfl⟩
                  rw [← hW9] at hx9 hp9
                  try simp only [show str ([] : List UInt8) = ⟨#[]⟩ from rfl, show str ([47] : List UInt8) = ⟨#[47]⟩ from rfl] at hW9
                  rw [← hW9]
                  clear hW9
                  obtain ⟨⟨r0, r1, r2, r3, r4, r5⟩, _⟩ := six hp9 (Ext.rfl' _)
                  exact bodyPost_ret (v := tgtV ((2, H, p, pp, q, a), 0)) (by simp [results, Tryd.results36, go_sem, tgtV, r0, r1, r2, r3, r4, r5]) rfl ⟨ret_val (by rw [HN.out]; try rfl), hx9⟩
            · have d2 : (e != 0) = true := by rw [bne_iff_ne]; exact c1
              rw [if_neg c1] at hRk
              have HN := Lib.hid hRk
              clear hRk c1 HR HA
              go_wp2_with (go_at_call 83; refine (CH.out _).mono ?_; rintro e w1 ⟨rfl, hx4⟩; have HB4 := Lib.hid ((hx4.block w.heap.size (Array.getElem?_eq_some_iff.1 HB3.out).1).trans HB3.out); have HT4 := Lib.hid ((hx4.block (w.heap.size + 1) (Array.getElem?_eq_some_iff.1 HT3.out).1).trans HT3.out); obtain ⟨⟨r0, r1, r2, r3, r4, r5⟩, f0, f1, f2, f3, f4, f5⟩ := six HB4.out (Ext.rfl' _); obtain ⟨⟨t0, t1, t2, t3, t4, t5⟩, g0, g1, g2, g3, g4, g5⟩ := six HT4.out (Ext.rfl' _); have hw4 : Ext w w1 := (Ext.tr hw3 hx4); clear hx4)
              have HB := HB4
              have hw1 := hw4
              clear r0 r1 r2 r3 r4 r5 f0 f1 f2 f3 f4 f5
              have hx9 : Ext w _ := ext6 hw1 (.int .i64 0) (.string (str [])) (.int .i64 0) (.string (str [])) (.string (str [])) (.bool false)
              have hp9 := put6 HB.out (.int .i64 0) (.string (str [])) (.int .i64 0) (.string (str [])) (.string (str [])) (.bool false)
              obtain ⟨W9, hW9⟩ : ∃ W9, W9 = ((((((w1.setCell ⟨w.heap.size, 0, none⟩ (.int .i64 0)).setCell ⟨w.heap.size, 1, none⟩ (.string (str []))).setCell ⟨w.heap.size, 2, none⟩ (.int .i64 0)).setCell ⟨w.heap.size, 3, none⟩ (.string (str []))).setCell ⟨w.heap.size, 4, none⟩ (.string (str []))).setCell ⟨w.heap.size, 5, none⟩ (.bool false)) := ⟨_, rfl⟩
              rw [← hW9] at hx9 hp9
              try simp only [show str ([] : List UInt8) = ⟨#[]⟩ from rfl, show str ([47] : List UInt8) = ⟨#[47]⟩ from rfl] at hW9
              rw [← hW9]
              clear hW9
              obtain ⟨⟨r0, r1, r2, r3, r4, r5⟩, _⟩ := six hp9 (Ext.rfl' _)
              exact bodyPost_ret (v := tgtV ((0, [], 0, [], [], false), 40)) (by simp [results, Tryd.results36, go_sem, tgtV, r0, r1, r2, r3, r4, r5]) rfl ⟨ret_val (by rw [HN.out]; try rfl), hx9⟩
          · have h63 : l[k] = 63 := by
              unfold autB at hf
              simp only [Bool.not_eq_false', Bool.or_eq_true, beq_iff_eq] at hf
              exact hf.resolve_left h47
            have e63 : ((l[k].toNat : Int) != 63) = false := by rw [h63]; rfl
            have e47 : ((l[k].toNat : Int) != 47) = true := by rw [h63]; rfl
            clear hf h47 h63
            have i1 : (7 : Int) ≤ (k : Int) := by omega
            have i2 : (k : Int) ≤ (l.length : Int) := by omega
            have hRk : R = if (hostL ((l.take k).drop 7)).2.2 = 0 then finT 2 (hostL ((l.take k).drop 7)).1 (hostL ((l.take k).drop 7)).2.1 (l.drop k) else badT := by
              obtain ⟨a1, a2, a3⟩ := auth_at k hk7 hk HA.out (fun _ => HS.out)
              rw [HR.out, a1, a2, a3]
            have CH := fun w => urHost_c ((l.take k).drop 7) (by rw [List.length_drop, List.length_take]; omega) w
            have D := fun w => urlocal_c (l.drop k) (by rw [List.length_drop]; omega) w
            unfold hostV at CH
            obtain ⟨H, hH⟩ : ∃ H, H = (hostL ((l.take k).drop 7)).1 := ⟨_, rfl⟩
            obtain ⟨p, hp⟩ : ∃ p, p = (hostL ((l.take k).drop 7)).2.1 := ⟨_, rfl⟩
            obtain ⟨e, he⟩ : ∃ e, e = (hostL ((l.take k).drop 7)).2.2 := ⟨_, rfl⟩
            rw [← hH, ← hp, ← he] at CH hRk
            have CH := Lib.hid CH
            clear hH hp he
            clear hc
            by_cases c1 : e = 0
            · subst c1
              rw [if_pos rfl] at hRk
              unfold finT at hRk
              rcases hL : localL (l.drop k) with _ | ⟨pp, q, a⟩
              · rw [hL] at hRk D
                have HN := Lib.hid hRk
                unfold locV at D
                have D := Lib.hid D
                clear hRk hL HR HA
                go_wp2_with (first | (go_at_call 83; refine (CH.out _).mono ?_; rintro e w4 ⟨rfl, hx4⟩; have HB4 := Lib.hid ((hx4.block w.heap.size (Array.getElem?_eq_some_iff.1 HB3.out).1).trans HB3.out); have HT4 := Lib.hid ((hx4.block (w.heap.size + 1) (Array.getElem?_eq_some_iff.1 HT3.out).1).trans HT3.out); obtain ⟨⟨r0, r1, r2, r3, r4, r5⟩, f0, f1, f2, f3, f4, f5⟩ := six HB4.out (Ext.rfl' _); obtain ⟨⟨t0, t1, t2, t3, t4, t5⟩, g0, g1, g2, g3, g4, g5⟩ := six HT4.out (Ext.rfl' _); have hw4 : Ext w w4 := (Ext.tr hw3 hx4); clear hx4) | (go_at_call 85; refine (D.out _).mono ?_; rintro e w1 ⟨rfl, hx5⟩; have hne : w.heap.size ≠ w.heap.size + 1 := (by omega); have hge : w.heap.size ≤ w.heap.size + 1 := (by omega); have hw5 : Ext w w1 := Ext.tr ((hw4.st hge _).st hge _) hx5; have HB5 := Lib.hid ((hx5.block w.heap.size (by simpa using (Array.getElem?_eq_some_iff.1 HB4.out).1)).trans ((Below.heap_setCell _ _ _ _ hne).trans ((Below.heap_setCell _ _ _ _ hne).trans HB4.out))); have HT5 := Lib.hid ((hx5.block (w.heap.size + 1) (by simpa using (Array.getElem?_eq_some_iff.1 HT4.out).1)).trans (show _ = some (.cells #[.int .i64 2, .string (str H), .int .i64 p, .string ⟨#[]⟩, .string ⟨#[]⟩, .bool false] 68 (0, 0)) by simp [World.setCell, Array.getElem?_modify, HT4.out])); clear t0 t1 t2 t3 t4 t5 g0 g1 g2 g3 g4 g5 r0 r1 r2 r3 r4 r5 f0 f1 f2 f3 f4 f5; obtain ⟨⟨r0, r1, r2, r3, r4, r5⟩, f0, f1, f2, f3, f4, f5⟩ := six HB5.out (Ext.rfl' _); obtain ⟨⟨t0, t1, t2, t3, t4, t5⟩, g0, g1, g2, g3, g4, g5⟩ := six HT5.out (Ext.rfl' _); clear hx5))
                have HB := HB5
                have hw1 := hw5
                clear r0 r1 r2 r3 r4 r5 f0 f1 f2 f3 f4 f5
                have hx9 : Ext w _ := ext6 hw1 (.int .i64 0) (.string (str [])) (.int .i64 0) (.string (str [])) (.string (str [])) (.bool false)
                have hp9 := put6 HB.out (.int .i64 0) (.string (str [])) (.int .i64 0) (.string (str [])) (.string (str [])) (.bool false)
                obtain ⟨W9, hW9⟩ : ∃ W9, W9 = ((((((w1.setCell ⟨w.heap.size, 0, none⟩ (.int .i64 0)).setCell ⟨w.heap.size, 1, none⟩ (.string (str []))).setCell ⟨w.heap.size, 2, none⟩ (.int .i64 0)).setCell ⟨w.heap.size, 3, none⟩ (.string (str []))).setCell ⟨w.heap.size, 4, none⟩ (.string (str []))).setCell ⟨w.heap.size, 5, none⟩ (.bool false)) := ⟨_, rfl⟩
                rw [← hW9] at hx9 hp9
                try simp only [show str ([] : List UInt8) = ⟨#[]⟩ from rfl, show str ([47] : List UInt8) = ⟨#[47]⟩ from rfl] at hW9
                rw [← hW9]
                clear hW9
                obtain ⟨⟨r0, r1, r2, r3, r4, r5⟩, _⟩ := six hp9 (Ext.rfl' _)
                exact bodyPost_ret (v := tgtV ((0, [], 0, [], [], false), 40)) (by simp [results, Tryd.results36, go_sem, tgtV, r0, r1, r2, r3, r4, r5]) rfl ⟨ret_val (by rw [HN.out]; try rfl), hx9⟩
              · rw [hL] at hRk D
                unfold locV at D
                dsimp only at hRk
                clear hL HR HA
                by_cases c2 : pp = []
                · rw [if_pos c2] at hRk
                  subst c2
                  dsimp only at D
                  rw [show str ([] : List UInt8) = ⟨#[]⟩ from rfl] at D
                  have D := Lib.hid D
                  have HN := Lib.hid hRk
                  clear hRk
                  go_wp2_with (first | (go_at_call 83; refine (CH.out _).mono ?_; rintro e w4 ⟨rfl, hx4⟩; have HB4 := Lib.hid ((hx4.block w.heap.size (Array.getElem?_eq_some_iff.1 HB3.out).1).trans HB3.out); have HT4 := Lib.hid ((hx4.block (w.heap.size + 1) (Array.getElem?_eq_some_iff.1 HT3.out).1).trans HT3.out); obtain ⟨⟨r0, r1, r2, r3, r4, r5⟩, f0, f1, f2, f3, f4, f5⟩ := six HB4.out (Ext.rfl' _); obtain ⟨⟨t0, t1, t2, t3, t4, t5⟩, g0, g1, g2, g3, g4, g5⟩ := six HT4.out (Ext.rfl' _); have hw4 : Ext w w4 := (Ext.tr hw3 hx4); clear hx4) | (go_at_call 85; refine (D.out _).mono ?_; rintro e w5 ⟨rfl, hx5⟩; have hne : w.heap.size ≠ w.heap.size + 1 := (by omega); have hge : w.heap.size ≤ w.heap.size + 1 := (by omega); have hw5 : Ext w w5 := Ext.tr ((hw4.st hge _).st hge _) hx5; have HB5 := Lib.hid ((hx5.block w.heap.size (by simpa using (Array.getElem?_eq_some_iff.1 HB4.out).1)).trans ((Below.heap_setCell _ _ _ _ hne).trans ((Below.heap_setCell _ _ _ _ hne).trans HB4.out))); have HT5 := Lib.hid ((hx5.block (w.heap.size + 1) (by simpa using (Array.getElem?_eq_some_iff.1 HT4.out).1)).trans (show _ = some (.cells #[.int .i64 2, .string (str H), .int .i64 p, .string ⟨#[]⟩, .string ⟨#[]⟩, .bool false] 68 (0, 0)) by simp [World.setCell, Array.getElem?_modify, HT4.out])); clear t0 t1 t2 t3 t4 t5 g0 g1 g2 g3 g4 g5 r0 r1 r2 r3 r4 r5 f0 f1 f2 f3 f4 f5; obtain ⟨⟨r0, r1, r2, r3, r4, r5⟩, f0, f1, f2, f3, f4, f5⟩ := six HB5.out (Ext.rfl' _); obtain ⟨⟨t0, t1, t2, t3, t4, t5⟩, g0, g1, g2, g3, g4, g5⟩ := six HT5.out (Ext.rfl' _); clear hx5))
                  obtain ⟨w1, hW1⟩ : ∃ w1, w1 = ((w5.setCell ⟨w.heap.size + 1, 3, none⟩ (.string (str [47]))).setCell ⟨w.heap.size + 1, 4, none⟩ (.string (str q))).setCell ⟨w.heap.size + 1, 5, none⟩ (.bool a) := ⟨_, rfl⟩
                  try simp only [show str ([47] : List UInt8) = ⟨#[47]⟩ from rfl] at hW1
                  rw [← hW1]
                  have hne : w.heap.size ≠ w.heap.size + 1 := by omega
                  have hge : w.heap.size ≤ w.heap.size + 1 := by omega
                  have HB := Lib.hid ((show w1.heap[w.heap.size]? = w5.heap[w.heap.size]? by rw [hW1, Below.heap_setCell _ _ _ _ hne, Below.heap_setCell _ _ _ _ hne, Below.heap_setCell _ _ _ _ hne]).trans HB5.out)
                  have hw1 : Ext w w1 := by rw [hW1]; exact ((hw5.st hge _).st hge _).st hge _
                  clear hW1 t0 t1 t2 t3 t4 t5 g0 g1 g2 g3 g4 g5
                  clear r0 r1 r2 r3 r4 r5 f0 f1 f2 f3 f4 f5
                  have hx9 : Ext w _ := ext6 hw1 (.int .i64 2) (.string (str H)) (.int .i64 p) (.string (str [47])) (.string (str q)) (.bool a)
                  have hp9 := put6 HB.out (.int .i64 2) (.string (str H)) (.int .i64 p) (.string (str [47])) (.string (str q)) (.bool a)
                  obtain ⟨W9, hW9⟩ : ∃ W9, W9 = ((((((w1.setCell ⟨w.heap.size, 0, none⟩ (.int .i64 2)).setCell ⟨w.heap.size, 1, none⟩ (.string (str H))).setCell ⟨w.heap.size, 2, none⟩ (.int .i64 p)).setCell ⟨w.heap.size, 3, none⟩ (.string (str [47]))).setCell ⟨w.heap.size, 4, none⟩ (.string (str q))).setCell ⟨w.heap.size, 5, none⟩ (.bool a)) := ⟨_, rfl⟩
                  rw [← hW9] at hx9 hp9
                  try simp only [show str ([] : List UInt8) = ⟨#[]⟩ from rfl, show str ([47] : List UInt8) = ⟨#[47]⟩ from rfl] at hW9
                  rw [← hW9]
                  clear hW9
                  obtain ⟨⟨r0, r1, r2, r3, r4, r5⟩, _⟩ := six hp9 (Ext.rfl' _)
                  exact bodyPost_ret (v := tgtV ((2, H, p, [47], q, a), 0)) (by simp [results, Tryd.results36, go_sem, tgtV, r0, r1, r2, r3, r4, r5]) rfl ⟨ret_val (by rw [HN.out]; try rfl), hx9⟩
                · rw [if_neg c2] at hRk
                  have D := Lib.hid D
                  have HN := Lib.hid hRk
                  have p2 : pp.isEmpty = false := by rw [List.isEmpty_eq_false_iff]; exact c2
                  have p3 : (str pp).toList.isEmpty = false := by rw [Lib.toList_data]; exact p2
                  clear hRk
                  go_wp2_with (first | (go_at_call 83; refine (CH.out _).mono ?_; rintro e w4 ⟨rfl, hx4⟩; have HB4 := Lib.hid ((hx4.block w.heap.size (Array.getElem?_eq_some_iff.1 HB3.out).1).trans HB3.out); have HT4 := Lib.hid ((hx4.block (w.heap.size + 1) (Array.getElem?_eq_some_iff.1 HT3.out).1).trans HT3.out); obtain ⟨⟨r0, r1, r2, r3, r4, r5⟩, f0, f1, f2, f3, f4, f5⟩ := six HB4.out (Ext.rfl' _); obtain ⟨⟨t0, t1, t2, t3, t4, t5⟩, g0, g1, g2, g3, g4, g5⟩ := six HT4.out (Ext.rfl' _); have hw4 : Ext w w4 := (Ext.tr hw3 hx4); clear hx4) | (go_at_call 85; refine (D.out _).mono ?_; rintro e w5 ⟨rfl, hx5⟩; have hne : w.heap.size ≠ w.heap.size + 1 := (by omega); have hge : w.heap.size ≤ w.heap.size + 1 := (by omega); have hw5 : Ext w w5 := Ext.tr ((hw4.st hge _).st hge _) hx5; have HB5 := Lib.hid ((hx5.block w.heap.size (by simpa using (Array.getElem?_eq_some_iff.1 HB4.out).1)).trans ((Below.heap_setCell _ _ _ _ hne).trans ((Below.heap_setCell _ _ _ _ hne).trans HB4.out))); have HT5 := Lib.hid ((hx5.block (w.heap.size + 1) (by simpa using (Array.getElem?_eq_some_iff.1 HT4.out).1)).trans (show _ = some (.cells #[.int .i64 2, .string (str H), .int .i64 p, .string ⟨#[]⟩, .string ⟨#[]⟩, .bool false] 68 (0, 0)) by simp [World.setCell, Array.getElem?_modify, HT4.out])); clear t0 t1 t2 t3 t4 t5 g0 g1 g2 g3 g4 g5 r0 r1 r2 r3 r4 r5 f0 f1 f2 f3 f4 f5; obtain ⟨⟨r0, r1, r2, r3, r4, r5⟩, f0, f1, f2, f3, f4, f5⟩ := six HB5.out (Ext.rfl' _); obtain ⟨⟨t0, t1, t2, t3, t4, t5⟩, g0, g1, g2, g3, g4, g5⟩ := six HT5.out (Ext.rfl' _); clear hx5))
                  obtain ⟨w1, hW1⟩ : ∃ w1, w1 = ((w5.setCell ⟨w.heap.size + 1, 3, none⟩ (.string (str pp))).setCell ⟨w.heap.size + 1, 4, none⟩ (.string (str q))).setCell ⟨w.heap.size + 1, 5, none⟩ (.bool a) := ⟨_, rfl⟩
                  try simp only [show str ([47] : List UInt8) = ⟨#[47]⟩ from rfl] at hW1
                  rw [← hW1]
                  have hne : w.heap.size ≠ w.heap.size + 1 := by omega
                  have hge : w.heap.size ≤ w.heap.size + 1 := by omega
                  have HB := Lib.hid ((show w1.heap[w.heap.size]? = w5.heap[w.heap.size]? by rw [hW1, Below.heap_setCell _ _ _ _ hne, Below.heap_setCell _ _ _ _ hne, Below.heap_setCell _ _ _ _ hne]).trans HB5.out)
                  have hw1 : Ext w w1 := by rw [hW1]; exact ((hw5.st hge _).st hge _).st hge _
                  clear hW1 t0 t1 t2 t3 t4 t5 g0 g1 g2 g3 g4 g5
                  clear r0 r1 r2 r3 r4 r5 f0 f1 f2 f3 f4 f5
                  have hx9 : Ext w _ := ext6 hw1 (.int .i64 2) (.string (str H)) (.int .i64 p) (.string (str pp)) (.string (str q)) (.bool a)
                  have hp9 := put6 HB.out (.int .i64 2) (.string (str H)) (.int .i64 p) (.string (str pp)) (.string (str q)) (.bool a)
                  obtain ⟨W9, hW9⟩ : ∃ W9, W9 = ((((((w1.setCell ⟨w.heap.size, 0, none⟩ (.int .i64 2)).setCell ⟨w.heap.size, 1, none⟩ (.string (str H))).setCell ⟨w.heap.size, 2, none⟩ (.int .i64 p)).setCell ⟨w.heap.size, 3, none⟩ (.string (str pp))).setCell ⟨w.heap.size, 4, none⟩ (.string (str q))).setCell ⟨w.heap.size, 5, none⟩ (.bool a)) := ⟨_, rfl⟩
                  rw [← hW9] at hx9 hp9
                  try simp only [show str ([] : List UInt8) = ⟨#[]⟩ from rfl, show str ([47] : List UInt8) = ⟨#[47]⟩ from rfl] at hW9
                  rw [← hW9]
                  clear hW9
                  obtain ⟨⟨r0, r1, r2, r3, r4, r5⟩, _⟩ := six hp9 (Ext.rfl' _)
                  exact bodyPost_ret (v := tgtV ((2, H, p, pp, q, a), 0)) (by simp [results, Tryd.results36, go_sem, tgtV, r0, r1, r2, r3, r4, r5]) rfl ⟨ret_val (by rw [HN.out]; try rfl), hx9⟩
            · have d2 : (e != 0) = true := by rw [bne_iff_ne]; exact c1
              rw [if_neg c1] at hRk
              have HN := Lib.hid hRk
              clear hRk c1 HR HA
              go_wp2_with (go_at_call 83; refine (CH.out _).mono ?_; rintro e w1 ⟨rfl, hx4⟩; have HB4 := Lib.hid ((hx4.block w.heap.size (Array.getElem?_eq_some_iff.1 HB3.out).1).trans HB3.out); have HT4 := Lib.hid ((hx4.block (w.heap.size + 1) (Array.getElem?_eq_some_iff.1 HT3.out).1).trans HT3.out); obtain ⟨⟨r0, r1, r2, r3, r4, r5⟩, f0, f1, f2, f3, f4, f5⟩ := six HB4.out (Ext.rfl' _); obtain ⟨⟨t0, t1, t2, t3, t4, t5⟩, g0, g1, g2, g3, g4, g5⟩ := six HT4.out (Ext.rfl' _); have hw4 : Ext w w1 := (Ext.tr hw3 hx4); clear hx4)
              have HB := HB4
              have hw1 := hw4
              clear r0 r1 r2 r3 r4 r5 f0 f1 f2 f3 f4 f5
              have hx9 : Ext w _ := ext6 hw1 (.int .i64 0) (.string (str [])) (.int .i64 0) (.string (str [])) (.string (str [])) (.bool false)
              have hp9 := put6 HB.out (.int .i64 0) (.string (str [])) (.int .i64 0) (.string (str [])) (.string (str [])) (.bool false)
              obtain ⟨W9, hW9⟩ : ∃ W9, W9 = ((((((w1.setCell ⟨w.heap.size, 0, none⟩ (.int .i64 0)).setCell ⟨w.heap.size, 1, none⟩ (.string (str []))).setCell ⟨w.heap.size, 2, none⟩ (.int .i64 0)).setCell ⟨w.heap.size, 3, none⟩ (.string (str []))).setCell ⟨w.heap.size, 4, none⟩ (.string (str []))).setCell ⟨w.heap.size, 5, none⟩ (.bool false)) := ⟨_, rfl⟩
              rw [← hW9] at hx9 hp9
              try simp only [show str ([] : List UInt8) = ⟨#[]⟩ from rfl, show str ([47] : List UInt8) = ⟨#[47]⟩ from rfl] at hW9
              rw [← hW9]
              clear hW9
              obtain ⟨⟨r0, r1, r2, r3, r4, r5⟩, _⟩ := six hp9 (Ext.rfl' _)
              exact bodyPost_ret (v := tgtV ((0, [], 0, [], [], false), 40)) (by simp [results, Tryd.results36, go_sem, tgtV, r0, r1, r2, r3, r4, r5]) rfl ⟨ret_val (by rw [HN.out]; try rfl), hx9⟩
        · have hkl : k = l.length := by omega
          have c0 : ¬ (k : Int) < (l.length : Int) := by omega
          have HK := Lib.hid hkl
          clear hlt hkl
          have i1 : (7 : Int) ≤ (k : Int) := by omega
          have i2 : (k : Int) ≤ (l.length : Int) := by omega
          have hRk : R = if (hostL ((l.take k).drop 7)).2.2 = 0 then finT 2 (hostL ((l.take k).drop 7)).1 (hostL ((l.take k).drop 7)).2.1 (l.drop k) else badT := by
            obtain ⟨a1, a2, a3⟩ := auth_at k hk7 hk HA.out (fun h => absurd HK.out (by omega))
            rw [HR.out, a1, a2, a3]
          have CH := fun w => urHost_c ((l.take k).drop 7) (by rw [List.length_drop, List.length_take]; omega) w
          have D := fun w => urlocal_c (l.drop k) (by rw [List.length_drop]; omega) w
          unfold hostV at CH
          obtain ⟨H, hH⟩ : ∃ H, H = (hostL ((l.take k).drop 7)).1 := ⟨_, rfl⟩
          obtain ⟨p, hp⟩ : ∃ p, p = (hostL ((l.take k).drop 7)).2.1 := ⟨_, rfl⟩
          obtain ⟨e, he⟩ : ∃ e, e = (hostL ((l.take k).drop 7)).2.2 := ⟨_, rfl⟩
          rw [← hH, ← hp, ← he] at CH hRk
          have CH := Lib.hid CH
          clear hH hp he
          clear hc
          by_cases c1 : e = 0
          · subst c1
            rw [if_pos rfl] at hRk
            unfold finT at hRk
            rcases hL : localL (l.drop k) with _ | ⟨pp, q, a⟩
            · rw [hL] at hRk D
              have HN := Lib.hid hRk
              unfold locV at D
              have D := Lib.hid D
              clear hRk hL HR HA
              go_wp2_with (first | (go_at_call 83; refine (CH.out _).mono ?_; rintro e w4 ⟨rfl, hx4⟩; have HB4 := Lib.hid ((hx4.block w.heap.size (Array.getElem?_eq_some_iff.1 HB3.out).1).trans HB3.out); have HT4 := Lib.hid ((hx4.block (w.heap.size + 1) (Array.getElem?_eq_some_iff.1 HT3.out).1).trans HT3.out); obtain ⟨⟨r0, r1, r2, r3, r4, r5⟩, f0, f1, f2, f3, f4, f5⟩ := six HB4.out (Ext.rfl' _); obtain ⟨⟨t0, t1, t2, t3, t4, t5⟩, g0, g1, g2, g3, g4, g5⟩ := six HT4.out (Ext.rfl' _); have hw4 : Ext w w4 := (Ext.tr hw3 hx4); clear hx4) | (go_at_call 85; refine (D.out _).mono ?_; rintro e w1 ⟨rfl, hx5⟩; have hne : w.heap.size ≠ w.heap.size + 1 := (by omega); have hge : w.heap.size ≤ w.heap.size + 1 := (by omega); have hw5 : Ext w w1 := Ext.tr ((hw4.st hge _).st hge _) hx5; have HB5 := Lib.hid ((hx5.block w.heap.size (by simpa using (Array.getElem?_eq_some_iff.1 HB4.out).1)).trans ((Below.heap_setCell _ _ _ _ hne).trans ((Below.heap_setCell _ _ _ _ hne).trans HB4.out))); have HT5 := Lib.hid ((hx5.block (w.heap.size + 1) (by simpa using (Array.getElem?_eq_some_iff.1 HT4.out).1)).trans (show _ = some (.cells #[.int .i64 2, .string (str H), .int .i64 p, .string ⟨#[]⟩, .string ⟨#[]⟩, .bool false] 68 (0, 0)) by simp [World.setCell, Array.getElem?_modify, HT4.out])); clear t0 t1 t2 t3 t4 t5 g0 g1 g2 g3 g4 g5 r0 r1 r2 r3 r4 r5 f0 f1 f2 f3 f4 f5; obtain ⟨⟨r0, r1, r2, r3, r4, r5⟩, f0, f1, f2, f3, f4, f5⟩ := six HB5.out (Ext.rfl' _); obtain ⟨⟨t0, t1, t2, t3, t4, t5⟩, g0, g1, g2, g3, g4, g5⟩ := six HT5.out (Ext.rfl' _); clear hx5))
              have HB := HB5
              have hw1 := hw5
              clear r0 r1 r2 r3 r4 r5 f0 f1 f2 f3 f4 f5
              have hx9 : Ext w _ := ext6 hw1 (.int .i64 0) (.string (str [])) (.int .i64 0) (.string (str [])) (.string (str [])) (.bool false)
              have hp9 := put6 HB.out (.int .i64 0) (.string (str [])) (.int .i64 0) (.string (str [])) (.string (str [])) (.bool false)
              obtain ⟨W9, hW9⟩ : ∃ W9, W9 = ((((((w1.setCell ⟨w.heap.size, 0, none⟩ (.int .i64 0)).setCell ⟨w.heap.size, 1, none⟩ (.string (str []))).setCell ⟨w.heap.size, 2, none⟩ (.int .i64 0)).setCell ⟨w.heap.size, 3, none⟩ (.string (str []))).setCell ⟨w.heap.size, 4, none⟩ (.string (str []))).setCell ⟨w.heap.size, 5, none⟩ (.bool false)) := ⟨_, rfl⟩
              rw [← hW9] at hx9 hp9
              try simp only [show str ([] : List UInt8) = ⟨#[]⟩ from rfl, show str ([47] : List UInt8) = ⟨#[47]⟩ from rfl] at hW9
              rw [← hW9]
              clear hW9
              obtain ⟨⟨r0, r1, r2, r3, r4, r5⟩, _⟩ := six hp9 (Ext.rfl' _)
              exact bodyPost_ret (v := tgtV ((0, [], 0, [], [], false), 40)) (by simp [results, Tryd.results36, go_sem, tgtV, r0, r1, r2, r3, r4, r5]) rfl ⟨ret_val (by rw [HN.out]; try rfl), hx9⟩
            · rw [hL] at hRk D
              unfold locV at D
              dsimp only at hRk
              clear hL HR HA
              by_cases c2 : pp = []
              · rw [if_pos c2] at hRk
                subst c2
                dsimp only at D
                rw [show str ([] : List UInt8) = ⟨#[]⟩ from rfl] at D
                have D := Lib.hid D
                have HN := Lib.hid hRk
                clear hRk
                go_wp2_with (first | (go_at_call 83; refine (CH.out _).mono ?_; rintro e w4 ⟨rfl, hx4⟩; have HB4 := Lib.hid ((hx4.block w.heap.size (Array.getElem?_eq_some_iff.1 HB3.out).1).trans HB3.out); have HT4 := Lib.hid ((hx4.block (w.heap.size + 1) (Array.getElem?_eq_some_iff.1 HT3.out).1).trans HT3.out); obtain ⟨⟨r0, r1, r2, r3, r4, r5⟩, f0, f1, f2, f3, f4, f5⟩ := six HB4.out (Ext.rfl' _); obtain ⟨⟨t0, t1, t2, t3, t4, t5⟩, g0, g1, g2, g3, g4, g5⟩ := six HT4.out (Ext.rfl' _); have hw4 : Ext w w4 := (Ext.tr hw3 hx4); clear hx4) | (go_at_call 85; refine (D.out _).mono ?_; rintro e w5 ⟨rfl, hx5⟩; have hne : w.heap.size ≠ w.heap.size + 1 := (by omega); have hge : w.heap.size ≤ w.heap.size + 1 := (by omega); have hw5 : Ext w w5 := Ext.tr ((hw4.st hge _).st hge _) hx5; have HB5 := Lib.hid ((hx5.block w.heap.size (by simpa using (Array.getElem?_eq_some_iff.1 HB4.out).1)).trans ((Below.heap_setCell _ _ _ _ hne).trans ((Below.heap_setCell _ _ _ _ hne).trans HB4.out))); have HT5 := Lib.hid ((hx5.block (w.heap.size + 1) (by simpa using (Array.getElem?_eq_some_iff.1 HT4.out).1)).trans (show _ = some (.cells #[.int .i64 2, .string (str H), .int .i64 p, .string ⟨#[]⟩, .string ⟨#[]⟩, .bool false] 68 (0, 0)) by simp [World.setCell, Array.getElem?_modify, HT4.out])); clear t0 t1 t2 t3 t4 t5 g0 g1 g2 g3 g4 g5 r0 r1 r2 r3 r4 r5 f0 f1 f2 f3 f4 f5; obtain ⟨⟨r0, r1, r2, r3, r4, r5⟩, f0, f1, f2, f3, f4, f5⟩ := six HB5.out (Ext.rfl' _); obtain ⟨⟨t0, t1, t2, t3, t4, t5⟩, g0, g1, g2, g3, g4, g5⟩ := six HT5.out (Ext.rfl' _); clear hx5))
                obtain ⟨w1, hW1⟩ : ∃ w1, w1 = ((w5.setCell ⟨w.heap.size + 1, 3, none⟩ (.string (str [47]))).setCell ⟨w.heap.size + 1, 4, none⟩ (.string (str q))).setCell ⟨w.heap.size + 1, 5, none⟩ (.bool a) := ⟨_, rfl⟩
                try simp only [show str ([47] : List UInt8) = ⟨#[47]⟩ from rfl] at hW1
                rw [← hW1]
                have hne : w.heap.size ≠ w.heap.size + 1 := by omega
                have hge : w.heap.size ≤ w.heap.size + 1 := by omega
                have HB := Lib.hid ((show w1.heap[w.heap.size]? = w5.heap[w.heap.size]? by rw [hW1, Below.heap_setCell _ _ _ _ hne, Below.heap_setCell _ _ _ _ hne, Below.heap_setCell _ _ _ _ hne]).trans HB5.out)
                have hw1 : Ext w w1 := by rw [hW1]; exact ((hw5.st hge _).st hge _).st hge _
                clear hW1 t0 t1 t2 t3 t4 t5 g0 g1 g2 g3 g4 g5
                clear r0 r1 r2 r3 r4 r5 f0 f1 f2 f3 f4 f5
                have hx9 : Ext w _ := ext6 hw1 (.int .i64 2) (.string (str H)) (.int .i64 p) (.string (str [47])) (.string (str q)) (.bool a)
                have hp9 := put6 HB.out (.int .i64 2) (.string (str H)) (.int .i64 p) (.string (str [47])) (.string (str q)) (.bool a)
                obtain ⟨W9, hW9⟩ : ∃ W9, W9 = ((((((w1.setCell ⟨w.heap.size, 0, none⟩ (.int .i64 2)).setCell ⟨w.heap.size, 1, none⟩ (.string (str H))).setCell ⟨w.heap.size, 2, none⟩ (.int .i64 p)).setCell ⟨w.heap.size, 3, none⟩ (.string (str [47]))).setCell ⟨w.heap.size, 4, none⟩ (.string (str q))).setCell ⟨w.heap.size, 5, none⟩ (.bool a)) := ⟨_, rfl⟩
                rw [← hW9] at hx9 hp9
                try simp only [show str ([] : List UInt8) = ⟨#[]⟩ from rfl, show str ([47] : List UInt8) = ⟨#[47]⟩ from rfl] at hW9
                rw [← hW9]
                clear hW9
                obtain ⟨⟨r0, r1, r2, r3, r4, r5⟩, _⟩ := six hp9 (Ext.rfl' _)
                exact bodyPost_ret (v := tgtV ((2, H, p, [47], q, a), 0)) (by simp [results, Tryd.results36, go_sem, tgtV, r0, r1, r2, r3, r4, r5]) rfl ⟨ret_val (by rw [HN.out]; try rfl), hx9⟩
              · rw [if_neg c2] at hRk
                have D := Lib.hid D
                have HN := Lib.hid hRk
                have p2 : pp.isEmpty = false := by rw [List.isEmpty_eq_false_iff]; exact c2
                have p3 : (str pp).toList.isEmpty = false := by rw [Lib.toList_data]; exact p2
                clear hRk
                go_wp2_with (first | (go_at_call 83; refine (CH.out _).mono ?_; rintro e w4 ⟨rfl, hx4⟩; have HB4 := Lib.hid ((hx4.block w.heap.size (Array.getElem?_eq_some_iff.1 HB3.out).1).trans HB3.out); have HT4 := Lib.hid ((hx4.block (w.heap.size + 1) (Array.getElem?_eq_some_iff.1 HT3.out).1).trans HT3.out); obtain ⟨⟨r0, r1, r2, r3, r4, r5⟩, f0, f1, f2, f3, f4, f5⟩ := six HB4.out (Ext.rfl' _); obtain ⟨⟨t0, t1, t2, t3, t4, t5⟩, g0, g1, g2, g3, g4, g5⟩ := six HT4.out (Ext.rfl' _); have hw4 : Ext w w4 := (Ext.tr hw3 hx4); clear hx4) | (go_at_call 85; refine (D.out _).mono ?_; rintro e w5 ⟨rfl, hx5⟩; have hne : w.heap.size ≠ w.heap.size + 1 := (by omega); have hge : w.heap.size ≤ w.heap.size + 1 := (by omega); have hw5 : Ext w w5 := Ext.tr ((hw4.st hge _).st hge _) hx5; have HB5 := Lib.hid ((hx5.block w.heap.size (by simpa using (Array.getElem?_eq_some_iff.1 HB4.out).1)).trans ((Below.heap_setCell _ _ _ _ hne).trans ((Below.heap_setCell _ _ _ _ hne).trans HB4.out))); have HT5 := Lib.hid ((hx5.block (w.heap.size + 1) (by simpa using (Array.getElem?_eq_some_iff.1 HT4.out).1)).trans (show _ = some (.cells #[.int .i64 2, .string (str H), .int .i64 p, .string ⟨#[]⟩, .string ⟨#[]⟩, .bool false] 68 (0, 0)) by simp [World.setCell, Array.getElem?_modify, HT4.out])); clear t0 t1 t2 t3 t4 t5 g0 g1 g2 g3 g4 g5 r0 r1 r2 r3 r4 r5 f0 f1 f2 f3 f4 f5; obtain ⟨⟨r0, r1, r2, r3, r4, r5⟩, f0, f1, f2, f3, f4, f5⟩ := six HB5.out (Ext.rfl' _); obtain ⟨⟨t0, t1, t2, t3, t4, t5⟩, g0, g1, g2, g3, g4, g5⟩ := six HT5.out (Ext.rfl' _); clear hx5))
                obtain ⟨w1, hW1⟩ : ∃ w1, w1 = ((w5.setCell ⟨w.heap.size + 1, 3, none⟩ (.string (str pp))).setCell ⟨w.heap.size + 1, 4, none⟩ (.string (str q))).setCell ⟨w.heap.size + 1, 5, none⟩ (.bool a) := ⟨_, rfl⟩
                try simp only [show str ([47] : List UInt8) = ⟨#[47]⟩ from rfl] at hW1
                rw [← hW1]
                have hne : w.heap.size ≠ w.heap.size + 1 := by omega
                have hge : w.heap.size ≤ w.heap.size + 1 := by omega
                have HB := Lib.hid ((show w1.heap[w.heap.size]? = w5.heap[w.heap.size]? by rw [hW1, Below.heap_setCell _ _ _ _ hne, Below.heap_setCell _ _ _ _ hne, Below.heap_setCell _ _ _ _ hne]).trans HB5.out)
                have hw1 : Ext w w1 := by rw [hW1]; exact ((hw5.st hge _).st hge _).st hge _
                clear hW1 t0 t1 t2 t3 t4 t5 g0 g1 g2 g3 g4 g5
                clear r0 r1 r2 r3 r4 r5 f0 f1 f2 f3 f4 f5
                have hx9 : Ext w _ := ext6 hw1 (.int .i64 2) (.string (str H)) (.int .i64 p) (.string (str pp)) (.string (str q)) (.bool a)
                have hp9 := put6 HB.out (.int .i64 2) (.string (str H)) (.int .i64 p) (.string (str pp)) (.string (str q)) (.bool a)
                obtain ⟨W9, hW9⟩ : ∃ W9, W9 = ((((((w1.setCell ⟨w.heap.size, 0, none⟩ (.int .i64 2)).setCell ⟨w.heap.size, 1, none⟩ (.string (str H))).setCell ⟨w.heap.size, 2, none⟩ (.int .i64 p)).setCell ⟨w.heap.size, 3, none⟩ (.string (str pp))).setCell ⟨w.heap.size, 4, none⟩ (.string (str q))).setCell ⟨w.heap.size, 5, none⟩ (.bool a)) := ⟨_, rfl⟩
                rw [← hW9] at hx9 hp9
                try simp only [show str ([] : List UInt8) = ⟨#[]⟩ from rfl, show str ([47] : List UInt8) = ⟨#[47]⟩ from rfl] at hW9
                rw [← hW9]
                clear hW9
                obtain ⟨⟨r0, r1, r2, r3, r4, r5⟩, _⟩ := six hp9 (Ext.rfl' _)
                exact bodyPost_ret (v := tgtV ((2, H, p, pp, q, a), 0)) (by simp [results, Tryd.results36, go_sem, tgtV, r0, r1, r2, r3, r4, r5]) rfl ⟨ret_val (by rw [HN.out]; try rfl), hx9⟩
          · have d2 : (e != 0) = true := by rw [bne_iff_ne]; exact c1
            rw [if_neg c1] at hRk
            have HN := Lib.hid hRk
            clear hRk c1 HR HA
            go_wp2_with (go_at_call 83; refine (CH.out _).mono ?_; rintro e w1 ⟨rfl, hx4⟩; have HB4 := Lib.hid ((hx4.block w.heap.size (Array.getElem?_eq_some_iff.1 HB3.out).1).trans HB3.out); have HT4 := Lib.hid ((hx4.block (w.heap.size + 1) (Array.getElem?_eq_some_iff.1 HT3.out).1).trans HT3.out); obtain ⟨⟨r0, r1, r2, r3, r4, r5⟩, f0, f1, f2, f3, f4, f5⟩ := six HB4.out (Ext.rfl' _); obtain ⟨⟨t0, t1, t2, t3, t4, t5⟩, g0, g1, g2, g3, g4, g5⟩ := six HT4.out (Ext.rfl' _); have hw4 : Ext w w1 := (Ext.tr hw3 hx4); clear hx4)
            have HB := HB4
            have hw1 := hw4
            clear r0 r1 r2 r3 r4 r5 f0 f1 f2 f3 f4 f5
            have hx9 : Ext w _ := ext6 hw1 (.int .i64 0) (.string (str [])) (.int .i64 0) (.string (str [])) (.string (str [])) (.bool false)
            have hp9 := put6 HB.out (.int .i64 0) (.string (str [])) (.int .i64 0) (.string (str [])) (.string (str [])) (.bool false)
            obtain ⟨W9, hW9⟩ : ∃ W9, W9 = ((((((w1.setCell ⟨w.heap.size, 0, none⟩ (.int .i64 0)).setCell ⟨w.heap.size, 1, none⟩ (.string (str []))).setCell ⟨w.heap.size, 2, none⟩ (.int .i64 0)).setCell ⟨w.heap.size, 3, none⟩ (.string (str []))).setCell ⟨w.heap.size, 4, none⟩ (.string (str []))).setCell ⟨w.heap.size, 5, none⟩ (.bool false)) := ⟨_, rfl⟩
            rw [← hW9] at hx9 hp9
            try simp only [show str ([] : List UInt8) = ⟨#[]⟩ from rfl, show str ([47] : List UInt8) = ⟨#[47]⟩ from rfl] at hW9
            rw [← hW9]
            clear hW9
            obtain ⟨⟨r0, r1, r2, r3, r4, r5⟩, _⟩ := six hp9 (Ext.rfl' _)
            exact bodyPost_ret (v := tgtV ((0, [], 0, [], [], false), 40)) (by simp [results, Tryd.results36, go_sem, tgtV, r0, r1, r2, r3, r4, r5]) rfl ⟨ret_val (by rw [HN.out]; try rfl), hx9⟩
  · have o1 := strN c1
    have o2 : (m == optL) = false := by rw [beq_eq_false_iff_ne]; exact c1
    unfold optL at c1 o1 o2
    clear hmo
    go_enter Tryd.func36, Tryd.ntmps36
    go_wp2_with (go_at_call 84; refine (C.out _).mono ?_; rintro e w2 ⟨rfl, hx2⟩; have hq2 : Ext ((w.alloc (.cells #[.int .i64 0, .string ⟨#[]⟩, .int .i64 0, .string ⟨#[]⟩, .string ⟨#[]⟩, .bool false] 68)).alloc (.cells #[.int .i64 1, .string ⟨#[]⟩, .int .i64 (-1), .string ⟨#[]⟩, .string ⟨#[]⟩, .bool false] 68)) w2 := (by (repeat (first | exact Ext.rfl' _ | assumption | refine Ext.dr ?_ | refine Ext.drN ?_ _ | refine Ext.al ?_ _ | refine Ext.st ?_ (by simp) _ | refine Ext.tr ?_ (by assumption)))); have HB := Lib.hid ((hq2.block w.heap.size (by simp; omega)).trans (two w _ _).1); have HT := Lib.hid ((hq2.block (w.heap.size + 1) (by simp)).trans (two w _ _).2); obtain ⟨⟨r0, r1, r2, r3, r4, r5⟩, f0, f1, f2, f3, f4, f5⟩ := six HB.out (Ext.rfl' _); obtain ⟨⟨t0, t1, t2, t3, t4, t5⟩, g0, g1, g2, g3, g4, g5⟩ := six HT.out (Ext.rfl' _); have hw2 : Ext w w2 := (by (repeat (first | exact Ext.rfl' _ | assumption | refine Ext.dr ?_ | refine Ext.drN ?_ _ | refine Ext.al ?_ _ | refine Ext.st ?_ (by simp) _ | refine Ext.tr ?_ (by assumption)))); clear hq2 hx2)
    obtain ⟨W3, hW3⟩ : ∃ W3, W3 = w2.setCell ⟨w.heap.size + 1, 0, none⟩ (.int .i64 2) := ⟨_, rfl⟩
    rw [← hW3]
    have hne : w.heap.size ≠ w.heap.size + 1 := by omega
    have hge : w.heap.size ≤ w.heap.size + 1 := by omega
    have HB3 := Lib.hid ((show W3.heap[w.heap.size]? = w2.heap[w.heap.size]? by rw [hW3, Below.heap_setCell _ _ _ _ hne]).trans HB.out)
    have hw3 : Ext w W3 := by rw [hW3]; exact hw2.st hge _
    have HT3 := Lib.hid (show W3.heap[w.heap.size + 1]? = some (.cells #[.int .i64 2, .string ⟨#[]⟩, .int .i64 (-1), .string ⟨#[]⟩, .string ⟨#[]⟩, .bool false] 68 (0, 0)) by rw [hW3]; simp [World.setCell, Array.getElem?_modify, HT.out])
    clear hW3 t0 t1 t2 t3 t4 t5 g0 g1 g2 g3 g4 g5 r0 r1 r2 r3 r4 r5 f0 f1 f2 f3 f4 f5 HB HT hw2
    go_loopw [11] (fun i wr => ∃ k : Nat, i = .int .i64 (k : Nat) ∧ 7 ≤ k ∧ k ≤ l.length ∧ ((l.take k).drop 7).all autB = true ∧ W3 = wr) (fun i _ => l.length - (intOf i).toNat)
    case atStart => exact ⟨7, rfl, Nat.le_refl _, h7, by rw [List.drop_eq_nil_of_le (by rw [List.length_take]; omega)]; rfl, rfl⟩
    case round =>
      obtain ⟨k, rfl, hk7, hk, hall, rfl⟩ := hrel
      have HA := Lib.hid hall
      clear hall
      by_cases hc : k < l.length ∧ (∀ h : k < l.length, autB l[k] = true)
      · have hlt := hc.1
        have hp := hc.2 hlt
        have HS := Lib.hid (show ((l.take (k + 1)).drop 7).all autB = true by rw [all_td l _ 7 k hk7 hlt, HA.out, hp]; rfl)
        have hki : IntKind.i64.wrap ((k : Int) + 1) = (k : Int) + 1 := by rw [IntKind.wrap_i64]; omega
        unfold autB at hp
        simp only [Bool.not_eq_true', Bool.or_eq_false_iff, beq_eq_false_iff_ne] at hp
        have e47 : ((l[k].toNat : Int) != 47) = true := by
          rw [bne_iff_ne]; intro h; exact hp.1 (UInt8.toNat_inj.1 (by show l[k].toNat = 47; omega))
        have e63 : ((l[k].toNat : Int) != 63) = true := by
          rw [bne_iff_ne]; intro h; exact hp.2 (UInt8.toNat_inj.1 (by show l[k].toNat = 63; omega))
        clear hc hp
        go_wp2
        go_roundw
        case rel => exact ⟨k + 1, by go_num, by omega, by omega, HS.out, by trivial⟩
        case measure => simp [intOf]; omega
      · by_cases hlt : k < l.length
        · have hf : autB l[k] = false := by
            cases hv : autB l[k]
            · rfl
            · exact absurd ⟨hlt, fun _ => hv⟩ hc
          have HS := Lib.hid hf
          by_cases h47 : l[k] = 47
          · have e47 : ((l[k].toNat : Int) != 47) = false := by rw [h47]; rfl
            clear hf h47
            have i1 : (7 : Int) ≤ (k : Int) := by omega
            have i2 : (k : Int) ≤ (l.length : Int) := by omega
            have hRk : R = if (hostL ((l.take k).drop 7)).2.2 = 0 then finT 2 (hostL ((l.take k).drop 7)).1 (hostL ((l.take k).drop 7)).2.1 (l.drop k) else badT := by
              obtain ⟨a1, a2, a3⟩ := auth_at k hk7 hk HA.out (fun _ => HS.out)
              rw [HR.out, a1, a2, a3]
            have CH := fun w => urHost_c ((l.take k).drop 7) (by rw [List.length_drop, List.length_take]; omega) w
            have D := fun w => urlocal_c (l.drop k) (by rw [List.length_drop]; omega) w
            unfold hostV at CH
            obtain ⟨H, hH⟩ : ∃ H, H = (hostL ((l.take k).drop 7)).1 := ⟨_, rfl⟩
            obtain ⟨p, hp⟩ : ∃ p, p = (hostL ((l.take k).drop 7)).2.1 := ⟨_, rfl⟩
            obtain ⟨e, he⟩ : ∃ e, e = (hostL ((l.take k).drop 7)).2.2 := ⟨_, rfl⟩
            rw [← hH, ← hp, ← he] at CH hRk
            have CH := Lib.hid CH
            clear hH hp he
            clear hc
            by_cases c1 : e = 0
            · subst c1
              rw [if_pos rfl] at hRk
              unfold finT at hRk
              rcases hL : localL (l.drop k) with _ | ⟨pp, q, a⟩
              · rw [hL] at hRk D
                have HN := Lib.hid hRk
                unfold locV at D
                have D := Lib.hid D
                clear hRk hL HR HA
                go_wp2_with (first | (go_at_call 83; refine (CH.out _).mono ?_; rintro e w4 ⟨rfl, hx4⟩; have HB4 := Lib.hid ((hx4.block w.heap.size (Array.getElem?_eq_some_iff.1 HB3.out).1).trans HB3.out); have HT4 := Lib.hid ((hx4.block (w.heap.size + 1) (Array.getElem?_eq_some_iff.1 HT3.out).1).trans HT3.out); obtain ⟨⟨r0, r1, r2, r3, r4, r5⟩, f0, f1, f2, f3, f4, f5⟩ := six HB4.out (Ext.rfl' _); obtain ⟨⟨t0, t1, t2, t3, t4, t5⟩, g0, g1, g2, g3, g4, g5⟩ := six HT4.out (Ext.rfl' _); have hw4 : Ext w w4 := (Ext.tr hw3 hx4); clear hx4) | (go_at_call 85; refine (D.out _).mono ?_; rintro e w1 ⟨rfl, hx5⟩; have hne : w.heap.size ≠ w.heap.size + 1 := (by omega); have hge : w.heap.size ≤ w.heap.size + 1 := (by omega); have hw5 : Ext w w1 := Ext.tr ((hw4.st hge _).st hge _) hx5; have HB5 := Lib.hid ((hx5.block w.heap.size (by simpa using (Array.getElem?_eq_some_iff.1 HB4.out).1)).trans ((Below.heap_setCell _ _ _ _ hne).trans ((Below.heap_setCell _ _ _ _ hne).trans HB4.out))); have HT5 := Lib.hid ((hx5.block (w.heap.size + 1) (by simpa using (Array.getElem?_eq_some_iff.1 HT4.out).1)).trans (show _ = some (.cells #[.int .i64 2, .string (str H), .int .i64 p, .string ⟨#[]⟩, .string ⟨#[]⟩, .bool false] 68 (0, 0)) by simp [World.setCell, Array.getElem?_modify, HT4.out])); clear t0 t1 t2 t3 t4 t5 g0 g1 g2 g3 g4 g5 r0 r1 r2 r3 r4 r5 f0 f1 f2 f3 f4 f5; obtain ⟨⟨r0, r1, r2, r3, r4, r5⟩, f0, f1, f2, f3, f4, f5⟩ := six HB5.out (Ext.rfl' _); obtain ⟨⟨t0, t1, t2, t3, t4, t5⟩, g0, g1, g2, g3, g4, g5⟩ := six HT5.out (Ext.rfl' _); clear hx5))
                have HB := HB5
                have hw1 := hw5
                clear r0 r1 r2 r3 r4 r5 f0 f1 f2 f3 f4 f5
                have hx9 : Ext w _ := ext6 hw1 (.int .i64 0) (.string (str [])) (.int .i64 0) (.string (str [])) (.string (str [])) (.bool false)
                have hp9 := put6 HB.out (.int .i64 0) (.string (str [])) (.int .i64 0) (.string (str [])) (.string (str [])) (.bool false)
                obtain ⟨W9, hW9⟩ : ∃ W9, W9 = ((((((w1.setCell ⟨w.heap.size, 0, none⟩ (.int .i64 0)).setCell ⟨w.heap.size, 1, none⟩ (.string (str []))).setCell ⟨w.heap.size, 2, none⟩ (.int .i64 0)).setCell ⟨w.heap.size, 3, none⟩ (.string (str []))).setCell ⟨w.heap.size, 4, none⟩ (.string (str []))).setCell ⟨w.heap.size, 5, none⟩ (.bool false)) := ⟨_, rfl⟩
                rw [← hW9] at hx9 hp9
                try simp only [show str ([] : List UInt8) = ⟨#[]⟩ from rfl, show str ([47] : List UInt8) = ⟨#[47]⟩ from rfl] at hW9
                rw [← hW9]
                clear hW9
                obtain ⟨⟨r0, r1, r2, r3, r4, r5⟩, _⟩ := six hp9 (Ext.rfl' _)
                exact bodyPost_ret (v := tgtV ((0, [], 0, [], [], false), 40)) (by simp [results, Tryd.results36, go_sem, tgtV, r0, r1, r2, r3, r4, r5]) rfl ⟨ret_val (by rw [HN.out]; try rfl), hx9⟩
              · rw [hL] at hRk D
                unfold locV at D
                dsimp only at hRk
                clear hL HR HA
                by_cases c2 : pp = []
                · rw [if_pos c2] at hRk
                  subst c2
                  dsimp only at D
                  rw [show str ([] : List UInt8) = ⟨#[]⟩ from rfl] at D
                  have D := Lib.hid D
                  have HN := Lib.hid hRk
                  clear hRk
                  go_wp2_with (first | (go_at_call 83; refine (CH.out _).mono ?_; rintro e w4 ⟨rfl, hx4⟩; have HB4 := Lib.hid ((hx4.block w.heap.size (Array.getElem?_eq_some_iff.1 HB3.out).1).trans HB3.out); have HT4 := Lib.hid ((hx4.block (w.heap.size + 1) (Array.getElem?_eq_some_iff.1 HT3.out).1).trans HT3.out); obtain ⟨⟨r0, r1, r2, r3, r4, r5⟩, f0, f1, f2, f3, f4, f5⟩ := six HB4.out (Ext.rfl' _); obtain ⟨⟨t0, t1, t2, t3, t4, t5⟩, g0, g1, g2, g3, g4, g5⟩ := six HT4.out (Ext.rfl' _); have hw4 : Ext w w4 := (Ext.tr hw3 hx4); clear hx4) | (go_at_call 85; refine (D.out _).mono ?_; rintro e w5 ⟨rfl, hx5⟩; have hne : w.heap.size ≠ w.heap.size + 1 := (by omega); have hge : w.heap.size ≤ w.heap.size + 1 := (by omega); have hw5 : Ext w w5 := Ext.tr ((hw4.st hge _).st hge _) hx5; have HB5 := Lib.hid ((hx5.block w.heap.size (by simpa using (Array.getElem?_eq_some_iff.1 HB4.out).1)).trans ((Below.heap_setCell _ _ _ _ hne).trans ((Below.heap_setCell _ _ _ _ hne).trans HB4.out))); have HT5 := Lib.hid ((hx5.block (w.heap.size + 1) (by simpa using (Array.getElem?_eq_some_iff.1 HT4.out).1)).trans (show _ = some (.cells #[.int .i64 2, .string (str H), .int .i64 p, .string ⟨#[]⟩, .string ⟨#[]⟩, .bool false] 68 (0, 0)) by simp [World.setCell, Array.getElem?_modify, HT4.out])); clear t0 t1 t2 t3 t4 t5 g0 g1 g2 g3 g4 g5 r0 r1 r2 r3 r4 r5 f0 f1 f2 f3 f4 f5; obtain ⟨⟨r0, r1, r2, r3, r4, r5⟩, f0, f1, f2, f3, f4, f5⟩ := six HB5.out (Ext.rfl' _); obtain ⟨⟨t0, t1, t2, t3, t4, t5⟩, g0, g1, g2, g3, g4, g5⟩ := six HT5.out (Ext.rfl' _); clear hx5))
                  obtain ⟨w1, hW1⟩ : ∃ w1, w1 = ((w5.setCell ⟨w.heap.size + 1, 3, none⟩ (.string (str [47]))).setCell ⟨w.heap.size + 1, 4, none⟩ (.string (str q))).setCell ⟨w.heap.size + 1, 5, none⟩ (.bool a) := ⟨_, rfl⟩
                  try simp only [show str ([47] : List UInt8) = ⟨#[47]⟩ from rfl] at hW1
                  rw [← hW1]
                  have hne : w.heap.size ≠ w.heap.size + 1 := by omega
                  have hge : w.heap.size ≤ w.heap.size + 1 := by omega
                  have HB := Lib.hid ((show w1.heap[w.heap.size]? = w5.heap[w.heap.size]? by rw [hW1, Below.heap_setCell _ _ _ _ hne, Below.heap_setCell _ _ _ _ hne, Below.heap_setCell _ _ _ _ hne]).trans HB5.out)
                  have hw1 : Ext w w1 := by rw [hW1]; exact ((hw5.st hge _).st hge _).st hge _
                  clear hW1 t0 t1 t2 t3 t4 t5 g0 g1 g2 g3 g4 g5
                  clear r0 r1 r2 r3 r4 r5 f0 f1 f2 f3 f4 f5
                  have hx9 : Ext w _ := ext6 hw1 (.int .i64 2) (.string (str H)) (.int .i64 p) (.string (str [47])) (.string (str q)) (.bool a)
                  have hp9 := put6 HB.out (.int .i64 2) (.string (str H)) (.int .i64 p) (.string (str [47])) (.string (str q)) (.bool a)
                  obtain ⟨W9, hW9⟩ : ∃ W9, W9 = ((((((w1.setCell ⟨w.heap.size, 0, none⟩ (.int .i64 2)).setCell ⟨w.heap.size, 1, none⟩ (.string (str H))).setCell ⟨w.heap.size, 2, none⟩ (.int .i64 p)).setCell ⟨w.heap.size, 3, none⟩ (.string (str [47]))).setCell ⟨w.heap.size, 4, none⟩ (.string (str q))).setCell ⟨w.heap.size, 5, none⟩ (.bool a)) := ⟨_, rfl⟩
                  rw [← hW9] at hx9 hp9
                  try simp only [show str ([] : List UInt8) = ⟨#[]⟩ from rfl, show str ([47] : List UInt8) = ⟨#[47]⟩ from rfl] at hW9
                  rw [← hW9]
                  clear hW9
                  obtain ⟨⟨r0, r1, r2, r3, r4, r5⟩, _⟩ := six hp9 (Ext.rfl' _)
                  exact bodyPost_ret (v := tgtV ((2, H, p, [47], q, a), 0)) (by simp [results, Tryd.results36, go_sem, tgtV, r0, r1, r2, r3, r4, r5]) rfl ⟨ret_val (by rw [HN.out]; try rfl), hx9⟩
                · rw [if_neg c2] at hRk
                  have D := Lib.hid D
                  have HN := Lib.hid hRk
                  have p2 : pp.isEmpty = false := by rw [List.isEmpty_eq_false_iff]; exact c2
                  have p3 : (str pp).toList.isEmpty = false := by rw [Lib.toList_data]; exact p2
                  clear hRk
                  go_wp2_with (first | (go_at_call 83; refine (CH.out _).mono ?_; rintro e w4 ⟨rfl, hx4⟩; have HB4 := Lib.hid ((hx4.block w.heap.size (Array.getElem?_eq_some_iff.1 HB3.out).1).trans HB3.out); have HT4 := Lib.hid ((hx4.block (w.heap.size + 1) (Array.getElem?_eq_some_iff.1 HT3.out).1).trans HT3.out); obtain ⟨⟨r0, r1, r2, r3, r4, r5⟩, f0, f1, f2, f3, f4, f5⟩ := six HB4.out (Ext.rfl' _); obtain ⟨⟨t0, t1, t2, t3, t4, t5⟩, g0, g1, g2, g3, g4, g5⟩ := six HT4.out (Ext.rfl' _); have hw4 : Ext w w4 := (Ext.tr hw3 hx4); clear hx4) | (go_at_call 85; refine (D.out _).mono ?_; rintro e w5 ⟨rfl, hx5⟩; have hne : w.heap.size ≠ w.heap.size + 1 := (by omega); have hge : w.heap.size ≤ w.heap.size + 1 := (by omega); have hw5 : Ext w w5 := Ext.tr ((hw4.st hge _).st hge _) hx5; have HB5 := Lib.hid ((hx5.block w.heap.size (by simpa using (Array.getElem?_eq_some_iff.1 HB4.out).1)).trans ((Below.heap_setCell _ _ _ _ hne).trans ((Below.heap_setCell _ _ _ _ hne).trans HB4.out))); have HT5 := Lib.hid ((hx5.block (w.heap.size + 1) (by simpa using (Array.getElem?_eq_some_iff.1 HT4.out).1)).trans (show _ = some (.cells #[.int .i64 2, .string (str H), .int .i64 p, .string ⟨#[]⟩, .string ⟨#[]⟩, .bool false] 68 (0, 0)) by simp [World.setCell, Array.getElem?_modify, HT4.out])); clear t0 t1 t2 t3 t4 t5 g0 g1 g2 g3 g4 g5 r0 r1 r2 r3 r4 r5 f0 f1 f2 f3 f4 f5; obtain ⟨⟨r0, r1, r2, r3, r4, r5⟩, f0, f1, f2, f3, f4, f5⟩ := six HB5.out (Ext.rfl' _); obtain ⟨⟨t0, t1, t2, t3, t4, t5⟩, g0, g1, g2, g3, g4, g5⟩ := six HT5.out (Ext.rfl' _); clear hx5))
                  obtain ⟨w1, hW1⟩ : ∃ w1, w1 = ((w5.setCell ⟨w.heap.size + 1, 3, none⟩ (.string (str pp))).setCell ⟨w.heap.size + 1, 4, none⟩ (.string (str q))).setCell ⟨w.heap.size + 1, 5, none⟩ (.bool a) := ⟨_, rfl⟩
                  try simp only [show str ([47] : List UInt8) = ⟨#[47]⟩ from rfl] at hW1
                  rw [← hW1]
                  have hne : w.heap.size ≠ w.heap.size + 1 := by omega
                  have hge : w.heap.size ≤ w.heap.size + 1 := by omega
                  have HB := Lib.hid ((show w1.heap[w.heap.size]? = w5.heap[w.heap.size]? by rw [hW1, Below.heap_setCell _ _ _ _ hne, Below.heap_setCell _ _ _ _ hne, Below.heap_setCell _ _ _ _ hne]).trans HB5.out)
                  have hw1 : Ext w w1 := by rw [hW1]; exact ((hw5.st hge _).st hge _).st hge _
                  clear hW1 t0 t1 t2 t3 t4 t5 g0 g1 g2 g3 g4 g5
                  clear r0 r1 r2 r3 r4 r5 f0 f1 f2 f3 f4 f5
                  have hx9 : Ext w _ := ext6 hw1 (.int .i64 2) (.string (str H)) (.int .i64 p) (.string (str pp)) (.string (str q)) (.bool a)
                  have hp9 := put6 HB.out (.int .i64 2) (.string (str H)) (.int .i64 p) (.string (str pp)) (.string (str q)) (.bool a)
                  obtain ⟨W9, hW9⟩ : ∃ W9, W9 = ((((((w1.setCell ⟨w.heap.size, 0, none⟩ (.int .i64 2)).setCell ⟨w.heap.size, 1, none⟩ (.string (str H))).setCell ⟨w.heap.size, 2, none⟩ (.int .i64 p)).setCell ⟨w.heap.size, 3, none⟩ (.string (str pp))).setCell ⟨w.heap.size, 4, none⟩ (.string (str q))).setCell ⟨w.heap.size, 5, none⟩ (.bool a)) := ⟨_, rfl⟩
                  rw [← hW9] at hx9 hp9
                  try simp only [show str ([] : List UInt8) = ⟨#[]⟩ from rfl, show str ([47] : List UInt8) = ⟨#[47]⟩ from rfl] at hW9
                  rw [← hW9]
                  clear hW9
                  obtain ⟨⟨r0, r1, r2, r3, r4, r5⟩, _⟩ := six hp9 (Ext.rfl' _)
                  exact bodyPost_ret (v := tgtV ((2, H, p, pp, q, a), 0)) (by simp [results, Tryd.results36, go_sem, tgtV, r0, r1, r2, r3, r4, r5]) rfl ⟨ret_val (by rw [HN.out]; try rfl), hx9⟩
            · have d2 : (e != 0) = true := by rw [bne_iff_ne]; exact c1
              rw [if_neg c1] at hRk
              have HN := Lib.hid hRk
              clear hRk c1 HR HA
              go_wp2_with (go_at_call 83; refine (CH.out _).mono ?_; rintro e w1 ⟨rfl, hx4⟩; have HB4 := Lib.hid ((hx4.block w.heap.size (Array.getElem?_eq_some_iff.1 HB3.out).1).trans HB3.out); have HT4 := Lib.hid ((hx4.block (w.heap.size + 1) (Array.getElem?_eq_some_iff.1 HT3.out).1).trans HT3.out); obtain ⟨⟨r0, r1, r2, r3, r4, r5⟩, f0, f1, f2, f3, f4, f5⟩ := six HB4.out (Ext.rfl' _); obtain ⟨⟨t0, t1, t2, t3, t4, t5⟩, g0, g1, g2, g3, g4, g5⟩ := six HT4.out (Ext.rfl' _); have hw4 : Ext w w1 := (Ext.tr hw3 hx4); clear hx4)
              have HB := HB4
              have hw1 := hw4
              clear r0 r1 r2 r3 r4 r5 f0 f1 f2 f3 f4 f5
              have hx9 : Ext w _ := ext6 hw1 (.int .i64 0) (.string (str [])) (.int .i64 0) (.string (str [])) (.string (str [])) (.bool false)
              have hp9 := put6 HB.out (.int .i64 0) (.string (str [])) (.int .i64 0) (.string (str [])) (.string (str [])) (.bool false)
              obtain ⟨W9, hW9⟩ : ∃ W9, W9 = ((((((w1.setCell ⟨w.heap.size, 0, none⟩ (.int .i64 0)).setCell ⟨w.heap.size, 1, none⟩ (.string (str []))).setCell ⟨w.heap.size, 2, none⟩ (.int .i64 0)).setCell ⟨w.heap.size, 3, none⟩ (.string (str []))).setCell ⟨w.heap.size, 4, none⟩ (.string (str []))).setCell ⟨w.heap.size, 5, none⟩ (.bool false)) := ⟨_, rfl⟩
              rw [← hW9] at hx9 hp9
              try simp only [show str ([] : List UInt8) = ⟨#[]⟩ from rfl, show str ([47] : List UInt8) = ⟨#[47]⟩ from rfl] at hW9
              rw [← hW9]
              clear hW9
              obtain ⟨⟨r0, r1, r2, r3, r4, r5⟩, _⟩ := six hp9 (Ext.rfl' _)
              exact bodyPost_ret (v := tgtV ((0, [], 0, [], [], false), 40)) (by simp [results, Tryd.results36, go_sem, tgtV, r0, r1, r2, r3, r4, r5]) rfl ⟨ret_val (by rw [HN.out]; try rfl), hx9⟩
          · have h63 : l[k] = 63 := by
              unfold autB at hf
              simp only [Bool.not_eq_false', Bool.or_eq_true, beq_iff_eq] at hf
              exact hf.resolve_left h47
            have e63 : ((l[k].toNat : Int) != 63) = false := by rw [h63]; rfl
            have e47 : ((l[k].toNat : Int) != 47) = true := by rw [h63]; rfl
            clear hf h47 h63
            have i1 : (7 : Int) ≤ (k : Int) := by omega
            have i2 : (k : Int) ≤ (l.length : Int) := by omega
            have hRk : R = if (hostL ((l.take k).drop 7)).2.2 = 0 then finT 2 (hostL ((l.take k).drop 7)).1 (hostL ((l.take k).drop 7)).2.1 (l.drop k) else badT := by
              obtain ⟨a1, a2, a3⟩ := auth_at k hk7 hk HA.out (fun _ => HS.out)
              rw [HR.out, a1, a2, a3]
            have CH := fun w => urHost_c ((l.take k).drop 7) (by rw [List.length_drop, List.length_take]; omega) w
            have D := fun w => urlocal_c (l.drop k) (by rw [List.length_drop]; omega) w
            unfold hostV at CH
            obtain ⟨H, hH⟩ : ∃ H, H = (hostL ((l.take k).drop 7)).1 := ⟨_, rfl⟩
            obtain ⟨p, hp⟩ : ∃ p, p = (hostL ((l.take k).drop 7)).2.1 := ⟨_, rfl⟩
            obtain ⟨e, he⟩ : ∃ e, e = (hostL ((l.take k).drop 7)).2.2 := ⟨_, rfl⟩
            rw [← hH, ← hp, ← he] at CH hRk
            have CH := Lib.hid CH
            clear hH hp he
            clear hc
            by_cases c1 : e = 0
            · subst c1
              rw [if_pos rfl] at hRk
              unfold finT at hRk
              rcases hL : localL (l.drop k) with _ | ⟨pp, q, a⟩
              · rw [hL] at hRk D
                have HN := Lib.hid hRk
                unfold locV at D
                have D := Lib.hid D
                clear hRk hL HR HA
                go_wp2_with (first | (go_at_call 83; refine (CH.out _).mono ?_; rintro e w4 ⟨rfl, hx4⟩; have HB4 := Lib.hid ((hx4.block w.heap.size (Array.getElem?_eq_some_iff.1 HB3.out).1).trans HB3.out); have HT4 := Lib.hid ((hx4.block (w.heap.size + 1) (Array.getElem?_eq_some_iff.1 HT3.out).1).trans HT3.out); obtain ⟨⟨r0, r1, r2, r3, r4, r5⟩, f0, f1, f2, f3, f4, f5⟩ := six HB4.out (Ext.rfl' _); obtain ⟨⟨t0, t1, t2, t3, t4, t5⟩, g0, g1, g2, g3, g4, g5⟩ := six HT4.out (Ext.rfl' _); have hw4 : Ext w w4 := (Ext.tr hw3 hx4); clear hx4) | (go_at_call 85; refine (D.out _).mono ?_; rintro e w1 ⟨rfl, hx5⟩; have hne : w.heap.size ≠ w.heap.size + 1 := (by omega); have hge : w.heap.size ≤ w.heap.size + 1 := (by omega); have hw5 : Ext w w1 := Ext.tr ((hw4.st hge _).st hge _) hx5; have HB5 := Lib.hid ((hx5.block w.heap.size (by simpa using (Array.getElem?_eq_some_iff.1 HB4.out).1)).trans ((Below.heap_setCell _ _ _ _ hne).trans ((Below.heap_setCell _ _ _ _ hne).trans HB4.out))); have HT5 := Lib.hid ((hx5.block (w.heap.size + 1) (by simpa using (Array.getElem?_eq_some_iff.1 HT4.out).1)).trans (show _ = some (.cells #[.int .i64 2, .string (str H), .int .i64 p, .string ⟨#[]⟩, .string ⟨#[]⟩, .bool false] 68 (0, 0)) by simp [World.setCell, Array.getElem?_modify, HT4.out])); clear t0 t1 t2 t3 t4 t5 g0 g1 g2 g3 g4 g5 r0 r1 r2 r3 r4 r5 f0 f1 f2 f3 f4 f5; obtain ⟨⟨r0, r1, r2, r3, r4, r5⟩, f0, f1, f2, f3, f4, f5⟩ := six HB5.out (Ext.rfl' _); obtain ⟨⟨t0, t1, t2, t3, t4, t5⟩, g0, g1, g2, g3, g4, g5⟩ := six HT5.out (Ext.rfl' _); clear hx5))
                have HB := HB5
                have hw1 := hw5
                clear r0 r1 r2 r3 r4 r5 f0 f1 f2 f3 f4 f5
                have hx9 : Ext w _ := ext6 hw1 (.int .i64 0) (.string (str [])) (.int .i64 0) (.string (str [])) (.string (str [])) (.bool false)
                have hp9 := put6 HB.out (.int .i64 0) (.string (str [])) (.int .i64 0) (.string (str [])) (.string (str [])) (.bool false)
                obtain ⟨W9, hW9⟩ : ∃ W9, W9 = ((((((w1.setCell ⟨w.heap.size, 0, none⟩ (.int .i64 0)).setCell ⟨w.heap.size, 1, none⟩ (.string (str []))).setCell ⟨w.heap.size, 2, none⟩ (.int .i64 0)).setCell ⟨w.heap.size, 3, none⟩ (.string (str []))).setCell ⟨w.heap.size, 4, none⟩ (.string (str []))).setCell ⟨w.heap.size, 5, none⟩ (.bool false)) := ⟨_, rfl⟩
                rw [← hW9] at hx9 hp9
                try simp only [show str ([] : List UInt8) = ⟨#[]⟩ from rfl, show str ([47] : List UInt8) = ⟨#[47]⟩ from rfl] at hW9
                rw [← hW9]
                clear hW9
                obtain ⟨⟨r0, r1, r2, r3, r4, r5⟩, _⟩ := six hp9 (Ext.rfl' _)
                exact bodyPost_ret (v := tgtV ((0, [], 0, [], [], false), 40)) (by simp [results, Tryd.results36, go_sem, tgtV, r0, r1, r2, r3, r4, r5]) rfl ⟨ret_val (by rw [HN.out]; try rfl), hx9⟩
              · rw [hL] at hRk D
                unfold locV at D
                dsimp only at hRk
                clear hL HR HA
                by_cases c2 : pp = []
                · rw [if_pos c2] at hRk
                  subst c2
                  dsimp only at D
                  rw [show str ([] : List UInt8) = ⟨#[]⟩ from rfl] at D
                  have D := Lib.hid D
                  have HN := Lib.hid hRk
                  clear hRk
                  go_wp2_with (first | (go_at_call 83; refine (CH.out _).mono ?_; rintro e w4 ⟨rfl, hx4⟩; have HB4 := Lib.hid ((hx4.block w.heap.size (Array.getElem?_eq_some_iff.1 HB3.out).1).trans HB3.out); have HT4 := Lib.hid ((hx4.block (w.heap.size + 1) (Array.getElem?_eq_some_iff.1 HT3.out).1).trans HT3.out); obtain ⟨⟨r0, r1, r2, r3, r4, r5⟩, f0, f1, f2, f3, f4, f5⟩ := six HB4.out (Ext.rfl' _); obtain ⟨⟨t0, t1, t2, t3, t4, t5⟩, g0, g1, g2, g3, g4, g5⟩ := six HT4.out (Ext.rfl' _); have hw4 : Ext w w4 := (Ext.tr hw3 hx4); clear hx4) | (go_at_call 85; refine (D.out _).mono ?_; rintro e w5 ⟨rfl, hx5⟩; have hne : w.heap.size ≠ w.heap.size + 1 := (by omega); have hge : w.heap.size ≤ w.heap.size + 1 := (by omega); have hw5 : Ext w w5 := Ext.tr ((hw4.st hge _).st hge _) hx5; have HB5 := Lib.hid ((hx5.block w.heap.size (by simpa using (Array.getElem?_eq_some_iff.1 HB4.out).1)).trans ((Below.heap_setCell _ _ _ _ hne).trans ((Below.heap_setCell _ _ _ _ hne).trans HB4.out))); have HT5 := Lib.hid ((hx5.block (w.heap.size + 1) (by simpa using (Array.getElem?_eq_some_iff.1 HT4.out).1)).trans (show _ = some (.cells #[.int .i64 2, .string (str H), .int .i64 p, .string ⟨#[]⟩, .string ⟨#[]⟩, .bool false] 68 (0, 0)) by simp [World.setCell, Array.getElem?_modify, HT4.out])); clear t0 t1 t2 t3 t4 t5 g0 g1 g2 g3 g4 g5 r0 r1 r2 r3 r4 r5 f0 f1 f2 f3 f4 f5; obtain ⟨⟨r0, r1, r2, r3, r4, r5⟩, f0, f1, f2, f3, f4, f5⟩ := six HB5.out (Ext.rfl' _); obtain ⟨⟨t0, t1, t2, t3, t4, t5⟩, g0, g1, g2, g3, g4, g5⟩ := six HT5.out (Ext.rfl' _); clear hx5))
                  obtain ⟨w1, hW1⟩ : ∃ w1, w1 = ((w5.setCell ⟨w.heap.size + 1, 3, none⟩ (.string (str [47]))).setCell ⟨w.heap.size + 1, 4, none⟩ (.string (str q))).setCell ⟨w.heap.size + 1, 5, none⟩ (.bool a) := ⟨_, rfl⟩
                  try simp only [show str ([47] : List UInt8) = ⟨#[47]⟩ from rfl] at hW1
                  rw [← hW1]
                  have hne : w.heap.size ≠ w.heap.size + 1 := by omega
                  have hge : w.heap.size ≤ w.heap.size + 1 := by omega
                  have HB := Lib.hid ((show w1.heap[w.heap.size]? = w5.heap[w.heap.size]? by rw [hW1, Below.heap_setCell _ _ _ _ hne, Below.heap_setCell _ _ _ _ hne, Below.heap_setCell _ _ _ _ hne]).trans HB5.out)
                  have hw1 : Ext w w1 := by rw [hW1]; exact ((hw5.st hge _).st hge _).st hge _
                  clear hW1 t0 t1 t2 t3 t4 t5 g0 g1 g2 g3 g4 g5
                  clear r0 r1 r2 r3 r4 r5 f0 f1 f2 f3 f4 f5
                  have hx9 : Ext w _ := ext6 hw1 (.int .i64 2) (.string (str H)) (.int .i64 p) (.string (str [47])) (.string (str q)) (.bool a)
                  have hp9 := put6 HB.out (.int .i64 2) (.string (str H)) (.int .i64 p) (.string (str [47])) (.string (str q)) (.bool a)
                  obtain ⟨W9, hW9⟩ : ∃ W9, W9 = ((((((w1.setCell ⟨w.heap.size, 0, none⟩ (.int .i64 2)).setCell ⟨w.heap.size, 1, none⟩ (.string (str H))).setCell ⟨w.heap.size, 2, none⟩ (.int .i64 p)).setCell ⟨w.heap.size, 3, none⟩ (.string (str [47]))).setCell ⟨w.heap.size, 4, none⟩ (.string (str q))).setCell ⟨w.heap.size, 5, none⟩ (.bool a)) := ⟨_, rfl⟩
                  rw [← hW9] at hx9 hp9
                  try simp only [show str ([] : List UInt8) = ⟨#[]⟩ from rfl, show str ([47] : List UInt8) = ⟨#[47]⟩ from rfl] at hW9
                  rw [← hW9]
                  clear hW9
                  obtain ⟨⟨r0, r1, r2, r3, r4, r5⟩, _⟩ := six hp9 (Ext.rfl' _)
                  exact bodyPost_ret (v := tgtV ((2, H, p, [47], q, a), 0)) (by simp [results, Tryd.results36, go_sem, tgtV, r0, r1, r2, r3, r4, r5]) rfl ⟨ret_val (by rw [HN.out]; try rfl), hx9⟩
                · rw [if_neg c2] at hRk
                  have D := Lib.hid D
                  have HN := Lib.hid hRk
                  have p2 : pp.isEmpty = false := by rw [List.isEmpty_eq_false_iff]; exact c2
                  have p3 : (str pp).toList.isEmpty = false := by rw [Lib.toList_data]; exact p2
                  clear hRk
                  go_wp2_with (first | (go_at_call 83; refine (CH.out _).mono ?_; rintro e w4 ⟨rfl, hx4⟩; have HB4 := Lib.hid ((hx4.block w.heap.size (Array.getElem?_eq_some_iff.1 HB3.out).1).trans HB3.out); have HT4 := Lib.hid ((hx4.block (w.heap.size + 1) (Array.getElem?_eq_some_iff.1 HT3.out).1).trans HT3.out); obtain ⟨⟨r0, r1, r2, r3, r4, r5⟩, f0, f1, f2, f3, f4, f5⟩ := six HB4.out (Ext.rfl' _); obtain ⟨⟨t0, t1, t2, t3, t4, t5⟩, g0, g1, g2, g3, g4, g5⟩ := six HT4.out (Ext.rfl' _); have hw4 : Ext w w4 := (Ext.tr hw3 hx4); clear hx4) | (go_at_call 85; refine (D.out _).mono ?_; rintro e w5 ⟨rfl, hx5⟩; have hne : w.heap.size ≠ w.heap.size + 1 := (by omega); have hge : w.heap.size ≤ w.heap.size + 1 := (by omega); have hw5 : Ext w w5 := Ext.tr ((hw4.st hge _).st hge _) hx5; have HB5 := Lib.hid ((hx5.block w.heap.size (by simpa using (Array.getElem?_eq_some_iff.1 HB4.out).1)).trans ((Below.heap_setCell _ _ _ _ hne).trans ((Below.heap_setCell _ _ _ _ hne).trans HB4.out))); have HT5 := Lib.hid ((hx5.block (w.heap.size + 1) (by simpa using (Array.getElem?_eq_some_iff.1 HT4.out).1)).trans (show _ = some (.cells #[.int .i64 2, .string (str H), .int .i64 p, .string ⟨#[]⟩, .string ⟨#[]⟩, .bool false] 68 (0, 0)) by simp [World.setCell, Array.getElem?_modify, HT4.out])); clear t0 t1 t2 t3 t4 t5 g0 g1 g2 g3 g4 g5 r0 r1 r2 r3 r4 r5 f0 f1 f2 f3 f4 f5; obtain ⟨⟨r0, r1, r2, r3, r4, r5⟩, f0, f1, f2, f3, f4, f5⟩ := six HB5.out (Ext.rfl' _); obtain ⟨⟨t0, t1, t2, t3, t4, t5⟩, g0, g1, g2, g3, g4, g5⟩ := six HT5.out (Ext.rfl' _); clear hx5))
                  obtain ⟨w1, hW1⟩ : ∃ w1, w1 = ((w5.setCell ⟨w.heap.size + 1, 3, none⟩ (.string (str pp))).setCell ⟨w.heap.size + 1, 4, none⟩ (.string (str q))).setCell ⟨w.heap.size + 1, 5, none⟩ (.bool a) := ⟨_, rfl⟩
                  try simp only [show str ([47] : List UInt8) = ⟨#[47]⟩ from rfl] at hW1
                  rw [← hW1]
                  have hne : w.heap.size ≠ w.heap.size + 1 := by omega
                  have hge : w.heap.size ≤ w.heap.size + 1 := by omega
                  have HB := Lib.hid ((show w1.heap[w.heap.size]? = w5.heap[w.heap.size]? by rw [hW1, Below.heap_setCell _ _ _ _ hne, Below.heap_setCell _ _ _ _ hne, Below.heap_setCell _ _ _ _ hne]).trans HB5.out)
                  have hw1 : Ext w w1 := by rw [hW1]; exact ((hw5.st hge _).st hge _).st hge _
                  clear hW1 t0 t1 t2 t3 t4 t5 g0 g1 g2 g3 g4 g5
                  clear r0 r1 r2 r3 r4 r5 f0 f1 f2 f3 f4 f5
                  have hx9 : Ext w _ := ext6 hw1 (.int .i64 2) (.string (str H)) (.int .i64 p) (.string (str pp)) (.string (str q)) (.bool a)
                  have hp9 := put6 HB.out (.int .i64 2) (.string (str H)) (.int .i64 p) (.string (str pp)) (.string (str q)) (.bool a)
                  obtain ⟨W9, hW9⟩ : ∃ W9, W9 = ((((((w1.setCell ⟨w.heap.size, 0, none⟩ (.int .i64 2)).setCell ⟨w.heap.size, 1, none⟩ (.string (str H))).setCell ⟨w.heap.size, 2, none⟩ (.int .i64 p)).setCell ⟨w.heap.size, 3, none⟩ (.string (str pp))).setCell ⟨w.heap.size, 4, none⟩ (.string (str q))).setCell ⟨w.heap.size, 5, none⟩ (.bool a)) := ⟨_, rfl⟩
                  rw [← hW9] at hx9 hp9
                  try simp only [show str ([] : List UInt8) = ⟨#[]⟩ from rfl, show str ([47] : List UInt8) = ⟨#[47]⟩ from rfl] at hW9
                  rw [← hW9]
                  clear hW9
                  obtain ⟨⟨r0, r1, r2, r3, r4, r5⟩, _⟩ := six hp9 (Ext.rfl' _)
                  exact bodyPost_ret (v := tgtV ((2, H, p, pp, q, a), 0)) (by simp [results, Tryd.results36, go_sem, tgtV, r0, r1, r2, r3, r4, r5]) rfl ⟨ret_val (by rw [HN.out]; try rfl), hx9⟩
            · have d2 : (e != 0) = true := by rw [bne_iff_ne]; exact c1
              rw [if_neg c1] at hRk
              have HN := Lib.hid hRk
              clear hRk c1 HR HA
              go_wp2_with (go_at_call 83; refine (CH.out _).mono ?_; rintro e w1 ⟨rfl, hx4⟩; have HB4 := Lib.hid ((hx4.block w.heap.size (Array.getElem?_eq_some_iff.1 HB3.out).1).trans HB3.out); have HT4 := Lib.hid ((hx4.block (w.heap.size + 1) (Array.getElem?_eq_some_iff.1 HT3.out).1).trans HT3.out); obtain ⟨⟨r0, r1, r2, r3, r4, r5⟩, f0, f1, f2, f3, f4, f5⟩ := six HB4.out (Ext.rfl' _); obtain ⟨⟨t0, t1, t2, t3, t4, t5⟩, g0, g1, g2, g3, g4, g5⟩ := six HT4.out (Ext.rfl' _); have hw4 : Ext w w1 := (Ext.tr hw3 hx4); clear hx4)
              have HB := HB4
              have hw1 := hw4
              clear r0 r1 r2 r3 r4 r5 f0 f1 f2 f3 f4 f5
              have hx9 : Ext w _ := ext6 hw1 (.int .i64 0) (.string (str [])) (.int .i64 0) (.string (str [])) (.string (str [])) (.bool false)
              have hp9 := put6 HB.out (.int .i64 0) (.string (str [])) (.int .i64 0) (.string (str [])) (.string (str [])) (.bool false)
              obtain ⟨W9, hW9⟩ : ∃ W9, W9 = ((((((w1.setCell ⟨w.heap.size, 0, none⟩ (.int .i64 0)).setCell ⟨w.heap.size, 1, none⟩ (.string (str []))).setCell ⟨w.heap.size, 2, none⟩ (.int .i64 0)).setCell ⟨w.heap.size, 3, none⟩ (.string (str []))).setCell ⟨w.heap.size, 4, none⟩ (.string (str []))).setCell ⟨w.heap.size, 5, none⟩ (.bool false)) := ⟨_, rfl⟩
              rw [← hW9] at hx9 hp9
              try simp only [show str ([] : List UInt8) = ⟨#[]⟩ from rfl, show str ([47] : List UInt8) = ⟨#[47]⟩ from rfl] at hW9
              rw [← hW9]
              clear hW9
              obtain ⟨⟨r0, r1, r2, r3, r4, r5⟩, _⟩ := six hp9 (Ext.rfl' _)
              exact bodyPost_ret (v := tgtV ((0, [], 0, [], [], false), 40)) (by simp [results, Tryd.results36, go_sem, tgtV, r0, r1, r2, r3, r4, r5]) rfl ⟨ret_val (by rw [HN.out]; try rfl), hx9⟩
        · have hkl : k = l.length := by omega
          have c0 : ¬ (k : Int) < (l.length : Int) := by omega
          have HK := Lib.hid hkl
          clear hlt hkl
          have i1 : (7 : Int) ≤ (k : Int) := by omega
          have i2 : (k : Int) ≤ (l.length : Int) := by omega
          have hRk : R = if (hostL ((l.take k).drop 7)).2.2 = 0 then finT 2 (hostL ((l.take k).drop 7)).1 (hostL ((l.take k).drop 7)).2.1 (l.drop k) else badT := by
            obtain ⟨a1, a2, a3⟩ := auth_at k hk7 hk HA.out (fun h => absurd HK.out (by omega))
            rw [HR.out, a1, a2, a3]
          have CH := fun w => urHost_c ((l.take k).drop 7) (by rw [List.length_drop, List.length_take]; omega) w
          have D := fun w => urlocal_c (l.drop k) (by rw [List.length_drop]; omega) w
          unfold hostV at CH
          obtain ⟨H, hH⟩ : ∃ H, H = (hostL ((l.take k).drop 7)).1 := ⟨_, rfl⟩
          obtain ⟨p, hp⟩ : ∃ p, p = (hostL ((l.take k).drop 7)).2.1 := ⟨_, rfl⟩
          obtain ⟨e, he⟩ : ∃ e, e = (hostL ((l.take k).drop 7)).2.2 := ⟨_, rfl⟩
          rw [← hH, ← hp, ← he] at CH hRk
          have CH := Lib.hid CH
          clear hH hp he
          clear hc
          by_cases c1 : e = 0
          · subst c1
            rw [if_pos rfl] at hRk
            unfold finT at hRk
            rcases hL : localL (l.drop k) with _ | ⟨pp, q, a⟩
            · rw [hL] at hRk D
              have HN := Lib.hid hRk
              unfold locV at D
              have D := Lib.hid D
              clear hRk hL HR HA
              go_wp2_with (first | (go_at_call 83; refine (CH.out _).mono ?_; rintro e w4 ⟨rfl, hx4⟩; have HB4 := Lib.hid ((hx4.block w.heap.size (Array.getElem?_eq_some_iff.1 HB3.out).1).trans HB3.out); have HT4 := Lib.hid ((hx4.block (w.heap.size + 1) (Array.getElem?_eq_some_iff.1 HT3.out).1).trans HT3.out); obtain ⟨⟨r0, r1, r2, r3, r4, r5⟩, f0, f1, f2, f3, f4, f5⟩ := six HB4.out (Ext.rfl' _); obtain ⟨⟨t0, t1, t2, t3, t4, t5⟩, g0, g1, g2, g3, g4, g5⟩ := six HT4.out (Ext.rfl' _); have hw4 : Ext w w4 := (Ext.tr hw3 hx4); clear hx4) | (go_at_call 85; refine (D.out _).mono ?_; rintro e w1 ⟨rfl, hx5⟩; have hne : w.heap.size ≠ w.heap.size + 1 := (by omega); have hge : w.heap.size ≤ w.heap.size + 1 := (by omega); have hw5 : Ext w w1 := Ext.tr ((hw4.st hge _).st hge _) hx5; have HB5 := Lib.hid ((hx5.block w.heap.size (by simpa using (Array.getElem?_eq_some_iff.1 HB4.out).1)).trans ((Below.heap_setCell _ _ _ _ hne).trans ((Below.heap_setCell _ _ _ _ hne).trans HB4.out))); have HT5 := Lib.hid ((hx5.block (w.heap.size + 1) (by simpa using (Array.getElem?_eq_some_iff.1 HT4.out).1)).trans (show _ = some (.cells #[.int .i64 2, .string (str H), .int .i64 p, .string ⟨#[]⟩, .string ⟨#[]⟩, .bool false] 68 (0, 0)) by simp [World.setCell, Array.getElem?_modify, HT4.out])); clear t0 t1 t2 t3 t4 t5 g0 g1 g2 g3 g4 g5 r0 r1 r2 r3 r4 r5 f0 f1 f2 f3 f4 f5; obtain ⟨⟨r0, r1, r2, r3, r4, r5⟩, f0, f1, f2, f3, f4, f5⟩ := six HB5.out (Ext.rfl' _); obtain ⟨⟨t0, t1, t2, t3, t4, t5⟩, g0, g1, g2, g3, g4, g5⟩ := six HT5.out (Ext.rfl' _); clear hx5))
              have HB := HB5
              have hw1 := hw5
              clear r0 r1 r2 r3 r4 r5 f0 f1 f2 f3 f4 f5
              have hx9 : Ext w _ := ext6 hw1 (.int .i64 0) (.string (str [])) (.int .i64 0) (.string (str [])) (.string (str [])) (.bool false)
              have hp9 := put6 HB.out (.int .i64 0) (.string (str [])) (.int .i64 0) (.string (str [])) (.string (str [])) (.bool false)
              obtain ⟨W9, hW9⟩ : ∃ W9, W9 = ((((((w1.setCell ⟨w.heap.size, 0, none⟩ (.int .i64 0)).setCell ⟨w.heap.size, 1, none⟩ (.string (str []))).setCell ⟨w.heap.size, 2, none⟩ (.int .i64 0)).setCell ⟨w.heap.size, 3, none⟩ (.string (str []))).setCell ⟨w.heap.size, 4, none⟩ (.string (str []))).setCell ⟨w.heap.size, 5, none⟩ (.bool false)) := ⟨_, rfl⟩
              rw [← hW9] at hx9 hp9
              try simp only [show str ([] : List UInt8) = ⟨#[]⟩ from rfl, show str ([47] : List UInt8) = ⟨#[47]⟩ from rfl] at hW9
              rw [← hW9]
              clear hW9
              obtain ⟨⟨r0, r1, r2, r3, r4, r5⟩, _⟩ := six hp9 (Ext.rfl' _)
              exact bodyPost_ret (v := tgtV ((0, [], 0, [], [], false), 40)) (by simp [results, Tryd.results36, go_sem, tgtV, r0, r1, r2, r3, r4, r5]) rfl ⟨ret_val (by rw [HN.out]; try rfl), hx9⟩
            · rw [hL] at hRk D
              unfold locV at D
              dsimp only at hRk
              clear hL HR HA
              by_cases c2 : pp = []
              · rw [if_pos c2] at hRk
                subst c2
                dsimp only at D
                rw [show str ([] : List UInt8) = ⟨#[]⟩ from rfl] at D
                have D := Lib.hid D
                have HN := Lib.hid hRk
                clear hRk
                go_wp2_with (first | (go_at_call 83; refine (CH.out _).mono ?_; rintro e w4 ⟨rfl, hx4⟩; have HB4 := Lib.hid ((hx4.block w.heap.size (Array.getElem?_eq_some_iff.1 HB3.out).1).trans HB3.out); have HT4 := Lib.hid ((hx4.block (w.heap.size + 1) (Array.getElem?_eq_some_iff.1 HT3.out).1).trans HT3.out); obtain ⟨⟨r0, r1, r2, r3, r4, r5⟩, f0, f1, f2, f3, f4, f5⟩ := six HB4.out (Ext.rfl' _); obtain ⟨⟨t0, t1, t2, t3, t4, t5⟩, g0, g1, g2, g3, g4, g5⟩ := six HT4.out (Ext.rfl' _); have hw4 : Ext w w4 := (Ext.tr hw3 hx4); clear hx4) | (go_at_call 85; refine (D.out _).mono ?_; rintro e w5 ⟨rfl, hx5⟩; have hne : w.heap.size ≠ w.heap.size + 1 := (by omega); have hge : w.heap.size ≤ w.heap.size + 1 := (by omega); have hw5 : Ext w w5 := Ext.tr ((hw4.st hge _).st hge _) hx5; have HB5 := Lib.hid ((hx5.block w.heap.size (by simpa using (Array.getElem?_eq_some_iff.1 HB4.out).1)).trans ((Below.heap_setCell _ _ _ _ hne).trans ((Below.heap_setCell _ _ _ _ hne).trans HB4.out))); have HT5 := Lib.hid ((hx5.block (w.heap.size + 1) (by simpa using (Array.getElem?_eq_some_iff.1 HT4.out).1)).trans (show _ = some (.cells #[.int .i64 2, .string (str H), .int .i64 p, .string ⟨#[]⟩, .string ⟨#[]⟩, .bool false] 68 (0, 0)) by simp [World.setCell, Array.getElem?_modify, HT4.out])); clear t0 t1 t2 t3 t4 t5 g0 g1 g2 g3 g4 g5 r0 r1 r2 r3 r4 r5 f0 f1 f2 f3 f4 f5; obtain ⟨⟨r0, r1, r2, r3, r4, r5⟩, f0, f1, f2, f3, f4, f5⟩ := six HB5.out (Ext.rfl' _); obtain ⟨⟨t0, t1, t2, t3, t4, t5⟩, g0, g1, g2, g3, g4, g5⟩ := six HT5.out (Ext.rfl' _); clear hx5))
                obtain ⟨w1, hW1⟩ : ∃ w1, w1 = ((w5.setCell ⟨w.heap.size + 1, 3, none⟩ (.string (str [47]))).setCell ⟨w.heap.size + 1, 4, none⟩ (.string (str q))).setCell ⟨w.heap.size + 1, 5, none⟩ (.bool a) := ⟨_, rfl⟩
                try simp only [show str ([47] : List UInt8) = ⟨#[47]⟩ from rfl] at hW1
                rw [← hW1]
                have hne : w.heap.size ≠ w.heap.size + 1 := by omega
                have hge : w.heap.size ≤ w.heap.size + 1 := by omega
                have HB := Lib.hid ((show w1.heap[w.heap.size]? = w5.heap[w.heap.size]? by rw [hW1, Below.heap_setCell _ _ _ _ hne, Below.heap_setCell _ _ _ _ hne, Below.heap_setCell _ _ _ _ hne]).trans HB5.out)
                have hw1 : Ext w w1 := by rw [hW1]; exact ((hw5.st hge _).st hge _).st hge _
                clear hW1 t0 t1 t2 t3 t4 t5 g0 g1 g2 g3 g4 g5
                clear r0 r1 r2 r3 r4 r5 f0 f1 f2 f3 f4 f5
                have hx9 : Ext w _ := ext6 hw1 (.int .i64 2) (.string (str H)) (.int .i64 p) (.string (str [47])) (.string (str q)) (.bool a)
                have hp9 := put6 HB.out (.int .i64 2) (.string (str H)) (.int .i64 p) (.string (str [47])) (.string (str q)) (.bool a)
                obtain ⟨W9, hW9⟩ : ∃ W9, W9 = ((((((w1.setCell ⟨w.heap.size, 0, none⟩ (.int .i64 2)).setCell ⟨w.heap.size, 1, none⟩ (.string (str H))).setCell ⟨w.heap.size, 2, none⟩ (.int .i64 p)).setCell ⟨w.heap.size, 3, none⟩ (.string (str [47]))).setCell ⟨w.heap.size, 4, none⟩ (.string (str q))).setCell ⟨w.heap.size, 5, none⟩ (.bool a)) := ⟨_, rfl⟩
                rw [← hW9] at hx9 hp9
                try simp only [show str ([] : List UInt8) = ⟨#[]⟩ from rfl, show str ([47] : List UInt8) = ⟨#[47]⟩ from rfl] at hW9
                rw [← hW9]
                clear hW9
                obtain ⟨⟨r0, r1, r2, r3, r4, r5⟩, _⟩ := six hp9 (Ext.rfl' _)
                exact bodyPost_ret (v := tgtV ((2, H, p, [47], q, a), 0)) (by simp [results, Tryd.results36, go_sem, tgtV, r0, r1, r2, r3, r4, r5]) rfl ⟨ret_val (by rw [HN.out]; try rfl), hx9⟩
              · rw [if_neg c2] at hRk
                have D := Lib.hid D
                have HN := Lib.hid hRk
                have p2 : pp.isEmpty = false := by rw [List.isEmpty_eq_false_iff]; exact c2
                have p3 : (str pp).toList.isEmpty = false := by rw [Lib.toList_data]; exact p2
                clear hRk
                go_wp2_with (first | (go_at_call 83; refine (CH.out _).mono ?_; rintro e w4 ⟨rfl, hx4⟩; have HB4 := Lib.hid ((hx4.block w.heap.size (Array.getElem?_eq_some_iff.1 HB3.out).1).trans HB3.out); have HT4 := Lib.hid ((hx4.block (w.heap.size + 1) (Array.getElem?_eq_some_iff.1 HT3.out).1).trans HT3.out); obtain ⟨⟨r0, r1, r2, r3, r4, r5⟩, f0, f1, f2, f3, f4, f5⟩ := six HB4.out (Ext.rfl' _); obtain ⟨⟨t0, t1, t2, t3, t4, t5⟩, g0, g1, g2, g3, g4, g5⟩ := six HT4.out (Ext.rfl' _); have hw4 : Ext w w4 := (Ext.tr hw3 hx4); clear hx4) | (go_at_call 85; refine (D.out _).mono ?_; rintro e w5 ⟨rfl, hx5⟩; have hne : w.heap.size ≠ w.heap.size + 1 := (by omega); have hge : w.heap.size ≤ w.heap.size + 1 := (by omega); have hw5 : Ext w w5 := Ext.tr ((hw4.st hge _).st hge _) hx5; have HB5 := Lib.hid ((hx5.block w.heap.size (by simpa using (Array.getElem?_eq_some_iff.1 HB4.out).1)).trans ((Below.heap_setCell _ _ _ _ hne).trans ((Below.heap_setCell _ _ _ _ hne).trans HB4.out))); have HT5 := Lib.hid ((hx5.block (w.heap.size + 1) (by simpa using (Array.getElem?_eq_some_iff.1 HT4.out).1)).trans (show _ = some (.cells #[.int .i64 2, .string (str H), .int .i64 p, .string ⟨#[]⟩, .string ⟨#[]⟩, .bool false] 68 (0, 0)) by simp [World.setCell, Array.getElem?_modify, HT4.out])); clear t0 t1 t2 t3 t4 t5 g0 g1 g2 g3 g4 g5 r0 r1 r2 r3 r4 r5 f0 f1 f2 f3 f4 f5; obtain ⟨⟨r0, r1, r2, r3, r4, r5⟩, f0, f1, f2, f3, f4, f5⟩ := six HB5.out (Ext.rfl' _); obtain ⟨⟨t0, t1, t2, t3, t4, t5⟩, g0, g1, g2, g3, g4, g5⟩ := six HT5.out (Ext.rfl' _); clear hx5))
                obtain ⟨w1, hW1⟩ : ∃ w1, w1 = ((w5.setCell ⟨w.heap.size + 1, 3, none⟩ (.string (str pp))).setCell ⟨w.heap.size + 1, 4, none⟩ (.string (str q))).setCell ⟨w.heap.size + 1, 5, none⟩ (.bool a) := ⟨_, rfl⟩
                try simp only [show str ([47] : List UInt8) = ⟨#[47]⟩ from rfl] at hW1
                rw [← hW1]
                have hne : w.heap.size ≠ w.heap.size + 1 := by omega
                have hge : w.heap.size ≤ w.heap.size + 1 := by omega
                have HB := Lib.hid ((show w1.heap[w.heap.size]? = w5.heap[w.heap.size]? by rw [hW1, Below.heap_setCell _ _ _ _ hne, Below.heap_setCell _ _ _ _ hne, Below.heap_setCell _ _ _ _ hne]).trans HB5.out)
                have hw1 : Ext w w1 := by rw [hW1]; exact ((hw5.st hge _).st hge _).st hge _
                clear hW1 t0 t1 t2 t3 t4 t5 g0 g1 g2 g3 g4 g5
                clear r0 r1 r2 r3 r4 r5 f0 f1 f2 f3 f4 f5
                have hx9 : Ext w _ := ext6 hw1 (.int .i64 2) (.string (str H)) (.int .i64 p) (.string (str pp)) (.string (str q)) (.bool a)
                have hp9 := put6 HB.out (.int .i64 2) (.string (str H)) (.int .i64 p) (.string (str pp)) (.string (str q)) (.bool a)
                obtain ⟨W9, hW9⟩ : ∃ W9, W9 = ((((((w1.setCell ⟨w.heap.size, 0, none⟩ (.int .i64 2)).setCell ⟨w.heap.size, 1, none⟩ (.string (str H))).setCell ⟨w.heap.size, 2, none⟩ (.int .i64 p)).setCell ⟨w.heap.size, 3, none⟩ (.string (str pp))).setCell ⟨w.heap.size, 4, none⟩ (.string (str q))).setCell ⟨w.heap.size, 5, none⟩ (.bool a)) := ⟨_, rfl⟩
                rw [← hW9] at hx9 hp9
                try simp only [show str ([] : List UInt8) = ⟨#[]⟩ from rfl, show str ([47] : List UInt8) = ⟨#[47]⟩ from rfl] at hW9
                rw [← hW9]
                clear hW9
                obtain ⟨⟨r0, r1, r2, r3, r4, r5⟩, _⟩ := six hp9 (Ext.rfl' _)
                exact bodyPost_ret (v := tgtV ((2, H, p, pp, q, a), 0)) (by simp [results, Tryd.results36, go_sem, tgtV, r0, r1, r2, r3, r4, r5]) rfl ⟨ret_val (by rw [HN.out]; try rfl), hx9⟩
          · have d2 : (e != 0) = true := by rw [bne_iff_ne]; exact c1
            rw [if_neg c1] at hRk
            have HN := Lib.hid hRk
            clear hRk c1 HR HA
            go_wp2_with (go_at_call 83; refine (CH.out _).mono ?_; rintro e w1 ⟨rfl, hx4⟩; have HB4 := Lib.hid ((hx4.block w.heap.size (Array.getElem?_eq_some_iff.1 HB3.out).1).trans HB3.out); have HT4 := Lib.hid ((hx4.block (w.heap.size + 1) (Array.getElem?_eq_some_iff.1 HT3.out).1).trans HT3.out); obtain ⟨⟨r0, r1, r2, r3, r4, r5⟩, f0, f1, f2, f3, f4, f5⟩ := six HB4.out (Ext.rfl' _); obtain ⟨⟨t0, t1, t2, t3, t4, t5⟩, g0, g1, g2, g3, g4, g5⟩ := six HT4.out (Ext.rfl' _); have hw4 : Ext w w1 := (Ext.tr hw3 hx4); clear hx4)
            have HB := HB4
            have hw1 := hw4
            clear r0 r1 r2 r3 r4 r5 f0 f1 f2 f3 f4 f5
            have hx9 : Ext w _ := ext6 hw1 (.int .i64 0) (.string (str [])) (.int .i64 0) (.string (str [])) (.string (str [])) (.bool false)
            have hp9 := put6 HB.out (.int .i64 0) (.string (str [])) (.int .i64 0) (.string (str [])) (.string (str [])) (.bool false)
            obtain ⟨W9, hW9⟩ : ∃ W9, W9 = ((((((w1.setCell ⟨w.heap.size, 0, none⟩ (.int .i64 0)).setCell ⟨w.heap.size, 1, none⟩ (.string (str []))).setCell ⟨w.heap.size, 2, none⟩ (.int .i64 0)).setCell ⟨w.heap.size, 3, none⟩ (.string (str []))).setCell ⟨w.heap.size, 4, none⟩ (.string (str []))).setCell ⟨w.heap.size, 5, none⟩ (.bool false)) := ⟨_, rfl⟩
            rw [← hW9] at hx9 hp9
            try simp only [show str ([] : List UInt8) = ⟨#[]⟩ from rfl, show str ([47] : List UInt8) = ⟨#[47]⟩ from rfl] at hW9
            rw [← hW9]
            clear hW9
            obtain ⟨⟨r0, r1, r2, r3, r4, r5⟩, _⟩ := six hp9 (Ext.rfl' _)
            exact bodyPost_ret (v := tgtV ((0, [], 0, [], [], false), 40)) (by simp [results, Tryd.results36, go_sem, tgtV, r0, r1, r2, r3, r4, r5]) rfl ⟨ret_val (by rw [HN.out]; try rfl), hx9⟩
end Go.Proofs.YtolfpfdmgelhhaaDoor
