/-
The laws AccessParses and AccessBack as walks.
-/
import Derived.Test.YtolfpfdmgelhhaaDoorAcc12
import Derived.Test.YtolfpfdmgelhhaaDoorAcc14
set_option linter.unusedVariables false
set_option linter.unusedSimpArgs false
namespace Go.Proofs.YtolfpfdmgelhhaaDoor
open Go.RowKit

set_option maxRecDepth 100000 in
set_option maxHeartbeats 4000000 in
theorem AccessParses_w (l : List UInt8) (hs : l.length ≤ 4000000000) (w : World) (hE : ErrR w) (hP : Pow w) (hM : Mx w) :
    Calls Tryd.prog 4 #[.string (str l)] w (Gives (.bool true) w) := by
  have C1 := fun w hE hP hM => aParse_c l hs w hE hP hM
  have C2 := fun w => arParse_c l hs w
  obtain ⟨⟨x, e⟩, hr⟩ : ∃ r, r = parsL l := ⟨_, rfl⟩
  rw [← hr] at C1 C2
  have C3 := fun (w : World) => aOwn_c x w
  unfold parsV Ent.val Ent.cells at C1 C2
  unfold Ent.val Ent.cells at C3
  obtain ⟨t, c, m, h, g, s, b, a⟩ := x
  dsimp only at C1 C2 C3
  clear hr
  have C1 := Lib.hid C1
  have C2 := Lib.hid C2
  have C3 := Lib.hid C3
  have HE := Lib.hid hE
  have HP := Lib.hid hP
  have HM := Lib.hid hM
  clear hE hP hM
  go_enter Tryd.func4, Tryd.ntmps4
  go_wp2_with (first
    | (go_at_call 22; refine (C1.out _ (HE.out.ext (by (repeat (first | exact Ext.rfl' _ | assumption | refine Ext.dr ?_ | refine Ext.drN ?_ _ | refine Ext.al ?_ _ | refine Ext.st ?_ (by simp) _ | refine Ext.tr ?_ (by assumption))))) (HP.out.ext (by (repeat (first | exact Ext.rfl' _ | assumption | refine Ext.dr ?_ | refine Ext.drN ?_ _ | refine Ext.al ?_ _ | refine Ext.st ?_ (by simp) _ | refine Ext.tr ?_ (by assumption))))) (HM.out.ext (by (repeat (first | exact Ext.rfl' _ | assumption | refine Ext.dr ?_ | refine Ext.drN ?_ _ | refine Ext.al ?_ _ | refine Ext.st ?_ (by simp) _ | refine Ext.tr ?_ (by assumption)))))).mono ?_; rintro e w1 ⟨rfl, hx1⟩)
    | (go_at_call 23; refine (C2.out _).mono ?_; rintro e w2 ⟨rfl, hx2⟩; have hb1 := hp_ext hx2 (heap_alloc_new w1 _); have hl : w1.heap.size < w2.heap.size := (by have := hx2.size; simp at this; omega)))
  obtain ⟨W3, hW3⟩ : ∃ W3, W3 = w2.alloc (.cells #[.int .i64 t, .string (str c), .string (str m), .string (str h), .string (str g), .int .i64 s, .int .i64 b, .string (str a)] 41) := ⟨_, rfl⟩
  rw [← hW3]
  have hb1 := hp_al (o := .cells #[.int .i64 t, .string (str c), .string (str m), .string (str h), .string (str g), .int .i64 s, .int .i64 b, .string (str a)] 41) hb1
  have hb2 := heap_alloc_new w2 (.cells #[.int .i64 t, .string (str c), .string (str m), .string (str h), .string (str g), .int .i64 s, .int .i64 b, .string (str a)] 41)
  rw [← hW3] at hb1 hb2
  have hx3 : Ext w W3 := by rw [hW3]; (repeat (first | exact Ext.rfl' _ | assumption | refine Ext.dr ?_ | refine Ext.drN ?_ _ | refine Ext.al ?_ _ | refine Ext.st ?_ (by simp) _ | refine Ext.tr ?_ (by assumption)))
  clear hW3 hl
  obtain ⟨B1, hB1⟩ : ∃ B1, B1 = w1.heap.size := ⟨_, rfl⟩
  obtain ⟨B2, hB2⟩ : ∃ B2, B2 = w2.heap.size := ⟨_, rfl⟩
  rw [← hB1] at hb1 ⊢
  rw [← hB2] at hb2 ⊢
  clear hB1 hB2 hx1 hx2
  have HB1 := Lib.hid hb1
  have HB2 := Lib.hid hb2
  have hks := Lib.hid (fun w' (e : Ext W3 w') => And.intro (eight HB1.out e) (eight HB2.out e))
  obtain ⟨⟨k0, k1, k2, k3, k4, k5, k6, k7⟩, ⟨z0, z1, z2, z3, z4, z5, z6, z7⟩⟩ := hks.out W3 (Ext.rfl' _)
  clear hb1 hb2
  go_region_held3 (fun w' => (w'.cell? ⟨B1, 0, none⟩ = some (.int .i64 t) ∧ w'.cell? ⟨B1, 1, none⟩ = some (.string (str c)) ∧ w'.cell? ⟨B1, 2, none⟩ = some (.string (str m)) ∧ w'.cell? ⟨B1, 3, none⟩ = some (.string (str h)) ∧ w'.cell? ⟨B1, 4, none⟩ = some (.string (str g)) ∧ w'.cell? ⟨B1, 5, none⟩ = some (.int .i64 s) ∧ w'.cell? ⟨B1, 6, none⟩ = some (.int .i64 b) ∧ w'.cell? ⟨B1, 7, none⟩ = some (.string (str a))) ∧ (w'.cell? ⟨B2, 0, none⟩ = some (.int .i64 t) ∧ w'.cell? ⟨B2, 1, none⟩ = some (.string (str c)) ∧ w'.cell? ⟨B2, 2, none⟩ = some (.string (str m)) ∧ w'.cell? ⟨B2, 3, none⟩ = some (.string (str h)) ∧ w'.cell? ⟨B2, 4, none⟩ = some (.string (str g)) ∧ w'.cell? ⟨B2, 5, none⟩ = some (.int .i64 s) ∧ w'.cell? ⟨B2, 6, none⟩ = some (.int .i64 b) ∧ w'.cell? ⟨B2, 7, none⟩ = some (.string (str a)))) (exact hks.out _ (by (repeat (with_reducible (first | exact Ext.rfl' _ | assumption | refine Ext.dr ?_ | refine Ext.drN ?_ _ | refine Ext.al ?_ _ | refine Ext.st ?_ (by dsimp only; omega) _ | refine Ext.tr ?_ (by assumption)))))) (first | (go_at_call 24; refine (C3.out _).mono ?_; rintro e w4 ⟨rfl, hx4⟩) | (go_at_call 25; refine (num21_c _ _).mono ?_; rintro e w5 ⟨rfl, rfl⟩) | (go_at_call 26; refine (knows21_c _ (HE.out.ext (by (repeat (with_reducible (first | exact Ext.rfl' _ | assumption | refine Ext.dr ?_ | refine Ext.drN ?_ _ | refine Ext.al ?_ _ | refine Ext.st ?_ (by dsimp only; omega) _ | refine Ext.tr ?_ (by assumption)))))) (HP.out.ext (by (repeat (with_reducible (first | exact Ext.rfl' _ | assumption | refine Ext.dr ?_ | refine Ext.drN ?_ _ | refine Ext.al ?_ _ | refine Ext.st ?_ (by dsimp only; omega) _ | refine Ext.tr ?_ (by assumption)))))) (HM.out.ext (by (repeat (with_reducible (first | exact Ext.rfl' _ | assumption | refine Ext.dr ?_ | refine Ext.drN ?_ _ | refine Ext.al ?_ _ | refine Ext.st ?_ (by dsimp only; omega) _ | refine Ext.tr ?_ (by assumption))))))).mono ?_; rintro e w6 ⟨rfl, hx6⟩))
  all_goals (
    go_wp2
    go_ret
    exact ⟨rfl, by (repeat (first | exact Ext.rfl' _ | assumption | refine Ext.dr ?_ | refine Ext.drN ?_ _ | refine Ext.al ?_ _ | refine Ext.st ?_ (by simp) _ | refine Ext.tr ?_ (by assumption)))⟩)
end Go.Proofs.YtolfpfdmgelhhaaDoor
