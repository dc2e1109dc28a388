/-
What must come: the law's own known answers.
-/
import Derived.Test.YteklakibcboepabDoorNum3
set_option linter.unusedVariables false
set_option linter.unusedSimpArgs false
namespace Go.Proofs.YteklakibcboepabDoor
open Go.RowKit

theorem num01_c (x : Int) (w : World) : Calls Tryd.prog 7 #[.int .i64 x] w fun e w' => e = .returned (.int .i64 x) ∧ w = w' := by
  go_enter Tryd.func7, Tryd.ntmps7
  go_wp2
  go_ret
  exact ⟨rfl, rfl⟩
theorem know_split (w : World) : Calls Tryd.prog 28 #[.string ⟨#[97, 44, 32, 98, 44, 44, 99, 32]⟩, .int .u8 44] w (Ret (IsSlS [[97], [98], [99]]) w) := by
  have h := Split_c [97, 44, 32, 98, 44, 44, 99, 32] 44 (by decide) w
  rw [show splitL 44 [97, 44, 32, 98, 44, 44, 99, 32] = [[97], [98], [99]] from by decide +kernel] at h
  exact h
theorem know_dec (w : World) (hE : ErrR w) : Calls Tryd.prog 29 #[.string ⟨#[48, 48, 55]⟩] w (Gives (.tuple #[.int .i64 7, .int .i64 0]) w) := by
  have h := Decimal_c [48, 48, 55] (by decide) w hE
  rw [show numL 10 1000000000000000000 [48, 48, 55] = (7, 0) from by decide +kernel] at h
  exact h
theorem know_get (w : World) : Calls Tryd.prog 30 #[.string ⟨#[71, 69, 84]⟩] w (Gives (.bool true) w) := by
  have h := Token_c ⟨#[71, 69, 84]⟩ (by decide) w
  exact h
theorem know_ab (w : World) : Calls Tryd.prog 30 #[.string ⟨#[97, 32, 98]⟩] w (Gives (.bool false) w) := by
  have h := Token_c ⟨#[97, 32, 98]⟩ (by decide) w
  exact h
set_option maxRecDepth 100000 in
set_option maxHeartbeats 1000000 in
theorem knows01_c (w : World) (hE : ErrR w) : Calls Tryd.prog 12 #[] w (Gives (.bool true) w) := by
  go_enter Tryd.func12, Tryd.ntmps12
  go_wp2_with (first
    | (go_at_call 28; refine (know_split _).mono ?_; rintro e w1 ⟨v, rfl, ⟨A, c, rfl, hr, hc⟩, hx1⟩; obtain ⟨b, o, rfl, hbl, hS⟩ := hr.text (k := 1) (by decide))
    | (go_at_call 29; refine (know_dec _ (hE.ext hx1)).mono ?_; rintro e w2 ⟨rfl, hx2⟩; have c1 := hS.out _ hx2)
    | (go_at_call 7; refine (num01_c _ _).mono ?_; rintro e w3 ⟨rfl, rfl⟩)
    | (go_at_call 30; first | (refine (know_get _).mono ?_; rintro e w4 ⟨rfl, hx4⟩) | (refine (know_ab _).mono ?_; rintro e w5 ⟨rfl, hx5⟩)))
  go_ret
  exact ⟨rfl, by (repeat (first | exact Ext.rfl' _ | assumption | refine Ext.dr ?_ | refine Ext.drN ?_ _ | refine Ext.al ?_ _ | refine Ext.st ?_ (by simp) _ | refine Ext.tr ?_ (by assumption)))⟩
end Go.Proofs.YteklakibcboepabDoor
