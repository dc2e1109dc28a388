/-
The law AsciiNil as a walk: it answers true.
-/
import Derived.Test.YteklakibcboepabDoorNil1
import Derived.Test.YteklakibcboepabDoorKn1
set_option linter.unusedVariables false
set_option linter.unusedSimpArgs false
namespace Go.Proofs.YteklakibcboepabDoor
open Go.RowKit

set_option maxRecDepth 100000 in
set_option maxHeartbeats 1000000 in
theorem AsciiNil_w (W : World) (hE : ErrR W) (A : Option Addr) (m c : Nat) (n : Int) :
    Calls Tryd.prog 3 #[.slice A m c, .int .i64 n] W (Gives (.bool true) W) := by
  have HE := Lib.hid hE
  clear hE
  go_enter Tryd.func3, Tryd.ntmps3
  go_wp2
  go_loopw [5, 6] (fun q i wr => ∃ t : Nat, i = .int .i64 (t : Int) ∧ t ≤ 2 ∧ NoneQ q wr ∧ Ext W wr) (fun _ i _ => 2 - (intOf i).toNat)
  case atStart => exact ⟨0, rfl, by omega, .inl rfl, Ext.rfl' _⟩
  case round =>
    obtain ⟨t, rfl, ht, hq, hext⟩ := hrel
    have HQ := Lib.hid hq
    clear hq
    by_cases hlt : t < 2
    · have hlt' : (t : Int) < 2 := by omega
      go_wp2_with (first
        | (go_at_call 6; refine (nLine_c _ _ HQ.out).mono ?_; rintro e w1 ⟨rfl, rfl⟩)
        | (go_at_call 8; refine (nPut_c _ _ _ HQ.out).mono ?_; rintro e w1 ⟨rfl, rfl⟩)
        | (go_at_call 7; refine (num01_c _ _).mono ?_; rintro e w3 ⟨rfl, rfl⟩)
        | (go_at_call 9; refine (nTake_c _ _ _ HQ.out).mono ?_; rintro e w1 ⟨rfl, rfl⟩)
        | (go_at_call 10; refine (nPeek_c _ _ _ HQ.out).mono ?_; rintro e w1 ⟨rfl, rfl⟩)
        | (go_at_call 11; refine (nLen_c _ _ HQ.out).mono ?_; rintro e w1 ⟨rfl, rfl⟩))
      go_roundw
      case rel => exact ⟨t + 1, by go_num, by omega, .inr ⟨_, rfl, new_at _ _ _ 1 _ rfl⟩, by (repeat (first | exact Ext.rfl' _ | assumption | refine Ext.dr ?_ | refine Ext.drN ?_ _ | refine Ext.al ?_ _ | refine Ext.st ?_ (by simp) _ | refine Ext.tr ?_ (by assumption)))⟩
      case measure => simp [intOf]; omega
    · have hlt' : ¬ (t : Int) < 2 := by omega
      go_wp2_with (go_at_call 12; refine (knows01_c _ (HE.out.ext hext)).mono ?_; rintro e w3 ⟨rfl, hx3⟩)
      go_ret
      exact ⟨rfl, hext.tr hx3⟩
end Go.Proofs.YteklakibcboepabDoor
