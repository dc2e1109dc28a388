/-
FramingNil as a walk.
-/
import Derived.Test.YtpkgoppfihcpbaaDoorFg3
set_option linter.unusedVariables false
set_option linter.unusedSimpArgs false
namespace Go.Proofs.YtpkgoppfihcpbaaDoor
open Go.RowKit

set_option maxRecDepth 100000 in
set_option maxHeartbeats 4000000 in
theorem FramingNil_w (w : World) (hE : ErrR w) (B : Option Addr) (n d : Nat) : Calls Tryd.prog 5 #[.slice B n d] w (Gives (.bool true) w) := by
  have HER := Lib.hid hE
  clear hE
  go_enter Tryd.func5, Tryd.ntmps5
  go_wp2
  go_loopw [3, 4] (fun v i wr => ∃ j : Nat, i = .int .i64 (j : Int) ∧ j ≤ 2 ∧ ((j = 0 ∧ v = .pointer none) ∨ (j ≠ 0 ∧ ∃ P, v = .pointer (some ⟨P, 0, none⟩) ∧ wr.cell? ⟨P, 9, none⟩ = some (.bool false) ∧ wr.cell? ⟨P, 10, none⟩ = some (.bool false))) ∧ Ext w wr) (fun _ i _ => 2 - (intOf i).toNat)
  case atStart => exact ⟨0, rfl, by omega, .inl ⟨rfl, rfl⟩, Ext.rfl' _⟩
  case round =>
    obtain ⟨j, rfl, hj, hv, hx⟩ := hrel
    rcases hv with ⟨rfl, rfl⟩ | ⟨hj0, P, rfl, c9, c10⟩
    · go_wp2_with (first
        | (go_at_call 12; refine (fFeed_nil _ _ _ _).mono ?_; rintro e w1 ⟨rfl, x1⟩)
        | (go_at_call 15; refine (fEnd_nil _).mono ?_; rintro e w2 ⟨rfl, x2⟩)
        | (go_at_call 14; refine (fTrailers_nil _).mono ?_; rintro e w5 ⟨rfl, x5⟩)
        | (go_at_call 8; refine (num12_c _ _).mono ?_; rintro e w3 ⟨rfl, rfl⟩))
      go_roundw
      case rel => exact ⟨1, rfl, by omega, .inr ⟨by omega, w5.heap.size, rfl, (row_facts (heap_alloc_new w5 _) 9 _ rfl).1, (row_facts (heap_alloc_new w5 _) 10 _ rfl).1⟩, by (repeat (first | exact Ext.rfl' _ | assumption | refine Ext.dr ?_ | refine Ext.drN ?_ _ | refine Ext.al ?_ _ | refine Ext.st ?_ (by simp) _ | refine Ext.tr ?_ (by assumption)))⟩
      case measure => simp [intOf]
    · by_cases hj1 : j = 1
      · subst hj1
        clear hj0
        go_wp2_with (first
          | (go_at_call 12; refine (fFeed_unmade P _ _ _ _ c9).mono ?_; rintro e w1 ⟨rfl, x1⟩; have d9 := (x1.cell (lt_of_cell c9)).trans c9; have d10 := (x1.cell (lt_of_cell c10)).trans c10; clear c9 c10)
          | (go_at_call 15; refine (fEnd_unmade P _ d9).mono ?_; rintro e w2 ⟨rfl, x2⟩; have g10 := (x2.cell (lt_of_cell d10)).trans d10; clear d9 d10)
          | (go_at_call 14; refine (fTrailers_no P _ g10).mono ?_; rintro e w5 ⟨rfl, x5⟩; clear g10)
          | (go_at_call 8; refine (num12_c _ _).mono ?_; rintro e w3 ⟨rfl, rfl⟩))
        go_roundw
        case rel => exact ⟨2, rfl, by omega, .inr ⟨by omega, w5.heap.size, rfl, (row_facts (heap_alloc_new w5 _) 9 _ rfl).1, (row_facts (heap_alloc_new w5 _) 10 _ rfl).1⟩, by (repeat (first | exact Ext.rfl' _ | assumption | refine Ext.dr ?_ | refine Ext.drN ?_ _ | refine Ext.al ?_ _ | refine Ext.st ?_ (by simp) _ | refine Ext.tr ?_ (by assumption)))⟩
        case measure => simp [intOf]
      · obtain rfl : j = 2 := by omega
        go_wp2_with (go_at_call 9; refine (knows12_c _ (HER.out.ext hx)).mono ?_; rintro e w6 ⟨rfl, x6⟩)
        go_ret
        exact ⟨rfl, hx.tr x6⟩
end Go.Proofs.YtpkgoppfihcpbaaDoor
