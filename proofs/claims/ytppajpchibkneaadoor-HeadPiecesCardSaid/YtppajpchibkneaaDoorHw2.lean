/-
No parser, and one that nobody made: the law as a walk.
-/
import Derived.Test.YtppajpchibkneaaDoorHv3
import Derived.Test.YtppajpchibkneaaDoorHd4
set_option linter.unusedVariables false
set_option linter.unusedSimpArgs false
namespace Go.Proofs.YtppajpchibkneaaDoor
open Go.RowKit

set_option maxRecDepth 100000 in
set_option maxHeartbeats 1000000 in
theorem hSame_c (m t : ByteArray) (i : Int) (fs : List Fld) (A B : Option Addr) (n k c d : Nat) (hn : fs.length = n) (hk : fs.length = k) (hb : n ≤ maxLen) (w : World) (h : Rd w A (fc fs)) (hB : Rd w B (fc fs)) :
    Calls Tryd.prog 17 #[.agg #[.string m, .string t, .int .i64 i, .slice A n c], .agg #[.string m, .string t, .int .i64 i, .slice B k d]] w (Gives (.bool true) w) := by
  have HA := Lib.hid h
  have HB := Lib.hid hB
  clear h hB
  have CF := Lib.hid (fun w h hB => hFields_c fs A B n c k d hn hk hb w h hB)
  clear hn hk hb
  go_enter Tryd.func17, Tryd.ntmps17
  go_wp2_with (go_at_call 18; refine (CF.out _ (HA.out.ext (by (repeat (first | exact Ext.rfl' _ | assumption | refine Ext.dr ?_ | refine Ext.drN ?_ _ | refine Ext.al ?_ _ | refine Ext.st ?_ (by simp) _ | refine Ext.tr ?_ (by assumption))))) (HB.out.ext (by (repeat (first | exact Ext.rfl' _ | assumption | refine Ext.dr ?_ | refine Ext.drN ?_ _ | refine Ext.al ?_ _ | refine Ext.st ?_ (by simp) _ | refine Ext.tr ?_ (by assumption)))))).mono ?_; rintro e w1 ⟨rfl, x1⟩)
  go_ret
  exact ⟨rfl, by (repeat (first | exact Ext.rfl' _ | assumption | refine Ext.dr ?_ | refine Ext.drN ?_ _ | refine Ext.al ?_ _ | refine Ext.st ?_ (by simp) _ | refine Ext.tr ?_ (by assumption)))⟩
set_option maxRecDepth 100000 in
set_option maxHeartbeats 4000000 in
theorem HeadNil_w (w : World) (hM : Mx w) (hE : ErrR w) (B : Option Addr) (n d : Nat) : Calls Tryd.prog 4 #[.slice B n d] w (Gives (.bool true) w) := by
  have HM := Lib.hid hM
  have HER := Lib.hid hE
  clear hM hE
  go_enter Tryd.func4, Tryd.ntmps4
  go_wp2
  go_loopw [3, 4] (fun v i wr => ∃ j : Nat, i = .int .i64 (j : Int) ∧ j ≤ 2 ∧ ((j = 0 ∧ v = .pointer none) ∨ (j ≠ 0 ∧ ∃ P, v = .pointer (some ⟨P, 0, none⟩) ∧ wr.cell? ⟨P, 0, none⟩ = some (.bool false) ∧ wr.cell? ⟨P, 1, none⟩ = some (.bool false) ∧ wr.cell? ⟨P, 4, none⟩ = some (.bool false))) ∧ Ext w wr) (fun _ i _ => 2 - (intOf i).toNat)
  case atStart => exact ⟨0, rfl, by omega, .inl ⟨rfl, rfl⟩, Ext.rfl' _⟩
  case round =>
    obtain ⟨j, rfl, hj, hv, hx⟩ := hrel
    rcases hv with ⟨rfl, rfl⟩ | ⟨hj0, P, rfl, c0, c1, c4⟩
    · go_wp2_with (first
        | (go_at_call 9; refine (hFeed_nil _ _ _ _).mono ?_; rintro e w1 ⟨rfl, x1⟩)
        | (go_at_call 15; refine (hTell_nil _).mono ?_; rintro e w2 ⟨v, rfl, ⟨A2, c2, rfl, hr2⟩, x2⟩)
        | (go_at_call 16; refine (num11_c _ _).mono ?_; rintro e w3 ⟨rfl, rfl⟩)
        | (go_at_call 10; refine (hAsk_nil _).mono ?_; rintro e w4 ⟨v, rfl, ⟨A4, c4, rfl, hr4⟩, x4⟩)
        | (go_at_call 17; refine (hSame_c _ _ _ [] _ _ _ _ _ _ rfl rfl (by decide) _ hr4 (.inl rfl)).mono ?_; rintro e w5 ⟨rfl, x5⟩))
      go_roundw
      case rel => exact ⟨1, rfl, by omega, .inr ⟨by omega, w5.heap.size, rfl, (row_facts (heap_alloc_new w5 _) 0 _ rfl).1, (row_facts (heap_alloc_new w5 _) 1 _ rfl).1, (row_facts (heap_alloc_new w5 _) 4 _ rfl).1⟩, by (repeat (first | exact Ext.rfl' _ | assumption | refine Ext.dr ?_ | refine Ext.drN ?_ _ | refine Ext.al ?_ _ | refine Ext.st ?_ (by simp) _ | refine Ext.tr ?_ (by assumption)))⟩
      case measure => simp [intOf]
    · by_cases hj1 : j = 1
      · subst hj1
        clear hj0
        go_wp2_with (first
          | (go_at_call 9; refine (hFeed_unmade P _ _ _ _ c0).mono ?_; rintro e w1 ⟨rfl, x1⟩; have d1 := (x1.cell (lt_of_cell c1)).trans c1; have d4 := (x1.cell (lt_of_cell c4)).trans c4; clear c0 c1 c4)
          | (go_at_call 15; refine (hTell_no P false false rfl _ d4 d1).mono ?_; rintro e w2 ⟨v, rfl, ⟨A2, c2, rfl, hr2⟩, x2⟩; have g1 := (x2.cell (lt_of_cell d1)).trans d1; have g4 := (x2.cell (lt_of_cell d4)).trans d4; clear d1 d4)
          | (go_at_call 16; refine (num11_c _ _).mono ?_; rintro e w3 ⟨rfl, rfl⟩)
          | (go_at_call 10; refine (hAsk_no P false false rfl _ g4 g1).mono ?_; rintro e w4 ⟨v, rfl, ⟨A4, c4, rfl, hr4⟩, x4⟩; clear g1 g4)
          | (go_at_call 17; refine (hSame_c _ _ _ [] _ _ _ _ _ _ rfl rfl (by decide) _ hr4 (.inl rfl)).mono ?_; rintro e w5 ⟨rfl, x5⟩))
        go_roundw
        case rel => exact ⟨2, rfl, by omega, .inr ⟨by omega, w5.heap.size, rfl, (row_facts (heap_alloc_new w5 _) 0 _ rfl).1, (row_facts (heap_alloc_new w5 _) 1 _ rfl).1, (row_facts (heap_alloc_new w5 _) 4 _ rfl).1⟩, by (repeat (first | exact Ext.rfl' _ | assumption | refine Ext.dr ?_ | refine Ext.drN ?_ _ | refine Ext.al ?_ _ | refine Ext.st ?_ (by simp) _ | refine Ext.tr ?_ (by assumption)))⟩
        case measure => simp [intOf]
      · obtain rfl : j = 2 := by omega
        go_wp2_with (go_at_call 8; refine (knows11_c _ (HM.out.ext hx) (HER.out.ext hx)).mono ?_; rintro e w6 ⟨rfl, x6⟩)
        go_ret
        exact ⟨rfl, hx.tr x6⟩
end Go.Proofs.YtppajpchibkneaaDoor
