/-
No world, and one that nobody made: the law as a walk.
-/
import Derived.Test.YtnakeigpelcajaaWn1
set_option linter.unusedVariables false
set_option linter.unusedSimpArgs false
namespace Go.Proofs.Ytnakeigpelcajaa
open Go.RowKit

set_option maxRecDepth 100000 in
set_option maxHeartbeats 8000000 in
theorem WorldNil_w (w : World) (l : List UInt8) (hl : l.length ≤ 140737488355328) (n : Int) :
    Calls Try.prog 6 #[.string (str l), .int .i64 n] w (Gives (.bool true) w) := by
  have CP := Lib.hid (fun q v w h => nPut_c q l hl v w h)
  obtain ⟨sl, hsl⟩ : ∃ sl, sl = str l := ⟨_, rfl⟩
  rw [← hsl] at CP ⊢
  clear hsl
  go_enter Try.func6, Try.ntmps6
  go_wp2

  go_loopw [5, 6] (fun v i wr => ∃ (q : Option Addr) (k : Nat), k ≤ 2 ∧ v = .pointer q ∧ i = .int .i64 k ∧ NoW wr q ∧ Ext w wr) (fun _ i _ => 2 - (intOf i).toNat)
  case atStart => exact ⟨none, 0, by omega, rfl, rfl, .inl rfl, Ext.rfl' _⟩
  case round =>
    obtain ⟨q, k, hk, rfl, rfl, hq, hext⟩ := hrel
    have HQ := Lib.hid hq
    clear hq
    by_cases hk2 : k < 2
    · have a1 : (k : Int) < 2 := by omega
      go_wp2_with (first
        | (go_at_call 12; refine (nFile_c q _ _ (HQ.out.ext (by (repeat (first | exact Ext.rfl' _ | assumption | refine Ext.dr ?_ | refine Ext.drN ?_ _ | refine Ext.al ?_ _ | refine Ext.st ?_ (by simp) _ | refine Ext.tr ?_ (by assumption)))))).mono ?_; rintro e w1 ⟨rfl, hx1⟩; have e1 := fun w' (e : Ext (w1.alloc (.cells #[.string ⟨#[]⟩, .slice none 0 0, .int .i64 0] 35)) w') => e.new 0 _ rfl)
        | (go_at_call 11; refine (CP.out q _ _ (HQ.out.ext (by (repeat (first | exact Ext.rfl' _ | assumption | refine Ext.dr ?_ | refine Ext.drN ?_ _ | refine Ext.al ?_ _ | refine Ext.st ?_ (by simp) _ | refine Ext.tr ?_ (by assumption)))))).mono ?_; rintro e w2 ⟨rfl, hx2⟩)
        | (go_at_call 13; refine (nRemove_c q _ _ (HQ.out.ext (by (repeat (first | exact Ext.rfl' _ | assumption | refine Ext.dr ?_ | refine Ext.drN ?_ _ | refine Ext.al ?_ _ | refine Ext.st ?_ (by simp) _ | refine Ext.tr ?_ (by assumption)))))).mono ?_; rintro e w3 ⟨rfl, hx3⟩)
        | (go_at_call 14; refine (nTick_c q _ _ (HQ.out.ext (by (repeat (first | exact Ext.rfl' _ | assumption | refine Ext.dr ?_ | refine Ext.drN ?_ _ | refine Ext.al ?_ _ | refine Ext.st ?_ (by simp) _ | refine Ext.tr ?_ (by assumption)))))).mono ?_; rintro e w4 ⟨rfl, hx4⟩; have e2 := e1 w4 (hx2.tr (hx3.tr hx4)))
        | (go_at_call 10; refine (nNow_c q _ (HQ.out.ext (by (repeat (first | exact Ext.rfl' _ | assumption | refine Ext.dr ?_ | refine Ext.drN ?_ _ | refine Ext.al ?_ _ | refine Ext.st ?_ (by simp) _ | refine Ext.tr ?_ (by assumption)))))).mono ?_; rintro e w5 ⟨rfl, hx5⟩)
        | (go_at_call 20; refine (nFolder_c q _ _ (HQ.out.ext (by (repeat (first | exact Ext.rfl' _ | assumption | refine Ext.dr ?_ | refine Ext.drN ?_ _ | refine Ext.al ?_ _ | refine Ext.st ?_ (by simp) _ | refine Ext.tr ?_ (by assumption)))))).mono ?_; rintro e w6 ⟨rfl, hx6⟩)
        | (go_at_call 16; refine (nList_c q _ (HQ.out.ext (by (repeat (first | exact Ext.rfl' _ | assumption | refine Ext.dr ?_ | refine Ext.drN ?_ _ | refine Ext.al ?_ _ | refine Ext.st ?_ (by simp) _ | refine Ext.tr ?_ (by assumption)))))).mono ?_; rintro e w7 ⟨rfl, hx7⟩)
        | (go_at_call 8; refine (num13_c _ _).mono ?_; rintro e w8 ⟨rfl, rfl⟩))
      refine ⟨⟨_, k + 1, by omega, rfl, by go_num, .inr ⟨_, rfl, (Ext.rfl' _).new 0 _ rfl⟩, by (repeat (first | exact Ext.rfl' _ | assumption | refine Ext.dr ?_ | refine Ext.drN ?_ _ | refine Ext.al ?_ _ | refine Ext.st ?_ (by simp) _ | refine Ext.tr ?_ (by assumption)))⟩, by simp [intOf]; omega⟩
    · obtain rfl : k = 2 := by omega
      go_wp2_with (go_at_call 9; refine (knows13_c _).mono ?_; rintro e w9 ⟨rfl, hx9⟩)
      go_ret
      exact ⟨rfl, by (repeat (first | exact Ext.rfl' _ | assumption | refine Ext.dr ?_ | refine Ext.drN ?_ _ | refine Ext.al ?_ _ | refine Ext.st ?_ (by simp) _ | refine Ext.tr ?_ (by assumption)))⟩
end Go.Proofs.Ytnakeigpelcajaa
