/-
What is put later has a greater version: the law as a walk.
-/
import Derived.Test.YtnakeigpelcajaaWv1
set_option linter.unusedVariables false
set_option linter.unusedSimpArgs false
namespace Go.Proofs.Ytnakeigpelcajaa
open Go.RowKit

set_option maxRecDepth 100000 in
set_option maxHeartbeats 2000000 in
theorem WorldVersions_no (w : World) (a : Int) (h : a < 0 ∨ 253402300799 < a) (v : Value) : Calls Try.prog 3 #[.int .i64 a, v] w (Gives (.bool true) w) := by
  go_enter Try.func3, Try.ntmps3
  go_wp2_with (first
    | (go_at_call 7; refine (wNew_no a h _).mono ?_; rintro e w1 ⟨rfl, hx1⟩)
    | (go_at_call 9; refine (knows13_c _).mono ?_; rintro e w2 ⟨rfl, hx2⟩)
    | (go_at_call 8; refine (num13_c _ _).mono ?_; rintro e w8 ⟨rfl, rfl⟩))
  go_ret
  exact ⟨rfl, by (repeat (first | exact Ext.rfl' _ | assumption | refine Ext.dr ?_ | refine Ext.drN ?_ _ | refine Ext.al ?_ _ | refine Ext.st ?_ (by simp) _ | refine Ext.tr ?_ (by assumption)))⟩
theorem WorldVersions_w (w : World) (a : Int) (A : Option Addr) (c : Nat) (xs : List OpW) (hA : RdOpW w A xs) (hxs : xs.length ≤ 140737488351232) :
    Calls Try.prog 3 #[.int .i64 a, .slice A xs.length c] w (Gives (.bool true) w) := by
  by_cases h : a < 0 ∨ 253402300799 < a
  · exact WorldVersions_no w a h _
  · exact WorldVersions_yes w a (by omega) (by omega) A c xs hA hxs
end Go.Proofs.Ytnakeigpelcajaa
