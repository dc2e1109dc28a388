/-
A file that is put, or removed, changes no other one: the law as a walk.
-/
import Derived.Test.YtnakeigpelcajaaWp4
set_option linter.unusedVariables false
set_option linter.unusedSimpArgs false
namespace Go.Proofs.Ytnakeigpelcajaa
open Go.RowKit

set_option maxRecDepth 100000 in
set_option maxHeartbeats 2000000 in
theorem WorldApart_no (w : World) (a : Int) (h : a < 0 ∨ 253402300799 < a) (v : Value) (x : OpW) : Calls Try.prog 4 #[.int .i64 a, v, .agg #[.int .i64 x.kind, .int .i64 x.n, .string (str x.path), .slice x.B x.mm.length x.d]] w (Gives (.bool true) w) := by
  go_enter Try.func4, Try.ntmps4
  go_wp2_with (first
    | (go_at_call 15; refine (played_no _ a h _).mono ?_; rintro e w1 ⟨rfl, hx1⟩)
    | (go_at_call 9; refine (knows13_c _).mono ?_; rintro e w2 ⟨rfl, hx2⟩))
  go_ret
  exact ⟨rfl, by (repeat (first | exact Ext.rfl' _ | assumption | refine Ext.dr ?_ | refine Ext.drN ?_ _ | refine Ext.al ?_ _ | refine Ext.st ?_ (by simp) _ | refine Ext.tr ?_ (by assumption)))⟩
theorem WorldApart_w (w : World) (a : Int) (A : Option Addr) (c : Nat) (xs : List OpW) (hA : RdOpW w A xs) (hxs : xs.length ≤ 140737488351232) (x : OpW) (hx : OpOk w x) :
    Calls Try.prog 4 #[.int .i64 a, .slice A xs.length c, .agg #[.int .i64 x.kind, .int .i64 x.n, .string (str x.path), .slice x.B x.mm.length x.d]] w (Gives (.bool true) w) := by
  by_cases h : a < 0 ∨ 253402300799 < a
  · exact WorldApart_no w a h _ x
  · exact WorldApart_yes w a (by omega) (by omega) A c xs hA hxs x hx
end Go.Proofs.Ytnakeigpelcajaa
