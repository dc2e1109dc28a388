/-
Package ranges and its reference, spans of bytes: what each inner function computes, up to Resolve's helpers.
-/
import Derived.Test.YtolfpfdmgelhhaaDoorProg
import Derived.Test.YtolfpfdmgelhhaaDoorBase
set_option linter.unusedVariables false
set_option linter.unusedSimpArgs false
namespace Go.Proofs.YtolfpfdmgelhhaaDoor
open Go.RowKit

theorem slt_span : SlT Tryd.prog 111 110 (.agg #[.int .i64 0, .int .i64 0]) 2 16 := ⟨Tryd.underlying111, by kernel_rfl, rfl, by omega⟩
theorem slt_part : SlT Tryd.prog 28 101 (.agg #[.int .i64 0, .int .i64 0]) 2 16 := ⟨Tryd.underlying28, by kernel_rfl, rfl, by omega⟩
theorem slt_rpart : SlT Tryd.prog 23 103 (.agg #[.int .i64 0, .int .i64 0]) 2 16 := ⟨Tryd.underlying23, by kernel_rfl, rfl, by omega⟩

/-- The kind of a span; -1: it may not be. -/
def kindOf (x y : Int) : Int :=
  if x < -1 ∨ y < -1 ∨ 1000000000000000000 < x ∨ 1000000000000000000 < y ∨ (x < 0 ∧ y < 0) ∨ (0 ≤ y ∧ y < x) then -1 else if x < 0 then 2 else if y < 0 then 1 else 0
set_option maxHeartbeats 400000 in
theorem kind_c (x y : Int) (w : World) : Calls Tryd.prog 103 #[.agg #[.int .i64 x, .int .i64 y]] w (Gives (.int .i64 (kindOf x y)) w) := by
  go_enter Tryd.func103, Tryd.ntmps103
  go_wp2
  all_goals go_ret
  all_goals exact ⟨ret_int (by unfold kindOf; (repeat' split) <;> omega), (Ext.rfl' _).al _⟩
end Go.Proofs.YtolfpfdmgelhhaaDoor
