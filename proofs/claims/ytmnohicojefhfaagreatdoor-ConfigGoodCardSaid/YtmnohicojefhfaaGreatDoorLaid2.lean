/-
The table of powers as laid.
-/
import Derived.Test.YtmnohicojefhfaaGreatDoorUHa
import Derived.Lib.LaidTab
set_option linter.unusedVariables false
set_option linter.unusedSimpArgs false
namespace Go.Proofs.YtmnohicojefhfaaGreatDoor
open Go.RowKit Go.ChangeShapes

theorem tPow : (Tryz.prog.globals[1]?).map (·.type) = some 245 := by kernel_rfl
theorem cells20 : Tryz.prog.cellsOf 245 = 20 := by kernel_rfl
theorem cells_u64 : Tryz.prog.cellsOf 203 = 1 := by kernel_rfl
theorem pow_of {W : World} {rest : List (String × DataW Unit)} (h : laidMet Tryz.prog (("internal/strconv.uint64pow10", Lib.tabData .u64 Lib.pow10Tab) :: rest) W) : Pow W :=
  Lib.tabIs_of_head gPow tPow Tryz.underlying245 Tryz.underlying203 cells_u64 cells20 h
end Go.Proofs.YtmnohicojefhfaaGreatDoor
