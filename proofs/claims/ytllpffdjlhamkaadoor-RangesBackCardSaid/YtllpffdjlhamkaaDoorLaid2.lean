/-
The table of powers as laid.
-/
import Derived.Test.YtllpffdjlhamkaaDoorDig
import Derived.Lib.LaidTab
set_option linter.unusedVariables false
set_option linter.unusedSimpArgs false
namespace Go.Proofs.YtllpffdjlhamkaaDoor
open Go.RowKit Go.ChangeShapes

theorem tPow : (Tryd.prog.globals[1]?).map (·.type) = some 109 := by kernel_rfl
theorem cells20 : Tryd.prog.cellsOf 109 = 20 := by kernel_rfl
theorem cells_u64 : Tryd.prog.cellsOf 92 = 1 := by kernel_rfl
theorem pow_of {W : World} {rest : List (String × DataW Unit)} (h : laidMet Tryd.prog (("internal/strconv.uint64pow10", Lib.tabData .u64 Lib.pow10Tab) :: rest) W) : Pow W :=
  Lib.tabIs_of_head gPow tPow Tryd.underlying109 Tryd.underlying92 cells_u64 cells20 h
end Go.Proofs.YtllpffdjlhamkaaDoor
