/-
The table of powers as laid.
-/
import Derived.Test.YtolfpfdmgelhhaaDoorDig
import Derived.Lib.LaidTab
import Derived.Test.YtolfpfdmgelhhaaDoorMul6
import Derived.Test.YtolfpfdmgelhhaaDoorShelfS
set_option linter.unusedVariables false
set_option linter.unusedSimpArgs false
/-
The table of powers as laid.
-/
section
namespace Go.Proofs.YtolfpfdmgelhhaaDoor
open Go.RowKit Go.ChangeShapes

theorem tPow : (Tryd.prog.globals[3]?).map (·.type) = some 231 := by kernel_rfl
theorem cells20 : Tryd.prog.cellsOf 231 = 20 := by kernel_rfl
theorem cells_u64 : Tryd.prog.cellsOf 213 = 1 := by kernel_rfl
theorem pow_of {W : World} {rest : List (String × DataW Unit)} (h : laidMet Tryd.prog (("internal/strconv.uint64pow10", Lib.tabData .u64 Lib.pow10Tab) :: rest) W) : Pow W :=
  Lib.tabIs_of_head gPow tPow Tryd.underlying231 Tryd.underlying213 cells_u64 cells20 h
end Go.Proofs.YtolfpfdmgelhhaaDoor
end

/-
The library's own number, from the world's shape.
-/
section
namespace Go.Proofs.YtolfpfdmgelhhaaDoor
open Go.RowKit

theorem mx_of {w : World} (h : w.ShapedOpen Tryd.prog) : Mx w := Tryd.laysM146.s1_3 w h
end Go.Proofs.YtolfpfdmgelhhaaDoor
end
