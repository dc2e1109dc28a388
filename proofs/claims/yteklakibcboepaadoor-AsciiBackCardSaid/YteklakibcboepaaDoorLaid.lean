/-
The library's tables, as a row lays them.
-/
import Derived.Test.YteklakibcboepaaDoorHex2
import Derived.Lib.LaidTab
set_option linter.unusedVariables false
set_option linter.unusedSimpArgs false
namespace Go.Proofs.YteklakibcboepaaDoor
open Go.RowKit Go.ChangeShapes

theorem tPow : (Tryd.prog.globals[1]?).map (·.type) = some 135 := by kernel_rfl
theorem cells20 : Tryd.prog.cellsOf 135 = 20 := by kernel_rfl
theorem cells_u64 : Tryd.prog.cellsOf 92 = 1 := by kernel_rfl
theorem pow_of {W : World} {rest : List (String × DataW Unit)} (h : laidMet Tryd.prog (("internal/strconv.uint64pow10", Lib.tabData .u64 Lib.pow10Tab) :: rest) W) : Pow W :=
  Lib.tabIs_of_head gPow tPow Tryd.underlying135 Tryd.underlying92 cells_u64 cells20 h
theorem gBruN : Tryd.prog.globalNamed "math/bits.deBruijn64tab" = some 7 := by kernel_rfl
theorem tBruN : (Tryd.prog.globals[7]?).map (·.type) = some 153 := by kernel_rfl
theorem cells64 : Tryd.prog.cellsOf 153 = 64 := by kernel_rfl
theorem cells_u8 : Tryd.prog.cellsOf 5 = 1 := by kernel_rfl
def bruTab : List Int := [0, 1, 56, 2, 57, 49, 28, 3, 61, 58, 42, 50, 38, 29, 17, 4, 62, 47, 59, 36, 45, 43, 51, 22, 53, 39, 33, 30, 24, 18, 12, 5, 63, 55, 48, 27, 60, 41, 37, 16, 46, 35, 44, 21, 52, 32, 23, 11, 54, 26, 40, 15, 34, 20, 31, 10, 25, 14, 19, 9, 13, 8, 7, 6]
theorem bru_of {W : World} {rest : List (String × DataW Unit)} (h : laidMet Tryd.prog (("math/bits.deBruijn64tab", Lib.tabData .u8 bruTab) :: rest) W) : Bru W := by
  have ht := Lib.tabIs_of_head gBruN tBruN Tryd.underlying153 Tryd.underlying5 cells_u8 cells64 h
  exact ht.cell gBruN 15 (by decide)
end Go.Proofs.YteklakibcboepaaDoor
