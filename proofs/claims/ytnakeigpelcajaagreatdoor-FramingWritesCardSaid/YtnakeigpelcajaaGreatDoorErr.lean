/-
The variable ErrRange, as the row lays it.
-/
import Derived.Test.YtnakeigpelcajaaGreatDoorPu3
import Derived.Stop.LaidErr
import Derived.LaidLaws
set_option linter.unusedVariables false
set_option linter.unusedSimpArgs false
namespace Go.Proofs.YtnakeigpelcajaaGreatDoor
open Go.RowKit Go.ChangeShapes

theorem star_es : "*" ++ "errors.errorString" = "*errors.errorString" := by decide
theorem row_es (u : TypeId) (h : Tryz.prog.typeName? 3 u = some "*errors.errorString") : u = 136 :=
  typeName_ptr_named (nm := "errors.errorString") (by rw [star_es]; kernel_rfl) (by kernel_rfl) (by decide) u (by rw [star_es]; exact h)
theorem gErr_n : Tryz.prog.globalNamed "strconv.ErrRange" = some 7 := by kernel_rfl
theorem gErr_t : (Tryz.prog.globals[7]?).map (·.type) = some 113 := by kernel_rfl
theorem cells_es : Tryz.prog.cellsOf 138 = 1 := by kernel_rfl
theorem cells_str : Tryz.prog.cellsOf 9 = 1 := by kernel_rfl
theorem errR_of {text : List UInt8} {r : List (String × DataW Unit)} {W : World} (h : laidMet Tryz.prog (("strconv.ErrRange", .iface "*errors.errorString" (.ptr (.agg [.lit (.string text)]))) :: r) W) : ErrR W := by
  obtain ⟨a, s, hv, _⟩ := laid_sentinel h gErr_n gErr_t Tryz.underlying113 row_es Tryz.underlying136 Tryz.underlying138 rfl rfl Tryz.underlying9 cells_es cells_str
  exact ⟨_, _, World.var?_cell gErr_n hv 0⟩
end Go.Proofs.YtnakeigpelcajaaGreatDoor
