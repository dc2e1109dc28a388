/-
The variable ErrRange, as the row lays it.
-/
import Derived.Test.YtllpffdjlhamkaaDoorPu3
import Derived.Stop.LaidErr
import Derived.LaidLaws
set_option linter.unusedVariables false
set_option linter.unusedSimpArgs false
namespace Go.Proofs.YtllpffdjlhamkaaDoor
open Go.RowKit Go.ChangeShapes

theorem star_es : "*" ++ "errors.errorString" = "*errors.errorString" := by decide
theorem row_es (u : TypeId) (h : Tryd.prog.typeName? 3 u = some "*errors.errorString") : u = 130 :=
  typeName_ptr_named (nm := "errors.errorString") (by rw [star_es]; kernel_rfl) (by kernel_rfl) (by decide) u (by rw [star_es]; exact h)
theorem gErr_n : Tryd.prog.globalNamed "strconv.ErrRange" = some 5 := by kernel_rfl
theorem gErr_t : (Tryd.prog.globals[5]?).map (·.type) = some 94 := by kernel_rfl
theorem cells_es : Tryd.prog.cellsOf 132 = 1 := by kernel_rfl
theorem cells_str : Tryd.prog.cellsOf 9 = 1 := by kernel_rfl
theorem errR_of {text : List UInt8} {r : List (String × DataW Unit)} {W : World} (h : laidMet Tryd.prog (("strconv.ErrRange", .iface "*errors.errorString" (.ptr (.agg [.lit (.string text)]))) :: r) W) : ErrR W := by
  obtain ⟨a, s, hv, _⟩ := laid_sentinel h gErr_n gErr_t Tryd.underlying94 row_es Tryd.underlying130 Tryd.underlying132 rfl rfl Tryd.underlying9 cells_es cells_str
  exact ⟨_, _, World.var?_cell gErr_n hv 0⟩
end Go.Proofs.YtllpffdjlhamkaaDoor
