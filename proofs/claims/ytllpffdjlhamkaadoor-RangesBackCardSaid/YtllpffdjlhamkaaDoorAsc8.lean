/-
Letters made small by the reference.
-/
import Derived.Test.YtllpffdjlhamkaaDoorAsc7
set_option linter.unusedVariables false
set_option linter.unusedSimpArgs false
namespace Go.Proofs.YtllpffdjlhamkaaDoor
open Go.RowKit

theorem upp_cases : ∀ c, c < 256 → (uppB c = true ∧ 65 ≤ c ∧ c ≤ 90) ∨ (uppB c = false ∧ (c < 65 ∨ 90 < c)) := by decide +kernel

theorem str_inj (a b : List UInt8) : (str a = str b) ↔ a = b := by
  constructor
  · intro h; have := congrArg (fun s : ByteArray => s.data.toList) h; simpa [str] using this
  · rintro rfl; rfl
theorem low_length (l : List UInt8) : (lowL l).length = l.length := by simp [lowL]

end Go.Proofs.YtllpffdjlhamkaaDoor
