/-
Which texts are tokens and which are values of fields: the reference's loops.
-/
import Derived.Test.YtemdgilifnhdpaaGreatDoorAsc2
import Derived.Test.YtemdgilifnhdpaaGreatDoorAsc4
set_option linter.unusedVariables false
set_option linter.unusedSimpArgs false
namespace Go.Proofs.YtemdgilifnhdpaaGreatDoor
open Go.RowKit

theorem al0 : ∀ c, c < 256 → (c ≤ 47 ∨ (58 ≤ c ∧ c ≤ 64) ∨ (91 ≤ c ∧ c ≤ 96) ∨ 123 ≤ c) → alnumB c = false := by decide +kernel
theorem al1 : ∀ c, c < 256 → ((48 ≤ c ∧ c ≤ 57) ∨ (65 ≤ c ∧ c ≤ 90) ∨ (97 ≤ c ∧ c ≤ 122)) → alnumB c = true := by decide +kernel
theorem tok_punct : ∀ c, c < 256 → (c = 33 ∨ c = 35 ∨ c = 36 ∨ c = 37 ∨ c = 38 ∨ c = 39 ∨ c = 42 ∨ c = 43 ∨ c = 45 ∨ c = 46 ∨ c = 94 ∨ c = 95 ∨ c = 96 ∨ c = 124 ∨ c = 126) → tokB c = true := by decide +kernel
theorem tok_alnum : ∀ c, c < 256 → ¬ (c = 33 ∨ c = 35 ∨ c = 36 ∨ c = 37 ∨ c = 38 ∨ c = 39 ∨ c = 42 ∨ c = 43 ∨ c = 45 ∨ c = 46 ∨ c = 94 ∨ c = 95 ∨ c = 96 ∨ c = 124 ∨ c = 126) → tokB c = alnumB c := by decide +kernel

end Go.Proofs.YtemdgilifnhdpaaGreatDoor
