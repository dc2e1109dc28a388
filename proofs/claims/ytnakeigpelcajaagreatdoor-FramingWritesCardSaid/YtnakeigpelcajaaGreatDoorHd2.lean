/-
Fields by their names: First, the program's and the reference's.
-/
import Derived.Test.YtnakeigpelcajaaGreatDoorHd1
set_option linter.unusedVariables false
set_option linter.unusedSimpArgs false
namespace Go.Proofs.YtnakeigpelcajaaGreatDoor
open Go.RowKit

/-- The first of texts, and whether there is one. -/
def firstV : List (List UInt8) → Value
  | [] => .tuple #[.string ⟨#[]⟩, .bool false]
  | v :: _ => .tuple #[.string (str v), .bool true]
theorem sc_first {w : World} {A : Option Addr} {v : List UInt8} {ls : List (List UInt8)} (h : Rd w A (sc (v :: ls))) : ∃ b f, A = some ⟨b, f, none⟩ ∧ w.cell? ⟨b, f, none⟩ = some (.string (str v)) := by
  obtain ⟨b, f, rfl, _, hc⟩ := h.at_ (by simp)
  exact ⟨b, f, rfl, hc 0 _ rfl⟩
end Go.Proofs.YtnakeigpelcajaaGreatDoor
