/-
Head's demand: it goes on, or gives up with a number.
-/
import Derived.Test.YtnakeigpelcajaaGreatDoorHd2
set_option linter.unusedVariables false
set_option linter.unusedSimpArgs false
namespace Go.Proofs.YtnakeigpelcajaaGreatDoor
open Go.RowKit

/-- It goes on, or it gives up. -/
def Gups (ok : Bool) (e : Int) (w : World) (r : Ending) (w' : World) : Prop := (ok = true → r = .returned (.tuple #[])) ∧ (ok = false → r = .panicked [{ v := .iface 25 (.int .i64 e), recovered := false }]) ∧ w = w'
end Go.Proofs.YtnakeigpelcajaaGreatDoor
