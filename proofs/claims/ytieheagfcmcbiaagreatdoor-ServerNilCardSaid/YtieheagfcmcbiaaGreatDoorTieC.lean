/-
A closed fact of the program's ties: the run ends.
-/
import Derived.Test.YtieheagfcmcbiaaGreatDoorTieA
namespace Go.Proofs.YtieheagfcmcbiaaGreatDoor
open Go
theorem tie_a7 : ∀ os tape, varsDone Tryz.prog 400 (varsId Tryz.prog) os tape = true := fun _ _ => by kernel_rfl
end Go.Proofs.YtieheagfcmcbiaaGreatDoor
