/-
A closed fact of the program's ties: what the run lays.
-/
import Derived.Test.YtieheagfcmcbiaaGreatDoorTieA
namespace Go.Proofs.YtieheagfcmcbiaaGreatDoor
open Go
theorem tie_a8 : ∀ os tape, (DataW.laidRun Tryz.prog (varsWorld Tryz.prog 400 (varsId Tryz.prog) os tape).memory 8 (tieL.map (·.1))).map (·.1) = some tieL := fun _ _ => by kernel_rfl
end Go.Proofs.YtieheagfcmcbiaaGreatDoor
