/-
A closed fact of the program's ties: the list is what the function stores.
-/
import Derived.Test.YtieheagfcmcbiaaGreatDoorTieA
namespace Go.Proofs.YtieheagfcmcbiaaGreatDoor
open Go
theorem tie_a6 : varsNamedLaterB Tryz.prog (varsId Tryz.prog) tieL = true := by kernel_rfl
end Go.Proofs.YtieheagfcmcbiaaGreatDoor
