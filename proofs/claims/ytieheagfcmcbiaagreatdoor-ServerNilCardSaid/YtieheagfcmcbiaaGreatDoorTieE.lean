/-
A closed fact of the program's ties: where the run lays it.
-/
import Derived.Test.YtieheagfcmcbiaaGreatDoorTieA
namespace Go.Proofs.YtieheagfcmcbiaaGreatDoor
open Go
theorem tie_a9 : ∀ os tape, (DataW.laidRun Tryz.prog (varsWorld Tryz.prog 400 (varsId Tryz.prog) os tape).memory 8 (tieL.map (·.1))).map (fun x => decide x.2.Nodup && laidRowsB Tryz.prog (varsWorld Tryz.prog 400 (varsId Tryz.prog) os tape).memory x.2) = some true := fun _ _ => by kernel_rfl
end Go.Proofs.YtieheagfcmcbiaaGreatDoor
