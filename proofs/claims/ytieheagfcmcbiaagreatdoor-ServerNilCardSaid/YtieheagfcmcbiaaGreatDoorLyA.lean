/-
The types are laid out: by the kernel alone.
-/
import Derived.Test.YtieheagfcmcbiaaGreatDoorRows
import Derived.JoinedOf
import Derived.KernelRfl
set_option linter.unusedVariables false
namespace Go.Proofs.YtieheagfcmcbiaaGreatDoor
open Go
theorem lay_0 : (List.range 180).all (fun i => rowFine Tryz.prog (i + 0)) = true := by kernel_rfl
theorem lay_180 : (List.range 180).all (fun i => rowFine Tryz.prog (i + 180)) = true := by kernel_rfl
theorem lay_360 : (List.range 180).all (fun i => rowFine Tryz.prog (i + 360)) = true := by kernel_rfl
end Go.Proofs.YtieheagfcmcbiaaGreatDoor
