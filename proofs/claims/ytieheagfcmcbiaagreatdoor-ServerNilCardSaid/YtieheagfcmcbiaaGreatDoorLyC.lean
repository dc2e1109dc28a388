/-
The types are laid out: by the kernel alone.
-/
import Derived.Test.YtieheagfcmcbiaaGreatDoorRows
import Derived.JoinedOf
import Derived.KernelRfl
set_option linter.unusedVariables false
namespace Go.Proofs.YtieheagfcmcbiaaGreatDoor
open Go
theorem lay_fun : Tryz.prog.funcs.all (fun f => f.params.all fun t => decide (t < Tryz.prog.types.size)) = true := by kernel_rfl
end Go.Proofs.YtieheagfcmcbiaaGreatDoor
