/-
The types are laid out: by the kernel alone.
-/
import Derived.Test.YtieheagfcmcbiaaGreatDoorRows
import Derived.JoinedOf
import Derived.KernelRfl
set_option linter.unusedVariables false
namespace Go.Proofs.YtieheagfcmcbiaaGreatDoor
open Go
theorem lay_540 : (List.range 179).all (fun i => rowFine Tryz.prog (i + 540)) = true := by kernel_rfl
theorem lay_size : Tryz.prog.types.size = 719 := by kernel_rfl
theorem lay_glob : Tryz.prog.globals.all (fun g => decide (g.type < Tryz.prog.types.size)) = true := by kernel_rfl
end Go.Proofs.YtieheagfcmcbiaaGreatDoor
