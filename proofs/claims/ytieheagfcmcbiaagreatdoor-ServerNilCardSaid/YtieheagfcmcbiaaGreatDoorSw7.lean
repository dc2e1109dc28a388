/-
A closed fact of the row's witness: by the kernel alone.
-/
import Derived.Test.YtieheagfcmcbiaaGreatDoorRows
import Derived.LaidMore
import Derived.Lay
import Derived.Deep.DeepWitnessRowRef
import Derived.ChangeMaps5
import Derived.KernelRfl
set_option linter.unusedVariables false
set_option linter.unusedSimpArgs false
set_option linter.unusedVariables false
namespace Go.Proofs.YtieheagfcmcbiaaGreatDoor.serverNil
open Go

theorem w_vars (os : Os) : ((World.laidAll Tryz.prog os Rows.serverNilRow.laid).forCall (fun _ _ => 0) ⟨#[], #[.string ⟨#[]⟩, .int .i64 0, .slice none 0 0], []⟩).variablesB Tryz.checked.prog = true := by kernel_rfl
end Go.Proofs.YtieheagfcmcbiaaGreatDoor.serverNil
