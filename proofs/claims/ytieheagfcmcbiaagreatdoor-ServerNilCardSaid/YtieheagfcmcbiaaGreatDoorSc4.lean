/-
A closed fact of the card: by the kernel alone.
-/
import Derived.Test.YtieheagfcmcbiaaGreatDoorRows
import GoSem.ClaimSeven
import Derived.SevenTiedAt
import Derived.LaidByTextLater
import Derived.KernelRfl
set_option linter.unusedVariables false
set_option linter.unusedSimpArgs false
namespace Go.Proofs.YtieheagfcmcbiaaGreatDoor.serverNil
open Go

theorem c_looks : true = Tryz.pinned.checked.prog.looks [] := by kernel_rfl
end Go.Proofs.YtieheagfcmcbiaaGreatDoor.serverNil
