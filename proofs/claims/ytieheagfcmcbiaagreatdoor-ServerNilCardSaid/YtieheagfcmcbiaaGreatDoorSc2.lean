/-
A closed fact of the card: by the kernel alone.
-/
import Derived.Test.YtieheagfcmcbiaaGreatDoorRows
import GoSem.ClaimSeven
import Derived.SevenTiedAt
import Derived.LaidByTextLater
import Derived.KernelRfl
set_option linter.unusedVariables false
set_option linter.unusedSimpArgs false
namespace Go.Proofs.YtieheagfcmcbiaaGreatDoor.serverNil
open Go

theorem c_main : Tryz.pinned.checked.prog.mainIs = some (true, ("53cfd83ca06effc7a0a061b4f3ab959d14922f12008a458175e86340d2f820a8" : String).toList) := by kernel_rfl
end Go.Proofs.YtieheagfcmcbiaaGreatDoor.serverNil
