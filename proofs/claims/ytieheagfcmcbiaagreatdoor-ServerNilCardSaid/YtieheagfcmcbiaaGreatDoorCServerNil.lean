/-
It is proved that the law ServerNil answers true for every input, under the row's own conditions (the listed tables and variables start as the program's text lays them); the card ties these to the text.
-/
import Derived.Test.YtieheagfcmcbiaaGreatDoorCards
import Derived.Test.YtieheagfcmcbiaaGreatDoorTieF
import Derived.Test.YtieheagfcmcbiaaGreatDoorSn3
import Derived.Test.YtieheagfcmcbiaaGreatDoorSc1
import Derived.Test.YtieheagfcmcbiaaGreatDoorSc2
import Derived.Test.YtieheagfcmcbiaaGreatDoorSc3
import Derived.Test.YtieheagfcmcbiaaGreatDoorSc5
set_option linter.unusedVariables false
set_option linter.unusedSimpArgs false
namespace Go.Proofs.YtieheagfcmcbiaaGreatDoor.serverNil
open Go.ChangeShapes Go.WideShapes Go.ChangeAt Go.RowKit Go.Joins Go.Deep

theorem card : Rows.ServerNilCardSaid :=
  Claim7.holds_tied_plain_at .later [] _ _ _ _ said (fun _ h => by cases h) c_wf (fun _ h => by cases h) serverNil_row_tie rfl ⟨rfl, rfl⟩ c_main rfl plain c_goes
#print axioms card
end Go.Proofs.YtieheagfcmcbiaaGreatDoor.serverNil
