/-
The law ServerNil, lifted to every world that the row speaks of.
-/
import Derived.Test.YtieheagfcmcbiaaGreatDoorSn1
import Derived.Test.YtieheagfcmcbiaaGreatDoorSw1
import Derived.Test.YtieheagfcmcbiaaGreatDoorSw2
import Derived.Test.YtieheagfcmcbiaaGreatDoorSw3
import Derived.Test.YtieheagfcmcbiaaGreatDoorSw4
import Derived.Test.YtieheagfcmcbiaaGreatDoorSw5
import Derived.Test.YtieheagfcmcbiaaGreatDoorSw6
import Derived.Test.YtieheagfcmcbiaaGreatDoorSw7
set_option linter.unusedVariables false
set_option linter.unusedSimpArgs false
set_option linter.unusedVariables false
namespace Go.Proofs.YtieheagfcmcbiaaGreatDoor.serverNil
open Go.ChangeShapes Go.WideShapes Go.ChangeAt Go.RowKit Go.Joins Go.Deep

theorem laid_met (os : Os) (args : Array Value) : laidMetH Tryz.prog Rows.serverNilRow.laid ((World.laidAll Tryz.prog os Rows.serverNilRow.laid).forCall (fun _ _ => 0) ⟨#[], args, []⟩).memory := by
  rw [MakeChecks.laidMetH_plain _ _ _ w_plain]; exact laidMet_laidAll _ (w_fits os) (w_ifaces os)

set_option maxRecDepth 100000 in
set_option maxHeartbeats 4000000 in
theorem lifted (os : Os) (started : os.Started) (H : Type) (enc : TypeId × Value → H) (F : Stop.Interp) :
    ReturnsInHanded {} Tryz.checked os 3 .any ((OpenSpec.ofChange Rows.serverNilSpec).preRow enc Tryz.prog Tryz.f3 Rows.serverNilRow.domain false Rows.serverNilRow.laid) (((OpenSpec.ofChange Rows.serverNilSpec).at F).post enc Tryz.prog Tryz.f3 false true false false) := by
  refine returnsInHanded_of_row (C := Tryz.checked) (s := (OpenSpec.ofChange Rows.serverNilSpec)) own started w_noInit Tryz.func3
    (witness_row_at (enc := enc) (C := Tryz.checked) false (World.laidAll Tryz.prog os Rows.serverNilRow.laid) #[.string ⟨#[]⟩, .int .i64 0, .slice none 0 0] (w_os os) (w_vars os) (w_rest os) (w_ok os)
      (OpenSpec.preRow_of_cond 8 (w_reads os enc) (by kernel_rfl) (fun k hk => by cases hk) (w_sized os enc) (laid_met os _))) ?_
  intro W base args ds gs before hval hW _ _ hsz hL hsh _
  exact contract H enc W base args ds gs before hval hW hsz hL hsh
end Go.Proofs.YtieheagfcmcbiaaGreatDoor.serverNil
