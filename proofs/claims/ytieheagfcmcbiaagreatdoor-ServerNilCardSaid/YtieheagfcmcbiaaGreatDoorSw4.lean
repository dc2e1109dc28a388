/-
A closed fact of the row's witness: by the kernel alone.
-/
import Derived.Test.YtieheagfcmcbiaaGreatDoorRows
import Derived.LaidMore
import Derived.Lay
import Derived.Deep.DeepWitnessRowRef
import Derived.ChangeMaps5
import Derived.KernelRfl
set_option linter.unusedVariables false
set_option linter.unusedSimpArgs false
set_option linter.unusedVariables false
namespace Go.Proofs.YtieheagfcmcbiaaGreatDoor.serverNil
open Go

theorem w_rest (os : Os) : (((World.laidAll Tryz.prog os Rows.serverNilRow.laid).forCall (fun _ _ => 0) ⟨#[], #[.string ⟨#[]⟩, .int .i64 0, .slice none 0 0], []⟩).heap.toList.drop Tryz.checked.prog.globals.size).take ((begin Tryz.checked.prog (fun _ _ => 0) default).world.heap.size - Tryz.checked.prog.globals.size) =
      (begin Tryz.checked.prog (fun _ _ => 0) default).world.heap.toList.drop Tryz.checked.prog.globals.size := by kernel_rfl
end Go.Proofs.YtieheagfcmcbiaaGreatDoor.serverNil
