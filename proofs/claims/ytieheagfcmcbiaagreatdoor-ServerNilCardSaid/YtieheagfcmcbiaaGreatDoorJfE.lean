/-
A closed fact of the row: by the kernel alone.
-/
import Derived.Test.YtieheagfcmcbiaaGreatDoorRows
import Derived.JoinedOf
import Derived.KernelRfl
set_option linter.unusedVariables false
namespace Go.Proofs.YtieheagfcmcbiaaGreatDoor
open Go
theorem jf_12 : (fun (P : Program) (f : FuncId) (fn : Func) (s : ChangeSpec) (c : OpenClaim) => ((c.named == P.varsNamed f) : Bool)) Tryz.prog 3 Tryz.f3 (OpenSpec.ofChange Rows.serverNilSpec).bare Rows.serverNilRow = true := by kernel_rfl
end Go.Proofs.YtieheagfcmcbiaaGreatDoor
