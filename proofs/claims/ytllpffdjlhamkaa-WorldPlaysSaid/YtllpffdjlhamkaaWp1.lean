/-
A world behind orders: played.
-/
import Derived.Test.YtllpffdjlhamkaaWo1
set_option linter.unusedVariables false
set_option linter.unusedSimpArgs false
namespace Go.Proofs.Ytllpffdjlhamkaa
open Go.RowKit

/-- A world stands at p behind so many orders. -/
def PlAt (w0 w : World) (p : Nat) (n : Nat) : Prop := ∃ (s : Wrl) (o : Ow), WdAt w o 1 p s ∧ Wok s ∧ s.ver ≤ n ∧ Stp (fun i => i ≠ 0) w0 (fun _ => 0) w o
end Go.Proofs.Ytllpffdjlhamkaa
