/-
The reference's Clean.
-/
import Derived.Test.YtmnohicojefhfaaGreatDoorCln
import Derived.Test.YtmnohicojefhfaaGreatDoorASb
import Derived.Test.YtmnohicojefhfaaGreatDoorUHa
set_option linter.unusedVariables false
set_option linter.unusedSimpArgs false
/-
The reference's Clean.
-/
section
namespace Go.Proofs.YtmnohicojefhfaaGreatDoor
open Go.RowKit

/-- Where the loop stands. -/
def SegAt (l : List UInt8) (S acc : List (List UInt8)) (f i : Nat) : Prop :=
  (i ≤ l.length ∧ f ≤ i ∧ (∀ j, f ≤ j → j < i → l[j]? ≠ some 47) ∧ S = acc ++ segsL (l.drop f)) ∨ (i = l.length + 1 ∧ S = acc)

end Go.Proofs.YtmnohicojefhfaaGreatDoor
end

/-
Resolve, both.
-/
section
namespace Go.Proofs.YtmnohicojefhfaaGreatDoor
open Go.RowKit

/-- Decoded, and cleaned. -/
def resU (l : List UInt8) : List UInt8 × Int := match decL l with | some x => cleanL x | none => ([], 40)
end Go.Proofs.YtmnohicojefhfaaGreatDoor
end
