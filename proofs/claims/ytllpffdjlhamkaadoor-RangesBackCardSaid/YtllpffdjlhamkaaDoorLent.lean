/-
Bytes with marked room behind them: the laws' Lent and Stays.
-/
import Derived.Test.YtllpffdjlhamkaaDoorTrn
set_option linter.unusedVariables false
set_option linter.unusedSimpArgs false
namespace Go.Proofs.YtllpffdjlhamkaaDoor
open Go.RowKit

/-- Bytes, and two marked ones behind them, all in one room that k owns. -/
def LentIs (k : Nat) (l : List UInt8) (v : Value) (w : World) (o : Ow) : Prop := ∃ A c, v = .slice A l.length c ∧ l.length + 2 ≤ c ∧ Sl w o k 1 A (l.length + 2) c (bc (l ++ [201, 202]))
end Go.Proofs.YtllpffdjlhamkaaDoor
