/-
A queue of bytes: the program's NewQueue; a slice of bytes that is owned, in later worlds.
-/
import Derived.Test.YtllpffdjlhamkaaDoorQue2
set_option linter.unusedVariables false
set_option linter.unusedSimpArgs false
namespace Go.Proofs.YtllpffdjlhamkaaDoor
open Go.RowKit

end Go.Proofs.YtllpffdjlhamkaaDoor
