/-
No world, and one that nobody made: the law as a walk.
-/
import Derived.Test.YtllpffdjlhamkaaWn1
set_option linter.unusedVariables false
set_option linter.unusedSimpArgs false
namespace Go.Proofs.Ytllpffdjlhamkaa
open Go.RowKit

end Go.Proofs.Ytllpffdjlhamkaa
