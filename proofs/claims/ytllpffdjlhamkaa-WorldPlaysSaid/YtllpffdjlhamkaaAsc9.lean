/-
Equal but for great and small letters.
-/
import Derived.Test.YtllpffdjlhamkaaAsc8
set_option linter.unusedVariables false
set_option linter.unusedSimpArgs false
namespace Go.Proofs.Ytllpffdjlhamkaa
open Go.RowKit

end Go.Proofs.Ytllpffdjlhamkaa
