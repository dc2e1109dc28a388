/-
Equal but for great and small letters.
-/
import Derived.Test.YtllpffdjlhamkaaDoorAsc8
set_option linter.unusedVariables false
set_option linter.unusedSimpArgs false
namespace Go.Proofs.YtllpffdjlhamkaaDoor
open Go.RowKit

end Go.Proofs.YtllpffdjlhamkaaDoor
