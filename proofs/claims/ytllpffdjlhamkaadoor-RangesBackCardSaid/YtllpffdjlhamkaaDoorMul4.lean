/-
Which boundaries may be: the program's plain and the reference's.
-/
import Derived.Test.YtllpffdjlhamkaaDoorMUa
import Derived.Test.YtllpffdjlhamkaaDoorAsc6
import Derived.Test.YtllpffdjlhamkaaDoorShelfB
import Derived.Test.YtllpffdjlhamkaaDoorPln
set_option linter.unusedVariables false
set_option linter.unusedSimpArgs false
namespace Go.Proofs.YtllpffdjlhamkaaDoor
open Go.RowKit

end Go.Proofs.YtllpffdjlhamkaaDoor
