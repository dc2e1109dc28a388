/-
Equal but for great and small letters.
-/
import Derived.Test.YteklakibcboepabDoorAsc8
set_option linter.unusedVariables false
set_option linter.unusedSimpArgs false
namespace Go.Proofs.YteklakibcboepabDoor
open Go.RowKit

end Go.Proofs.YteklakibcboepabDoor
