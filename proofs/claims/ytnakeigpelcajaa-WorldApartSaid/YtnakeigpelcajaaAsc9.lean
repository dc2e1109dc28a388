/-
Equal but for great and small letters.
-/
import Derived.Test.YtnakeigpelcajaaAsc8
set_option linter.unusedVariables false
set_option linter.unusedSimpArgs false
namespace Go.Proofs.Ytnakeigpelcajaa
open Go.RowKit

end Go.Proofs.Ytnakeigpelcajaa
