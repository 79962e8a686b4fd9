
/- Contracts: equality of lists of words. -/
import Derived.Test.YtkcfbcbkokabdaaL9
namespace Go.Proofs.Ytkcfbcbkokabdaa
set_option linter.unusedVariables false
set_option linter.unusedSimpArgs false
open Go.RowKit

end Go.Proofs.Ytkcfbcbkokabdaa
