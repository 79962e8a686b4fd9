
/- Contracts: equality of words and of lists of words; words of a rank. -/
import Derived.Test.YtkcfbcbkokabdaaL8
namespace Go.Proofs.Ytkcfbcbkokabdaa
set_option linter.unusedVariables false
set_option linter.unusedSimpArgs false
open Go.RowKit

end Go.Proofs.Ytkcfbcbkokabdaa
