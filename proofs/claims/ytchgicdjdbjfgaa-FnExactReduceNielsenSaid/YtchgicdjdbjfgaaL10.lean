
/- Contracts: equality of lists of words. -/
import Derived.Test.YtchgicdjdbjfgaaL9
namespace Go.Proofs.Ytchgicdjdbjfgaa
set_option linter.unusedVariables false
set_option linter.unusedSimpArgs false
open Go.RowKit

end Go.Proofs.Ytchgicdjdbjfgaa
