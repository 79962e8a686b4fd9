
/- Contracts: permutations. -/
import Derived.Test.YtchgicdjdbjfgaaL1
namespace Go.Proofs.Ytchgicdjdbjfgaa
set_option linter.unusedVariables false
set_option linter.unusedSimpArgs false
open Go.RowKit

end Go.Proofs.Ytchgicdjdbjfgaa
