
/- Opening of a morphism that came in. -/
import Derived.Test.YtkcfbcbkokabdaaO
import Derived.Test.YtkcfbcbkokabdaaL8
namespace Go.Proofs.Ytkcfbcbkokabdaa
set_option linter.unusedVariables false
open Go.ChangeShapes Go.WideShapes Go.ChangeAt Go.RowKit
open Go.Joins
theorem cellsSI : Try.prog.cellsOf 41 = 1 := by kernel_rfl
end Go.Proofs.Ytkcfbcbkokabdaa
