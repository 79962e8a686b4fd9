
/- Objects of the laws with the blocks they lie in: slices of slices, morphisms. -/
import Derived.Test.YtkcfbcbkokabdaaL13
import Derived.Test.YtkcfbcbkokabdaaO
import Derived.Test.YtkcfbcbkokabdaaK1
import Derived.Test.YtkcfbcbkokabdaaB3
namespace Go.Proofs.Ytkcfbcbkokabdaa
set_option linter.unusedVariables false
set_option linter.unusedSimpArgs false
open Go.RowKit

theorem OkSS.len {d : List (List Int)} (h : OkSS d) : LenOk d := h.1
theorem szI_case (left : Int) (n : Nat) : szI left n = -1 ∨ ((n : Int) ≤ left ∧ szI left n = left - n) := by
  unfold szI
  split
  · right; exact ⟨by assumption, rfl⟩
  · left; rfl
end Go.Proofs.Ytkcfbcbkokabdaa
