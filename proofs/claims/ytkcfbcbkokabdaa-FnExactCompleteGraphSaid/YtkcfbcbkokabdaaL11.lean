
/- Contracts: letters and words of a rank. -/
import Derived.Test.YtkcfbcbkokabdaaL10
import Derived.Test.YtkcfbcbkokabdaaM2
namespace Go.Proofs.Ytkcfbcbkokabdaa
set_option linter.unusedVariables false
set_option linter.unusedSimpArgs false
open Go.RowKit

set_option maxHeartbeats 400000 in
theorem impl_compareInts (a b : Int) (w : World) :
    Calls Try.prog 77 #[.int .i64 a, .int .i64 b] w fun e w' => e = .returned (.int .i64 (cmpI a b)) ∧ w = w' := by
  by_cases h1 : a < b
  · have hr : cmpI a b = -1 := by simp [cmpI, h1]
    rw [hr]
    clear hr
    go_enter Try.func77, Try.ntmps77
    go_wp2_with fail
    go_ret
    exact ⟨rfl, rfl⟩
  · by_cases h2 : b < a
    · have hr : cmpI a b = 1 := by simp [cmpI, h1, h2]
      rw [hr]
      clear hr
      go_enter Try.func77, Try.ntmps77
      go_wp2_with fail
      go_ret
      exact ⟨rfl, rfl⟩
    · have hr : cmpI a b = 0 := by simp [cmpI, h1, h2]
      rw [hr]
      clear hr
      go_enter Try.func77, Try.ntmps77
      go_wp2_with fail
      go_ret
      exact ⟨rfl, rfl⟩

theorem wrap_neg {x : Int} (h1 : -9223372036854775808 ≤ x) (h2 : x ≤ 9223372036854775807) : wrap64 (-x) = negI x := by
  unfold negI minI
  by_cases h : x = -9223372036854775808
  · rw [if_pos h, h]
    unfold wrap64
    omega
  · rw [if_neg h]
    exact IntWalk.wrap64_in _ ⟨by omega, by omega⟩
theorem invW_cons (x : Int) (t : List Int) : invW (x :: t) = invW t ++ [negI x] := by simp [invW]

end Go.Proofs.Ytkcfbcbkokabdaa
