
/- Contracts of the small helpers of the laws: copies, comparisons and marks of int slices. -/
import Derived.Test.YtkcfbcbkokabdaaP
namespace Go.Proofs.Ytkcfbcbkokabdaa
set_option linter.unusedVariables false
set_option linter.unusedSimpArgs false
open Go.RowKit

/-- lo ≤ x ≤ hi -/
def inB (x lo hi : Int) : Bool := decide (lo ≤ x) && decide (x ≤ hi)

set_option maxHeartbeats 400000 in
theorem within_any (x lo hi : Int) (w : World) :
    Calls Try.prog 63 #[.int .i64 x, .int .i64 lo, .int .i64 hi] w fun e w' => e = .returned (.bool (inB x lo hi)) ∧ w = w' := by
  go_enter Try.func63, Try.ntmps63
  go_wp2_with fail
  all_goals
    go_ret
    exact ⟨by simp [inB]; omega, rfl⟩

set_option maxHeartbeats 400000 in
theorem l1In_any (x lo hi : Int) (w : World) :
    Calls Try.prog 49 #[.int .i64 x, .int .i64 lo, .int .i64 hi] w fun e w' => e = .returned (.bool (inB x lo hi)) ∧ w = w' := by
  go_enter Try.func49, Try.ntmps49
  go_wp2_with fail
  all_goals
    go_ret
    exact ⟨by simp [inB]; omega, rfl⟩

set_option maxHeartbeats 400000 in
/-- Equal lists: eqIntS says yes. -/
theorem eqIntS_same (A A' : Option Addr) (xs : List Int) (c c' B B' : Nat) (w : World) (hr : Rs w B A (ints xs)) (hr' : Rs w B' A' (ints xs)) (hl : xs.length ≤ 1048576) :
    Calls Try.prog 29 #[.slice A xs.length c, .slice A' xs.length c'] w fun e w' => e = .returned (.bool true) ∧ ∃ n, w' = w.drewN n := by
  go_enter Try.func29, Try.ntmps29
  go_wp2_with fail
  go_loopw [5] (fun i wr => ∃ k : Nat, k ≤ xs.length ∧ i = .int .i64 k ∧ ∃ n, wr = w.drewN n) (fun i _ => xs.length - (intOf i).toNat)
  case atStart => exact ⟨0, Nat.zero_le _, rfl, 0, rfl⟩
  case round =>
    obtain ⟨k, hk, rfl, nd, rfl⟩ := hrel
    by_cases hlt : k < xs.length
    · obtain ⟨b, off, x, rfl, -, hx, hc⟩ := hr.int hlt
      obtain ⟨b', off', x', rfl, -, hx', hc'⟩ := hr'.int hlt
      rw [hx] at hx'
      obtain rfl := Option.some.inj hx'
      clear hx hx'
      go_wp2_with fail
      go_quiet (fail)
      go_wp2_with fail
      go_roundw
      case rel => exact ⟨k + 1, by omega, by go_num, _, rfl⟩
      case measure => simp [intOf]; omega
    · go_wp2_with fail
      go_ret
      exact ⟨rfl, _, rfl⟩

set_option maxHeartbeats 400000 in
theorem markIntS_any (A : Option Addr) (xs : List Int) (c base : Nat) (q : Int) (w : World) (ho : w.ownsRow base 3 1 (.slice A xs.length c) xs.length (ints xs)) (hq : 0 ≤ q) (hq2 : q ≤ 16777216) (hl : xs.length ≤ 1048576) :
    Calls Try.prog 30 #[.slice A xs.length c, .int .i64 q] w fun e w' => e = .returned (.int .i64 (q + xs.length)) ∧
      w'.ownsRow base 3 1 (.slice A xs.length c) xs.length (ints (marks q xs.length)) ∧ w.grownBy w' (Value.ownBlock (.slice A xs.length c)) := by
  go_enter Try.func30, Try.ntmps30
  go_wp2_with fail
  go_loopw [1, 5] (fun qv i wr => ∃ k : Nat, k ≤ xs.length ∧ i = .int .i64 k ∧ qv = .int .i64 (q + k) ∧ wr.ownsRow base 3 1 (.slice A xs.length c) xs.length (ints (marks q k) ++ (ints xs).drop k) ∧ w.grownBy wr (Value.ownBlock (.slice A xs.length c)))
    (fun _ i _ => xs.length - (intOf i).toNat)
  case atStart => exact ⟨0, Nat.zero_le _, rfl, by simp, by simpa [marks, ints] using ho, World.grownBy.refl _ _⟩
  case round =>
    obtain ⟨k, hk, rfl, rfl, hown, hg⟩ := hrel
    by_cases hlt : k < xs.length
    · obtain ⟨g, rfl, -, -⟩ := owns_addr hown (by omega)
      obtain ⟨u, -, hu⟩ := owns_cell hown hlt
      have hfz := hown.frozenAt k
      go_wp2_with fail
      go_roundw
      case rel =>
        refine ⟨k + 1, by omega, by go_num, by go_num, owns_set hown k _ ?_, grown_setCell hg _ _⟩
        rw [set_over _ _ _ (by rw [ints_len, marks_len]) (by rw [ints_len]; exact hlt), marks_succ, ints_append]
        rfl
      case measure => simp [intOf]; omega
    · go_wp2_with fail
      go_ret
      have hkl : k = xs.length := by omega
      subst hkl
      rw [List.drop_eq_nil_of_le (by rw [ints_len]; exact Nat.le_refl _), List.append_nil] at hown
      exact ⟨rfl, hown, hg⟩

set_option maxHeartbeats 400000 in
theorem heldIntS_any (A : Option Addr) (n c B : Nat) (q : Int) (w : World) (hr : Rs w B A (ints (marks q n))) (hq : 0 ≤ q) (hq2 : q ≤ 16777216) (hl : n ≤ 1048576) :
    Calls Try.prog 31 #[.slice A n c, .int .i64 q] w fun e w' => e = .returned (.int .i64 (q + n)) ∧ w = w' := by
  go_enter Try.func31, Try.ntmps31
  go_wp2_with fail
  go_loop [1, 5] (fun qv i => ∃ k : Nat, k ≤ n ∧ i = .int .i64 k ∧ qv = .int .i64 (q + k)) (fun _ i => n - (intOf i).toNat)
  case atStart => exact ⟨0, Nat.zero_le _, rfl, by simp⟩
  case round =>
    obtain ⟨k, hk, rfl, rfl⟩ := hrel
    by_cases hlt : k < n
    · obtain ⟨b, off, x, rfl, -, hx, hc⟩ := hr.int (k := k) (by rw [marks_len]; exact hlt)
      rw [marks_get q hlt] at hx
      obtain rfl := Option.some.inj hx
      clear hx
      go_wp2_with fail
      go_round
      case rel => exact ⟨k + 1, by omega, by go_num, by go_num⟩
      case measure => simp [intOf]; omega
    · go_wp2_with fail
      go_ret
      have hkl : k = n := by omega
      subst hkl
      exact ⟨rfl, rfl⟩
end Go.Proofs.Ytkcfbcbkokabdaa
