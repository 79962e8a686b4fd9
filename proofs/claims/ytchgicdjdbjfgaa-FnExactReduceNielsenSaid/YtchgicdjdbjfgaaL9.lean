
/- Contracts: equality of words and of lists of words; words of a rank. -/
import Derived.Test.YtchgicdjdbjfgaaL8
namespace Go.Proofs.Ytchgicdjdbjfgaa
set_option linter.unusedVariables false
set_option linter.unusedSimpArgs false
open Go.RowKit

set_option maxHeartbeats 800000 in
theorem impl_EqualWords (A A' : Option Addr) (xs ys : List Int) (c c' : Nat) (w : World) (B B' : Nat) (hr : Rs w B A (ints xs)) (hr' : Rs w B' A' (ints ys)) (hl : xs.length ≤ 1048576) (r : Bool) (hres : r = true ↔ xs = ys) :
    Calls Try.prog 78 #[.slice A xs.length c, .slice A' ys.length c'] w fun e w' => e = .returned (.bool r) ∧ ∃ n, w' = w.drewN n := by
  have HR := Lib.hid hres
  clear hres
  by_cases hlen : xs.length = ys.length
  · have hne : ((xs.length : Int) != (ys.length : Int)) = false := by simp; omega
    have hle1 : xs.length ≤ ys.length := by omega
    have hle2 : ys.length ≤ xs.length := by omega
    clear hlen
    go_enter Try.func78, Try.ntmps78
    go_wp2_with fail
    go_loopw [5, 13] (fun _ i wr => ∃ k : Nat, k ≤ xs.length ∧ i = .int .i64 k ∧ (∃ n, wr = w.drewN n) ∧ xs.take k = ys.take k) (fun _ i _ => xs.length - (intOf i).toNat)
    case atStart => exact ⟨0, Nat.zero_le _, rfl, ⟨0, rfl⟩, by simp⟩
    case round =>
      obtain ⟨k, hk, rfl, ⟨nd, rfl⟩, heq⟩ := hrel
      have HE := Lib.hid heq
      clear heq
      by_cases hlt : k < xs.length
      · obtain ⟨b, off, x, rfl, -, hx, hc⟩ := hr.int hlt
        obtain ⟨b', off', y, rfl, -, hy, hc'⟩ := hr'.int (show k < ys.length by omega)
        have HX := Lib.hid hx
        have HY := Lib.hid hy
        clear hx hy
        by_cases hxy : (x != y) = true
        · go_wp2_with fail
          go_quiet (fail)
          go_wp2_with fail
          go_ret
          have hf : r = false := by
            cases r with
            | false => rfl
            | true =>
              have e := HR.out.1 rfl
              have hx := HX.out
              rw [e, HY.out] at hx
              simp at hx hxy
              omega
          subst hf
          exact ⟨rfl, _, by first | rfl | exact dn _ _ _⟩
        · have hxy' : (x != y) = false := by simpa using hxy
          clear hxy
          go_wp2_with fail
          go_quiet (fail)
          go_wp2_with fail
          go_roundw
          case rel =>
            have e : x = y := by simpa using hxy'
            exact ⟨k + 1, by omega, by go_num, ⟨_, by first | rfl | exact dn _ _ _⟩, by rw [take_succ_of xs HX.out, take_succ_of ys HY.out, HE.out, e]⟩
          case measure => simp [intOf]; omega
      · go_wp2_with fail
        go_ret
        have hkl : k = xs.length := by omega
        have hf : r = true := by
          refine HR.out.2 ?_
          have h1 : xs.take k = xs := by rw [hkl]; exact List.take_length
          have h2 : ys.take k = ys := by rw [show k = ys.length from by omega]; exact List.take_length
          rw [← h1, HE.out, h2]
        subst hf
        exact ⟨rfl, _, rfl⟩
  · have hne : ((xs.length : Int) != (ys.length : Int)) = true := by simp; omega
    have hf : r = false := by
      cases r with
      | false => rfl
      | true => exact absurd (congrArg List.length (HR.out.1 rfl)) hlen
    subst hf
    clear hlen
    go_enter Try.func78, Try.ntmps78
    go_wp2_with fail
    go_ret
    exact ⟨rfl, 0, rfl⟩

set_option maxHeartbeats 800000 in
theorem spec_EqualWords (A A' : Option Addr) (xs ys : List Int) (c c' : Nat) (w : World) (B B' : Nat) (hr : Rs w B A (ints xs)) (hr' : Rs w B' A' (ints ys)) (hl : xs.length ≤ 1048576) (r : Bool) (hres : r = true ↔ xs = ys) :
    Calls Try.prog 73 #[.slice A xs.length c, .slice A' ys.length c'] w fun e w' => e = .returned (.bool r) ∧ ∃ n, w' = w.drewN n := by
  have HR := Lib.hid hres
  clear hres
  by_cases hlen : xs.length = ys.length
  · have hne : ((xs.length : Int) != (ys.length : Int)) = false := by simp; omega
    have hle1 : xs.length ≤ ys.length := by omega
    have hle2 : ys.length ≤ xs.length := by omega
    clear hlen
    go_enter Try.func73, Try.ntmps73
    go_wp2_with fail
    go_loopw [5] (fun i wr => ∃ k : Nat, k ≤ xs.length ∧ i = .int .i64 k ∧ (∃ n, wr = w.drewN n) ∧ xs.take k = ys.take k) (fun i _ => xs.length - (intOf i).toNat)
    case atStart => exact ⟨0, Nat.zero_le _, rfl, ⟨0, rfl⟩, by simp⟩
    case round =>
      obtain ⟨k, hk, rfl, ⟨nd, rfl⟩, heq⟩ := hrel
      have HE := Lib.hid heq
      clear heq
      by_cases hlt : k < xs.length
      · obtain ⟨b, off, x, rfl, -, hx, hc⟩ := hr.int hlt
        obtain ⟨b', off', y, rfl, -, hy, hc'⟩ := hr'.int (show k < ys.length by omega)
        have HX := Lib.hid hx
        have HY := Lib.hid hy
        clear hx hy
        by_cases hxy : (x != y) = true
        · go_wp2_with fail
          go_quiet (fail)
          go_wp2_with fail
          go_ret
          have hf : r = false := by
            cases r with
            | false => rfl
            | true =>
              have e := HR.out.1 rfl
              have hx := HX.out
              rw [e, HY.out] at hx
              simp at hx hxy
              omega
          subst hf
          exact ⟨rfl, _, by first | rfl | exact dn _ _ _⟩
        · have hxy' : (x != y) = false := by simpa using hxy
          clear hxy
          go_wp2_with fail
          go_quiet (fail)
          go_wp2_with fail
          go_roundw
          case rel =>
            have e : x = y := by simpa using hxy'
            exact ⟨k + 1, by omega, by go_num, ⟨_, by first | rfl | exact dn _ _ _⟩, by rw [take_succ_of xs HX.out, take_succ_of ys HY.out, HE.out, e]⟩
          case measure => simp [intOf]; omega
      · go_wp2_with fail
        go_ret
        have hkl : k = xs.length := by omega
        have hf : r = true := by
          refine HR.out.2 ?_
          have h1 : xs.take k = xs := by rw [hkl]; exact List.take_length
          have h2 : ys.take k = ys := by rw [show k = ys.length from by omega]; exact List.take_length
          rw [← h1, HE.out, h2]
        subst hf
        exact ⟨rfl, _, rfl⟩
  · have hne : ((xs.length : Int) != (ys.length : Int)) = true := by simp; omega
    have hf : r = false := by
      cases r with
      | false => rfl
      | true => exact absurd (congrArg List.length (HR.out.1 rfl)) hlen
    subst hf
    clear hlen
    go_enter Try.func73, Try.ntmps73
    go_wp2_with fail
    go_ret
    exact ⟨rfl, 0, rfl⟩
end Go.Proofs.Ytchgicdjdbjfgaa
