/- Contracts: equality of lists of words. -/
import Derived.Test.YtaddhbdfjkbgiaaL9
namespace Go.Proofs.Ytaddhbdfjkbgiaa
set_option linter.unusedVariables false
set_option linter.unusedSimpArgs false
open Go.RowKit

set_option maxHeartbeats 800000 in
theorem impl_EqualWordLists (A A' : Option Addr) (xss yss : List (List Int)) (c c' : Nat) (w : World) (lo hi lo' hi' : Nat) (hr : RSS w lo hi A xss) (hr' : RSS w lo' hi' A' yss) (hl : xss.length + sumL xss ≤ 1048576) (r : Bool) (hres : r = true ↔ xss = yss) :
    Calls Try.prog 67 #[.slice A xss.length c, .slice A' yss.length c'] w fun e w' => e = .returned (.bool r) ∧ ∃ n, w' = w.drewN n := by
  have HR := Lib.hid hres
  clear hres
  by_cases hlen : xss.length = yss.length
  · have hne : ((xss.length : Int) != (yss.length : Int)) = false := by simp; omega
    have hle1 : xss.length ≤ yss.length := by omega
    have hle2 : yss.length ≤ xss.length := by omega
    clear hlen
    go_enter Try.func67, Try.ntmps67
    go_wp2_with fail
    go_loopw [5, 13] (fun _ i wr => ∃ k : Nat, k ≤ xss.length ∧ i = .int .i64 k ∧ (∃ n, wr = w.drewN n) ∧ xss.take k = yss.take k) (fun _ i _ => xss.length - (intOf i).toNat)
    case atStart => exact ⟨0, Nat.zero_le _, rfl, ⟨0, rfl⟩, by simp⟩
    case round =>
      obtain ⟨k, hk, rfl, ⟨nd, rfl⟩, heq⟩ := hrel
      have HE := Lib.hid heq
      clear heq
      by_cases hlt : k < xss.length
      · obtain ⟨b, off, A1, c1, xs, rfl, -, -, hx, hc, hrx⟩ := hr.row hlt
        obtain ⟨b', off', A2, c2, ys, rfl, -, -, hy, hc', hry⟩ := hr'.row (show k < yss.length by omega)
        have hxl := len_le_sumL (List.mem_of_getElem? hx)
        have hlt2 : k < yss.length := by omega
        have hlt3 : (k : Int) < (yss.length : Int) := by omega
        have HX := Lib.hid hx
        have HY := Lib.hid hy
        clear hx hy
        by_cases hxy : xs = ys
        · have hC := fun n : Nat => impl_EqualWords A1 A2 xs ys c1 c2 (w.drewN n) _ _ (hrx.rs.drewN n) (hry.rs.drewN n) (by omega) true (by simp [hxy])
          have HC := Lib.hid hC
          have HXY := Lib.hid hxy
          clear hxy hC
          go_wp2_with fail
          go_quiet ((go_at_call 98; first | exact qz0 (HC.out _) | exact qz1 (HC.out _)))
          go_wp2_with fail
          go_roundw
          case rel => exact ⟨k + 1, by omega, by go_num, ⟨_, by first | rfl | exact dn _ _ _⟩, by rw [take_succ_of xss HX.out, take_succ_of yss HY.out, HE.out, HXY.out]⟩
          case measure => simp [intOf]; omega
        · have hC := fun n : Nat => impl_EqualWords A1 A2 xs ys c1 c2 (w.drewN n) _ _ (hrx.rs.drewN n) (hry.rs.drewN n) (by omega) false (by simp [hxy])
          have HC := Lib.hid hC
          have HXY := Lib.hid hxy
          clear hxy hC
          go_wp2_with fail
          go_quiet ((go_at_call 98; first | exact qz0 (HC.out _) | exact qz1 (HC.out _)))
          go_wp2_with fail
          go_ret
          have hf : r = false := by
            cases r with
            | false => rfl
            | true =>
              have e := HR.out.1 rfl
              have hx := HX.out
              rw [e, HY.out] at hx
              exact absurd (Option.some.inj hx).symm HXY.out
          subst hf
          exact ⟨rfl, _, by first | rfl | exact dn _ _ _⟩
      · go_wp2_with fail
        go_ret
        have hkl : k = xss.length := by omega
        have hf : r = true := by
          refine HR.out.2 ?_
          have h1 : xss.take k = xss := by rw [hkl]; exact List.take_length
          have h2 : yss.take k = yss := by rw [show k = yss.length from by omega]; exact List.take_length
          rw [← h1, HE.out, h2]
        subst hf
        exact ⟨rfl, _, rfl⟩
  · have hne : ((xss.length : Int) != (yss.length : Int)) = true := by simp; omega
    have hf : r = false := by
      cases r with
      | false => rfl
      | true => exact absurd (congrArg List.length (HR.out.1 rfl)) hlen
    subst hf
    clear hlen
    go_enter Try.func67, Try.ntmps67
    go_wp2_with fail
    go_ret
    exact ⟨rfl, 0, rfl⟩

set_option maxHeartbeats 800000 in
theorem spec_EqualWordLists (A A' : Option Addr) (xss yss : List (List Int)) (c c' : Nat) (w : World) (lo hi lo' hi' : Nat) (hr : RSS w lo hi A xss) (hr' : RSS w lo' hi' A' yss) (hl : xss.length + sumL xss ≤ 1048576) (r : Bool) (hres : r = true ↔ xss = yss) :
    Calls Try.prog 66 #[.slice A xss.length c, .slice A' yss.length c'] w fun e w' => e = .returned (.bool r) ∧ ∃ n, w' = w.drewN n := by
  have HR := Lib.hid hres
  clear hres
  by_cases hlen : xss.length = yss.length
  · have hne : ((xss.length : Int) != (yss.length : Int)) = false := by simp; omega
    have hle1 : xss.length ≤ yss.length := by omega
    have hle2 : yss.length ≤ xss.length := by omega
    clear hlen
    go_enter Try.func66, Try.ntmps66
    go_wp2_with fail
    go_loopw [5] (fun i wr => ∃ k : Nat, k ≤ xss.length ∧ i = .int .i64 k ∧ (∃ n, wr = w.drewN n) ∧ xss.take k = yss.take k) (fun i _ => xss.length - (intOf i).toNat)
    case atStart => exact ⟨0, Nat.zero_le _, rfl, ⟨0, rfl⟩, by simp⟩
    case round =>
      obtain ⟨k, hk, rfl, ⟨nd, rfl⟩, heq⟩ := hrel
      have HE := Lib.hid heq
      clear heq
      by_cases hlt : k < xss.length
      · obtain ⟨b, off, A1, c1, xs, rfl, -, -, hx, hc, hrx⟩ := hr.row hlt
        obtain ⟨b', off', A2, c2, ys, rfl, -, -, hy, hc', hry⟩ := hr'.row (show k < yss.length by omega)
        have hxl := len_le_sumL (List.mem_of_getElem? hx)
        have hlt2 : k < yss.length := by omega
        have hlt3 : (k : Int) < (yss.length : Int) := by omega
        have HX := Lib.hid hx
        have HY := Lib.hid hy
        clear hx hy
        by_cases hxy : xs = ys
        · have hC := fun n : Nat => spec_EqualWords A1 A2 xs ys c1 c2 (w.drewN n) _ _ (hrx.rs.drewN n) (hry.rs.drewN n) (by omega) true (by simp [hxy])
          have HC := Lib.hid hC
          have HXY := Lib.hid hxy
          clear hxy hC
          go_wp2_with fail
          go_quiet ((go_at_call 97; first | exact qz0 (HC.out _) | exact qz1 (HC.out _)))
          go_wp2_with fail
          go_roundw
          case rel => exact ⟨k + 1, by omega, by go_num, ⟨_, by first | rfl | exact dn _ _ _⟩, by rw [take_succ_of xss HX.out, take_succ_of yss HY.out, HE.out, HXY.out]⟩
          case measure => simp [intOf]; omega
        · have hC := fun n : Nat => spec_EqualWords A1 A2 xs ys c1 c2 (w.drewN n) _ _ (hrx.rs.drewN n) (hry.rs.drewN n) (by omega) false (by simp [hxy])
          have HC := Lib.hid hC
          have HXY := Lib.hid hxy
          clear hxy hC
          go_wp2_with fail
          go_quiet ((go_at_call 97; first | exact qz0 (HC.out _) | exact qz1 (HC.out _)))
          go_wp2_with fail
          go_ret
          have hf : r = false := by
            cases r with
            | false => rfl
            | true =>
              have e := HR.out.1 rfl
              have hx := HX.out
              rw [e, HY.out] at hx
              exact absurd (Option.some.inj hx).symm HXY.out
          subst hf
          exact ⟨rfl, _, by first | rfl | exact dn _ _ _⟩
      · go_wp2_with fail
        go_ret
        have hkl : k = xss.length := by omega
        have hf : r = true := by
          refine HR.out.2 ?_
          have h1 : xss.take k = xss := by rw [hkl]; exact List.take_length
          have h2 : yss.take k = yss := by rw [show k = yss.length from by omega]; exact List.take_length
          rw [← h1, HE.out, h2]
        subst hf
        exact ⟨rfl, _, rfl⟩
  · have hne : ((xss.length : Int) != (yss.length : Int)) = true := by simp; omega
    have hf : r = false := by
      cases r with
      | false => rfl
      | true => exact absurd (congrArg List.length (HR.out.1 rfl)) hlen
    subst hf
    clear hlen
    go_enter Try.func66, Try.ntmps66
    go_wp2_with fail
    go_ret
    exact ⟨rfl, 0, rfl⟩
end Go.Proofs.Ytaddhbdfjkbgiaa
