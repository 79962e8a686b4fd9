/- TotalLength and AreWords, both sides. -/
import Derived.Test.YtchgicdjdbjfgaaL17
import Derived.Test.YtchgicdjdbjfgaaL18
import Derived.Test.YtchgicdjdbjfgaaL19
namespace Go.Proofs.Ytchgicdjdbjfgaa
set_option linter.unusedVariables false
set_option linter.unusedSimpArgs false
open Go.RowKit

/-- Lists of words that make a subgroup. -/
def AreW (rk : Int) (d : List (List Int)) : Prop := 1 ≤ rk ∧ rk ≤ 3 ∧ d.length ≤ 6 ∧ (∀ xs ∈ d, IsW rk xs) ∧ sumL d < 40

set_option maxHeartbeats 400000 in
theorem impl_TotalLength (A : Option Addr) (d : List (List Int)) (c : Nat) (w : World) (lo hi : Nat) (hr : RSS w lo hi A d) (hl : d.length + sumL d ≤ 1048576) :
    Calls Try.prog 115 #[.slice A d.length c] w fun e w' => e = .returned (.int .i64 (sumL d : Nat)) ∧ w = w' := by
  go_enter Try.func115, Try.ntmps115
  go_wp2_with fail
  go_loop [3, 5, 8] (fun n _ i => ∃ k : Nat, k ≤ d.length ∧ i = .int .i64 k ∧ n = .int .i64 (sumL (d.take k) : Nat)) (fun _ _ i => d.length - (intOf i).toNat)
  case atStart => exact ⟨0, Nat.zero_le _, rfl, by simp [sumL]⟩
  case round =>
    obtain ⟨k, hk, rfl, rfl⟩ := hrel
    have hs := sumL_take_le d k
    by_cases hlt : k < d.length
    · obtain ⟨b, off, A1, c1, xs, rfl, -, -, hx, hcx, -⟩ := hr.row hlt
      have hst := sumL_take_succ hx
      have hs2 := sumL_take_le d (k + 1)
      have hsum : sumL (d.take k) + xs.length ≤ 1048576 := by omega
      have HST := Lib.hid hst
      clear hst hs2 hx
      go_wp2_with fail
      go_round
      case rel => exact ⟨k + 1, by omega, by go_num, by rw [HST.out]; go_num⟩
      case measure => simp [intOf]; omega
    · obtain rfl : k = d.length := by omega
      go_wp2_with fail
      go_ret
      exact ⟨by first | rfl | rw [List.take_length] | simp, rfl⟩

set_option maxHeartbeats 400000 in
theorem spec_TotalLength (A : Option Addr) (d : List (List Int)) (c : Nat) (w : World) (lo hi : Nat) (hr : RSS w lo hi A d) (hl : d.length + sumL d ≤ 1048576) :
    Calls Try.prog 147 #[.slice A d.length c] w fun e w' => e = .returned (.int .i64 (sumL d : Nat)) ∧ w = w' := by
  go_enter Try.func147, Try.ntmps147
  go_wp2_with fail
  go_loop [3, 4] (fun n i => ∃ k : Nat, k ≤ d.length ∧ i = .int .i64 k ∧ n = .int .i64 (sumL (d.take k) : Nat)) (fun _ i => d.length - (intOf i).toNat)
  case atStart => exact ⟨0, Nat.zero_le _, rfl, by simp [sumL]⟩
  case round =>
    obtain ⟨k, hk, rfl, rfl⟩ := hrel
    have hs := sumL_take_le d k
    by_cases hlt : k < d.length
    · obtain ⟨b, off, A1, c1, xs, rfl, -, -, hx, hcx, -⟩ := hr.row hlt
      have hst := sumL_take_succ hx
      have hs2 := sumL_take_le d (k + 1)
      have hsum : sumL (d.take k) + xs.length ≤ 1048576 := by omega
      have hlt3 : (k : Int) < (d.length : Int) := by omega
      have HST := Lib.hid hst
      clear hst hs2 hx
      go_wp2_with fail
      go_round
      case rel => exact ⟨k + 1, by omega, by go_num, by rw [HST.out]; go_num⟩
      case measure => simp [intOf]; omega
    · obtain rfl : k = d.length := by omega
      go_wp2_with fail
      go_ret
      exact ⟨by first | rfl | rw [List.take_length] | simp, rfl⟩

theorem bool_false {r : Bool} {p : Prop} (h : r = true ↔ p) (hn : ¬ p) : r = false := by
  cases r with
  | false => rfl
  | true => exact absurd (h.1 rfl) hn

set_option maxHeartbeats 1600000 in
theorem impl_AreWords (rk : Int) (A : Option Addr) (d : List (List Int)) (c : Nat) (w : World) (lo hi : Nat) (hr : RSS w lo hi A d) (hok : ∀ xs ∈ d, OkI xs) (hl : d.length + sumL d ≤ 1048576) (r : Bool) (hres : r = true ↔ AreW rk d) :
    Calls Try.prog 63 #[.int .i64 rk, .slice A d.length c] w fun e w' => e = .returned (.bool r) ∧ w = w' := by
  have HOK := Lib.hid hok
  have HR := Lib.hid hres
  clear hok hres
  by_cases hb : inB rk 1 3 = false
  · obtain rfl : r = false := bool_false HR.out (fun h => by simp [inB] at hb; have := h.1; have := h.2.1; omega)
    have HB := Lib.hid hb
    clear hb
    go_enter Try.func63, Try.ntmps63
    go_wp2_with fail
    with_reducible refine (within_any _ _ _ _).mono ?_
    rintro e w' ⟨rfl, rfl⟩
    rw [HB.out]
    go_wp2_with fail
    go_ret
    exact ⟨rfl, rfl⟩
  · have hb' : inB rk 1 3 = true := by simpa using hb
    have HB := Lib.hid hb'
    have hrk : 1 ≤ rk ∧ rk ≤ 3 := by simpa [inB] using hb'
    clear hb hb'
    by_cases h6 : 6 < d.length
    · obtain rfl : r = false := bool_false HR.out (fun h => by have := h.2.2.1; omega)
      have h63 : (6 : Int) < (d.length : Int) := by omega
      go_enter Try.func63, Try.ntmps63
      go_wp2_with fail
      with_reducible refine (within_any _ _ _ _).mono ?_
      rintro e w' ⟨rfl, rfl⟩
      rw [HB.out]
      go_wp2_with fail
      go_ret
      exact ⟨rfl, rfl⟩
    · have h63 : ¬ (6 : Int) < (d.length : Int) := by omega
      go_enter Try.func63, Try.ntmps63
      go_wp2_with fail
      with_reducible refine (within_any _ _ _ _).mono ?_
      rintro e w' ⟨rfl, rfl⟩
      rw [HB.out]
      go_wp2_with fail
      go_loop [6, 17] (fun _ i => ∃ k : Nat, k ≤ d.length ∧ i = .int .i64 k ∧ WordsTo rk d k) (fun _ i => d.length - (intOf i).toNat)
      case atStart => exact ⟨0, Nat.zero_le _, rfl, WordsTo.zero _ _⟩
      case round =>
        obtain ⟨k, hk, rfl, hw⟩ := hrel
        have HW := Lib.hid hw
        clear hw
        by_cases hlt : k < d.length
        · obtain ⟨b, off, A1, c1, xs, rfl, -, -, hx, hcx, hrx⟩ := hr.row hlt
          have hlx := row_le (List.mem_of_getElem? hx) hl
          have hox := HOK.out xs (List.mem_of_getElem? hx)
          have HOX := Lib.hid hox
          have HX := Lib.hid hx
          clear hx hox
          obtain ⟨v, hv⟩ := bool_of (IsW rk xs)
          have HV := Lib.hid hv
          clear hv
          cases hvc : v with
          | false =>
            subst hvc
            go_wp2_with fail
            with_reducible refine (impl_IsWord rk A1 xs c1 _ _ hrx.rs HOX.out hlx false HV.out).mono ?_
            rintro e w' ⟨rfl, rfl⟩
            go_wp2_with fail
            go_ret
            obtain rfl : r = false := bool_false HR.out (fun h => by have := HV.out.2 (h.2.2.2.1 xs (List.mem_of_getElem? HX.out)); cases this)
            exact ⟨rfl, rfl⟩
          | true =>
            subst hvc
            have HV2 := Lib.hid (HV.out.1 rfl)
            clear HV
            go_wp2_with fail
            with_reducible refine (impl_IsWord rk A1 xs c1 _ _ hrx.rs HOX.out hlx true (iff_of_true rfl HV2.out)).mono ?_
            rintro e w' ⟨rfl, rfl⟩
            go_wp2_with fail
            go_round
            case rel => exact ⟨k + 1, by omega, by go_num, HW.out.succ HX.out HV2.out⟩
            case measure => simp [intOf]; omega
        · obtain rfl : k = d.length := by omega
          by_cases h40 : sumL d < 40
          · obtain rfl : r = true := HR.out.2 ⟨hrk.1, hrk.2, by omega, wordsTo_all.1 HW.out, h40⟩
            have h403 : (sumL d : Int) < 40 := by omega
            go_wp2_with fail
            with_reducible refine (impl_TotalLength A d c _ _ _ hr hl).mono ?_
            rintro e w' ⟨rfl, rfl⟩
            go_wp2_with fail
            go_ret
            exact ⟨by simp [h403], rfl⟩
          · obtain rfl : r = false := bool_false HR.out (fun h => h40 h.2.2.2.2)
            have h403 : ¬ (sumL d : Int) < 40 := by omega
            go_wp2_with fail
            with_reducible refine (impl_TotalLength A d c _ _ _ hr hl).mono ?_
            rintro e w' ⟨rfl, rfl⟩
            go_wp2_with fail
            go_ret
            exact ⟨by simp; omega, rfl⟩

set_option maxHeartbeats 1600000 in
theorem spec_AreWords (rk : Int) (A : Option Addr) (d : List (List Int)) (c : Nat) (w : World) (lo hi : Nat) (hr : RSS w lo hi A d) (hok : ∀ xs ∈ d, OkI xs) (hl : d.length + sumL d ≤ 1048576) (r : Bool) (hres : r = true ↔ AreW rk d) :
    Calls Try.prog 113 #[.int .i64 rk, .slice A d.length c] w fun e w' => e = .returned (.bool r) ∧ ∃ n, w' = w.drewN n := by
  have HOK := Lib.hid hok
  have HR := Lib.hid hres
  clear hok hres
  go_enter Try.func113, Try.ntmps113
  go_wp2_with fail
  go_loopw [5] (fun i wr => ∃ k : Nat, k ≤ d.length ∧ i = .int .i64 k ∧ WordsTo rk d k ∧ ∃ n, wr = w.drewN n) (fun i _ => d.length - (intOf i).toNat)
  case atStart => exact ⟨0, Nat.zero_le _, rfl, WordsTo.zero _ _, 0, rfl⟩
  case round =>
    obtain ⟨k, hk, rfl, hw, nd, rfl⟩ := hrel
    have HW := Lib.hid hw
    clear hw
    by_cases hlt : k < d.length
    · obtain ⟨b, off, A1, c1, xs, rfl, -, -, hx, hcx, hrx⟩ := hr.row hlt
      have hlx := row_le (List.mem_of_getElem? hx) hl
      have hox := HOK.out xs (List.mem_of_getElem? hx)
      have HOX := Lib.hid hox
      have HX := Lib.hid hx
      have hlt3 : (k : Int) < (d.length : Int) := by omega
      clear hx hox
      obtain ⟨v, hv⟩ := bool_of (IsW rk xs)
      have HV := Lib.hid hv
      clear hv
      cases hvc : v with
      | false =>
        subst hvc
        go_wp2_with fail
        with_reducible refine (spec_IsWord rk A1 xs c1 _ _ (hrx.rs.drewN nd) HOX.out hlx false HV.out).mono ?_
        rintro e w' ⟨rfl, n2, rfl⟩
        go_wp2_with fail
        go_ret
        obtain rfl : r = false := bool_false HR.out (fun h => by have := HV.out.2 (h.2.2.2.1 xs (List.mem_of_getElem? HX.out)); cases this)
        exact ⟨rfl, _, by first | rfl | exact dn _ _ _⟩
      | true =>
        subst hvc
        have HV2 := Lib.hid (HV.out.1 rfl)
        clear HV
        go_wp2_with fail
        with_reducible refine (spec_IsWord rk A1 xs c1 _ _ (hrx.rs.drewN nd) HOX.out hlx true (iff_of_true rfl HV2.out)).mono ?_
        rintro e w' ⟨rfl, n2, rfl⟩
        go_wp2_with fail
        go_roundw
        case rel => exact ⟨k + 1, by omega, by go_num, HW.out.succ HX.out HV2.out, _, by first | rfl | exact dn _ _ _⟩
        case measure => simp [intOf]; omega
    · obtain rfl : k = d.length := by omega
      by_cases hb : inB rk 1 3 = false
      · obtain rfl : r = false := bool_false HR.out (fun h => by simp [inB] at hb; have := h.1; have := h.2.1; omega)
        have HB := Lib.hid hb
        clear hb
        go_wp2_with fail
        with_reducible refine (l1In_any _ _ _ _).mono ?_
        rintro e w' ⟨rfl, rfl⟩
        rw [HB.out]
        go_wp2_with fail
        go_ret
        exact ⟨rfl, _, rfl⟩
      · have hb' : inB rk 1 3 = true := by simpa using hb
        have HB := Lib.hid hb'
        have hrk : 1 ≤ rk ∧ rk ≤ 3 := by simpa [inB] using hb'
        clear hb hb'
        by_cases h6 : 6 < d.length
        · obtain rfl : r = false := bool_false HR.out (fun h => by have := h.2.2.1; omega)
          have h63 : ¬ (d.length : Int) ≤ 6 := by omega
          go_wp2_with fail
          with_reducible refine (l1In_any _ _ _ _).mono ?_
          rintro e w' ⟨rfl, rfl⟩
          rw [HB.out]
          go_wp2_with fail
          go_ret
          exact ⟨by first | rfl | (simp; omega), _, rfl⟩
        · have h63 : (d.length : Int) ≤ 6 := by omega
          by_cases h40 : sumL d < 40
          · obtain rfl : r = true := HR.out.2 ⟨hrk.1, hrk.2, by omega, wordsTo_all.1 HW.out, h40⟩
            have h403 : (sumL d : Int) < 40 := by omega
            go_wp2_with fail
            with_reducible refine (l1In_any _ _ _ _).mono ?_
            rintro e w' ⟨rfl, rfl⟩
            rw [HB.out]
            go_wp2_with fail
            with_reducible refine (spec_TotalLength A d c (w.drewN nd) _ _ (hr.mid ((Mid.refl 0 0 w).drewN nd) (Or.inl (Nat.zero_le _))) hl).mono ?_
            rintro e w' ⟨rfl, rfl⟩
            go_wp2_with fail
            go_ret
            exact ⟨by simp [h403], _, rfl⟩
          · obtain rfl : r = false := bool_false HR.out (fun h => h40 h.2.2.2.2)
            have h403 : ¬ (sumL d : Int) < 40 := by omega
            go_wp2_with fail
            with_reducible refine (l1In_any _ _ _ _).mono ?_
            rintro e w' ⟨rfl, rfl⟩
            rw [HB.out]
            go_wp2_with fail
            with_reducible refine (spec_TotalLength A d c (w.drewN nd) _ _ (hr.mid ((Mid.refl 0 0 w).drewN nd) (Or.inl (Nat.zero_le _))) hl).mono ?_
            rintro e w' ⟨rfl, rfl⟩
            go_wp2_with fail
            go_ret
            exact ⟨by simp; omega, _, rfl⟩
end Go.Proofs.Ytchgicdjdbjfgaa
