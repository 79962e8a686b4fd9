
/- IsMorphism, both sides, and in the laws' words. -/
import Derived.Test.YtchgicdjdbjfgaaL17
import Derived.Test.YtchgicdjdbjfgaaL18
import Derived.Test.YtchgicdjdbjfgaaK2
namespace Go.Proofs.Ytchgicdjdbjfgaa
set_option linter.unusedVariables false
set_option linter.unusedSimpArgs false
open Go.RowKit

def IsMor (rk : Int) (d : List (List Int)) : Prop := 1 ≤ rk ∧ rk ≤ 3 ∧ (d.length : Int) = rk ∧ ∀ xs ∈ d, IsW rk xs
/-- The first k rows are words. -/
def WordsTo (rk : Int) (d : List (List Int)) (k : Nat) : Prop := ∀ j xs, j < k → d[j]? = some xs → IsW rk xs
theorem WordsTo.zero (rk : Int) (d : List (List Int)) : WordsTo rk d 0 := fun j x h => absurd h (Nat.not_lt_zero j)
theorem WordsTo.succ {rk : Int} {d : List (List Int)} {k : Nat} {x : List Int} (h : WordsTo rk d k) (hx : d[k]? = some x) (hl : IsW rk x) : WordsTo rk d (k + 1) := by
  intro j z hj hz
  rcases Nat.lt_or_eq_of_le (Nat.le_of_lt_succ hj) with h1 | rfl
  · exact h j z h1 hz
  · rw [hx] at hz
    obtain rfl := Option.some.inj hz
    exact hl
theorem wordsTo_all {rk : Int} {d : List (List Int)} : WordsTo rk d d.length ↔ ∀ xs ∈ d, IsW rk xs := by
  constructor
  · intro h x hx
    obtain ⟨j, hj⟩ := List.mem_iff_getElem?.1 hx
    exact h j x (List.getElem?_eq_some_iff.1 hj).1 hj
  · exact fun h j x _ hx => h x (List.mem_of_getElem? hx)
theorem bool_of (p : Prop) : ∃ r : Bool, r = true ↔ p := by
  by_cases h : p
  · exact ⟨true, by simp [h]⟩
  · exact ⟨false, by simp [h]⟩
theorem row_le {d : List (List Int)} {xs : List Int} (h : xs ∈ d) (hl : d.length + sumL d ≤ 1048576) : xs.length ≤ 4194304 := by
  have := len_le_sumL h
  omega

set_option maxHeartbeats 3200000 in
theorem spec_IsMorphism (rk : Int) (A : Option Addr) (d : List (List Int)) (c : Nat) (w : World) (lo hi : Nat) (hr : RSS w lo hi A d) (hok : OkSS d) (hl : d.length + sumL d ≤ 1048576) (r : Bool) (hres : r = true ↔ IsMor rk d) :
    Calls Try.prog 70 #[.agg #[.int .i64 rk, .slice A d.length c]] w (Stp (.bool r) w) := by
  have HOK := Lib.hid hok
  have HR := Lib.hid hres
  clear hok hres
  have hb0 : Mid 0 0 w (w.alloc (.cells #[.int .i64 rk, .slice A d.length c] 37)) := Mid.alloc _ _
  have hbx := Box.new w #[.int .i64 rk, .slice A d.length c] 37
  have hrb := hr.mid hb0 (Or.inl (Nat.zero_le _))
  go_enter Try.func70, Try.ntmps70
  go_wp2_with fail
  obtain ⟨wb, hwb⟩ : ∃ wb, wb = w.alloc (.cells #[.int .i64 rk, .slice A d.length c] 37) := ⟨_, rfl⟩
  rw [← hwb] at hb0 hbx hrb ⊢
  clear hwb hr
  have k0 := hbx.cell 0 rfl
  have k1 := hbx.cell 1 rfl
  go_loopw [3] (fun i wr => ∃ k : Nat, k ≤ d.length ∧ i = .int .i64 k ∧ (∃ n, wr = wb.drewN n) ∧ WordsTo rk d k) (fun i _ => d.length - (intOf i).toNat)
  case atStart => exact ⟨0, Nat.zero_le _, rfl, ⟨0, rfl⟩, WordsTo.zero _ _⟩
  case round =>
    obtain ⟨k, hk, rfl, ⟨nd, rfl⟩, hto⟩ := hrel
    have HT := Lib.hid hto
    clear hto
    by_cases hlt : k < d.length
    · obtain ⟨b, off, A', c', xs, rfl, -, -, hx, hc, hrx⟩ := hrb.row hlt
      have hm := List.mem_of_getElem? hx
      have hlx := row_le hm hl
      have hox := HOK.out.2 xs hm
      have HX := Lib.hid hx
      have HM := Lib.hid hm
      clear hx hm
      obtain ⟨v, hv⟩ := bool_of (IsW rk xs)
      have hC := fun n : Nat => spec_IsWord rk A' xs c' (wb.drewN n) _ (hrx.rs.drewN n) hox hlx v hv
      have HV := Lib.hid hv
      have HC := Lib.hid hC
      have HO := Lib.hid hox
      clear hC hv hox hrx
      have hlt3 : (k : Int) < (d.length : Int) := by omega
      cases v with
      | false =>
        have hf : r = false := by
          cases r with
          | false => rfl
          | true =>
            have := HV.out.2 ((HR.out.1 rfl).2.2.2 xs HM.out)
            cases this
        subst hf
        go_wp2_with fail
        go_quiet ((go_at_call 123; first | exact qz0 (HC.out _) | exact qz1 (HC.out _)))
        go_wp2_with fail
        go_ret
        exact ⟨rfl, (hb0.drewN nd).drewN _⟩
      | true =>
        have hw := HV.out.1 rfl
        have HW := Lib.hid hw
        clear hw HV
        go_wp2_with fail
        go_quiet ((go_at_call 123; first | exact qz0 (HC.out _) | exact qz1 (HC.out _)))
        go_wp2_with fail
        go_roundw
        case rel => exact ⟨k + 1, by omega, by go_num, ⟨_, by first | rfl | exact dn _ _ _⟩, HT.out.succ HX.out HW.out⟩
        case measure => simp [intOf]; omega
    · obtain rfl : k = d.length := by omega
      have hrv : r = (inB rk 1 3 && ((d.length : Int) == rk)) := by
        rw [Bool.eq_iff_iff, HR.out]
        simp only [Bool.and_eq_true, beq_iff_eq, inB, decide_eq_true_eq]
        exact ⟨fun h => ⟨⟨h.1, h.2.1⟩, h.2.2.1⟩, fun h => ⟨h.1.1, h.1.2, h.2, wordsTo_all.1 HT.out⟩⟩
      by_cases hib : inB rk 1 3 = false
      · rw [hib] at hrv
        have HI := Lib.hid hib
        clear hib
        simp only [Bool.false_and] at hrv
        subst hrv
        go_wp2_with fail
        refine (l1In_any _ _ _ _).mono ?_
        rintro e w' ⟨rfl, rfl⟩
        rw [HI.out]
        go_wp2_with fail
        go_ret
        exact ⟨rfl, hb0.drewN _⟩
      · have hib' : inB rk 1 3 = true := by simpa using hib
        rw [hib'] at hrv
        have HI := Lib.hid hib'
        simp only [Bool.true_and] at hrv
        clear hib hib'
        cases r with
        | true =>
          have hq : ((d.length : Int) == rk) = true := hrv.symm
          clear hrv
          go_wp2_with fail
          refine (l1In_any _ _ _ _).mono ?_
          rintro e w' ⟨rfl, rfl⟩
          rw [HI.out]
          go_wp2_with fail
          go_ret
          exact ⟨rfl, hb0.drewN _⟩
        | false =>
          have hq : ((d.length : Int) == rk) = false := hrv.symm
          clear hrv
          go_wp2_with fail
          refine (l1In_any _ _ _ _).mono ?_
          rintro e w' ⟨rfl, rfl⟩
          rw [HI.out]
          go_wp2_with fail
          go_ret
          exact ⟨rfl, hb0.drewN _⟩

set_option maxHeartbeats 3200000 in
theorem impl_IsMorphism (rk : Int) (A : Option Addr) (d : List (List Int)) (c : Nat) (w : World) (lo hi : Nat) (hr : RSS w lo hi A d) (hok : OkSS d) (hl : d.length + sumL d ≤ 1048576) (r : Bool) (hres : r = true ↔ IsMor rk d) :
    Calls Try.prog 75 #[.agg #[.int .i64 rk, .slice A d.length c]] w (Stp (.bool r) w) := by
  have HOK := Lib.hid hok
  have HR := Lib.hid hres
  clear hok hres
  have hb0 : Mid 0 0 w (w.alloc (.cells #[.int .i64 rk, .slice A d.length c] 37)) := Mid.alloc _ _
  have hbx := Box.new w #[.int .i64 rk, .slice A d.length c] 37
  have hrb := hr.mid hb0 (Or.inl (Nat.zero_le _))
  clear hr
  by_cases hib : inB rk 1 3 = false
  · have hf : r = false := by
      cases r with
      | false => rfl
      | true =>
        have h := HR.out.1 rfl
        simp [inB] at hib
        have := h.1
        have := h.2.1
        omega
    subst hf
    have HI := Lib.hid hib
    clear hib
    go_enter Try.func75, Try.ntmps75
    go_wp2_with fail
    refine (within_any _ _ _ _).mono ?_
    rintro e w' ⟨rfl, rfl⟩
    rw [HI.out]
    go_wp2_with fail
    go_ret
    exact ⟨rfl, hb0⟩
  · have hib' : inB rk 1 3 = true := by simpa using hib
    have HI := Lib.hid hib'
    clear hib hib'
    by_cases hq : ((d.length : Int) != rk) = true
    · have hf : r = false := by
        cases r with
        | false => rfl
        | true =>
          have h := HR.out.1 rfl
          simp at hq
          exact absurd h.2.2.1 hq
      subst hf
      go_enter Try.func75, Try.ntmps75
      go_wp2_with fail
      refine (within_any _ _ _ _).mono ?_
      rintro e w' ⟨rfl, rfl⟩
      rw [HI.out]
      go_wp2_with fail
      go_ret
      exact ⟨rfl, hb0⟩
    · have hq' : ((d.length : Int) != rk) = false := by simpa using hq
      have hrv : r = true ↔ WordsTo rk d d.length := HR.out.trans ⟨fun h => wordsTo_all.2 h.2.2.2, fun h => by
        have h13 : 1 ≤ rk ∧ rk ≤ 3 := by simpa [inB] using HI.out
        exact ⟨h13.1, h13.2, by simpa using hq', wordsTo_all.1 h⟩⟩
      have HR2 := Lib.hid hrv
      clear hrv HR hq
      go_enter Try.func75, Try.ntmps75
      go_wp2_with fail
      refine (within_any _ _ _ _).mono ?_
      rintro e w' ⟨rfl, rfl⟩
      rw [HI.out]
      go_wp2_with fail
      obtain ⟨wb, hwb⟩ : ∃ wb, wb = w.alloc (.cells #[.int .i64 rk, .slice A d.length c] 37) := ⟨_, rfl⟩
      rw [← hwb] at hb0 hbx hrb ⊢
      clear hwb
      have k0 := hbx.cell 0 rfl
      have k1 := hbx.cell 1 rfl
      go_loop [4, 20] (fun _ i => ∃ k : Nat, k ≤ d.length ∧ i = .int .i64 k ∧ WordsTo rk d k) (fun _ i => d.length - (intOf i).toNat)
      case atStart => exact ⟨0, Nat.zero_le _, rfl, WordsTo.zero _ _⟩
      case round =>
        obtain ⟨k, hk, rfl, hto⟩ := hrel
        have HT := Lib.hid hto
        clear hto
        by_cases hlt : k < d.length
        · obtain ⟨b, off, A', c', xs, rfl, -, -, hx, hc, hrx⟩ := hrb.row hlt
          have hm := List.mem_of_getElem? hx
          have hlx := row_le hm hl
          have hox := HOK.out.2 xs hm
          have HX := Lib.hid hx
          have HM := Lib.hid hm
          clear hx hm
          obtain ⟨v, hv⟩ := bool_of (IsW rk xs)
          have HV := Lib.hid hv
          have HO := Lib.hid hox
          clear hv hox
          cases v with
          | false =>
            have hf : r = false := by
              cases r with
              | false => rfl
              | true =>
                have := HV.out.2 (HR2.out.1 rfl k xs hlt HX.out)
                cases this
            subst hf
            go_wp2_with fail
            refine (impl_IsWord rk A' xs c' _ _ hrx.rs HO.out hlx _ HV.out).mono ?_
            rintro e w' ⟨rfl, rfl⟩
            go_wp2_with fail
            go_ret
            exact ⟨rfl, hb0⟩
          | true =>
            have hw := HV.out.1 rfl
            have HW := Lib.hid hw
            clear hw HV
            go_wp2_with fail
            refine (impl_IsWord rk A' xs c' _ _ hrx.rs HO.out hlx true (iff_of_true rfl HW.out)).mono ?_
            rintro e w' ⟨rfl, rfl⟩
            go_wp2_with fail
            go_round
            case rel => exact ⟨k + 1, by omega, by go_num, HT.out.succ HX.out HW.out⟩
            case measure => simp [intOf]; omega
        · obtain rfl : k = d.length := by omega
          obtain rfl : r = true := HR2.out.2 HT.out
          go_wp2_with fail
          go_ret
          exact ⟨rfl, hb0⟩

def IsMorphismIs (r : Int) (d : List (List Int)) (res : Bool) : Prop := res = true ↔ IsMor r d
theorem IsMorphismIs_ex (r : Int) (d : List (List Int)) (_ : (Lit.int .i64 r).wf = true) (_ : OkSS d) (_ : d.length + sumL d ≤ 1048576) : ∃ res, IsMorphismIs r d res := bool_of _
theorem sspec_IsMorphism (r : Int) (A : Option Addr) (d : List (List Int)) (c : Nat) (w : World) (lo hi : Nat) (h : RSS w lo hi A d) (_b : (Lit.int .i64 r).wf = true) (_o : OkSS d) (hl : d.length + sumL d ≤ 1048576) (res : Bool) (hres : IsMorphismIs r d res) :
    Calls Try.prog 70 #[.agg #[.int .i64 r, .slice A d.length c]] w (Stp (.bool res) w) := spec_IsMorphism r A d c w lo hi h _o hl res hres
theorem simpl_IsMorphism (r : Int) (A : Option Addr) (d : List (List Int)) (c : Nat) (w : World) (lo hi : Nat) (h : RSS w lo hi A d) (_b : (Lit.int .i64 r).wf = true) (_o : OkSS d) (hl : d.length + sumL d ≤ 1048576) (res : Bool) (hres : IsMorphismIs r d res) :
    Calls Try.prog 75 #[.agg #[.int .i64 r, .slice A d.length c]] w (Stp (.bool res) w) := impl_IsMorphism r A d c w lo hi h _o hl res hres
end Go.Proofs.Ytchgicdjdbjfgaa
