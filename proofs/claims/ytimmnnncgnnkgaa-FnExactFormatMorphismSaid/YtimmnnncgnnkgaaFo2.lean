/- Contracts and lemmas of this seat, many texts in one: see the words ahead of each. No condition beyond those typed in each lemma. -/
import Derived.Test.YtimmnnncgnnkgaaFo1

/- IsWord, both sides. -/
namespace Go.Proofs.Ytimmnnncgnnkgaa
set_option linter.unusedVariables false
set_option linter.unusedSimpArgs false
open Go.RowKit

set_option maxHeartbeats 1600000 in
theorem impl_IsWord (rank : Int) (A : Option Addr) (xs : List Int) (c : Nat) (w : World) (B : Nat) (hr : Rs w B A (ints xs)) (hok : OkI xs) (hl : xs.length ≤ 4194304) (r : Bool) (hres : r = true ↔ IsW rank xs) :
    Calls Try.prog 99 #[.int .i64 rank, .slice A xs.length c] w fun e w' => e = .returned (.bool r) ∧ w = w' := by
  have HOK := Lib.hid hok
  have HR := Lib.hid hres
  clear hok hres
  by_cases hb : inB rank 1 3 = false
  · have hf : r = false := by
      cases r with
      | false => rfl
      | true =>
        have h := HR.out.1 rfl
        simp [inB] at hb
        have := h.1
        have := h.2.1
        omega
    subst hf
    have HB := Lib.hid hb
    clear hb
    go_enter Try.func99, Try.ntmps99
    go_wp2_with fail
    refine (within_any _ _ _ _).mono ?_
    rintro e w' ⟨rfl, rfl⟩
    rw [HB.out]
    go_wp2_with fail
    go_ret
    exact ⟨rfl, rfl⟩
  · have hb' : inB rank 1 3 = true := by simpa using hb
    have h13 : 1 ≤ rank ∧ rank ≤ 3 := by simpa [inB] using hb'
    have HB := Lib.hid hb'
    clear hb hb'
    obtain ⟨h1, h3⟩ := h13
    by_cases h24 : 24 < xs.length
    · have hf : r = false := by
        cases r with
        | false => rfl
        | true =>
          have := (HR.out.1 rfl).2.2.1
          omega
      subst hf
      go_enter Try.func99, Try.ntmps99
      go_wp2_with fail
      refine (within_any _ _ _ _).mono ?_
      rintro e w' ⟨rfl, rfl⟩
      rw [HB.out]
      go_wp2_with fail
      go_ret
      exact ⟨rfl, rfl⟩
    · have hR2 : r = true ↔ WordTo rank xs xs.length := HR.out.trans ⟨fun h => (wordTo_all h1 h3).2 h.2.2.2, fun h => ⟨h1, h3, by omega, (wordTo_all h1 h3).1 h⟩⟩
      have HR2 := Lib.hid hR2
      clear hR2 HR
      go_enter Try.func99, Try.ntmps99
      go_wp2_with fail
      refine (within_any _ _ _ _).mono ?_
      rintro e w' ⟨rfl, rfl⟩
      rw [HB.out]
      go_wp2_with fail
      go_loop [5, 6, 17] (fun _ _ i => ∃ k : Nat, k ≤ xs.length ∧ i = .int .i64 k ∧ WordTo rank xs k) (fun _ _ i => xs.length - (intOf i).toNat)
      case atStart => exact ⟨0, Nat.zero_le _, rfl, WordTo.zero _ _⟩
      case round =>
        obtain ⟨k, hk, rfl, hto⟩ := hrel
        have HT := Lib.hid hto
        clear hto
        by_cases hlt : k < xs.length
        · obtain ⟨b, off, x, rfl, -, hx, hc⟩ := hr.int hlt
          have HX := Lib.hid hx
          clear hx
          by_cases hL : letB rank x = false
          · have hf : r = false := by
              cases r with
              | false => rfl
              | true =>
                have := (HR2.out.1 rfl k x hlt HX.out).1
                rw [hL] at this
                cases this
            subst hf
            have HL := Lib.hid hL
            clear hL
            go_wp2_with fail
            refine (impl_isLetter _ _ _ h1 h3).mono ?_
            rintro e w' ⟨rfl, rfl⟩
            rw [HL.out]
            go_wp2_with fail
            go_ret
            exact ⟨rfl, rfl⟩
          · have hL' : letB rank x = true := by simpa using hL
            have HL := Lib.hid hL'
            clear hL hL'
            cases k with
            | zero =>
              have hc0 : w.cell? ⟨b, off, none⟩ = some (.int .i64 x) := hc
              go_wp2_with fail
              refine (impl_isLetter _ _ _ h1 h3).mono ?_
              rintro e w' ⟨rfl, rfl⟩
              rw [HL.out]
              go_wp2_with fail
              go_round
              case rel => exact ⟨1, by omega, by go_num, HT.out.succ HX.out HL.out (fun y h => absurd h (Nat.lt_irrefl 0))⟩
              case measure => simp [intOf]; omega
            | succ m =>
              obtain ⟨b', off', y, he, -, hy, hcy⟩ := hr.int (show m < xs.length by omega)
              injection he with he
              injection he with he1 he2 _
              subst he1 he2
              have hby := HOK.out y (List.mem_of_getElem? hy)
              have HY := Lib.hid hy
              have hyl : -9223372036854775808 ≤ y ∧ y ≤ 9223372036854775807 := hby
              obtain ⟨hy1, hy2⟩ := hyl
              clear hy hby
              by_cases hI : invB y x = true
              · have hf : r = false := by
                  cases r with
                  | false => rfl
                  | true =>
                    have := (HR2.out.1 rfl (m + 1) x hlt HX.out).2 y (Nat.succ_pos m) HY.out
                    rw [hI] at this
                    cases this
                subst hf
                have HI := Lib.hid hI
                clear hI
                go_wp2_with fail
                refine (impl_isLetter _ _ _ h1 h3).mono ?_
                rintro e w' ⟨rfl, rfl⟩
                rw [HL.out]
                go_wp2_with fail
                refine (impl_areInverse _ _ _ hy1 hy2).mono ?_
                rintro e w' ⟨rfl, rfl⟩
                rw [HI.out]
                go_wp2_with fail
                go_ret
                exact ⟨rfl, rfl⟩
              · have hI' : invB y x = false := by simpa using hI
                have HI := Lib.hid hI'
                clear hI hI'
                go_wp2_with fail
                refine (impl_isLetter _ _ _ h1 h3).mono ?_
                rintro e w' ⟨rfl, rfl⟩
                rw [HL.out]
                go_wp2_with fail
                refine (impl_areInverse _ _ _ hy1 hy2).mono ?_
                rintro e w' ⟨rfl, rfl⟩
                rw [HI.out]
                go_wp2_with fail
                go_round
                case rel =>
                  refine ⟨m + 1 + 1, by omega, by go_num, HT.out.succ HX.out HL.out (fun z _ hz => ?_)⟩
                  rw [Nat.add_sub_cancel, HY.out] at hz
                  obtain rfl := Option.some.inj hz
                  exact HI.out
                case measure => simp [intOf]; omega
        · obtain rfl : k = xs.length := by omega
          obtain rfl : r = true := HR2.out.2 HT.out
          go_wp2_with fail
          go_ret
          exact ⟨rfl, rfl⟩
end Go.Proofs.Ytimmnnncgnnkgaa

/- IsWord of the reference. -/
namespace Go.Proofs.Ytimmnnncgnnkgaa
set_option linter.unusedVariables false
set_option linter.unusedSimpArgs false
open Go.RowKit

set_option maxHeartbeats 3200000 in
theorem spec_IsWord (rank : Int) (A : Option Addr) (xs : List Int) (c : Nat) (w : World) (B : Nat) (hr : Rs w B A (ints xs)) (hok : OkI xs) (hl : xs.length ≤ 4194304) (r : Bool) (hres : r = true ↔ IsW rank xs) :
    Calls Try.prog 96 #[.int .i64 rank, .slice A xs.length c] w fun e w' => e = .returned (.bool r) ∧ ∃ n, w' = w.drewN n := by
  have HOK := Lib.hid hok
  have hR2 : r = true ↔ (RawTo rank xs xs.length ∧ inB rank 1 3 = true ∧ xs.length ≤ 24) := hres.trans ⟨fun h => ⟨(rawTo_all h.1 h.2.1).2 h.2.2.2, by simp [inB]; exact ⟨h.1, h.2.1⟩, h.2.2.1⟩, fun h => by
    have h13 : 1 ≤ rank ∧ rank ≤ 3 := by simpa [inB] using h.2.1
    exact ⟨h13.1, h13.2, h.2.2, (rawTo_all h13.1 h13.2).1 h.1⟩⟩
  have HR := Lib.hid hR2
  clear hok hres hR2
  obtain ⟨nr, hnr⟩ : ∃ nr, wrap64 (-rank) = nr := ⟨_, rfl⟩
  go_enter Try.func96, Try.ntmps96
  go_wp2_with fail
  go_loopw [5] (fun i wr => ∃ k : Nat, k ≤ xs.length ∧ i = .int .i64 k ∧ (∃ n, wr = w.drewN n) ∧ RawTo rank xs k) (fun i _ => xs.length - (intOf i).toNat)
  case atStart => exact ⟨0, Nat.zero_le _, rfl, ⟨0, rfl⟩, RawTo.zero _ _⟩
  case round =>
    obtain ⟨k, hk, rfl, ⟨nd, rfl⟩, hto⟩ := hrel
    have HT := Lib.hid hto
    clear hto
    by_cases hlt : k < xs.length
    · obtain ⟨b, off, x, rfl, -, hx, hc⟩ := hr.int hlt
      have HX := Lib.hid hx
      clear hx
      have hlt3 : (k : Int) < (xs.length : Int) := by omega
      have hno : ∀ (P : Prop), (RawAt rank xs k x → P) → r = true → P := fun P h hr1 => h ((HR.out.1 hr1).1 k x hlt HX.out)
      have HNO := Lib.hid hno
      clear hno
      by_cases hx0 : (x == 0) = true
      · have hf : r = false := by
          cases r with
          | false => rfl
          | true =>
            refine (HNO.out False (fun h => ?_) rfl).elim
            rw [h.1] at hx0
            cases hx0
        subst hf
        go_wp2_with fail
        go_quiet (fail)
        go_wp2_with fail
        go_ret
        exact ⟨rfl, _, by first | rfl | exact dn _ _ _⟩
      · have hx0' : (x == 0) = false := by simpa using hx0
        clear hx0
        have hC := fun n : Nat => pq (l1In_any x nr rank (w.drewN n))
        by_cases hi : inB x nr rank = false
        · have hf : r = false := by
            cases r with
            | false => rfl
            | true =>
              refine (HNO.out False (fun h => ?_) rfl).elim
              have h2 := h.2.1
              rw [hnr, hi] at h2
              cases h2
          subst hf
          rw [hi] at hC
          have HC := Lib.hid hC
          clear hC hi
          go_wp2_with fail
          go_quiet ((go_at_call 41; first | exact qz0 (HC.out _) | exact qz1 (HC.out _)))
          go_wp2_with fail
          go_ret
          exact ⟨rfl, _, by first | rfl | exact dn _ _ _⟩
        · have hi' : inB x nr rank = true := by simpa using hi
          rw [hi'] at hC
          have HC := Lib.hid hC
          have HI := Lib.hid hi'
          clear hC hi hi'
          cases k with
          | zero =>
            have hc0 : w.cell? ⟨b, off, none⟩ = some (.int .i64 x) := hc
            go_wp2_with fail
            go_quiet ((go_at_call 41; first | exact qz0 (HC.out _) | exact qz1 (HC.out _)))
            go_wp2_with fail
            go_roundw
            case rel => exact ⟨1, by omega, by go_num, ⟨_, by first | rfl | exact dn _ _ _⟩, HT.out.succ HX.out ⟨hx0', by rw [hnr]; exact HI.out, fun y h => absurd h (Nat.lt_irrefl 0)⟩⟩
            case measure => simp [intOf]; omega
          | succ m =>
            obtain ⟨b', off', y, he, -, hy, hcy⟩ := hr.int (show m < xs.length by omega)
            injection he with he
            injection he with he1 he2 _
            subst he1 he2
            have HY := Lib.hid hy
            clear hy
            have hlm3 : (m : Int) < (xs.length : Int) := by omega
            have hm0 : (0 : Int) < (m : Int) + 1 := by omega
            have hp1 : (m : Int) + 1 - 1 = (m : Int) := by omega
            obtain ⟨ny, hny⟩ : ∃ ny, wrap64 (-y) = ny := ⟨_, rfl⟩
            by_cases hxy : (x == ny) = true
            · have hf : r = false := by
                cases r with
                | false => rfl
                | true =>
                  refine (HNO.out False (fun h => ?_) rfl).elim
                  have h2 := h.2.2 y (Nat.succ_pos m) HY.out
                  rw [hny, hxy] at h2
                  cases h2
              subst hf
              go_wp2_with fail
              go_quiet ((go_at_call 41; first | exact qz0 (HC.out _) | exact qz1 (HC.out _)))
              go_wp2_with fail
              go_ret
              exact ⟨rfl, _, by first | rfl | exact dn _ _ _⟩
            · have hxy' : (x == ny) = false := by simpa using hxy
              clear hxy
              go_wp2_with fail
              go_quiet ((go_at_call 41; first | exact qz0 (HC.out _) | exact qz1 (HC.out _)))
              go_wp2_with fail
              go_roundw
              case rel =>
                refine ⟨m + 1 + 1, by omega, by go_num, ⟨_, by first | rfl | exact dn _ _ _⟩, HT.out.succ HX.out ⟨hx0', by rw [hnr]; exact HI.out, fun z _ hz => ?_⟩⟩
                rw [Nat.add_sub_cancel, HY.out] at hz
                obtain rfl := Option.some.inj hz
                rw [hny]
                exact hxy'
              case measure => simp [intOf]; omega
    · obtain rfl : k = xs.length := by omega
      have hrv : r = (inB rank 1 3 && decide ((xs.length : Int) ≤ 24)) := by
        rw [Bool.eq_iff_iff, HR.out]
        simp only [Bool.and_eq_true, decide_eq_true_eq]
        exact ⟨fun h => ⟨h.2.1, by omega⟩, fun h => ⟨HT.out, h.1, by omega⟩⟩
      by_cases hib : inB rank 1 3 = false
      · rw [hib] at hrv
        have HI := Lib.hid hib
        clear hib
        simp only [Bool.false_and] at hrv
        subst hrv
        go_wp2_with fail
        refine (l1In_any _ _ _ _).mono ?_
        rintro e w' ⟨rfl, rfl⟩
        rw [HI.out]
        go_wp2_with fail
        go_ret
        exact ⟨rfl, _, rfl⟩
      · have hib' : inB rank 1 3 = true := by simpa using hib
        rw [hib'] at hrv
        have HI := Lib.hid hib'
        simp only [Bool.true_and] at hrv
        clear hib hib'
        subst hrv
        go_wp2_with fail
        refine (l1In_any _ _ _ _).mono ?_
        rintro e w' ⟨rfl, rfl⟩
        rw [HI.out]
        go_wp2_with fail
        go_ret
        exact ⟨rfl, _, rfl⟩
end Go.Proofs.Ytimmnnncgnnkgaa

/- IsMorphism, both sides, and in the laws' words. -/
namespace Go.Proofs.Ytimmnnncgnnkgaa
set_option linter.unusedVariables false
set_option linter.unusedSimpArgs false
open Go.RowKit

def IsMor (rk : Int) (d : List (List Int)) : Prop := 1 ≤ rk ∧ rk ≤ 3 ∧ (d.length : Int) = rk ∧ ∀ xs ∈ d, IsW rk xs
/-- The first k rows are words. -/
def WordsTo (rk : Int) (d : List (List Int)) (k : Nat) : Prop := ∀ j xs, j < k → d[j]? = some xs → IsW rk xs
theorem WordsTo.zero (rk : Int) (d : List (List Int)) : WordsTo rk d 0 := fun j x h => absurd h (Nat.not_lt_zero j)
theorem WordsTo.succ {rk : Int} {d : List (List Int)} {k : Nat} {x : List Int} (h : WordsTo rk d k) (hx : d[k]? = some x) (hl : IsW rk x) : WordsTo rk d (k + 1) := by
  intro j z hj hz
  rcases Nat.lt_or_eq_of_le (Nat.le_of_lt_succ hj) with h1 | rfl
  · exact h j z h1 hz
  · rw [hx] at hz
    obtain rfl := Option.some.inj hz
    exact hl
theorem wordsTo_all {rk : Int} {d : List (List Int)} : WordsTo rk d d.length ↔ ∀ xs ∈ d, IsW rk xs := by
  constructor
  · intro h x hx
    obtain ⟨j, hj⟩ := List.mem_iff_getElem?.1 hx
    exact h j x (List.getElem?_eq_some_iff.1 hj).1 hj
  · exact fun h j x _ hx => h x (List.mem_of_getElem? hx)
theorem bool_ofR (p : Prop) : ∃ r : Bool, r = true ↔ p := by
  by_cases h : p
  · exact ⟨true, by simp [h]⟩
  · exact ⟨false, by simp [h]⟩
theorem row_le {d : List (List Int)} {xs : List Int} (h : xs ∈ d) (hl : d.length + sumL d ≤ 1048576) : xs.length ≤ 4194304 := by
  have := len_le_sumL h
  omega

set_option maxHeartbeats 3200000 in
theorem spec_IsMorphism (rk : Int) (A : Option Addr) (d : List (List Int)) (c : Nat) (w : World) (lo hi : Nat) (hr : RSS w lo hi A d) (hok : OkSS d) (hl : d.length + sumL d ≤ 1048576) (r : Bool) (hres : r = true ↔ IsMor rk d) :
    Calls Try.prog 65 #[.agg #[.int .i64 rk, .slice A d.length c]] w (Stp (.bool r) w) := by
  have HOK := Lib.hid hok
  have HR := Lib.hid hres
  clear hok hres
  have hb0 : Mid 0 0 w (w.alloc (.cells #[.int .i64 rk, .slice A d.length c] 53)) := Mid.alloc _ _
  have hbx := Box.new w #[.int .i64 rk, .slice A d.length c] 53
  have hrb := hr.mid hb0 (Or.inl (Nat.zero_le _))
  go_enter Try.func65, Try.ntmps65
  go_wp2_with fail
  obtain ⟨wb, hwb⟩ : ∃ wb, wb = w.alloc (.cells #[.int .i64 rk, .slice A d.length c] 53) := ⟨_, rfl⟩
  rw [← hwb] at hb0 hbx hrb ⊢
  clear hwb hr
  have k0 := hbx.cell 0 rfl
  have k1 := hbx.cell 1 rfl
  go_loopw [3] (fun i wr => ∃ k : Nat, k ≤ d.length ∧ i = .int .i64 k ∧ (∃ n, wr = wb.drewN n) ∧ WordsTo rk d k) (fun i _ => d.length - (intOf i).toNat)
  case atStart => exact ⟨0, Nat.zero_le _, rfl, ⟨0, rfl⟩, WordsTo.zero _ _⟩
  case round =>
    obtain ⟨k, hk, rfl, ⟨nd, rfl⟩, hto⟩ := hrel
    have HT := Lib.hid hto
    clear hto
    by_cases hlt : k < d.length
    · obtain ⟨b, off, A', c', xs, rfl, -, -, hx, hc, hrx⟩ := hrb.row hlt
      have hm := List.mem_of_getElem? hx
      have hlx := row_le hm hl
      have hox := HOK.out.2 xs hm
      have HX := Lib.hid hx
      have HM := Lib.hid hm
      clear hx hm
      obtain ⟨v, hv⟩ := bool_ofR (IsW rk xs)
      have hC := fun n : Nat => spec_IsWord rk A' xs c' (wb.drewN n) _ (hrx.rs.drewN n) hox hlx v hv
      have HV := Lib.hid hv
      have HC := Lib.hid hC
      have HO := Lib.hid hox
      clear hC hv hox hrx
      have hlt3 : (k : Int) < (d.length : Int) := by omega
      cases v with
      | false =>
        have hf : r = false := by
          cases r with
          | false => rfl
          | true =>
            have := HV.out.2 ((HR.out.1 rfl).2.2.2 xs HM.out)
            cases this
        subst hf
        go_wp2_with fail
        go_quiet ((go_at_call 96; first | exact qz0 (HC.out _) | exact qz1 (HC.out _)))
        go_wp2_with fail
        go_ret
        exact ⟨rfl, (hb0.drewN nd).drewN _⟩
      | true =>
        have hw := HV.out.1 rfl
        have HW := Lib.hid hw
        clear hw HV
        go_wp2_with fail
        go_quiet ((go_at_call 96; first | exact qz0 (HC.out _) | exact qz1 (HC.out _)))
        go_wp2_with fail
        go_roundw
        case rel => exact ⟨k + 1, by omega, by go_num, ⟨_, by first | rfl | exact dn _ _ _⟩, HT.out.succ HX.out HW.out⟩
        case measure => simp [intOf]; omega
    · obtain rfl : k = d.length := by omega
      have hrv : r = (inB rk 1 3 && ((d.length : Int) == rk)) := by
        rw [Bool.eq_iff_iff, HR.out]
        simp only [Bool.and_eq_true, beq_iff_eq, inB, decide_eq_true_eq]
        exact ⟨fun h => ⟨⟨h.1, h.2.1⟩, h.2.2.1⟩, fun h => ⟨h.1.1, h.1.2, h.2, wordsTo_all.1 HT.out⟩⟩
      by_cases hib : inB rk 1 3 = false
      · rw [hib] at hrv
        have HI := Lib.hid hib
        clear hib
        simp only [Bool.false_and] at hrv
        subst hrv
        go_wp2_with fail
        refine (l1In_any _ _ _ _).mono ?_
        rintro e w' ⟨rfl, rfl⟩
        rw [HI.out]
        go_wp2_with fail
        go_ret
        exact ⟨rfl, hb0.drewN _⟩
      · have hib' : inB rk 1 3 = true := by simpa using hib
        rw [hib'] at hrv
        have HI := Lib.hid hib'
        simp only [Bool.true_and] at hrv
        clear hib hib'
        cases r with
        | true =>
          have hq : ((d.length : Int) == rk) = true := hrv.symm
          clear hrv
          go_wp2_with fail
          refine (l1In_any _ _ _ _).mono ?_
          rintro e w' ⟨rfl, rfl⟩
          rw [HI.out]
          go_wp2_with fail
          go_ret
          exact ⟨rfl, hb0.drewN _⟩
        | false =>
          have hq : ((d.length : Int) == rk) = false := hrv.symm
          clear hrv
          go_wp2_with fail
          refine (l1In_any _ _ _ _).mono ?_
          rintro e w' ⟨rfl, rfl⟩
          rw [HI.out]
          go_wp2_with fail
          go_ret
          exact ⟨rfl, hb0.drewN _⟩

set_option maxHeartbeats 3200000 in
theorem impl_IsMorphism (rk : Int) (A : Option Addr) (d : List (List Int)) (c : Nat) (w : World) (lo hi : Nat) (hr : RSS w lo hi A d) (hok : OkSS d) (hl : d.length + sumL d ≤ 1048576) (r : Bool) (hres : r = true ↔ IsMor rk d) :
    Calls Try.prog 69 #[.agg #[.int .i64 rk, .slice A d.length c]] w (Stp (.bool r) w) := by
  have HOK := Lib.hid hok
  have HR := Lib.hid hres
  clear hok hres
  have hb0 : Mid 0 0 w (w.alloc (.cells #[.int .i64 rk, .slice A d.length c] 53)) := Mid.alloc _ _
  have hbx := Box.new w #[.int .i64 rk, .slice A d.length c] 53
  have hrb := hr.mid hb0 (Or.inl (Nat.zero_le _))
  clear hr
  by_cases hib : inB rk 1 3 = false
  · have hf : r = false := by
      cases r with
      | false => rfl
      | true =>
        have h := HR.out.1 rfl
        simp [inB] at hib
        have := h.1
        have := h.2.1
        omega
    subst hf
    have HI := Lib.hid hib
    clear hib
    go_enter Try.func69, Try.ntmps69
    go_wp2_with fail
    refine (within_any _ _ _ _).mono ?_
    rintro e w' ⟨rfl, rfl⟩
    rw [HI.out]
    go_wp2_with fail
    go_ret
    exact ⟨rfl, hb0⟩
  · have hib' : inB rk 1 3 = true := by simpa using hib
    have HI := Lib.hid hib'
    clear hib hib'
    by_cases hq : ((d.length : Int) != rk) = true
    · have hf : r = false := by
        cases r with
        | false => rfl
        | true =>
          have h := HR.out.1 rfl
          simp at hq
          exact absurd h.2.2.1 hq
      subst hf
      go_enter Try.func69, Try.ntmps69
      go_wp2_with fail
      refine (within_any _ _ _ _).mono ?_
      rintro e w' ⟨rfl, rfl⟩
      rw [HI.out]
      go_wp2_with fail
      go_ret
      exact ⟨rfl, hb0⟩
    · have hq' : ((d.length : Int) != rk) = false := by simpa using hq
      have hrv : r = true ↔ WordsTo rk d d.length := HR.out.trans ⟨fun h => wordsTo_all.2 h.2.2.2, fun h => by
        have h13 : 1 ≤ rk ∧ rk ≤ 3 := by simpa [inB] using HI.out
        exact ⟨h13.1, h13.2, by simpa using hq', wordsTo_all.1 h⟩⟩
      have HR2 := Lib.hid hrv
      clear hrv HR hq
      go_enter Try.func69, Try.ntmps69
      go_wp2_with fail
      refine (within_any _ _ _ _).mono ?_
      rintro e w' ⟨rfl, rfl⟩
      rw [HI.out]
      go_wp2_with fail
      obtain ⟨wb, hwb⟩ : ∃ wb, wb = w.alloc (.cells #[.int .i64 rk, .slice A d.length c] 53) := ⟨_, rfl⟩
      rw [← hwb] at hb0 hbx hrb ⊢
      clear hwb
      have k0 := hbx.cell 0 rfl
      have k1 := hbx.cell 1 rfl
      go_loop [4, 20] (fun _ i => ∃ k : Nat, k ≤ d.length ∧ i = .int .i64 k ∧ WordsTo rk d k) (fun _ i => d.length - (intOf i).toNat)
      case atStart => exact ⟨0, Nat.zero_le _, rfl, WordsTo.zero _ _⟩
      case round =>
        obtain ⟨k, hk, rfl, hto⟩ := hrel
        have HT := Lib.hid hto
        clear hto
        by_cases hlt : k < d.length
        · obtain ⟨b, off, A', c', xs, rfl, -, -, hx, hc, hrx⟩ := hrb.row hlt
          have hm := List.mem_of_getElem? hx
          have hlx := row_le hm hl
          have hox := HOK.out.2 xs hm
          have HX := Lib.hid hx
          have HM := Lib.hid hm
          clear hx hm
          obtain ⟨v, hv⟩ := bool_ofR (IsW rk xs)
          have HV := Lib.hid hv
          have HO := Lib.hid hox
          clear hv hox
          cases v with
          | false =>
            have hf : r = false := by
              cases r with
              | false => rfl
              | true =>
                have := HV.out.2 (HR2.out.1 rfl k xs hlt HX.out)
                cases this
            subst hf
            go_wp2_with fail
            refine (impl_IsWord rk A' xs c' _ _ hrx.rs HO.out hlx _ HV.out).mono ?_
            rintro e w' ⟨rfl, rfl⟩
            go_wp2_with fail
            go_ret
            exact ⟨rfl, hb0⟩
          | true =>
            have hw := HV.out.1 rfl
            have HW := Lib.hid hw
            clear hw HV
            go_wp2_with fail
            refine (impl_IsWord rk A' xs c' _ _ hrx.rs HO.out hlx true (iff_of_true rfl HW.out)).mono ?_
            rintro e w' ⟨rfl, rfl⟩
            go_wp2_with fail
            go_round
            case rel => exact ⟨k + 1, by omega, by go_num, HT.out.succ HX.out HW.out⟩
            case measure => simp [intOf]; omega
        · obtain rfl : k = d.length := by omega
          obtain rfl : r = true := HR2.out.2 HT.out
          go_wp2_with fail
          go_ret
          exact ⟨rfl, hb0⟩

def IsMorphismIs (r : Int) (d : List (List Int)) (res : Bool) : Prop := res = true ↔ IsMor r d
end Go.Proofs.Ytimmnnncgnnkgaa

/- Letters and words as text, both sides. -/
namespace Go.Proofs.Ytimmnnncgnnkgaa
set_option linter.unusedVariables false
set_option linter.unusedSimpArgs false
open Go.RowKit

theorem withinB {x lo hi : Int} {b : Bool} (h : inB x lo hi = b) (W : World) : Calls Try.prog 76 #[.int .i64 x, .int .i64 lo, .int .i64 hi] W fun e w' => e = .returned (.bool b) ∧ W = w' := h ▸ within_any x lo hi W
theorem l1InB {x lo hi : Int} {b : Bool} (h : inB x lo hi = b) (W : World) : Calls Try.prog 41 #[.int .i64 x, .int .i64 lo, .int .i64 hi] W fun e w' => e = .returned (.bool b) ∧ W = w' := h ▸ l1In_any x lo hi W

set_option maxRecDepth 100000 in
set_option maxHeartbeats 1600000 in
theorem impl_letterText (x : Int) (w : World) (hx : Let3 x) :
    Calls Try.prog 70 #[.int .i64 x] w fun e w' => e = .returned (.string (str (letS x))) ∧ Mid 0 0 w w' := by
  rcases hx with rfl | rfl | rfl | rfl | rfl | rfl
  · go_enter Try.func70, Try.ntmps70
    go_wp2_with fail
    with_reducible refine (withinB (show inB 1 1 3 = true from rfl) _).mono ?_
    rintro en w1 ⟨rfl, rfl⟩
    go_wp2_with fail
    go_ret
    exact ⟨by rfl, Mid.refl _ _ _⟩
  · go_enter Try.func70, Try.ntmps70
    go_wp2_with fail
    with_reducible refine (withinB (show inB 2 1 3 = true from rfl) _).mono ?_
    rintro en w1 ⟨rfl, rfl⟩
    go_wp2_with fail
    go_ret
    exact ⟨by rfl, Mid.refl _ _ _⟩
  · go_enter Try.func70, Try.ntmps70
    go_wp2_with fail
    with_reducible refine (withinB (show inB 3 1 3 = true from rfl) _).mono ?_
    rintro en w1 ⟨rfl, rfl⟩
    go_wp2_with fail
    go_ret
    exact ⟨by rfl, Mid.refl _ _ _⟩
  · go_enter Try.func70, Try.ntmps70
    go_wp2_with fail
    with_reducible refine (withinB (show inB (-1) 1 3 = false from rfl) _).mono ?_
    rintro en w1 ⟨rfl, rfl⟩
    go_wp2_with fail
    with_reducible refine (withinB (show inB (-1) (-3) (-1) = true from rfl) _).mono ?_
    rintro en w1 ⟨rfl, rfl⟩
    go_wp2_with fail
    go_ret
    exact ⟨by rfl, Mid.refl _ _ _⟩
  · go_enter Try.func70, Try.ntmps70
    go_wp2_with fail
    with_reducible refine (withinB (show inB (-2) 1 3 = false from rfl) _).mono ?_
    rintro en w1 ⟨rfl, rfl⟩
    go_wp2_with fail
    with_reducible refine (withinB (show inB (-2) (-3) (-1) = true from rfl) _).mono ?_
    rintro en w1 ⟨rfl, rfl⟩
    go_wp2_with fail
    go_ret
    exact ⟨by rfl, Mid.refl _ _ _⟩
  · go_enter Try.func70, Try.ntmps70
    go_wp2_with fail
    with_reducible refine (withinB (show inB (-3) 1 3 = false from rfl) _).mono ?_
    rintro en w1 ⟨rfl, rfl⟩
    go_wp2_with fail
    with_reducible refine (withinB (show inB (-3) (-3) (-1) = true from rfl) _).mono ?_
    rintro en w1 ⟨rfl, rfl⟩
    go_wp2_with fail
    go_ret
    exact ⟨by rfl, Mid.refl _ _ _⟩
set_option maxRecDepth 100000 in
set_option maxHeartbeats 1600000 in
theorem spec_l2Char (x : Int) (w : World) (hx : Let3 x) :
    Calls Try.prog 66 #[.int .i64 x] w fun e w' => e = .returned (.string (str (letS x))) ∧ Mid 0 0 w w' := by
  rcases hx with rfl | rfl | rfl | rfl | rfl | rfl
  · go_enter Try.func66, Try.ntmps66
    go_wp2_with fail
    go_ret
    exact ⟨by rfl, Mid.alloc _ _⟩
  · go_enter Try.func66, Try.ntmps66
    go_wp2_with fail
    go_ret
    exact ⟨by rfl, Mid.alloc _ _⟩
  · go_enter Try.func66, Try.ntmps66
    go_wp2_with fail
    go_ret
    exact ⟨by rfl, Mid.alloc _ _⟩
  · go_enter Try.func66, Try.ntmps66
    go_wp2_with fail
    go_ret
    exact ⟨by rfl, Mid.alloc _ _⟩
  · go_enter Try.func66, Try.ntmps66
    go_wp2_with fail
    go_ret
    exact ⟨by rfl, Mid.alloc _ _⟩
  · go_enter Try.func66, Try.ntmps66
    go_wp2_with fail
    go_ret
    exact ⟨by rfl, Mid.alloc _ _⟩
theorem spec_l2Letter (x : Int) (w : World) (hx : Let3 x) :
    Calls Try.prog 97 #[.int .i64 x] w fun e w' => e = .returned (.bool true) ∧ Mid 0 0 w w' := by
  have h1 : (x != 0) = true := by unfold Let3 at hx; simp; omega
  have h2 : inB x (-3) 3 = true := by unfold inB Let3 at *; simp; omega
  go_enter Try.func97, Try.ntmps97
  go_wp2_with fail
  with_reducible refine (l1InB h2 _).mono ?_
  rintro en w1 ⟨rfl, rfl⟩
  go_wp2_with fail
  go_ret
  exact ⟨rfl, Mid.refl _ _ _⟩
end Go.Proofs.Ytimmnnncgnnkgaa

/- FormatWord, both sides. -/
namespace Go.Proofs.Ytimmnnncgnnkgaa
set_option linter.unusedVariables false
set_option linter.unusedSimpArgs false
open Go.RowKit

theorem letS_ne (x : Int) : (str (letS x)).toList.isEmpty = false := by
  rw [ByteArray.toList_mk, List.isEmpty_eq_false_iff]
  intro h
  have := congrArg List.length h
  rw [letS_len] at this
  simp at this
theorem rv_int {w : World} {lo hi : Nat} {A : Option Addr} {xs : List Int} (h : RV w lo hi A (ints xs)) {k : Nat} (hk : k < xs.length) :
    ∃ b off x, A = some ⟨b, off, none⟩ ∧ b < w.heap.size ∧ xs[k]? = some x ∧ w.cell? ⟨b, off + k, none⟩ = some (.int .i64 x) := by
  obtain ⟨b, off, x, hA, hb, hx, hc⟩ := h.rsS.int hk
  exact ⟨b, off, x, hA, hb, hx, hc⟩

set_option maxRecDepth 100000 in
set_option maxHeartbeats 1600000 in
theorem impl_FormatWord (A : Option Addr) (l : List Int) (c : Nat) (w : World) (lo hi : Nat) (hr : RV w lo hi A (ints l)) (hl : l.length ≤ 24) (hx : ∀ x ∈ l, Let3 x) :
    Calls Try.prog 71 #[.slice A l.length c] w fun e w' => e = .returned (.string (str (fmtW l))) ∧ Mid 0 0 w w' := by
  have HX := Lib.hid hx
  clear hx
  rcases Nat.eq_zero_or_pos l.length with h0 | h0
  · have hnil := List.eq_nil_of_length_eq_zero h0
    subst hnil
    go_enter Try.func71, Try.ntmps71
    go_wp2_with fail
    go_ret
    exact ⟨by rfl, Mid.refl _ _ _⟩
  have hz : ((l.length : Int) == 0) = false := beq_eq_false_iff_ne.2 (by omega)
  have HS0 : Hid ((⟨#[]⟩ : ByteArray) = str (fmtW0 (l.take 0))) := Lib.hid rfl
  go_enter Try.func71, Try.ntmps71
  go_wp2_with fail
  go_loopw [3, 12] (fun sv kv wr => ∃ (k : Nat) (s : ByteArray), kv = .int .i64 k ∧ sv = .string s ∧ k ≤ l.length ∧ Hid (s = str (fmtW0 (l.take k))) ∧ Mid 0 0 w wr) (fun _ kv _ => l.length - (intOf kv).toNat)
  case atStart => exact ⟨0, ⟨#[]⟩, rfl, rfl, Nat.zero_le _, HS0, Mid.refl _ _ _⟩
  case round =>
    clear HS0
    obtain ⟨wo, hwo⟩ : ∃ wo, wo = wr := ⟨_, rfl⟩
    subst hwo
    obtain ⟨k, s, rfl, rfl, hk, HS, hm⟩ := hrel
    have hss : s.size ≤ 24 := by rw [HS.out, str_size, fmtW0_len, List.length_take]; omega
    by_cases hlt : k < l.length
    · obtain ⟨b, off, x, rfl, hb, hxk, hc⟩ := rv_int (hr.mid hm (Or.inl (Nat.zero_le _))) hlt
      have hk0 : (0 : Int) ≤ (k : Int) := by omega
      have hk1 : (k : Int) < (l.length : Int) := by omega
      have h3 := HX.out x (List.mem_of_getElem? hxk)
      obtain ⟨tb, htb⟩ : ∃ s, s = str (letS x) := ⟨_, rfl⟩
      have hT := fun W => impl_letterText x W h3
      have hem := letS_ne x
      rw [← htb] at hT hem
      have hts : tb.size ≤ 1 := by rw [htb, str_size, letS_len]; exact Nat.le_refl _
      have hz2 : s.size + tb.size ≤ 9223372036854775807 := by omega
      have HS2 : Hid (s ++ tb = str (fmtW0 (l.take (k + 1)))) := Lib.hid (by rw [HS.out, htb, fmtW0_take hxk, str_app])
      clear htb hxk
      go_wp2_with fail
      with_reducible refine (hT _).mono ?_
      rintro en w4 ⟨rfl, hm4⟩
      have hm5 := hm.trans hm4
      go_wp2_with fail
      go_roundw
      case rel => exact ⟨k + 1, s ++ tb, by go_num, rfl, by omega, HS2, hm5⟩
      case measure => simp [intOf]; omega
    · obtain rfl : k = l.length := by omega
      have hres : s = str (fmtW l) := by
        rw [HS.out, List.take_length, fmtW, if_neg]
        intro h
        rw [h] at h0
        simp at h0
      have HRES := Lib.hid hres
      clear hres
      go_wp2_with fail
      go_ret
      exact ⟨by rw [← HRES.out]; rfl, hm⟩

set_option maxRecDepth 100000 in
set_option maxHeartbeats 1600000 in
theorem spec_FormatWord (A : Option Addr) (l : List Int) (c : Nat) (w : World) (lo hi : Nat) (hr : RV w lo hi A (ints l)) (hl : l.length ≤ 24) (hx : ∀ x ∈ l, Let3 x) :
    Calls Try.prog 67 #[.slice A l.length c] w fun e w' => e = .returned (.string (str (fmtW l))) ∧ Mid 0 0 w w' := by
  have HX := Lib.hid hx
  clear hx
  have HS0 : Hid ((⟨#[]⟩ : ByteArray) = str (fmtW0 (l.take 0))) := Lib.hid rfl
  go_enter Try.func67, Try.ntmps67
  go_wp2_with fail
  go_loopw [3, 4] (fun sv kv wr => ∃ (k : Nat) (s : ByteArray), kv = .int .i64 k ∧ sv = .string s ∧ k ≤ l.length ∧ Hid (s = str (fmtW0 (l.take k))) ∧ Mid 0 0 w wr) (fun _ kv _ => l.length - (intOf kv).toNat)
  case atStart => exact ⟨0, ⟨#[]⟩, rfl, rfl, Nat.zero_le _, HS0, Mid.refl _ _ _⟩
  case round =>
    clear HS0
    obtain ⟨wo, hwo⟩ : ∃ wo, wo = wr := ⟨_, rfl⟩
    subst hwo
    obtain ⟨k, s, rfl, rfl, hk, HS, hm⟩ := hrel
    have hss : s.size ≤ 24 := by rw [HS.out, str_size, fmtW0_len, List.length_take]; omega
    by_cases hlt : k < l.length
    · obtain ⟨b, off, x, rfl, hb, hxk, hc⟩ := rv_int (hr.mid hm (Or.inl (Nat.zero_le _))) hlt
      have hk0 : (0 : Int) ≤ (k : Int) := by omega
      have hk1 : (k : Int) < (l.length : Int) := by omega
      have h3 := HX.out x (List.mem_of_getElem? hxk)
      obtain ⟨tb, htb⟩ : ∃ s, s = str (letS x) := ⟨_, rfl⟩
      have hT := fun W => spec_l2Char x W h3
      have hL := fun W => spec_l2Letter x W h3
      rw [← htb] at hT
      have hts : tb.size ≤ 1 := by rw [htb, str_size, letS_len]; exact Nat.le_refl _
      have hz2 : s.size + tb.size ≤ 9223372036854775807 := by omega
      have HS2 : Hid (s ++ tb = str (fmtW0 (l.take (k + 1)))) := Lib.hid (by rw [HS.out, htb, fmtW0_take hxk, str_app])
      clear htb hxk
      go_wp2_with fail
      with_reducible refine (hL _).mono ?_
      rintro en w3 ⟨rfl, hm3⟩
      have hc3 := cell_keep hm3 hb (Or.inr (Nat.zero_le _)) hc
      have hm3' := hm.trans hm3
      clear hm hc
      go_wp2_with fail
      with_reducible refine (hT _).mono ?_
      rintro en w4 ⟨rfl, hm4⟩
      have hm5 := hm3'.trans hm4
      go_wp2_with fail
      go_roundw
      case rel => exact ⟨k + 1, s ++ tb, by go_num, rfl, by omega, HS2, hm5⟩
      case measure => simp [intOf]; omega
    · obtain rfl : k = l.length := by omega
      by_cases hnil : l = []
      · subst hnil
        have hs0 : s = ⟨#[]⟩ := HS.out
        subst hs0
        clear HS
        go_wp2_with fail
        go_ret
        exact ⟨by rfl, hm⟩
      · have hs := HS.out
        rw [List.take_length] at hs
        have hb : s.toList.isEmpty = false := by
          rw [hs, ByteArray.toList_mk, List.isEmpty_eq_false_iff]
          intro h
          have := congrArg List.length h
          rw [fmtW0_len, List.length_nil] at this
          exact hnil (List.eq_nil_of_length_eq_zero this)
        have hres : s = str (fmtW l) := by rw [hs, fmtW, if_neg hnil]
        have HRES := Lib.hid hres
        clear hres hs HS
        go_wp2_with fail
        go_ret
        exact ⟨by rw [← HRES.out]; rfl, hm⟩
end Go.Proofs.Ytimmnnncgnnkgaa

/- FormatMorphism, both sides; the law's data. -/
namespace Go.Proofs.Ytimmnnncgnnkgaa
set_option linter.unusedVariables false
set_option linter.unusedSimpArgs false
open Go.RowKit

def FormatMorphismIs (rk : Int) (d : List (List Int)) (res : ByteArray) : Prop := (IsMor rk d ∧ res = str (fmtMor d)) ∨ (¬ IsMor rk d ∧ res = ⟨#[]⟩)
theorem FormatMorphismIs_ex (rk : Int) (d : List (List Int)) (b0 : (Lit.int .i64 rk).wf = true) (o0 : OkSS d) (hl0 : d.length + sumL d ≤ 1048576) : ∃ res, FormatMorphismIs rk d res := by
  by_cases h : IsMor rk d
  · exact ⟨_, .inl ⟨h, rfl⟩⟩
  · exact ⟨_, .inr ⟨h, rfl⟩⟩
theorem FormatMorphismIs.no {rk : Int} {d : List (List Int)} {res : ByteArray} (h : FormatMorphismIs rk d res) (hn : ¬ IsMor rk d) : res = ⟨#[]⟩ := by
  rcases h with ⟨h, -⟩ | ⟨-, h⟩
  · exact absurd h hn
  · exact h
theorem FormatMorphismIs.yes {rk : Int} {d : List (List Int)} {res : ByteArray} (h : FormatMorphismIs rk d res) (hn : IsMor rk d) : res = str (fmtMor d) := by
  rcases h with ⟨-, h⟩ | ⟨h, -⟩
  · exact h
  · exact absurd hn h
theorem IsMor.let {rk : Int} {d : List (List Int)} (h : IsMor rk d) {xs : List Int} (hx : xs ∈ d) : xs.length ≤ 24 ∧ ∀ x ∈ xs, Let3 x := by
  have h1 := h.2.2.2 xs hx
  exact ⟨h1.2.2.1, fun x hx => let3_of h.2.1 (h1.2.2.2.1 x hx)⟩
theorem boolF (P : Prop) : ∃ b : Bool, b = true ↔ P := by
  by_cases h : P
  · exact ⟨true, iff_of_true rfl h⟩
  · exact ⟨false, iff_of_false Bool.false_ne_true h⟩

set_option maxHeartbeats 3200000 in
set_option maxRecDepth 100000 in
theorem impl_FormatMorphism (rk : Int) (A : Option Addr) (d : List (List Int)) (c : Nat) (w : World) (lo hi : Nat) (hr : RSS w lo hi A d) (hok : OkSS d) (hl : d.length + sumL d ≤ 1048576) (res : ByteArray) (hres : FormatMorphismIs rk d res) :
    Calls Try.prog 31 #[.agg #[.int .i64 rk, .slice A d.length c]] w fun e w' => e = .returned (.string res) ∧ Mid 0 0 w w' := by
  have HR := Lib.hid hres
  have HOK := Lib.hid hok
  clear hres hok
  obtain ⟨b1, hb1⟩ := boolF (IsMor rk d)
  have H1 := Lib.hid hb1
  have hIM := fun W h => impl_IsMorphism rk A d c W lo hi h HOK.out hl b1 hb1
  have HIM := Lib.hid hIM
  clear hb1 hIM
  have hm0 : Mid 0 0 w (w.alloc (.cells #[.int .i64 rk, .slice A d.length c] 53)) := Mid.alloc _ _
  have B0 := Box.new w #[.int .i64 rk, .slice A d.length c] 53
  have p0 := B0.cell 0 rfl
  have p1 := B0.cell 1 rfl
  go_enter Try.func31, Try.ntmps31
  go_wp2_with fail
  generalize w.alloc (.cells #[.int .i64 rk, .slice A d.length c] 53) = w1 at hm0 B0 p0 p1 ⊢
  have hs1 : w.heap.size < w1.heap.size := B0.1
  with_reducible refine (HIM.out _ (hr.mid hm0 (Or.inl (Nat.zero_le _)))).mono ?_
  rintro en w2 ⟨rfl, hm2⟩
  clear p0 p1
  replace B0 := B0.mid hm2 (Or.inr (Nat.zero_le _))
  replace hm0 := hm0.trans hm2
  have hs2 := hm2.size
  clear hm2
  cases b1 with
  | false =>
    obtain rfl := HR.out.no fun h => by have := H1.out.2 h; cases this
    go_wp2_with fail
    go_ret
    exact ⟨rfl, hm0⟩
  | true =>
  have F1 := Lib.hid (H1.out.1 rfl)
  have hre := HR.out.yes F1.out
  have hd3 : d.length ≤ 3 := by have h1 := F1.out.2.2.1; have h2 := F1.out.2.1; omega
  have hd1 : 0 < d.length := by have h1 := F1.out.2.2.1; have h2 := F1.out.1; omega
  have hrkd : (d.length : Int) = rk := F1.out.2.2.1
  have HRES := Lib.hid hre
  clear H1 HIM HR hre
  have O0 := owns_empty w2 9 1
  have hal := Mid.alloc w2 (.cells #[] 9)
  have p0 := B0.cell 0 rfl
  have p1 := B0.cell 1 rfl
  replace B0 := B0.mid hal (Or.inr (Nat.zero_le _))
  replace hm0 := hm0.trans hal
  clear p0 p1
  have p0 := B0.cell 0 rfl
  have p1 := B0.cell 1 rfl
  go_wp2_with fail
  generalize w2.alloc (.cells #[] 9) = w3 at O0 hm0 B0 p0 p1 hal ⊢
  have hs3 := hal.size
  have HO0 : Hid (w3.ownsRow w2.heap.size 9 1 (.slice (some ⟨w2.heap.size, 0, none⟩) 0 0) 0 (strs (itemsMor d 0))) := Lib.hid O0
  clear O0 hal p0 p1
  generalize (some (⟨w2.heap.size, 0, none⟩ : Addr)) = A0 at HO0 ⊢
  generalize w2.heap.size = base at HO0 hs2 hs3
  go_loopw [3, 13] (fun ov kv wr => ∃ (k : Nat) (A1 : Option Addr) (c1 : Nat), kv = .int .i64 k ∧ ov = .slice A1 k c1 ∧ k ≤ d.length ∧ Hid (wr.ownsRow base 9 1 (.slice A1 k c1) k (strs (itemsMor d k))) ∧ base ≤ wr.heap.size ∧ Mid 0 0 w wr) (fun _ kv _ => d.length - (intOf kv).toNat)
  case atStart => exact ⟨0, A0, 0, rfl, rfl, Nat.zero_le _, HO0, hs3, hm0⟩
  case round =>
    clear HO0 hm0 hs3 B0
    obtain ⟨wo, hwo⟩ : ∃ wo, wo = wr := ⟨_, rfl⟩
    subst hwo
    obtain ⟨k, A1, c1, rfl, rfl, hk, HO, hbase, hm⟩ := hrel
    by_cases hlt : k < d.length
    · obtain ⟨b, off, Aw, cw, xs, hA, -, hbh, hdk, hce, hrv⟩ := (hr.mid hm (Or.inl (Nat.zero_le _))).row hlt
      subst hA
      have hbs : b < wo.heap.size := Nat.lt_of_lt_of_le hbh (Nat.le_trans hr.size hm.size)
      obtain ⟨hxl, hx3⟩ := F1.out.let (List.mem_of_getElem? hdk)
      have HDK := Lib.hid hdk
      have hk0 : (0 : Int) ≤ (k : Int) := by omega
      have hk1 : (k : Int) < (d.length : Int) := by omega
      have hL3 : Let3 ((k : Int) + 1) := by unfold Let3; omega
      obtain ⟨tb, htb⟩ : ∃ s, s = str (letS ((k : Int) + 1)) := ⟨_, rfl⟩
      obtain ⟨fb, hfb⟩ : ∃ s, s = str (fmtW xs) := ⟨_, rfl⟩
      have hts : tb.size = 1 := by rw [htb, str_size, letS_len]
      have hfs : fb.size ≤ 24 := by rw [hfb, str_size]; exact fmtW_len hxl
      have hc62 : (⟨#[62]⟩ : ByteArray).size = 1 := rfl
      have hT := fun W => impl_letterText ((k : Int) + 1) W hL3
      have hF := fun W h => impl_FormatWord Aw xs cw W lo hi h hxl hx3
      rw [← htb] at hT
      rw [← hfb] at hF
      have hz1 : tb.size + (⟨#[62]⟩ : ByteArray).size ≤ 9223372036854775807 := by omega
      have hz2 : (tb ++ (⟨#[62]⟩ : ByteArray)).size + fb.size ≤ 9223372036854775807 := by simp only [ByteArray.size_append]; omega
      have HU : Hid (tb ++ (⟨#[62]⟩ : ByteArray) ++ fb = str (letS ((k : Int) + 1) ++ [62] ++ fmtW xs)) := Lib.hid (by
        rw [htb, hfb]
        show str _ ++ str [62] ++ str _ = _
        rw [str_app, str_app])
      clear htb hfb hdk
      go_wp2_with fail
      with_reducible refine (hT _).mono ?_
      rintro en w4 ⟨rfl, hm4⟩
      have HO4 := Lib.hid (owns_mid HO.out hm4 (Or.inl (Nat.zero_le _)))
      have hrv4 := hrv.mid hm4 (Or.inl (Nat.zero_le _))
      have hs4 := hm4.size
      have hm5 := hm.trans hm4
      clear HO hm hrv hm4 hce
      go_wp2_with fail
      with_reducible refine (hF _ hrv4).mono ?_
      rintro en w6 ⟨rfl, hm6⟩
      have HO6 := Lib.hid (owns_mid HO4.out hm6 (Or.inl (Nat.zero_le _)))
      have hs6 := hm6.size
      have hm7 := hm5.trans hm6
      clear HO4 hm5 hm6 hrv4
      go_wp2_with (at_builtin; refine MarkerS.to ?_)
      unfold MarkerS
      refine wpList_pushStr rfl _ _ rfl base A1 k c1 _ rfl HO6.out _ _ HU.out rfl (by omega) (by omega) ?_
      intro A8 c8 w8 ho8 hm8'
      have HO8 : Hid (w8.ownsRow base 9 1 (.slice A8 (k + 1) c8) (k + 1) (strs (itemsMor d (k + 1)))) := Lib.hid (by rw [itemsMor_succ HDK.out]; exact ho8)
      have hs8 := hm8'.size
      have hm9 := hm7.transNew hm8' (Or.inl (by omega))
      clear ho8 hm8' HO6 hm7 HU
      go_wp2_with fail
      go_roundw
      case rel => exact ⟨k + 1, A8, c8, by go_num, rfl, by omega, HO8, by omega, hm9⟩
      case measure => simp [intOf]; omega
    · obtain rfl : k = d.length := by omega
      have ho := HO.out
      have hll := itemsMor_len d d.length
      obtain ⟨L, hL⟩ : ∃ L, itemsMor d d.length = L := ⟨_, rfl⟩
      rw [hL] at ho hll
      have hbd : ∀ x ∈ L, x.length ≤ 1000 := by
        intro x hx
        rw [← hL] at hx
        have := itemsMor_b (fun xs hxs => (F1.out.let hxs).1) _ x hx
        omega
      have hG := fun W h => impl_glued A1 L c1 [32] [] W base wo.heap.size h (by omega) (by rw [hll]; exact owns_cap ho) hbd (by simp)
      rw [hll] at hG
      have hrv := OV.rv (⟨Nat.le_refl _, ho, fun g hg => (ho.lt g hg).2⟩ : OV wo base wo.heap.size 9 1 A1 c1 d.length (strs L))
      have HL := Lib.hid hL
      clear HO ho hll hL
      go_wp2_with fail
      with_reducible refine (hG _ hrv).mono ?_
      rintro en w5 ⟨rfl, hm5⟩
      go_wp2_with fail
      go_ret
      exact ⟨by rw [HRES.out, fmtMor, HL.out]; rfl, hm.trans hm5⟩

set_option maxHeartbeats 3200000 in
set_option maxRecDepth 100000 in
theorem spec_FormatMorphism (rk : Int) (A : Option Addr) (d : List (List Int)) (c : Nat) (w : World) (lo hi : Nat) (hr : RSS w lo hi A d) (hok : OkSS d) (hl : d.length + sumL d ≤ 1048576) (res : ByteArray) (hres : FormatMorphismIs rk d res) :
    Calls Try.prog 29 #[.agg #[.int .i64 rk, .slice A d.length c]] w fun e w' => e = .returned (.string res) ∧ Mid 0 0 w w' := by
  have HR := Lib.hid hres
  have HOK := Lib.hid hok
  clear hres hok
  obtain ⟨b1, hb1⟩ := boolF (IsMor rk d)
  have H1 := Lib.hid hb1
  have hIM := fun W h => spec_IsMorphism rk A d c W lo hi h HOK.out hl b1 hb1
  have HIM := Lib.hid hIM
  clear hb1 hIM
  have hm0 : Mid 0 0 w (w.alloc (.cells #[.int .i64 rk, .slice A d.length c] 53)) := Mid.alloc _ _
  have B0 := Box.new w #[.int .i64 rk, .slice A d.length c] 53
  have p0 := B0.cell 0 rfl
  have p1 := B0.cell 1 rfl
  go_enter Try.func29, Try.ntmps29
  go_wp2_with fail
  generalize w.alloc (.cells #[.int .i64 rk, .slice A d.length c] 53) = w1 at hm0 B0 p0 p1 ⊢
  have hs1 : w.heap.size < w1.heap.size := B0.1
  with_reducible refine (HIM.out _ (hr.mid hm0 (Or.inl (Nat.zero_le _)))).mono ?_
  rintro en w2 ⟨rfl, hm2⟩
  clear p0 p1
  replace B0 := B0.mid hm2 (Or.inr (Nat.zero_le _))
  replace hm0 := hm0.trans hm2
  have hs2 := hm2.size
  clear hm2
  cases b1 with
  | false =>
    obtain rfl := HR.out.no fun h => by have := H1.out.2 h; cases this
    go_wp2_with fail
    go_ret
    exact ⟨rfl, hm0⟩
  | true =>
  have F1 := Lib.hid (H1.out.1 rfl)
  have hre := HR.out.yes F1.out
  have hd3 : d.length ≤ 3 := by have h1 := F1.out.2.2.1; have h2 := F1.out.2.1; omega
  have hd1 : 0 < d.length := by have h1 := F1.out.2.2.1; have h2 := F1.out.1; omega
  have hrkd : (d.length : Int) = rk := F1.out.2.2.1
  have HRES := Lib.hid hre
  clear H1 HIM HR hre
  subst hrkd
  have HS0 : Hid ((⟨#[]⟩ : ByteArray) = str (accB [32] (itemsMor d 0))) := Lib.hid rfl
  go_wp2_with fail
  go_loopw [3, 4] (fun sv kv wr => ∃ (k : Nat) (s : ByteArray), kv = .int .i64 k ∧ sv = .string s ∧ k ≤ d.length ∧ Hid (s = str (accB [32] (itemsMor d k))) ∧ Box wr w.heap.size [.int .i64 d.length, .slice A d.length c] ∧ Mid 0 0 w wr) (fun _ kv _ => d.length - (intOf kv).toNat)
  case atStart => exact ⟨0, ⟨#[]⟩, rfl, rfl, Nat.zero_le _, HS0, B0, hm0⟩
  case round =>
    clear HS0 hm0 B0
    obtain ⟨wo, hwo⟩ : ∃ wo, wo = wr := ⟨_, rfl⟩
    subst hwo
    obtain ⟨k, s, rfl, rfl, hk, HS, B0, hm⟩ := hrel
    have hss : s.size ≤ 1000 := by
      rw [HS.out, str_size]
      have h1 := accB_len [32] 26 (itemsMor d k) (itemsMor_b (fun xs hxs => (F1.out.let hxs).1) k)
      rw [itemsMor_len] at h1
      have h2 : k * (26 + [(32 : UInt8)].length) ≤ 3 * 27 := Nat.mul_le_mul (by omega) (Nat.le_refl _)
      omega
    have p0 := B0.cell 0 rfl
    have p1 := B0.cell 1 rfl
    by_cases hlt : k < d.length
    · obtain ⟨b, off, Aw, cw, xs, hA, -, hbh, hdk, hce, hrv⟩ := (hr.mid hm (Or.inl (Nat.zero_le _))).row hlt
      subst hA
      have hbs : b < wo.heap.size := Nat.lt_of_lt_of_le hbh (Nat.le_trans hr.size hm.size)
      obtain ⟨hxl, hx3⟩ := F1.out.let (List.mem_of_getElem? hdk)
      have HDK := Lib.hid hdk
      have hk0 : (0 : Int) ≤ (k : Int) := by omega
      have hk1 : (k : Int) < (d.length : Int) := by omega
      have hL3 : Let3 ((k : Int) + 1) := by unfold Let3; omega
      obtain ⟨tb, htb⟩ : ∃ s, s = str (letS ((k : Int) + 1)) := ⟨_, rfl⟩
      obtain ⟨fb, hfb⟩ : ∃ s, s = str (fmtW xs) := ⟨_, rfl⟩
      have hts : tb.size = 1 := by rw [htb, str_size, letS_len]
      have hfs : fb.size ≤ 24 := by rw [hfb, str_size]; exact fmtW_len hxl
      have hc62 : (⟨#[62]⟩ : ByteArray).size = 1 := rfl
      have hT := fun W => spec_l2Char ((k : Int) + 1) W hL3
      have hF := fun W h => spec_FormatWord Aw xs cw W lo hi h hxl hx3
      rw [← htb] at hT
      rw [← hfb] at hF
      have hF2 : ∀ m os, Calls Try.prog 67 #[.slice Aw xs.length cw] (wg wo m os) fun e w' => e = .returned (.string fb) ∧ Mid 0 0 (wg wo m os) w' := fun m os => hF _ (hrv.mid (Mid.ofWg wo m os) (Or.inl (Nat.zero_le _)))
      have hwk : IntKind.i64.wrap ((k : Int) + 1) = (k : Int) + 1 := IntWalk.i64_in _ (by omega)
      have hbw : w.heap.size < wo.heap.size := B0.1
      have r1 := wg_cell hbw p1
      have r2 := wg_cell hbs hce
      obtain ⟨pre, hpre⟩ : ∃ pre : List UInt8, pre = if k = 0 then [] else accB [32] (itemsMor d k) ++ [32] := ⟨_, rfl⟩
      have hacc := itemsMor_acc hdk
      rw [← hpre] at hacc
      have HACC := Lib.hid hacc
      have HTB := Lib.hid htb
      have HFB := Lib.hid hfb
      clear htb hfb hdk hacc hce hF hrv
      by_cases hz : k = 0
      · have HS1 : Hid (s = str pre) := Lib.hid (by rw [HS.out, hpre, if_pos hz]; subst hz; rfl)
        have dk : decide ((0 : Int) < (k : Int)) = false := by simp; omega
        have hng : ¬ (0 : Int) < (k : Int) := by omega
        clear hpre hz
        have hy1 : (s).size + tb.size ≤ 9223372036854775807 := by first | omega | (simp only [ByteArray.size_append]; omega)
        have hy2 : (s ++ tb).size + (⟨#[62]⟩ : ByteArray).size ≤ 9223372036854775807 := by simp only [ByteArray.size_append]; omega
        have hy3 : (s ++ tb ++ (⟨#[62]⟩ : ByteArray)).size + fb.size ≤ 9223372036854775807 := by simp only [ByteArray.size_append]; omega
        have HU : Hid (s ++ tb ++ (⟨#[62]⟩ : ByteArray) ++ fb = str (accB [32] (itemsMor d (k + 1)))) := Lib.hid (by
          rw [HACC.out, HS1.out, HTB.out, HFB.out]
          show str pre ++ str _ ++ str [62] ++ str _ = _
          simp only [str_app, List.append_assoc])
        clear HACC HTB HFB HS HS1
        go_wp2_with fail
        refine wp_region_quiet_wg (by kernel_rfl) (by kernel_rfl) ?_
        repeat
          (with_reducible refine wpQuiet_step (fun K hK => ?_))
          go_simp
          first
            | ((with_reducible refine hK _ ?_); clear hK K)
            | (rw [if_neg (by decide)]; (with_reducible refine hK _ ?_); clear hK K)
            | (apply Exists.intro; refine ⟨fun _ => ?_, hK _ ?_⟩; (rw [if_neg (by omega)]; exact ⟨rfl, rfl⟩); clear hK K)
            | (apply Exists.intro; refine ⟨fun _ => ?_, hK _ ?_⟩; (((first | (go_at_call 66; with_reducible exact Calls.wg_of (hT _)) | (go_at_call 67; exact Calls.wg_of (hF2 _ _))))); clear hK K)
        with_reducible refine wpQuiet_nil ?_
        intro _ hw'
        obtain ⟨⟨nq, osq⟩, hw''⟩ := hw'
        subst hw''
        have hwg := Mid.ofWg wo nq osq
        generalize wg wo nq osq = w4 at hwg ⊢
        have B4 := B0.mid hwg (Or.inr (Nat.zero_le _))
        have hm5 := hm.trans hwg
        clear hwg r1 r2 hm B0 hT hF2 p0 p1
        go_wp2_with fail
        go_roundw
        case rel => exact ⟨k + 1, s ++ tb ++ (⟨#[62]⟩ : ByteArray) ++ fb, by go_num, rfl, by omega, HU, B4, hm5⟩
        case measure => simp [intOf]; omega
      · have HS1 : Hid (s ++ (⟨#[32]⟩ : ByteArray) = str pre) := Lib.hid (by rw [HS.out, hpre, if_neg hz]; exact str_app _ [32])
        have dk : decide ((0 : Int) < (k : Int)) = true := by simp; omega
        have hng : (0 : Int) < (k : Int) := by omega
        have hc32 : (⟨#[32]⟩ : ByteArray).size = 1 := rfl
        have hz32 : s.size + (⟨#[32]⟩ : ByteArray).size ≤ 9223372036854775807 := by omega
        clear hpre
        have hy1 : (s ++ (⟨#[32]⟩ : ByteArray)).size + tb.size ≤ 9223372036854775807 := by first | omega | (simp only [ByteArray.size_append]; omega)
        have hy2 : (s ++ (⟨#[32]⟩ : ByteArray) ++ tb).size + (⟨#[62]⟩ : ByteArray).size ≤ 9223372036854775807 := by simp only [ByteArray.size_append]; omega
        have hy3 : (s ++ (⟨#[32]⟩ : ByteArray) ++ tb ++ (⟨#[62]⟩ : ByteArray)).size + fb.size ≤ 9223372036854775807 := by simp only [ByteArray.size_append]; omega
        have HU : Hid (s ++ (⟨#[32]⟩ : ByteArray) ++ tb ++ (⟨#[62]⟩ : ByteArray) ++ fb = str (accB [32] (itemsMor d (k + 1)))) := Lib.hid (by
          rw [HACC.out, HS1.out, HTB.out, HFB.out]
          show str pre ++ str _ ++ str [62] ++ str _ = _
          simp only [str_app, List.append_assoc])
        clear HACC HTB HFB HS HS1
        go_wp2_with fail
        refine wp_region_quiet_wg (by kernel_rfl) (by kernel_rfl) ?_
        repeat
          (with_reducible refine wpQuiet_step (fun K hK => ?_))
          go_simp
          first
            | ((with_reducible refine hK _ ?_); clear hK K)
            | (rw [if_neg (by decide)]; (with_reducible refine hK _ ?_); clear hK K)
            | (apply Exists.intro; refine ⟨fun _ => ?_, hK _ ?_⟩; (rw [if_neg (by omega)]; exact ⟨rfl, rfl⟩); clear hK K)
            | (apply Exists.intro; refine ⟨fun _ => ?_, hK _ ?_⟩; (((first | (go_at_call 66; with_reducible exact Calls.wg_of (hT _)) | (go_at_call 67; exact Calls.wg_of (hF2 _ _))))); clear hK K)
        with_reducible refine wpQuiet_nil ?_
        intro _ hw'
        obtain ⟨⟨nq, osq⟩, hw''⟩ := hw'
        subst hw''
        have hwg := Mid.ofWg wo nq osq
        generalize wg wo nq osq = w4 at hwg ⊢
        have B4 := B0.mid hwg (Or.inr (Nat.zero_le _))
        have hm5 := hm.trans hwg
        clear hwg r1 r2 hm B0 hT hF2 p0 p1
        go_wp2_with fail
        go_roundw
        case rel => exact ⟨k + 1, s ++ (⟨#[32]⟩ : ByteArray) ++ tb ++ (⟨#[62]⟩ : ByteArray) ++ fb, by go_num, rfl, by omega, HU, B4, hm5⟩
        case measure => simp [intOf]; omega
    · obtain rfl : k = d.length := by omega
      have hres : s = res := by rw [HS.out, HRES.out, fmtMor_acc hd1]
      subst hres
      clear p0 p1
      have p0 := B0.cell 0 rfl
      have p1 := B0.cell 1 rfl
      go_wp2_with fail
      go_ret
      exact ⟨rfl, hm⟩
theorem sspec_FormatMorphism (r0 : Int) (A0 : Option Addr) (d0 : List (List Int)) (c0 : Nat) (w : World) (lo0 hi0 : Nat) (h0 : RSS w lo0 hi0 A0 d0) (b0 : (Lit.int .i64 r0).wf = true) (o0 : OkSS d0) (hl0 : d0.length + sumL d0 ≤ 1048576) (res0 : ByteArray) (h : FormatMorphismIs r0 d0 res0) :
    Calls Try.prog 29 #[.agg #[.int .i64 r0, .slice A0 d0.length c0]] w fun e w' => e = .returned (.string res0) ∧ Mid 0 0 w w' := spec_FormatMorphism r0 A0 d0 c0 w lo0 hi0 h0 o0 hl0 res0 h
theorem simpl_FormatMorphism (r0 : Int) (A0 : Option Addr) (d0 : List (List Int)) (c0 : Nat) (w : World) (lo0 hi0 : Nat) (h0 : RSS w lo0 hi0 A0 d0) (b0 : (Lit.int .i64 r0).wf = true) (o0 : OkSS d0) (hl0 : d0.length + sumL d0 ≤ 1048576) (res0 : ByteArray) (h : FormatMorphismIs r0 d0 res0) :
    Calls Try.prog 31 #[.agg #[.int .i64 r0, .slice A0 d0.length c0]] w fun e w' => e = .returned (.string res0) ∧ Mid 0 0 w w' := impl_FormatMorphism r0 A0 d0 c0 w lo0 hi0 h0 o0 hl0 res0 h
end Go.Proofs.Ytimmnnncgnnkgaa

/- Opening of a morphism that came in. -/
namespace Go.Proofs.Ytimmnnncgnnkgaa
set_option linter.unusedVariables false
open Go.ChangeShapes Go.WideShapes Go.ChangeAt Go.RowKit
open Go.Joins
theorem cellsSI : Try.prog.cellsOf 37 = 1 := by kernel_rfl
set_option maxRecDepth 100000 in
theorem open_morph {H : Type} {enc : TypeId × Value → H} {W : World} {r : Reach} {base : Nat} {v : Value} {d : DataW H} {ps : List MemPlace}
    (hok : Value.okWide Try.prog W r base 50 v) (h : DataW.Trod enc Try.prog W 0 (fun _ => true) true 50 v d ps) :
    ∃ m A xss c, v = .agg #[.int .i64 m, .slice A (List.length xss) c] ∧ (Lit.int .i64 m).wf = true ∧ RSS W 0 W.heap.size A xss ∧ OkSS xss := by
  obtain ⟨v0, v1, y0, y1, n, rfl, -, -, h0, h1⟩ := open_agg2 Try.underlying50 (by kernel_rfl) (by kernel_rfl) hok h
  have h0' : DataW.trod enc Try.prog W 0 (fun _ => true) true n 3 [v0] = some y0 := h0
  have h1' : DataW.trod enc Try.prog W 0 (fun _ => true) true n 48 [v1] = some y1 := h1
  clear h0 h1
  obtain ⟨m, hm, -, hw⟩ := DataW.trod_int undI h0'
  obtain ⟨A, l, c, hs⟩ := slice_form undSSI h1'
  simp at hm hs
  subst hm hs
  obtain ⟨xss, rfl, ha, hb⟩ := rss_of_cells undSSI undSI undI cellsSI cellsI h1'
  exact ⟨m, A, xss, c, rfl, hw, ha, hb⟩
end Go.Proofs.Ytimmnnncgnnkgaa
