/- Contracts and lemmas of this seat, many texts in one: see the words ahead of each. No condition beyond those typed in each lemma. -/
import Derived.Test.YtkaofcakelpnpaaGreatIm4
import Derived.Test.YtkaofcakelpnpaaGreatIm1
import Derived.Test.YtkaofcakelpnpaaGreatIm3
import Derived.Test.YtkaofcakelpnpaaGreatIm2

namespace Go.Proofs.YtkaofcakelpnpaaGreat
set_option linter.unusedVariables false
set_option linter.unusedSimpArgs false
open Go.RowKit
theorem OwnRows.replace {w : World} {lo hi : Nat} {tI : TypeId} {rows : List Row} {base hi' k : Nat} {r : Row} (h : OwnRows w lo hi tI rows) (hr : w.ownsRow base tI 1 r.v r.xs.length (ints r.xs)) (hb : hi ≤ base) (hl : lo ≤ base) (hh : hi ≤ hi') (hs : hi' ≤ w.heap.size) (hlt : ∀ g, r.v.ownBlock = some g → g < hi') :
    OwnRows w lo hi' tI (rows.set k r) := by
  refine ⟨fun s hs' => ?_, ?_⟩
  · rcases List.mem_or_eq_of_mem_set hs' with hm | hm
    · exact (h.1 s hm).wide (Nat.le_refl _) hh hs
    · subst hm
      exact ⟨hs, owns_base hr hl, hlt⟩
  · have key : ∀ s ∈ rows, s.v.ownBlock = none ∨ (s.v.ownBlock ≠ r.v.ownBlock) := fun s hsm => by
      cases hv : s.v.ownBlock with
      | none => exact .inl rfl
      | some g =>
        refine .inr fun e => ?_
        have h1 := (h.1 s hsm).2.2 g hv
        have h2 := (hr.lt g e.symm).1
        omega
    rw [List.pairwise_iff_getElem]
    intro i j hi hj hij
    have hp := List.pairwise_iff_getElem.1 h.2 i j (by simpa using hi) (by simpa using hj) hij
    rw [List.getElem_set, List.getElem_set]
    have hi2 : i < rows.length := by simpa using hi
    have hj2 : j < rows.length := by simpa using hj
    split
    · split
      · omega
      · cases hv : r.v.ownBlock with
        | none => exact .inl rfl
        | some g =>
          refine .inr fun e => ?_
          rcases key rows[j] (List.getElem_mem _) with h1 | h1
          · rw [h1] at e; cases e
          · exact h1 (by rw [hv]; exact e.symm)
    · split
      · exact key rows[i] (List.getElem_mem _)
      · exact hp
theorem OwnRows.erase {w : World} {lo hi : Nat} {tI : TypeId} {rows : List Row} (k : Nat) (h : OwnRows w lo hi tI rows) : OwnRows w lo hi tI (rows.eraseIdx k) :=
  ⟨fun r hr => h.1 r (List.mem_of_mem_eraseIdx hr), h.2.sublist (List.eraseIdx_sublist _ _)⟩
end Go.Proofs.YtkaofcakelpnpaaGreat

namespace Go.Proofs.YtkaofcakelpnpaaGreat
set_option linter.unusedVariables false
set_option linter.unusedSimpArgs false
open Go.RowKit
end Go.Proofs.YtkaofcakelpnpaaGreat

namespace Go.Proofs.YtkaofcakelpnpaaGreat
set_option linter.unusedVariables false
set_option linter.unusedSimpArgs false
open Go.RowKit
set_option maxHeartbeats 3200000 in
theorem spec_IsWord (rank : Int) (A : Option Addr) (xs : List Int) (c : Nat) (w : World) (B : Nat) (hr : Rs w B A (ints xs)) (hok : OkI xs) (hl : xs.length ≤ 4194304) (r : Bool) (hres : r = true ↔ IsW rank xs) :
    Calls Tryz.prog 36 #[.int .i64 rank, .slice A xs.length c] w fun e w' => e = .returned (.bool r) ∧ ∃ n, w' = w.drewN n := by
  have HOK := Lib.hid hok
  have hR2 : r = true ↔ (RawTo rank xs xs.length ∧ inB rank 1 3 = true ∧ xs.length ≤ 24) := hres.trans ⟨fun h => ⟨(rawTo_all h.1 h.2.1).2 h.2.2.2, by simp [inB]; exact ⟨h.1, h.2.1⟩, h.2.2.1⟩, fun h => by
    have h13 : 1 ≤ rank ∧ rank ≤ 3 := by simpa [inB] using h.2.1
    exact ⟨h13.1, h13.2, h.2.2, (rawTo_all h13.1 h13.2).1 h.1⟩⟩
  have HR := Lib.hid hR2
  clear hok hres hR2
  obtain ⟨nr, hnr⟩ : ∃ nr, wrap64 (-rank) = nr := ⟨_, rfl⟩
  go_enter Tryz.func36, Tryz.ntmps36
  go_wp2_with fail
  go_loopw [5] (fun i wr => ∃ k : Nat, k ≤ xs.length ∧ i = .int .i64 k ∧ (∃ n, wr = w.drewN n) ∧ RawTo rank xs k) (fun i _ => xs.length - (intOf i).toNat)
  case atStart => exact ⟨0, Nat.zero_le _, rfl, ⟨0, rfl⟩, RawTo.zero _ _⟩
  case round =>
    obtain ⟨k, hk, rfl, ⟨nd, rfl⟩, hto⟩ := hrel
    have HT := Lib.hid hto
    clear hto
    by_cases hlt : k < xs.length
    · obtain ⟨b, off, x, rfl, -, hx, hc⟩ := hr.int hlt
      have HX := Lib.hid hx
      clear hx
      have hlt3 : (k : Int) < (xs.length : Int) := by omega
      have hno : ∀ (P : Prop), (RawAt rank xs k x → P) → r = true → P := fun P h hr1 => h ((HR.out.1 hr1).1 k x hlt HX.out)
      have HNO := Lib.hid hno
      clear hno
      by_cases hx0 : (x == 0) = true
      · have hf : r = false := by
          cases r with
          | false => rfl
          | true =>
            refine (HNO.out False (fun h => ?_) rfl).elim
            rw [h.1] at hx0
            cases hx0
        subst hf
        go_wp2_with fail
        go_quiet (fail)
        go_wp2_with fail
        go_ret
        exact ⟨rfl, _, by first | rfl | exact dn _ _ _⟩
      · have hx0' : (x == 0) = false := by simpa using hx0
        clear hx0
        have hC := fun n : Nat => pq (l1In_any x nr rank (w.drewN n))
        by_cases hi : inB x nr rank = false
        · have hf : r = false := by
            cases r with
            | false => rfl
            | true =>
              refine (HNO.out False (fun h => ?_) rfl).elim
              have h2 := h.2.1
              rw [hnr, hi] at h2
              cases h2
          subst hf
          rw [hi] at hC
          have HC := Lib.hid hC
          clear hC hi
          go_wp2_with fail
          go_quiet ((go_at_call 37; first | exact qz0 (HC.out _) | exact qz1 (HC.out _)))
          go_wp2_with fail
          go_ret
          exact ⟨rfl, _, by first | rfl | exact dn _ _ _⟩
        · have hi' : inB x nr rank = true := by simpa using hi
          rw [hi'] at hC
          have HC := Lib.hid hC
          have HI := Lib.hid hi'
          clear hC hi hi'
          cases k with
          | zero =>
            have hc0 : w.cell? ⟨b, off, none⟩ = some (.int .i64 x) := hc
            go_wp2_with fail
            go_quiet ((go_at_call 37; first | exact qz0 (HC.out _) | exact qz1 (HC.out _)))
            go_wp2_with fail
            go_roundw
            case rel => exact ⟨1, by omega, by go_num, ⟨_, by first | rfl | exact dn _ _ _⟩, HT.out.succ HX.out ⟨hx0', by rw [hnr]; exact HI.out, fun y h => absurd h (Nat.lt_irrefl 0)⟩⟩
            case measure => simp [intOf]; omega
          | succ m =>
            obtain ⟨b', off', y, he, -, hy, hcy⟩ := hr.int (show m < xs.length by omega)
            injection he with he
            injection he with he1 he2 _
            subst he1 he2
            have HY := Lib.hid hy
            clear hy
            have hlm3 : (m : Int) < (xs.length : Int) := by omega
            have hm0 : (0 : Int) < (m : Int) + 1 := by omega
            have hp1 : (m : Int) + 1 - 1 = (m : Int) := by omega
            obtain ⟨ny, hny⟩ : ∃ ny, wrap64 (-y) = ny := ⟨_, rfl⟩
            by_cases hxy : (x == ny) = true
            · have hf : r = false := by
                cases r with
                | false => rfl
                | true =>
                  refine (HNO.out False (fun h => ?_) rfl).elim
                  have h2 := h.2.2 y (Nat.succ_pos m) HY.out
                  rw [hny, hxy] at h2
                  cases h2
              subst hf
              go_wp2_with fail
              go_quiet ((go_at_call 37; first | exact qz0 (HC.out _) | exact qz1 (HC.out _)))
              go_wp2_with fail
              go_ret
              exact ⟨rfl, _, by first | rfl | exact dn _ _ _⟩
            · have hxy' : (x == ny) = false := by simpa using hxy
              clear hxy
              go_wp2_with fail
              go_quiet ((go_at_call 37; first | exact qz0 (HC.out _) | exact qz1 (HC.out _)))
              go_wp2_with fail
              go_roundw
              case rel =>
                refine ⟨m + 1 + 1, by omega, by go_num, ⟨_, by first | rfl | exact dn _ _ _⟩, HT.out.succ HX.out ⟨hx0', by rw [hnr]; exact HI.out, fun z _ hz => ?_⟩⟩
                rw [Nat.add_sub_cancel, HY.out] at hz
                obtain rfl := Option.some.inj hz
                rw [hny]
                exact hxy'
              case measure => simp [intOf]; omega
    · obtain rfl : k = xs.length := by omega
      have hrv : r = (inB rank 1 3 && decide ((xs.length : Int) ≤ 24)) := by
        rw [Bool.eq_iff_iff, HR.out]
        simp only [Bool.and_eq_true, decide_eq_true_eq]
        exact ⟨fun h => ⟨h.2.1, by omega⟩, fun h => ⟨HT.out, h.1, by omega⟩⟩
      by_cases hib : inB rank 1 3 = false
      · rw [hib] at hrv
        have HI := Lib.hid hib
        clear hib
        simp only [Bool.false_and] at hrv
        subst hrv
        go_wp2_with fail
        refine (l1In_any _ _ _ _).mono ?_
        rintro e w' ⟨rfl, rfl⟩
        rw [HI.out]
        go_wp2_with fail
        go_ret
        exact ⟨rfl, _, rfl⟩
      · have hib' : inB rank 1 3 = true := by simpa using hib
        rw [hib'] at hrv
        have HI := Lib.hid hib'
        simp only [Bool.true_and] at hrv
        clear hib hib'
        subst hrv
        go_wp2_with fail
        refine (l1In_any _ _ _ _).mono ?_
        rintro e w' ⟨rfl, rfl⟩
        rw [HI.out]
        go_wp2_with fail
        go_ret
        exact ⟨rfl, _, rfl⟩
end Go.Proofs.YtkaofcakelpnpaaGreat

namespace Go.Proofs.YtkaofcakelpnpaaGreat
set_option linter.unusedVariables false
set_option linter.unusedSimpArgs false
open Go.RowKit
def IsMor (rk : Int) (d : List (List Int)) : Prop := 1 ≤ rk ∧ rk ≤ 3 ∧ (d.length : Int) = rk ∧ ∀ xs ∈ d, IsW rk xs
def WordsTo (rk : Int) (d : List (List Int)) (k : Nat) : Prop := ∀ j xs, j < k → d[j]? = some xs → IsW rk xs
theorem WordsTo.zero (rk : Int) (d : List (List Int)) : WordsTo rk d 0 := fun j x h => absurd h (Nat.not_lt_zero j)
theorem WordsTo.succ {rk : Int} {d : List (List Int)} {k : Nat} {x : List Int} (h : WordsTo rk d k) (hx : d[k]? = some x) (hl : IsW rk x) : WordsTo rk d (k + 1) := by
  intro j z hj hz
  rcases Nat.lt_or_eq_of_le (Nat.le_of_lt_succ hj) with h1 | rfl
  · exact h j z h1 hz
  · rw [hx] at hz
    obtain rfl := Option.some.inj hz
    exact hl
theorem wordsTo_all {rk : Int} {d : List (List Int)} : WordsTo rk d d.length ↔ ∀ xs ∈ d, IsW rk xs := by
  constructor
  · intro h x hx
    obtain ⟨j, hj⟩ := List.mem_iff_getElem?.1 hx
    exact h j x (List.getElem?_eq_some_iff.1 hj).1 hj
  · exact fun h j x _ hx => h x (List.mem_of_getElem? hx)
theorem bool_ofR (p : Prop) : ∃ r : Bool, r = true ↔ p := by
  by_cases h : p
  · exact ⟨true, by simp [h]⟩
  · exact ⟨false, by simp [h]⟩
theorem row_le {d : List (List Int)} {xs : List Int} (h : xs ∈ d) (hl : d.length + sumL d ≤ 1048576) : xs.length ≤ 4194304 := by
  have := len_le_sumL h
  omega
set_option maxHeartbeats 3200000 in
theorem spec_IsMorphism (rk : Int) (A : Option Addr) (d : List (List Int)) (c : Nat) (w : World) (lo hi : Nat) (hr : RSS w lo hi A d) (hok : OkSS d) (hl : d.length + sumL d ≤ 1048576) (r : Bool) (hres : r = true ↔ IsMor rk d) :
    Calls Tryz.prog 17 #[.agg #[.int .i64 rk, .slice A d.length c]] w (Stp (.bool r) w) := by
  have HOK := Lib.hid hok
  have HR := Lib.hid hres
  clear hok hres
  have hb0 : Mid 0 0 w (w.alloc (.cells #[.int .i64 rk, .slice A d.length c] 35)) := Mid.alloc _ _
  have hbx := Box.new w #[.int .i64 rk, .slice A d.length c] 35
  have hrb := hr.mid hb0 oZl
  go_enter Tryz.func17, Tryz.ntmps17
  go_wp2_with fail
  obtain ⟨wb, hwb⟩ : ∃ wb, wb = w.alloc (.cells #[.int .i64 rk, .slice A d.length c] 35) := ⟨_, rfl⟩
  rw [← hwb] at hb0 hbx hrb ⊢
  clear hwb hr
  have k0 := hbx.cell 0 rfl
  have k1 := hbx.cell 1 rfl
  go_loopw [3] (fun i wr => ∃ k : Nat, k ≤ d.length ∧ i = .int .i64 k ∧ (∃ n, wr = wb.drewN n) ∧ WordsTo rk d k) (fun i _ => d.length - (intOf i).toNat)
  case atStart => exact ⟨0, Nat.zero_le _, rfl, ⟨0, rfl⟩, WordsTo.zero _ _⟩
  case round =>
    obtain ⟨k, hk, rfl, ⟨nd, rfl⟩, hto⟩ := hrel
    have HT := Lib.hid hto
    clear hto
    by_cases hlt : k < d.length
    · obtain ⟨b, off, A', c', xs, rfl, -, -, hx, hc, hrx⟩ := hrb.row hlt
      have hm := List.mem_of_getElem? hx
      have hlx := row_le hm hl
      have hox := HOK.out.2 xs hm
      have HX := Lib.hid hx
      have HM := Lib.hid hm
      clear hx hm
      obtain ⟨v, hv⟩ := bool_ofR (IsW rk xs)
      have hC := fun n : Nat => spec_IsWord rk A' xs c' (wb.drewN n) _ (hrx.rs.drewN n) hox hlx v hv
      have HV := Lib.hid hv
      have HC := Lib.hid hC
      have HO := Lib.hid hox
      clear hC hv hox hrx
      have hlt3 : (k : Int) < (d.length : Int) := by omega
      cases v with
      | false =>
        have hf : r = false := by
          cases r with
          | false => rfl
          | true =>
            have := HV.out.2 ((HR.out.1 rfl).2.2.2 xs HM.out)
            cases this
        subst hf
        go_wp2_with fail
        go_quiet ((go_at_call 36; first | exact qz0 (HC.out _) | exact qz1 (HC.out _)))
        go_wp2_with fail
        go_ret
        exact ⟨rfl, (hb0.drewN nd).drewN _⟩
      | true =>
        have hw := HV.out.1 rfl
        have HW := Lib.hid hw
        clear hw HV
        go_wp2_with fail
        go_quiet ((go_at_call 36; first | exact qz0 (HC.out _) | exact qz1 (HC.out _)))
        go_wp2_with fail
        go_roundw
        case rel => exact ⟨k + 1, by omega, by go_num, ⟨_, by first | rfl | exact dn _ _ _⟩, HT.out.succ HX.out HW.out⟩
        case measure => simp [intOf]; omega
    · obtain rfl : k = d.length := by omega
      have hrv : r = (inB rk 1 3 && ((d.length : Int) == rk)) := by
        rw [Bool.eq_iff_iff, HR.out]
        simp only [Bool.and_eq_true, beq_iff_eq, inB, decide_eq_true_eq]
        exact ⟨fun h => ⟨⟨h.1, h.2.1⟩, h.2.2.1⟩, fun h => ⟨h.1.1, h.1.2, h.2, wordsTo_all.1 HT.out⟩⟩
      by_cases hib : inB rk 1 3 = false
      · rw [hib] at hrv
        have HI := Lib.hid hib
        clear hib
        simp only [Bool.false_and] at hrv
        subst hrv
        go_wp2_with fail
        refine (l1In_any _ _ _ _).mono ?_
        rintro e w' ⟨rfl, rfl⟩
        rw [HI.out]
        go_wp2_with fail
        go_ret
        exact ⟨rfl, hb0.drewN _⟩
      · have hib' : inB rk 1 3 = true := by simpa using hib
        rw [hib'] at hrv
        have HI := Lib.hid hib'
        simp only [Bool.true_and] at hrv
        clear hib hib'
        cases r with
        | true =>
          have hq : ((d.length : Int) == rk) = true := hrv.symm
          clear hrv
          go_wp2_with fail
          refine (l1In_any _ _ _ _).mono ?_
          rintro e w' ⟨rfl, rfl⟩
          rw [HI.out]
          go_wp2_with fail
          go_ret
          exact ⟨rfl, hb0.drewN _⟩
        | false =>
          have hq : ((d.length : Int) == rk) = false := hrv.symm
          clear hrv
          go_wp2_with fail
          refine (l1In_any _ _ _ _).mono ?_
          rintro e w' ⟨rfl, rfl⟩
          rw [HI.out]
          go_wp2_with fail
          go_ret
          exact ⟨rfl, hb0.drewN _⟩
set_option maxHeartbeats 3200000 in
theorem impl_IsMorphism (rk : Int) (A : Option Addr) (d : List (List Int)) (c : Nat) (w : World) (lo hi : Nat) (hr : RSS w lo hi A d) (hok : OkSS d) (hl : d.length + sumL d ≤ 1048576) (r : Bool) (hres : r = true ↔ IsMor rk d) :
    Calls Tryz.prog 24 #[.agg #[.int .i64 rk, .slice A d.length c]] w (Stp (.bool r) w) := by
  have HOK := Lib.hid hok
  have HR := Lib.hid hres
  clear hok hres
  have hb0 : Mid 0 0 w (w.alloc (.cells #[.int .i64 rk, .slice A d.length c] 35)) := Mid.alloc _ _
  have hbx := Box.new w #[.int .i64 rk, .slice A d.length c] 35
  have hrb := hr.mid hb0 oZl
  clear hr
  by_cases hib : inB rk 1 3 = false
  · have hf : r = false := by
      cases r with
      | false => rfl
      | true =>
        have h := HR.out.1 rfl
        simp [inB] at hib
        have := h.1
        have := h.2.1
        omega
    subst hf
    have HI := Lib.hid hib
    clear hib
    go_enter Tryz.func24, Tryz.ntmps24
    go_wp2_with fail
    refine (within_any _ _ _ _).mono ?_
    rintro e w' ⟨rfl, rfl⟩
    rw [HI.out]
    go_wp2_with fail
    go_ret
    exact ⟨rfl, hb0⟩
  · have hib' : inB rk 1 3 = true := by simpa using hib
    have HI := Lib.hid hib'
    clear hib hib'
    by_cases hq : ((d.length : Int) != rk) = true
    · have hf : r = false := by
        cases r with
        | false => rfl
        | true =>
          have h := HR.out.1 rfl
          simp at hq
          exact absurd h.2.2.1 hq
      subst hf
      go_enter Tryz.func24, Tryz.ntmps24
      go_wp2_with fail
      refine (within_any _ _ _ _).mono ?_
      rintro e w' ⟨rfl, rfl⟩
      rw [HI.out]
      go_wp2_with fail
      go_ret
      exact ⟨rfl, hb0⟩
    · have hq' : ((d.length : Int) != rk) = false := by simpa using hq
      have hrv : r = true ↔ WordsTo rk d d.length := HR.out.trans ⟨fun h => wordsTo_all.2 h.2.2.2, fun h => by
        have h13 : 1 ≤ rk ∧ rk ≤ 3 := by simpa [inB] using HI.out
        exact ⟨h13.1, h13.2, by simpa using hq', wordsTo_all.1 h⟩⟩
      have HR2 := Lib.hid hrv
      clear hrv HR hq
      go_enter Tryz.func24, Tryz.ntmps24
      go_wp2_with fail
      refine (within_any _ _ _ _).mono ?_
      rintro e w' ⟨rfl, rfl⟩
      rw [HI.out]
      go_wp2_with fail
      obtain ⟨wb, hwb⟩ : ∃ wb, wb = w.alloc (.cells #[.int .i64 rk, .slice A d.length c] 35) := ⟨_, rfl⟩
      rw [← hwb] at hb0 hbx hrb ⊢
      clear hwb
      have k0 := hbx.cell 0 rfl
      have k1 := hbx.cell 1 rfl
      go_loop [4, 20] (fun _ i => ∃ k : Nat, k ≤ d.length ∧ i = .int .i64 k ∧ WordsTo rk d k) (fun _ i => d.length - (intOf i).toNat)
      case atStart => exact ⟨0, Nat.zero_le _, rfl, WordsTo.zero _ _⟩
      case round =>
        obtain ⟨k, hk, rfl, hto⟩ := hrel
        have HT := Lib.hid hto
        clear hto
        by_cases hlt : k < d.length
        · obtain ⟨b, off, A', c', xs, rfl, -, -, hx, hc, hrx⟩ := hrb.row hlt
          have hm := List.mem_of_getElem? hx
          have hlx := row_le hm hl
          have hox := HOK.out.2 xs hm
          have HX := Lib.hid hx
          have HM := Lib.hid hm
          clear hx hm
          obtain ⟨v, hv⟩ := bool_ofR (IsW rk xs)
          have HV := Lib.hid hv
          have HO := Lib.hid hox
          clear hv hox
          cases v with
          | false =>
            have hf : r = false := by
              cases r with
              | false => rfl
              | true =>
                have := HV.out.2 (HR2.out.1 rfl k xs hlt HX.out)
                cases this
            subst hf
            go_wp2_with fail
            refine (impl_IsWord rk A' xs c' _ _ hrx.rs HO.out hlx _ HV.out).mono ?_
            rintro e w' ⟨rfl, rfl⟩
            go_wp2_with fail
            go_ret
            exact ⟨rfl, hb0⟩
          | true =>
            have hw := HV.out.1 rfl
            have HW := Lib.hid hw
            clear hw HV
            go_wp2_with fail
            refine (impl_IsWord rk A' xs c' _ _ hrx.rs HO.out hlx true (iff_of_true rfl HW.out)).mono ?_
            rintro e w' ⟨rfl, rfl⟩
            go_wp2_with fail
            go_round
            case rel => exact ⟨k + 1, by omega, by go_num, HT.out.succ HX.out HW.out⟩
            case measure => simp [intOf]; omega
        · obtain rfl : k = d.length := by omega
          obtain rfl : r = true := HR2.out.2 HT.out
          go_wp2_with fail
          go_ret
          exact ⟨rfl, hb0⟩
def IsMorphismIs (r : Int) (d : List (List Int)) (res : Bool) : Prop := res = true ↔ IsMor r d
end Go.Proofs.YtkaofcakelpnpaaGreat

namespace Go.Proofs.YtkaofcakelpnpaaGreat
set_option linter.unusedVariables false
set_option linter.unusedSimpArgs false
open Go.RowKit
def PrOut (w wr : World) (v : Value) (out : List Int) : Prop := wr.ownsRow w.heap.size 3 1 v out.length (ints out) ∧ Below w.heap.size w wr
set_option maxHeartbeats 3200000 in
theorem impl_product (A : Option Addr) (d : List (List Int)) (c : Nat) (w : World) (lo hi : Nat) (hr : RSS w lo hi A d) (hok : ∀ xs ∈ d, OkI xs) (hl : d.length ≤ 4194304) (hs : sumL d ≤ 268435456) :
    Calls Tryz.prog 56 #[.slice A d.length c] w fun e w' => RetI 3 (red [] d.flatten) w e w' := by
  have HOK := Lib.hid hok
  clear hok
  have hb0 := (Below.refl w.heap.size w).alloc (Nat.le_refl _) (.cells #[] 3)
  have ho0 := owns_empty w 3 1
  go_enter Tryz.func56, Tryz.ntmps56
  go_wp2_with fail
  go_loopw [3, 5, 7, 11] (fun v _ _ i wr => ∃ k : Nat, k ≤ d.length ∧ i = .int .i64 k ∧ PrOut w wr v (red [] (d.take k).flatten)) (fun _ _ _ i _ => d.length - (intOf i).toNat)
  case atStart => exact ⟨0, Nat.zero_le _, rfl, by simpa [red, ints] using ho0, hb0⟩
  case round =>
    obtain ⟨k, hk, rfl, hown, hb⟩ := hrel
    by_cases hlt : k < d.length
    · obtain ⟨b, off, A', c', xs, rfl, -, hbh, hx, hc, hrx⟩ := hr.row hlt
      have hhi := hr.size
      have hcw : wr.cell? ⟨b, off + k, none⟩ = some (.slice A' xs.length c') := (hb.cell (by simp; omega)).trans hc
      have hm := List.mem_of_getElem? hx
      have hox := HOK.out xs hm
      have hlx := len_le_sumL hm
      have hlx1 : xs.length ≤ 268435456 := by omega
      obtain ⟨out0, hout0⟩ : ∃ o, o = red [] (d.take k).flatten := ⟨_, rfl⟩
      have hstep := red_flatten_step d hx
      rw [← hout0] at hown hstep
      have hok0 : OkI out0 := by
        rw [hout0]
        exact red_ok (okI_flatten fun ys hy => HOK.out ys (List.mem_of_mem_take hy))
      have hl0 : out0.length + xs.length ≤ 268435456 := by
        have h1 := red_nil_len (d.take k).flatten
        rw [← hout0, sumL_flatten] at h1
        have h2 := sumL_take_succ hx
        have h3 := sumL_take_le d (k + 1)
        omega
      have HX := Lib.hid hx
      have HS := Lib.hid hstep
      have HO0 := Lib.hid hok0
      have HOX := Lib.hid hox
      clear hx hm hox hout0 hstep hok0 hlx
      go_wp2_with fail
      go_loopw [3, 7, 17] (fun v _ j wr2 => ∃ l : Nat, l ≤ xs.length ∧ j = .int .i64 l ∧ PrOut w wr2 v (red out0 (xs.take l))) (fun _ _ j _ => xs.length - (intOf j).toNat)
      case atStart => exact ⟨0, Nat.zero_le _, rfl, hown, hb⟩
      case round =>
        clear hown hb hcw
        obtain ⟨l, hlk, rfl, hown, hb⟩ := hrel
        have hsz := hb.size
        by_cases hl2 : l < xs.length
        · obtain ⟨b', off', x, rfl, -, hxx, hcx⟩ := ((hrx.rs.more hhi).below hb).int hl2
          have hst := red_step xs hxx out0
          have hbx := HOX.out x (List.mem_of_getElem? hxx)
          have hlen := red_len out0 (xs.take l)
          rw [List.length_take] at hlen
          obtain ⟨out1, ho1⟩ : ∃ o, o = red out0 (xs.take l) := ⟨_, rfl⟩
          rw [← ho1] at hown hst hlen
          have hok1 : OkI out1 := fun y hy => by
            rw [ho1] at hy
            rcases red_mem hy with h1 | h1
            · exact HO0.out y h1
            · exact HOX.out y (List.mem_of_mem_take h1)
          clear ho1 hxx
          have HST := Lib.hid hst
          have HBX := Lib.hid hbx
          clear hst hbx
          rcases Nat.eq_zero_or_pos out1.length with he | hp
          · obtain rfl := List.eq_nil_of_length_eq_zero he
            clear he hok1 hlen
            obtain ⟨A1, c1, rfl, -, -⟩ := owns_shape hown
            go_wp2_with (at_builtin; refine wpList_push rfl _ _ 48 rfl w.heap.size 3 (.int .i64 0) 1 8 undSI infoI rfl (by decide) _ _ _ rfl hown 1 [.int .i64 x] rfl rfl (one_of_ints [x]) (by unfold maxLen; simp) (by simp) hsz ?n1)
            case n1 =>
              intro v' w1 hown1 hgr _
              go_wp2_with fail
              go_roundw
              case rel =>
                refine ⟨l + 1, by omega, by go_num, ?_, hb.grown hgr hsz (fun g hg => (hown.lt g hg).1)⟩
                rw [HST.out, redStep_empty]
                exact hown1
              case measure => simp [intOf]; omega
          · obtain ⟨ys, a, rfl⟩ := eq_concat out1 hp
            have hba := hok1 a (by simp)
            rw [List.length_append] at hown hlen
            simp only [List.length_cons, List.length_nil, Nat.zero_add] at hown hlen
            clear hp hok1
            obtain ⟨A1, c1, rfl, hnc, -⟩ := owns_shape hown
            obtain ⟨g, rfl, -, -⟩ := owns_addr hown (Nat.succ_pos _)
            have hca : wr.cell? ⟨g, ys.length, none⟩ = some (.int .i64 a) := by
              rw [hown.cellAt ys.length (by omega)]
              simp [ints]
            have HA := Lib.hid hba
            obtain ⟨ha1, ha2⟩ := hba
            by_cases hI : invB a x = true
            · have HI := Lib.hid hI
              clear hI
              have hys : ys.length ≤ c1 := by omega
              go_wp2_with fail
              refine (impl_areInverse _ _ _ ha1 ha2).mono ?_
              rintro e w' ⟨rfl, rfl⟩
              rw [HI.out]
              go_wp2_with fail
              go_roundw
              case rel =>
                refine ⟨l + 1, by omega, by go_num, ?_, hb⟩
                rw [HST.out, redStep_pop HI.out]
                have h1 := owns_cut hown (Nat.le_succ ys.length)
                rw [Nat.mul_one, ints_append, List.take_left' (ints_len ys)] at h1
                exact h1
              case measure => simp [intOf]; omega
            · have hI' : invB a x = false := by simpa using hI
              have HI := Lib.hid hI'
              clear hI hI'
              go_wp2_with fail
              refine (impl_areInverse _ _ _ ha1 ha2).mono ?_
              rintro e w' ⟨rfl, rfl⟩
              rw [HI.out]
              go_wp2_with (at_builtin; refine wpList_push rfl _ _ 48 rfl w.heap.size 3 (.int .i64 0) 1 8 undSI infoI rfl (by decide) _ _ _ rfl hown 1 [.int .i64 x] rfl rfl (one_of_ints [x]) (by unfold maxLen; omega) (by omega) hsz ?n2)
              case n2 =>
                intro v' w1 hown1 hgr _
                go_wp2_with fail
                go_roundw
                case rel =>
                  refine ⟨l + 1, by omega, by go_num, ?_, hb.grown hgr hsz (fun g hg => (hown.lt g hg).1)⟩
                  rw [HST.out, redStep_push HI.out, ints_append, List.length_append, List.length_append]
                  exact hown1
                case measure => simp [intOf]; omega
        · obtain rfl : l = xs.length := by omega
          rw [List.take_length] at hown
          go_wp2_with fail
          go_roundw
          case rel =>
            refine ⟨k + 1, by omega, by go_num, ?_, hb⟩
            rw [HS.out]
            exact hown
          case measure => simp [intOf]; omega
    · obtain rfl : k = d.length := by omega
      rw [List.take_length] at hown
      go_wp2_with fail
      go_ret
      exact RetI.mk rfl hown hb
end Go.Proofs.YtkaofcakelpnpaaGreat

namespace Go.Proofs.YtkaofcakelpnpaaGreat
set_option linter.unusedVariables false
set_option linter.unusedSimpArgs false
open Go.RowKit
theorem invB_spec {a x : Int} (ha : -9223372036854775808 ≤ a ∧ a ≤ 9223372036854775807) (hx : -9223372036854775808 ≤ x ∧ x ≤ 9223372036854775807) :
    invB a x = true ↔ (x ≠ 0 ∧ a = wrap64 (-x) ∧ a ≠ x) := by
  rw [invB_iff, wrap_neg hx.1 hx.2]
  unfold negI minI
  split <;> omega
def RdOut (w wr : World) (v : Value) (out : List Int) : Prop := wr.ownsRow w.heap.size 3 1 v out.length (ints out) ∧ Below w.heap.size w wr
set_option maxHeartbeats 6400000 in
theorem spec_ReduceLetters (A : Option Addr) (xs : List Int) (c : Nat) (w : World) (B : Nat) (hr : Rs w B A (ints xs)) (hB : B ≤ w.heap.size) (hok : OkI xs) (hl : xs.length ≤ 268435456) :
    Calls Tryz.prog 42 #[.slice A xs.length c] w fun e w' => RetI 3 (red [] xs) w e w' := by
  have HOK := Lib.hid hok
  clear hok
  have hb0 := (Below.refl w.heap.size w).alloc (Nat.le_refl _) (.cells #[] 3)
  have ho0 := owns_empty w 3 1
  go_enter Tryz.func42, Tryz.ntmps42
  go_wp2_with fail
  go_loopw [3, 4, 5] (fun v i _ wr => ∃ k : Nat, k ≤ xs.length ∧ i = .int .i64 k ∧ RdOut w wr v (red [] (xs.take k))) (fun _ i _ _ => xs.length - (intOf i).toNat)
  case atStart => exact ⟨0, Nat.zero_le _, rfl, ho0, hb0⟩
  case round =>
    obtain ⟨k, hk, rfl, hown, hb⟩ := hrel
    have hsz := hb.size
    by_cases hlt : k < xs.length
    · obtain ⟨b, off, x, rfl, -, hxx, hc⟩ := ((hr.more hB).below hb).int hlt
      have hlt3 : (k : Int) < (xs.length : Int) := by omega
      have hst := red_step xs hxx []
      have hbx := HOK.out x (List.mem_of_getElem? hxx)
      have hlen := red_len [] (xs.take k)
      rw [List.length_take, List.length_nil, Nat.zero_add] at hlen
      have hok1 : OkI (red [] (xs.take k)) := red_ok fun y hy => HOK.out y (List.mem_of_mem_take hy)
      obtain ⟨out1, ho1⟩ : ∃ o, o = red [] (xs.take k) := ⟨_, rfl⟩
      rw [← ho1] at hown hst hlen hok1
      have HBX := Lib.hid hbx
      have HST := Lib.hid hst
      clear ho1 hxx hbx hst
      rcases Nat.eq_zero_or_pos out1.length with he | hp
      · obtain rfl := List.eq_nil_of_length_eq_zero he
        clear he hok1 hlen
        obtain ⟨A1, c1, rfl, -, -⟩ := owns_shape hown
        go_wp2_with fail
        go_quiet (fail)
        go_wp2_with (at_builtin; refine wpList_push rfl _ _ 48 rfl w.heap.size 3 (.int .i64 0) 1 8 undSI infoI rfl (by decide) _ _ _ rfl (owns_drewN hown _) 1 [.int .i64 x] rfl rfl (one_of_ints [x]) (by unfold maxLen; simp) (by simp) hsz ?n1)
        case n1 =>
          intro v' w1 hown1 hgr _
          go_wp2_with fail
          go_roundw
          case rel =>
            refine ⟨k + 1, by omega, by go_num, ?_, hb.grown (owns_row hgr) hsz (fun g hg => (hown.lt g hg).1)⟩
            rw [HST.out, redStep_empty]
            exact hown1
          case measure => simp [intOf]; omega
      · obtain ⟨ys, a, rfl⟩ := eq_concat out1 hp
        have hba := hok1 a (by simp)
        rw [List.length_append] at hown hlen
        simp only [List.length_cons, List.length_nil, Nat.zero_add] at hown hlen
        clear hp hok1
        obtain ⟨A1, c1, rfl, hnc, -⟩ := owns_shape hown
        obtain ⟨g, rfl, -, -⟩ := owns_addr hown (Nat.succ_pos _)
        have hca : wr.cell? ⟨g, ys.length, none⟩ = some (.int .i64 a) := by
          rw [hown.cellAt ys.length (by omega)]
          simp [ints]
        have hiff := invB_spec hba HBX.out
        have HI := Lib.hid hiff
        clear hba hiff
        obtain ⟨nx, hnx⟩ : ∃ nx, wrap64 (-x) = nx := ⟨_, rfl⟩
        have hp0 : (0 : Int) < (ys.length : Int) + 1 := by omega
        have hp1 : (ys.length : Int) + 1 - 1 = (ys.length : Int) := by omega
        have hys : ys.length ≤ c1 := by omega
        by_cases hpop : invB a x = true
        · obtain ⟨h1, h2, h3⟩ := HI.out.1 hpop
          have hx0 : (x != 0) = true := by simpa using h1
          have hanx : (a == nx) = true := by rw [← hnx]; simpa using h2
          have hax : (a != x) = true := by simpa using h3
          have HP := Lib.hid hpop
          clear h1 h2 h3 hpop
          go_wp2_with fail
          go_quiet (fail)
          go_wp2_with fail
          go_roundw
          case rel =>
            refine ⟨k + 1, by omega, by go_num, ?_, by first | exact below_drewN hb _ | exact hb⟩
            rw [HST.out, redStep_pop HP.out]
            have h1 := owns_cut hown (Nat.le_succ ys.length)
            rw [Nat.mul_one, ints_append, List.take_left' (ints_len ys)] at h1
            exact owns_drewN h1 _
          case measure => simp [intOf]; omega
        · have hpf : invB a x = false := by simpa using hpop
          have HP := Lib.hid hpf
          have hcases : (x != 0) = false ∨ ((x != 0) = true ∧ (a == nx) = false) ∨ ((x != 0) = true ∧ (a == nx) = true ∧ (a != x) = false) := by
            rw [← hnx]
            by_cases h1 : x = 0
            · left; simpa using h1
            · by_cases h2 : a = wrap64 (-x)
              · right; right
                refine ⟨by simpa using h1, by simpa using h2, ?_⟩
                cases hv : (a != x) with
                | false => rfl
                | true => exact absurd (HI.out.2 ⟨h1, h2, by simpa using hv⟩) hpop
              · right; left
                exact ⟨by simpa using h1, by simpa using h2⟩
          clear hpop hpf
          rcases hcases with h1 | ⟨h1, h2⟩ | ⟨h1, h2, h3⟩
          · go_wp2_with fail
            go_quiet (fail)
            go_wp2_with (at_builtin; refine wpList_push rfl _ _ 48 rfl w.heap.size 3 (.int .i64 0) 1 8 undSI infoI rfl (by decide) _ _ _ rfl (owns_drewN hown _) 1 [.int .i64 x] rfl rfl (one_of_ints [x]) (by unfold maxLen; omega) (by omega) hsz ?n2)
            case n2 =>
              intro v' w1 hown1 hgr _
              go_wp2_with fail
              go_roundw
              case rel =>
                refine ⟨k + 1, by omega, by go_num, ?_, hb.grown (owns_row hgr) hsz (fun g hg => (hown.lt g hg).1)⟩
                rw [HST.out, redStep_push HP.out, ints_append, List.length_append, List.length_append]
                exact hown1
              case measure => simp [intOf]; omega
          · go_wp2_with fail
            go_quiet (fail)
            go_wp2_with (at_builtin; refine wpList_push rfl _ _ 48 rfl w.heap.size 3 (.int .i64 0) 1 8 undSI infoI rfl (by decide) _ _ _ rfl (owns_drewN hown _) 1 [.int .i64 x] rfl rfl (one_of_ints [x]) (by unfold maxLen; omega) (by omega) hsz ?n3)
            case n3 =>
              intro v' w1 hown1 hgr _
              go_wp2_with fail
              go_roundw
              case rel =>
                refine ⟨k + 1, by omega, by go_num, ?_, hb.grown (owns_row hgr) hsz (fun g hg => (hown.lt g hg).1)⟩
                rw [HST.out, redStep_push HP.out, ints_append, List.length_append, List.length_append]
                exact hown1
              case measure => simp [intOf]; omega
          · go_wp2_with fail
            go_quiet (fail)
            go_wp2_with (at_builtin; refine wpList_push rfl _ _ 48 rfl w.heap.size 3 (.int .i64 0) 1 8 undSI infoI rfl (by decide) _ _ _ rfl (owns_drewN hown _) 1 [.int .i64 x] rfl rfl (one_of_ints [x]) (by unfold maxLen; omega) (by omega) hsz ?n4)
            case n4 =>
              intro v' w1 hown1 hgr _
              go_wp2_with fail
              go_roundw
              case rel =>
                refine ⟨k + 1, by omega, by go_num, ?_, hb.grown (owns_row hgr) hsz (fun g hg => (hown.lt g hg).1)⟩
                rw [HST.out, redStep_push HP.out, ints_append, List.length_append, List.length_append]
                exact hown1
              case measure => simp [intOf]; omega
    · obtain rfl : k = xs.length := by omega
      rw [List.take_length] at hown
      have hlr := red_nil_len xs
      obtain ⟨out, hout⟩ : ∃ o, o = red [] xs := ⟨_, rfl⟩
      rw [← hout] at hown hlr
      have HO := Lib.hid hout
      clear hout
      obtain ⟨A1, c1, rfl, hnc, -⟩ := owns_shape hown
      have ho2 := owns_empty wr 3 1
      have ho2' : (wr.alloc (.cells #[] 3)).ownsRow w.heap.size 3 1 (.slice (some ⟨wr.heap.size, 0, none⟩) 0 0) 0 [] := owns_base ho2 hsz
      have hra : Rs (wr.alloc (.cells #[] 3)) wr.heap.size A1 (ints out) := (Rs.of_own hown).alloc (Nat.le_refl _) _
      have hla : (ints out).length = out.length * 1 := by rw [ints_len]; omega
      go_wp2_with (at_builtin; refine wpList_cat rfl _ _ 48 rfl w.heap.size 3 (.int .i64 0) 1 8 undSI infoI rfl (by decide) _ _ _ rfl ho2' A1 out.length c1 wr.heap.size (ints out) rfl hra hla (one_of_ints _) ?c2 ?c3 (by simp; omega) ?next)
      case c2 => unfold maxLen; omega
      case c3 => omega
      case next =>
        intro v1 w1 hown1 hgr1 _
        have hb1 : Below w.heap.size w w1 := (hb.grown (World.grownBy_alloc wr _ none) hsz (by intro g h; cases h)).grown hgr1 (by simp; omega) (fun g hg => (ho2'.lt g hg).1)
        go_wp2_with fail
        go_ret
        rw [← HO.out]
        exact RetI.mk rfl (by simpa using hown1) hb1
end Go.Proofs.YtkaofcakelpnpaaGreat

namespace Go.Proofs.YtkaofcakelpnpaaGreat
set_option linter.unusedVariables false
set_option linter.unusedSimpArgs false
open Go.RowKit
def pieceB (d : List (List Int)) (k : Int) : List Int := if 1 ≤ k ∧ k ≤ d.length then d.getD (k - 1).toNat [] else if -(d.length : Int) ≤ k ∧ k ≤ -1 then invW (d.getD (-k - 1).toNat []) else []
def pieces (d : List (List Int)) (l : List Int) : List (List Int) := l.map (pieceB d)
def expand (d : List (List Int)) (l : List Int) : List Int := red [] (pieces d (l.take 200)).flatten
theorem pieceB_pos {d : List (List Int)} {m : Nat} {xs : List Int} (h : d[m]? = some xs) : pieceB d ((m : Int) + 1) = xs := by
  have hm := (List.getElem?_eq_some_iff.1 h).1
  unfold pieceB
  rw [if_pos (by omega), show ((m : Int) + 1 - 1).toNat = m from by omega, List.getD_eq_getElem?_getD, h]
  rfl
theorem pieceB_neg {d : List (List Int)} {m : Nat} {xs : List Int} (h : d[m]? = some xs) : pieceB d (-((m : Int) + 1)) = invW xs := by
  have hm := (List.getElem?_eq_some_iff.1 h).1
  unfold pieceB
  rw [if_neg (by omega), if_pos (by omega), show (- -((m : Int) + 1) - 1).toNat = m from by omega, List.getD_eq_getElem?_getD, h]
  rfl
theorem pieceB_else {d : List (List Int)} {k : Int} (h1 : ¬ (1 ≤ k ∧ k ≤ d.length)) (h2 : ¬ (-(d.length : Int) ≤ k ∧ k ≤ -1)) : pieceB d k = [] := by
  unfold pieceB
  rw [if_neg h1, if_neg h2]
theorem getD_mem {d : List (List Int)} {m : Nat} : d.getD m [] = [] ∨ d.getD m [] ∈ d := by
  rw [List.getD_eq_getElem?_getD]
  cases h : d[m]? with
  | none => left; rfl
  | some xs => right; exact List.mem_of_getElem? h
theorem pieceB_props {d : List (List Int)} {b : Nat} (hb : ∀ xs ∈ d, xs.length ≤ b) (ho : ∀ xs ∈ d, OkI xs) (k : Int) : (pieceB d k).length ≤ b ∧ OkI (pieceB d k) := by
  have hn : OkI ([] : List Int) := fun x hx => by simp at hx
  have key : ∀ m : Nat, (d.getD m []).length ≤ b ∧ OkI (d.getD m []) := fun m => by
    rcases getD_mem (d := d) (m := m) with h | h
    · rw [h]; exact ⟨Nat.zero_le _, hn⟩
    · exact ⟨hb _ h, ho _ h⟩
  unfold pieceB
  split
  · exact key _
  · split
    · rw [invW_len]; exact ⟨(key _).1, okI_invW (key _).2⟩
    · exact ⟨Nat.zero_le _, hn⟩
theorem pieces_succ (d : List (List Int)) (l : List Int) {k : Nat} {x : Int} (h : l[k]? = some x) : (pieces d (l.take (k + 1))).flatten = (pieces d (l.take k)).flatten ++ pieceB d x := by
  rw [take_succ_of l h]
  simp [pieces]
theorem pieces_len {d : List (List Int)} {b : Nat} (hb : ∀ xs ∈ d, xs.length ≤ b) (ho : ∀ xs ∈ d, OkI xs) (l : List Int) : (pieces d l).flatten.length ≤ l.length * b := by
  induction l with
  | nil => simp [pieces]
  | cons x t ih =>
    have := (pieceB_props hb ho x).1
    simp only [pieces, List.map_cons, List.flatten_cons, List.length_append, List.length_cons]
    simp only [pieces] at ih
    rw [Nat.succ_mul]
    omega
theorem pieces_ok {d : List (List Int)} {b : Nat} (hb : ∀ xs ∈ d, xs.length ≤ b) (ho : ∀ xs ∈ d, OkI xs) (l : List Int) : OkI (pieces d l).flatten := okI_flatten fun xs hx => by
  obtain ⟨k, _, rfl⟩ := List.mem_map.1 hx
  exact (pieceB_props hb ho k).2
theorem pieces_take_len {d : List (List Int)} (hb : ∀ xs ∈ d, xs.length ≤ 24) (ho : ∀ xs ∈ d, OkI xs) (l : List Int) {k : Nat} (hk : k ≤ 200) : (pieces d (l.take k)).flatten.length ≤ 4800 := by
  have h1 := pieces_len hb ho (l.take k)
  have h2 : (l.take k).length ≤ k := by rw [List.length_take]; omega
  have h3 := Nat.mul_le_mul_right 24 (Nat.le_trans h2 hk)
  omega
theorem RetI.back {eI : TypeId} {xs : List Int} {w wr w' : World} {e : Ending} (h : RetI eI xs wr e w') (hb : Below w.heap.size w wr) : RetI eI xs w e w' := by
  obtain ⟨A, c, he, ho, hb2⟩ := h
  exact ⟨A, c, he, owns_base ho hb.size, hb.trans (hb2.mono hb.size)⟩
def ExOut (w wr : World) (v : Value) (out : List Int) : Prop := wr.ownsRow w.heap.size 3 1 v out.length (ints out) ∧ Below w.heap.size w wr
set_option maxHeartbeats 6400000 in
set_option maxRecDepth 20000 in
theorem spec_ExpandBy (A : Option Addr) (d : List (List Int)) (c : Nat) (A' : Option Addr) (l : List Int) (c' : Nat) (w : World) (lo hi : Nat) (hr : RSS w lo hi A d) (hr' : Rs w w.heap.size A' (ints l)) (hb24 : ∀ xs ∈ d, xs.length ≤ 24) (hok : ∀ xs ∈ d, OkI xs) (hokl : OkI l) (hld : d.length ≤ 1048576) (hll : l.length ≤ 1048576) :
    Calls Tryz.prog 20 #[.slice A d.length c, .slice A' l.length c'] w fun e w' => RetI 3 (expand d l) w e w' := by
  have HOK := Lib.hid hok
  have HOL := Lib.hid hokl
  have H24 := Lib.hid hb24
  clear hok hokl hb24
  have hhi := hr.size
  have hb0 := (Below.refl w.heap.size w).alloc (Nat.le_refl _) (.cells #[] 3)
  have ho0 := owns_empty w 3 1
  go_enter Tryz.func20, Tryz.ntmps20
  go_wp2_with fail
  go_loopw [5, 6] (fun v i wr => ∃ k : Nat, k ≤ l.length ∧ k ≤ 200 ∧ i = .int .i64 k ∧ ExOut w wr v (pieces d (l.take k)).flatten) (fun _ i _ => l.length - (intOf i).toNat)
  case atStart => exact ⟨0, Nat.zero_le _, Nat.zero_le _, rfl, by simpa [pieces, ints] using ho0, hb0⟩
  case round =>
    obtain ⟨k, hk, hk200, rfl, hown, hb⟩ := hrel
    have hsz := hb.size
    have hlen := pieces_take_len H24.out HOK.out l hk200
    obtain ⟨out, hout⟩ : ∃ o, o = (pieces d (l.take k)).flatten := ⟨_, rfl⟩
    rw [← hout] at hown hlen
    have HOUT := Lib.hid hout
    clear hout
    by_cases hlt : k < l.length
    · by_cases hlt2 : k < 200
      · obtain ⟨b, off, x, rfl, -, hx, hc⟩ := (hr'.below hb).int hlt
        have hst := pieces_succ d l hx
        rw [← HOUT.out] at hst
        have hbx := HOL.out x (List.mem_of_getElem? hx)
        obtain ⟨hbx1, hbx2⟩ := hbx
        have HST := Lib.hid hst
        clear hx hst
        by_cases hp : 1 ≤ x ∧ x ≤ d.length
        · obtain ⟨m, hxm⟩ : ∃ m : Nat, x = (m : Int) + 1 := ⟨(x - 1).toNat, by omega⟩
          have hm : m < d.length := by omega
          obtain ⟨b2, off2, A2, c2, xs, rfl, -, hb2h, hxx, hcc, hrx⟩ := hr.row hm
          have hcw : wr.cell? ⟨b2, off2 + m, none⟩ = some (.slice A2 xs.length c2) := (hb.cell (by simp; omega)).trans hcc
          have hlx := H24.out xs (List.mem_of_getElem? hxx)
          have hpc := pieceB_pos hxx
          have hra : Rs wr w.heap.size A2 (ints xs) := (hrx.rs.more hhi).below hb
          have hla : (ints xs).length = xs.length * 1 := by rw [ints_len]; omega
          rw [← hxm] at hpc
          have HPC := Lib.hid hpc
          have hp1 : 0 < x := by omega
          have hp2 : x ≤ (d.length : Int) := by omega
          have hp3 : x - 1 = (m : Int) := by omega
          clear hpc hxx hcc hrx hp hxm hbx1 hbx2
          go_wp2_with (at_builtin; refine wpList_cat rfl _ _ 48 rfl w.heap.size 3 (.int .i64 0) 1 8 undSI infoI rfl (by decide) _ _ _ rfl hown A2 xs.length c2 w.heap.size (ints xs) rfl hra hla (one_of_ints _) ?c2 ?c3 hsz ?n1)
          case c2 => unfold maxLen; omega
          case c3 => omega
          case n1 =>
            intro v1 w1 hown1 hgr1 _
            go_wp2_with fail
            go_roundw
            case rel =>
              refine ⟨k + 1, by omega, by omega, by go_num, ?_, hb.grown hgr1 hsz (fun g hg => (hown.lt g hg).1)⟩
              rw [HST.out, HPC.out, List.length_append, ints_append]
              exact hown1
            case measure => simp [intOf]; omega
        · by_cases hn : -(d.length : Int) ≤ x ∧ x ≤ -1
          · obtain ⟨m, hxm⟩ : ∃ m : Nat, x = -((m : Int) + 1) := ⟨(-x - 1).toNat, by omega⟩
            have hm : m < d.length := by omega
            obtain ⟨b2, off2, A2, c2, xs, rfl, -, hb2h, hxx, hcc, hrx⟩ := hr.row hm
            have hcw : wr.cell? ⟨b2, off2 + m, none⟩ = some (.slice A2 xs.length c2) := (hb.cell (by simp; omega)).trans hcc
            have hlx := H24.out xs (List.mem_of_getElem? hxx)
            have hox := HOK.out xs (List.mem_of_getElem? hxx)
            have hpc := pieceB_neg hxx
            have hra : Rs wr w.heap.size A2 (ints xs) := (hrx.rs.more hhi).below hb
            rw [← hxm] at hpc
            have HPC := Lib.hid hpc
            have HOX := Lib.hid hox
            have hp1 : ¬ 0 < x := by omega
            have hp2 : x < 0 := by omega
            have hp4 : -(d.length : Int) ≤ x := by omega
            have hp5 : -9223372036854775807 ≤ x := by omega
            have hp3 : -x - 1 = (m : Int) := by omega
            clear hpc hxx hcc hrx hox hp hn hxm hbx1 hbx2
            go_wp2_with fail
            with_reducible refine (spec_InvertWord A2 xs c2 _ _ hra hsz HOX.out (by omega)).mono ?_
            rintro e w2 ⟨A3, c3, rfl, ho3, hb3⟩
            rw [invW_len] at ho3 ⊢
            have hown2 := owns_belowS hown hb3
            have hb2 : Below w.heap.size w w2 := hb.trans (hb3.mono hsz)
            have hsz2 := hb2.size
            have hra3 : Rs w2 w2.heap.size A3 (ints (invW xs)) := Rs.of_own ho3
            have hla3 : (ints (invW xs)).length = xs.length * 1 := by rw [ints_len, invW_len]; omega
            clear hra ho3 hcw
            go_wp2_with (at_builtin; refine wpList_cat rfl _ _ 48 rfl w.heap.size 3 (.int .i64 0) 1 8 undSI infoI rfl (by decide) _ _ _ rfl hown2 A3 xs.length c3 w2.heap.size (ints (invW xs)) rfl hra3 hla3 (one_of_ints _) ?c4 ?c5 hsz2 ?n2)
            case c4 => unfold maxLen; omega
            case c5 => omega
            case n2 =>
              intro v1 w3 hown3 hgr3 _
              go_wp2_with fail
              go_roundw
              case rel =>
                refine ⟨k + 1, by omega, by omega, by go_num, ?_, hb2.grown hgr3 hsz2 (fun g hg => (hown2.lt g hg).1)⟩
                rw [HST.out, HPC.out, List.length_append, ints_append, invW_len]
                exact hown3
              case measure => simp [intOf]; omega
          · have hpc := pieceB_else hp hn
            have HPC := Lib.hid hpc
            clear hpc
            go_wp2_with fail
            all_goals exact ⟨⟨k + 1, by omega, by omega, by go_num, by rw [HST.out, HPC.out, List.append_nil]; exact ⟨hown, hb⟩⟩, by simp [intOf]; omega⟩
      · have hexp : expand d l = red [] out := by
          have e : k = 200 := by omega
          rw [HOUT.out, e]
          rfl
        have hoko : OkI out := by rw [HOUT.out]; exact pieces_ok H24.out HOK.out _
        have HE := Lib.hid hexp
        have HO := Lib.hid hoko
        clear hexp hoko
        obtain ⟨A1, c1, rfl, -, -⟩ := owns_shape hown
        have hro : Rs wr wr.heap.size A1 (ints out) := Rs.of_own hown
        go_wp2_with fail
        with_reducible refine (spec_ReduceLetters A1 out c1 _ _ hro (Nat.le_refl _) HO.out (by omega)).mono ?_
        intro e w2 hret
        have hret2 := hret.back hb
        rw [← HE.out] at hret2
        obtain ⟨A2, c2, rfl, ho2, hb2⟩ := hret2
        go_wp2_with fail
        go_ret
        exact ⟨_, _, rfl, ho2, hb2⟩
    · have hexp : expand d l = red [] out := by
        have e : k = l.length := by omega
        rw [HOUT.out, e, List.take_length]
        unfold expand
        rw [List.take_of_length_le (by omega)]
      have hoko : OkI out := by rw [HOUT.out]; exact pieces_ok H24.out HOK.out _
      have HE := Lib.hid hexp
      have HO := Lib.hid hoko
      clear hexp hoko
      obtain ⟨A1, c1, rfl, -, -⟩ := owns_shape hown
      have hro : Rs wr wr.heap.size A1 (ints out) := Rs.of_own hown
      go_wp2_with fail
      with_reducible refine (spec_ReduceLetters A1 out c1 _ _ hro (Nat.le_refl _) HO.out (by omega)).mono ?_
      intro e w2 hret
      have hret2 := hret.back hb
      rw [← HE.out] at hret2
      obtain ⟨A2, c2, rfl, ho2, hb2⟩ := hret2
      go_wp2_with fail
      go_ret
      exact ⟨_, _, rfl, ho2, hb2⟩
end Go.Proofs.YtkaofcakelpnpaaGreat

namespace Go.Proofs.YtkaofcakelpnpaaGreat
set_option linter.unusedVariables false
set_option linter.unusedSimpArgs false
open Go.RowKit
def PRow (w wr : World) (r : Row) : Prop := RV w 0 w.heap.size r.A (ints r.xs) ∨ wr.ownsRow w.heap.size 3 1 r.v r.xs.length (ints r.xs)
theorem PRow.grown {w wr w' : World} {r : Row} {base : Nat} {e' : TypeId} {s' : Nat} {v' : Value} {n' : Nat} {xs' : List Value} (h : PRow w wr r) (ho : wr.ownsRow base e' s' v' n' xs') (hne : 3 ≠ e') (hg : wr.grownBy w' v'.ownBlock) : PRow w w' r := by
  rcases h with h | h
  · exact .inl h
  · exact .inr (h.kept hg (owns_ne h ho hne))
theorem PRow.below {w wr w' : World} {r : Row} (h : PRow w wr r) (hb : Below wr.heap.size wr w') : PRow w w' r := by
  rcases h with h | h
  · exact .inl h
  · exact .inr (owns_belowS h hb)
theorem PRow.rv {w wr : World} {r : Row} (h : PRow w wr r) (hb : Below w.heap.size w wr) : RV wr 0 wr.heap.size r.A (ints r.xs) := by
  rcases h with h | h
  · exact (h.mid (Mid.of_below (lo := 0) (hi := 0) hb) oZl).wide (Nat.le_refl _) hb.size (Nat.le_refl _)
  · exact RV.of_rs (Rs.of_own h) (Nat.le_refl _)
structure Parts (w wr : World) (v : Value) (rows : List Row) (k : Nat) (d : List (List Int)) (l : List Int) : Prop where
  own : wr.ownsRow w.heap.size 48 1 v rows.length (rowsV rows)
  row : ∀ r ∈ rows, PRow w wr r
  dat : (rowsD rows).flatten = (pieces d (l.take k)).flatten
  ok : ∀ xs ∈ rowsD rows, OkI xs
  len : rows.length ≤ k
  bel : Below w.heap.size w wr
theorem Parts.push {w wr w1 : World} {v v' : Value} {rows : List Row} {k : Nat} {d : List (List Int)} {l : List Int} {x : Int} {r : Row} (h : Parts w wr v rows k d l) (hx : l[k]? = some x) (hp : pieceB d x = r.xs) (hr : PRow w wr r) (ho : OkI r.xs)
    (hown : w1.ownsRow w.heap.size 48 1 v' (rows.length + 1) (rowsV rows ++ [r.v])) (hg : wr.grownBy w1 v.ownBlock) : Parts w w1 v' (rows ++ [r]) (k + 1) d l := by
  refine ⟨?_, ?_, ?_, ?_, ?_, h.bel.grown hg h.bel.size (fun g hg => (h.own.lt g hg).1)⟩
  · rw [rowsV_append, List.length_append]
    exact hown
  · intro s hs
    rcases List.mem_append.1 hs with h1 | h1
    · exact (h.row s h1).grown h.own (by decide) hg
    · simp at h1
      subst h1
      exact hr.grown h.own (by decide) hg
  · rw [rowsD_append, List.flatten_append, h.dat, pieces_succ d l hx, hp]
    simp [rowsD]
  · intro xs hxs
    rw [rowsD_append] at hxs
    rcases List.mem_append.1 hxs with h1 | h1
    · exact h.ok xs h1
    · simp [rowsD] at h1
      subst h1
      exact ho
  · have := h.len
    simp
    omega
theorem Parts.skip {w wr : World} {v : Value} {rows : List Row} {k : Nat} {d : List (List Int)} {l : List Int} {x : Int} (h : Parts w wr v rows k d l) (hx : l[k]? = some x) (hp : pieceB d x = []) : Parts w wr v rows (k + 1) d l :=
  ⟨h.own, h.row, by rw [h.dat, pieces_succ d l hx, hp, List.append_nil], h.ok, by have := h.len; omega, h.bel⟩
theorem Parts.below {w wr w1 : World} {v : Value} {rows : List Row} {k : Nat} {d : List (List Int)} {l : List Int} (h : Parts w wr v rows k d l) (hb : Below wr.heap.size wr w1) : Parts w w1 v rows k d l :=
  ⟨owns_belowS h.own hb, fun r hr => (h.row r hr).below hb, h.dat, h.ok, h.len, h.bel.trans (hb.mono h.bel.size)⟩
theorem Parts.rss {w wr : World} {A : Option Addr} {n c : Nat} {rows : List Row} {k : Nat} {d : List (List Int)} {l : List Int} (h : Parts w wr (.slice A n c) rows k d l) : RSS wr 0 wr.heap.size A (rowsD rows) := by
  obtain ⟨A', c', he, -, -⟩ := owns_shape h.own
  injection he with e1 e2 e3
  subst e1 e2 e3
  exact ⟨rows, rfl, RV.of_rs (Rs.of_own h.own) (Nat.le_refl _), fun r hr => (h.row r hr).rv h.bel⟩
set_option maxRecDepth 20000 in
set_option maxHeartbeats 6400000 in
theorem impl_ExpandBy (A : Option Addr) (d : List (List Int)) (c : Nat) (A' : Option Addr) (l : List Int) (c' : Nat) (w : World) (lo hi : Nat) (hr : RSS w lo hi A d) (hr' : Rs w w.heap.size A' (ints l)) (hc : l.length ≤ c') (hb24 : ∀ xs ∈ d, xs.length ≤ 24) (hok : ∀ xs ∈ d, OkI xs) (hokl : OkI l) (hld : d.length ≤ 1048576) (hll : l.length ≤ 1048576) :
    Calls Tryz.prog 28 #[.slice A d.length c, .slice A' l.length c'] w fun e w' => RetI 3 (expand d l) w e w' := by
  have HOK := Lib.hid hok
  have HOL := Lib.hid hokl
  have H24 := Lib.hid hb24
  clear hok hokl hb24
  have hhi := hr.size
  have ho0 := owns_empty w 48 1
  have hb0 := (Below.refl w.heap.size w).alloc (Nat.le_refl _) (.cells #[] 48)
  have hp0 : Parts w (w.alloc (.cells #[] 48)) (.slice (some ⟨w.heap.size, 0, none⟩) 0 0) [] 0 d l := ⟨ho0, by simp, by simp [rowsD, pieces], by simp [rowsD], Nat.le_refl _, hb0⟩
  by_cases hle : l.length ≤ 200
  · have hmin : min (l.length : Int) 200 = (l.length : Int) := by omega
    go_enter Tryz.func28, Tryz.ntmps28
    go_wp2_with fail
    go_loopw [5, 7, 15] (fun v _ i wr => ∃ k : Nat, ∃ rows : List Row, k ≤ l.length ∧ i = .int .i64 k ∧ Parts w wr v rows k d l) (fun _ _ i _ => l.length - (intOf i).toNat)
    case atStart => exact ⟨0, [], Nat.zero_le _, rfl, hp0⟩
    case round =>
      obtain ⟨k, rows, hk, rfl, hown⟩ := hrel
      have hsz := hown.bel.size
      have hrl := hown.len
      by_cases hlt : k < l.length
      · obtain ⟨b, off, x, rfl, -, hx, hcx⟩ := (hr'.below hown.bel).int (show k < l.length by omega)
        have hbx := HOL.out x (List.mem_of_getElem? hx)
        obtain ⟨hbx1, hbx2⟩ := hbx
        have HX := Lib.hid hx
        clear hx
        by_cases hp : 1 ≤ x ∧ x ≤ d.length
        · obtain ⟨m, hxm⟩ : ∃ m : Nat, x = (m : Int) + 1 := ⟨(x - 1).toNat, by omega⟩
          have hm : m < d.length := by omega
          obtain ⟨b2, off2, A2, c2, xs, rfl, -, hb2h, hxx, hcc, hrx⟩ := hr.row hm
          have hcw : wr.cell? ⟨b2, off2 + m, none⟩ = some (.slice A2 xs.length c2) := (hown.bel.cell (by simp; omega)).trans hcc
          have hpc := pieceB_pos hxx
          rw [← hxm] at hpc
          have hox := HOK.out xs (List.mem_of_getElem? hxx)
          have hpr : PRow w wr ⟨A2, c2, xs⟩ := .inl (hrx.wide (Nat.zero_le _) hhi (Nat.le_refl _))
          have HPC := Lib.hid hpc
          have HOX := Lib.hid hox
          have HPR := Lib.hid hpr
          have hin : inB x 1 (d.length : Int) = true := by simp [inB]; omega
          have HIN := Lib.hid hin
          have hp3 : x - 1 = (m : Int) := by omega
          clear hpc hxx hcc hrx hp hxm hbx1 hbx2 hox hpr hin
          go_wp2_with fail
          refine (within_any _ _ _ _).mono ?_
          rintro e w' ⟨rfl, rfl⟩
          rw [HIN.out]
          go_wp2_with (at_builtin; refine wpList_push rfl _ _ 22 rfl w.heap.size 48 (.slice none 0 0) 1 24 undSSI infoSI rfl (by decide) _ _ _ rfl hown.own 1 [.slice A2 xs.length c2] rfl rfl (one_of_rows [⟨A2, c2, xs⟩]) (by unfold maxLen; omega) (by omega) hsz ?n1)
          case n1 =>
            intro v' w1 hown1 hgr _
            go_wp2_with fail
            go_roundw
            case rel => exact ⟨k + 1, rows ++ [⟨A2, c2, xs⟩], by omega, by go_num, hown.push (r := ⟨A2, c2, xs⟩) HX.out HPC.out HPR.out HOX.out hown1 hgr⟩
            case measure => simp [intOf]; omega
        · have hin : inB x 1 (d.length : Int) = false := by
            cases hv : inB x 1 (d.length : Int) with
            | false => rfl
            | true => exact absurd (by simpa [inB] using hv) hp
          have HIN := Lib.hid hin
          clear hin
          by_cases hn : -(d.length : Int) ≤ x ∧ x ≤ -1
          · obtain ⟨m, hxm⟩ : ∃ m : Nat, x = -((m : Int) + 1) := ⟨(-x - 1).toNat, by omega⟩
            have hm : m < d.length := by omega
            obtain ⟨b2, off2, A2, c2, xs, rfl, -, hb2h, hxx, hcc, hrx⟩ := hr.row hm
            have hcw : wr.cell? ⟨b2, off2 + m, none⟩ = some (.slice A2 xs.length c2) := (hown.bel.cell (by simp; omega)).trans hcc
            have hpc := pieceB_neg hxx
            rw [← hxm] at hpc
            have hox := HOK.out xs (List.mem_of_getElem? hxx)
            have hlx := H24.out xs (List.mem_of_getElem? hxx)
            have hra : Rs wr w.heap.size A2 (ints xs) := (hrx.rs.more hhi).below hown.bel
            have HPC := Lib.hid hpc
            have HOX := Lib.hid hox
            have hin2 : inB x (-(d.length : Int)) (-1) = true := by simp [inB]; omega
            have HIN2 := Lib.hid hin2
            have hp5 : -9223372036854775807 ≤ x := by omega
            have hp6 : x ≤ 9223372036854775807 := by omega
            have hp3 : -x - 1 = (m : Int) := by omega
            clear hpc hxx hcc hrx hp hn hxm hbx1 hbx2 hox hin2
            go_wp2_with fail
            refine (within_any _ _ _ _).mono ?_
            rintro e w' ⟨rfl, rfl⟩
            rw [HIN.out]
            go_wp2_with fail
            refine (within_any _ _ _ _).mono ?_
            rintro e w' ⟨rfl, rfl⟩
            rw [HIN2.out]
            go_wp2_with fail
            refine (impl_InvertWordX A2 xs c2 _ _ hra hsz HOX.out (by omega)).mono ?_
            rintro e w2 ⟨A3, c3, rfl, hn3, ho3, hb3⟩
            have hown2 := hown.below hb3
            have hsz2 := hown2.bel.size
            have hpr : PRow w w2 ⟨A3, c3, invW xs⟩ := .inr (by
              show w2.ownsRow w.heap.size 3 1 (.slice A3 (invW xs).length c3) (invW xs).length (ints (invW xs))
              rw [invW_len]
              exact owns_base ho3 hsz)
            have HPR := Lib.hid hpr
            clear hpr ho3 hra hcw
            go_wp2_with (at_builtin; refine wpList_push rfl _ _ 22 rfl w.heap.size 48 (.slice none 0 0) 1 24 undSSI infoSI rfl (by decide) _ _ _ rfl hown2.own 1 [.slice A3 xs.length c3] rfl rfl (by simp [Value.oneCell']) (by unfold maxLen; omega) (by omega) hsz2 ?n2)
            case n2 =>
              intro v' w1 hown1 hgr _
              go_wp2_with fail
              go_roundw
              case rel =>
                refine ⟨k + 1, rows ++ [⟨A3, c3, invW xs⟩], by omega, by go_num, hown2.push HX.out HPC.out HPR.out (okI_invW HOX.out) ?_ hgr⟩
                show w1.ownsRow w.heap.size 48 1 v' (rows.length + 1) (rowsV rows ++ [.slice A3 (invW xs).length c3])
                rw [invW_len]
                exact hown1
              case measure => simp [intOf]; omega
          · have hin2 : inB x (-(d.length : Int)) (-1) = false := by
              cases hv : inB x (-(d.length : Int)) (-1) with
              | false => rfl
              | true => exact absurd (by simpa [inB] using hv) hn
            have HIN2 := Lib.hid hin2
            have hpc := pieceB_else hp hn
            have HPC := Lib.hid hpc
            clear hpc hin2
            go_wp2_with fail
            refine (within_any _ _ _ _).mono ?_
            rintro e w' ⟨rfl, rfl⟩
            rw [HIN.out]
            go_wp2_with fail
            refine (within_any _ _ _ _).mono ?_
            rintro e w' ⟨rfl, rfl⟩
            rw [HIN2.out]
            go_wp2_with fail
            go_roundw
            case rel => exact ⟨k + 1, rows, by omega, by go_num, hown.skip HX.out HPC.out⟩
            case measure => simp [intOf]; omega
      · have hexp : expand d l = red [] (rowsD rows).flatten := by
          rw [hown.dat, show k = l.length from by omega, List.take_length, expand, List.take_of_length_le hle]
        have hsum : sumL (rowsD rows) ≤ 268435456 := by
          rw [← sumL_flatten, hown.dat]
          have := pieces_take_len H24.out HOK.out l (show k ≤ 200 by omega)
          omega
        have hrd : (rowsD rows).length ≤ 4194304 := by rw [rowsD_len]; omega
        obtain ⟨A1, c1, rfl, -, -⟩ := owns_shape hown.own
        have hC := impl_product A1 (rowsD rows) c1 wr 0 wr.heap.size hown.rss hown.ok hrd hsum
        rw [rowsD_len, ← hexp] at hC
        have HC := Lib.hid hC
        clear hC hexp hsum hrd
        go_wp2_with fail
        refine HC.out.mono ?_
        intro e w2 hret
        have hret2 := hret.back hown.bel
        obtain ⟨A2, c2, rfl, ho2, hb2⟩ := hret2
        go_wp2_with fail
        go_ret
        exact ⟨_, _, rfl, ho2, hb2⟩
  · have hc200 : 200 ≤ c' := by omega
    go_enter Tryz.func28, Tryz.ntmps28
    go_wp2_with fail
    go_loopw [5, 7, 15] (fun v _ i wr => ∃ k : Nat, ∃ rows : List Row, k ≤ 200 ∧ i = .int .i64 k ∧ Parts w wr v rows k d l) (fun _ _ i _ => 200 - (intOf i).toNat)
    case atStart => exact ⟨0, [], Nat.zero_le _, rfl, hp0⟩
    case round =>
      obtain ⟨k, rows, hk, rfl, hown⟩ := hrel
      have hsz := hown.bel.size
      have hrl := hown.len
      by_cases hlt : k < 200
      · obtain ⟨b, off, x, rfl, -, hx, hcx⟩ := (hr'.below hown.bel).int (show k < l.length by omega)
        have hbx := HOL.out x (List.mem_of_getElem? hx)
        obtain ⟨hbx1, hbx2⟩ := hbx
        have HX := Lib.hid hx
        clear hx
        by_cases hp : 1 ≤ x ∧ x ≤ d.length
        · obtain ⟨m, hxm⟩ : ∃ m : Nat, x = (m : Int) + 1 := ⟨(x - 1).toNat, by omega⟩
          have hm : m < d.length := by omega
          obtain ⟨b2, off2, A2, c2, xs, rfl, -, hb2h, hxx, hcc, hrx⟩ := hr.row hm
          have hcw : wr.cell? ⟨b2, off2 + m, none⟩ = some (.slice A2 xs.length c2) := (hown.bel.cell (by simp; omega)).trans hcc
          have hpc := pieceB_pos hxx
          rw [← hxm] at hpc
          have hox := HOK.out xs (List.mem_of_getElem? hxx)
          have hpr : PRow w wr ⟨A2, c2, xs⟩ := .inl (hrx.wide (Nat.zero_le _) hhi (Nat.le_refl _))
          have HPC := Lib.hid hpc
          have HOX := Lib.hid hox
          have HPR := Lib.hid hpr
          have hin : inB x 1 (d.length : Int) = true := by simp [inB]; omega
          have HIN := Lib.hid hin
          have hp3 : x - 1 = (m : Int) := by omega
          clear hpc hxx hcc hrx hp hxm hbx1 hbx2 hox hpr hin
          go_wp2_with fail
          refine (within_any _ _ _ _).mono ?_
          rintro e w' ⟨rfl, rfl⟩
          rw [HIN.out]
          go_wp2_with (at_builtin; refine wpList_push rfl _ _ 22 rfl w.heap.size 48 (.slice none 0 0) 1 24 undSSI infoSI rfl (by decide) _ _ _ rfl hown.own 1 [.slice A2 xs.length c2] rfl rfl (one_of_rows [⟨A2, c2, xs⟩]) (by unfold maxLen; omega) (by omega) hsz ?n1)
          case n1 =>
            intro v' w1 hown1 hgr _
            go_wp2_with fail
            go_roundw
            case rel => exact ⟨k + 1, rows ++ [⟨A2, c2, xs⟩], by omega, by go_num, hown.push (r := ⟨A2, c2, xs⟩) HX.out HPC.out HPR.out HOX.out hown1 hgr⟩
            case measure => simp [intOf]; omega
        · have hin : inB x 1 (d.length : Int) = false := by
            cases hv : inB x 1 (d.length : Int) with
            | false => rfl
            | true => exact absurd (by simpa [inB] using hv) hp
          have HIN := Lib.hid hin
          clear hin
          by_cases hn : -(d.length : Int) ≤ x ∧ x ≤ -1
          · obtain ⟨m, hxm⟩ : ∃ m : Nat, x = -((m : Int) + 1) := ⟨(-x - 1).toNat, by omega⟩
            have hm : m < d.length := by omega
            obtain ⟨b2, off2, A2, c2, xs, rfl, -, hb2h, hxx, hcc, hrx⟩ := hr.row hm
            have hcw : wr.cell? ⟨b2, off2 + m, none⟩ = some (.slice A2 xs.length c2) := (hown.bel.cell (by simp; omega)).trans hcc
            have hpc := pieceB_neg hxx
            rw [← hxm] at hpc
            have hox := HOK.out xs (List.mem_of_getElem? hxx)
            have hlx := H24.out xs (List.mem_of_getElem? hxx)
            have hra : Rs wr w.heap.size A2 (ints xs) := (hrx.rs.more hhi).below hown.bel
            have HPC := Lib.hid hpc
            have HOX := Lib.hid hox
            have hin2 : inB x (-(d.length : Int)) (-1) = true := by simp [inB]; omega
            have HIN2 := Lib.hid hin2
            have hp5 : -9223372036854775807 ≤ x := by omega
            have hp6 : x ≤ 9223372036854775807 := by omega
            have hp3 : -x - 1 = (m : Int) := by omega
            clear hpc hxx hcc hrx hp hn hxm hbx1 hbx2 hox hin2
            go_wp2_with fail
            refine (within_any _ _ _ _).mono ?_
            rintro e w' ⟨rfl, rfl⟩
            rw [HIN.out]
            go_wp2_with fail
            refine (within_any _ _ _ _).mono ?_
            rintro e w' ⟨rfl, rfl⟩
            rw [HIN2.out]
            go_wp2_with fail
            refine (impl_InvertWordX A2 xs c2 _ _ hra hsz HOX.out (by omega)).mono ?_
            rintro e w2 ⟨A3, c3, rfl, hn3, ho3, hb3⟩
            have hown2 := hown.below hb3
            have hsz2 := hown2.bel.size
            have hpr : PRow w w2 ⟨A3, c3, invW xs⟩ := .inr (by
              show w2.ownsRow w.heap.size 3 1 (.slice A3 (invW xs).length c3) (invW xs).length (ints (invW xs))
              rw [invW_len]
              exact owns_base ho3 hsz)
            have HPR := Lib.hid hpr
            clear hpr ho3 hra hcw
            go_wp2_with (at_builtin; refine wpList_push rfl _ _ 22 rfl w.heap.size 48 (.slice none 0 0) 1 24 undSSI infoSI rfl (by decide) _ _ _ rfl hown2.own 1 [.slice A3 xs.length c3] rfl rfl (by simp [Value.oneCell']) (by unfold maxLen; omega) (by omega) hsz2 ?n2)
            case n2 =>
              intro v' w1 hown1 hgr _
              go_wp2_with fail
              go_roundw
              case rel =>
                refine ⟨k + 1, rows ++ [⟨A3, c3, invW xs⟩], by omega, by go_num, hown2.push HX.out HPC.out HPR.out (okI_invW HOX.out) ?_ hgr⟩
                show w1.ownsRow w.heap.size 48 1 v' (rows.length + 1) (rowsV rows ++ [.slice A3 (invW xs).length c3])
                rw [invW_len]
                exact hown1
              case measure => simp [intOf]; omega
          · have hin2 : inB x (-(d.length : Int)) (-1) = false := by
              cases hv : inB x (-(d.length : Int)) (-1) with
              | false => rfl
              | true => exact absurd (by simpa [inB] using hv) hn
            have HIN2 := Lib.hid hin2
            have hpc := pieceB_else hp hn
            have HPC := Lib.hid hpc
            clear hpc hin2
            go_wp2_with fail
            refine (within_any _ _ _ _).mono ?_
            rintro e w' ⟨rfl, rfl⟩
            rw [HIN.out]
            go_wp2_with fail
            refine (within_any _ _ _ _).mono ?_
            rintro e w' ⟨rfl, rfl⟩
            rw [HIN2.out]
            go_wp2_with fail
            go_roundw
            case rel => exact ⟨k + 1, rows, by omega, by go_num, hown.skip HX.out HPC.out⟩
            case measure => simp [intOf]; omega
      · have hexp : expand d l = red [] (rowsD rows).flatten := by
          rw [hown.dat, show k = 200 from by omega, expand]
        have hsum : sumL (rowsD rows) ≤ 268435456 := by
          rw [← sumL_flatten, hown.dat]
          have := pieces_take_len H24.out HOK.out l (show k ≤ 200 by omega)
          omega
        have hrd : (rowsD rows).length ≤ 4194304 := by rw [rowsD_len]; omega
        obtain ⟨A1, c1, rfl, -, -⟩ := owns_shape hown.own
        have hC := impl_product A1 (rowsD rows) c1 wr 0 wr.heap.size hown.rss hown.ok hrd hsum
        rw [rowsD_len, ← hexp] at hC
        have HC := Lib.hid hC
        clear hC hexp hsum hrd
        go_wp2_with fail
        refine HC.out.mono ?_
        intro e w2 hret
        have hret2 := hret.back hown.bel
        obtain ⟨A2, c2, rfl, ho2, hb2⟩ := hret2
        go_wp2_with fail
        go_ret
        exact ⟨_, _, rfl, ho2, hb2⟩
end Go.Proofs.YtkaofcakelpnpaaGreat

namespace Go.Proofs.YtkaofcakelpnpaaGreat
set_option linter.unusedVariables false
set_option linter.unusedSimpArgs false
open Go.RowKit
def fixW (d : List (List Int)) (l : List (List Int)) : List (List Int) := l.filter fun w => decide (expand d w = w)
def FixOk (rk : Int) (d : List (List Int)) (most : Int) : Prop := IsMor rk d ∧ 0 ≤ most ∧ most ≤ 4
def FixIs (rk : Int) (d : List (List Int)) (most : Int) (res : List (List Int)) : Prop := (FixOk rk d most ∧ res = fixW d (pre okB (lets rk.toNat) (most.toNat + 1))) ∨ (¬ FixOk rk d most ∧ res = [])
theorem FixIs.no {rk : Int} {d : List (List Int)} {most : Int} {res : List (List Int)} (h : FixIs rk d most res) (hn : ¬ FixOk rk d most) : res = [] := by
  rcases h with ⟨h, -⟩ | ⟨-, h⟩
  · exact absurd h hn
  · exact h
theorem FixIs.yes {rk : Int} {d : List (List Int)} {most : Int} {res : List (List Int)} (h : FixIs rk d most res) (hn : FixOk rk d most) : res = fixW d (pre okB (lets rk.toNat) (most.toNat + 1)) := by
  rcases h with ⟨-, h⟩ | ⟨h, -⟩
  · exact h
  · exact absurd hn h
theorem FixIs.lens {rk : Int} {d : List (List Int)} {most : Int} {res : List (List Int)} (h : FixIs rk d most res) : res.length + sumL res ≤ 1048576 := by
  rcases h with ⟨h, rfl⟩ | ⟨-, rfl⟩
  · have hr : 1 ≤ rk := h.1.1
    have hr3 : rk ≤ 3 := h.1.2.1
    have hLL : (lets rk.toNat).length ≤ 6 := by rw [lets_len]; omega
    have h1 := pre_b (f := okB) hLL (n := most.toNat + 1) (by have := h.2; omega)
    have h2 : (fixW d (pre okB (lets rk.toNat) (most.toNat + 1))).length ≤ (pre okB (lets rk.toNat) (most.toNat + 1)).length := List.length_filter_le _ _
    have h3 := sumL_le (m := 5) (fixW d (pre okB (lets rk.toNat) (most.toNat + 1))) fun x hx => by
      have h4 := pre_ok (List.mem_filter.1 hx).1
      have := h.2
      omega
    have := h.2
    omega
  · simp [sumL]
structure SubR (w : World) (lo b : Nat) (A : Option Addr) (n c : Nat) (rows all : List Row) : Prop where
  out : w.ownsRow lo 48 1 (.slice A n c) n (rowsV rows)
  own : OwnRows w b w.heap.size 3 all
  sub : List.Sublist rows all
theorem SubR.mid {w w' : World} {lo b : Nat} {A : Option Addr} {n c : Nat} {rows all : List Row} (h : SubR w lo b A n c rows all) (m : Mid 0 0 w w') : SubR w' lo b A n c rows all :=
  ⟨owns_mid h.out m oZl, (h.own.mid m oZl).wide (Nat.le_refl _) m.size (Nat.le_refl _), h.sub⟩
theorem SubR.len {w : World} {lo b : Nat} {A : Option Addr} {n c : Nat} {rows all : List Row} (h : SubR w lo b A n c rows all) : rows.length = n := by
  have := h.out.1
  rw [rowsV_len] at this
  omega
theorem SubR.oss {w : World} {lo b : Nat} {A : Option Addr} {n c : Nat} {rows all : List Row} (h : SubR w lo b A n c rows all) (hb : lo ≤ b) {xss : List (List Int)} (hd : rowsD rows = xss) : OSS w lo w.heap.size 48 3 A c xss :=
  OSS.mk' h.out ⟨fun r hr => (h.own.1 r (h.sub.subset hr)).wide hb (Nat.le_refl _) (Nat.le_refl _), h.own.2.sublist h.sub⟩ hd
section
variable {W : World} {ops : Array Oper} {rest : List Oper} {o : Oper} {ac : Act} {Q : Exit → Act → World → Prop}
end
theorem RetI.get {eI : TypeId} {xs : List Int} {w w' : World} {e : Ending} (h : RetI eI xs w e w') : ∃ A c, e = .returned (.slice A xs.length c) ∧ w'.ownsRow w.heap.size eI 1 (.slice A xs.length c) xs.length (ints xs) ∧ Mid 0 0 w w' := by
  obtain ⟨A, c, h1, h2, h3⟩ := h
  exact ⟨A, c, h1, h2, Mid.of_below h3⟩
end Go.Proofs.YtkaofcakelpnpaaGreat

namespace Go.Proofs.YtkaofcakelpnpaaGreat
set_option linter.unusedVariables false
set_option linter.unusedSimpArgs false
open Go.RowKit
abbrev obS (A : Option Addr) (n c : Nat) : Option Nat := Value.ownBlock (.slice A n c)
structure Own1 (w : World) (lo : Nat) (A : Option Addr) (n c : Nat) (rows : List Row) : Prop where
  out : w.ownsRow lo 48 1 (.slice A n c) n (rowsV rows)
  rows : OwnRows w lo w.heap.size 3 rows
section
variable {w w' : World} {lo : Nat} {A A2 : Option Addr} {n c n2 c2 : Nat} {rows rows2 : List Row}
theorem Own1.mid (h : Own1 w lo A n c rows) (m : Mid 0 0 w w') : Own1 w' lo A n c rows :=
  ⟨owns_mid h.out m oZl, (h.rows.mid m oZl).wide (Nat.le_refl _) m.size (Nat.le_refl _)⟩
theorem Own1.len (h : Own1 w lo A n c rows) : rows.length = n := by
  have := h.out.1
  rw [rowsV_len] at this
  omega
theorem Own1.lt (h : Own1 w lo A n c rows) {g : Nat} (hg : obS A n c = some g) : lo ≤ g ∧ g < w.heap.size := h.out.lt g hg
theorem Own1.oss (h : Own1 w lo A n c rows) {xss : List (List Int)} (hd : rowsD rows = xss) : OSS w lo w.heap.size 48 3 A c xss := OSS.mk' h.out h.rows hd
theorem Own1.base {lo' : Nat} (h : Own1 w lo A n c rows) (hl : lo' ≤ lo) : Own1 w lo' A n c rows := ⟨owns_base h.out hl, h.rows.wide hl (Nat.le_refl _) (Nat.le_refl _)⟩
theorem Own1.other (h : Own1 w lo A n c rows) (h2 : Own1 w lo A2 n2 c2 rows2) (hd : ∀ g, obS A n c = some g → obS A2 n2 c2 ≠ some g) (hg : w.grownBy w' (obS A2 n2 c2)) : Own1 w' lo A n c rows := by
  refine ⟨h.out.kept hg ?_, (h.rows.grown h2.out (by decide) hg).wide (Nat.le_refl _) hg.size (Nat.le_refl _)⟩
  cases hv : Value.ownBlock (.slice A n c) with
  | none => exact .inl rfl
  | some j => exact .inr fun e => hd j hv e.symm
theorem Own1.row (h : Own1 w lo A n c rows) {k : Nat} {r : Row} (hk : rows[k]? = some r) : ∃ b, A = some ⟨b, 0, none⟩ ∧ lo ≤ b ∧ b < w.heap.size ∧ w.cell? ⟨b, k, none⟩ = some r.v ∧ RV w lo w.heap.size r.A (ints r.xs) ∧ r.xs.length ≤ r.c := by
  have hl := (List.getElem?_eq_some_iff.1 hk).1
  obtain ⟨b, hA, h1, h2⟩ := owns_addr h.out (show 0 < n by have := h.len; omega)
  subst hA
  have hm := h.rows.1 r (List.mem_of_getElem? hk)
  exact ⟨b, rfl, h1, h2, (h.out.cellAt k (by have := h.len; omega)).trans (by simp [rowsV, hk]), OV.rv hm, owns_cap hm.2.1⟩
theorem Own1.push {W W' : World} {A' : Option Addr} {c' : Nat} {r : Row} (h : Own1 w lo A n c rows) (m : Mid 0 0 w W) (hl : lo ≤ w.heap.size) (hrow : W.ownsRow w.heap.size 3 1 r.v r.xs.length (ints r.xs))
    (h1 : W'.ownsRow lo 48 1 (.slice A' (n + 1) c') (n + 1) (rowsV rows ++ [r.v])) (h2 : W.grownBy W' (obS A n c)) : Own1 W' lo A' (n + 1) c' (rows ++ [r]) := by
  refine ⟨by rw [rowsV_append]; exact h1, ?_⟩
  have k1 := (h.rows.mid m oZl).push (r := r) (base := w.heap.size) (hi' := W.heap.size) hrow (Nat.le_refl _) hl m.size (Nat.le_refl _) (fun g hg => (hrow.lt g hg).2)
  exact (k1.grown (h.mid m).out (by decide) h2).wide (Nat.le_refl _) h2.size (Nat.le_refl _)
end
theorem Own1.empty (w : World) : Own1 (w.alloc (.cells #[] 48)) w.heap.size (some ⟨w.heap.size, 0, none⟩) 0 0 [] := ⟨owns_empty w 48 1, OwnRows.nil⟩
def Apart (A : Option Addr) (n c : Nat) (A2 : Option Addr) (n2 c2 : Nat) : Prop := ∀ g, obS A n c = some g → obS A2 n2 c2 ≠ some g
theorem Apart.symm {A A2 : Option Addr} {n c n2 c2 : Nat} (h : Apart A n c A2 n2 c2) : Apart A2 n2 c2 A n c := fun g hg e => h g e hg
theorem Apart.push {W : World} {lo : Nat} {A A' A2 : Option Addr} {n c n' c' n2 c2 : Nat} {rows2 : List Row} (h : Apart A n c A2 n2 c2) (hat : obS A' n' c' = obS A n c ∨ obS A' n' c' = some (W.heap.size + 1)) (h2 : Own1 W lo A2 n2 c2 rows2) : Apart A' n' c' A2 n2 c2 := by
  intro g hg e
  rcases hat with hat | hat
  · exact h g (hat ▸ hg) e
  · rw [hat] at hg
    injection hg with hg
    have := h2.lt e
    omega
theorem rs_one {w : World} {p : Nat} {v : Value} (h : w.cell? ⟨p, 0, none⟩ = some v) : Rs w (p + 1) (some ⟨p, 0, none⟩) [v] := fun _ => ⟨p, 0, rfl, Nat.lt_succ_self _, fun j u hu => by
  rcases j with _ | j
  · rw [← hu]; exact h
  · simp at hu⟩
theorem cell_grown {w w' : World} {row : Option Nat} {b i : Nat} {v : Value} (hg : w.grownBy w' row) (hb : b < w.heap.size) (hn : some b ≠ row) (h : w.cell? ⟨b, i, none⟩ = some v) : w'.cell? ⟨b, i, none⟩ = some v :=
  (World.cell?_of_block (hg.block b hb hn)).trans h
theorem own_ne {b g n c : Nat} (h : b ≠ g) : some b ≠ Value.ownBlock (.slice (some ⟨g, 0, none⟩) n c) := fun e => by
  have e' : some b = some g := e
  injection e' with e'
  exact h e'
section
variable {W : World} {ops : Array Oper} {rest : List Oper} {o : Oper} {ac : Act} {Q : Exit → Act → World → Prop}
theorem wpList_push1 {w : World} {lo : Nat} {A : Option Addr} {n c : Nat} {rows : List Row} (hgd : o.guard = none) (s x : Operand)
    (ho : o.op = .call { callee := .builtin .append, args := #[s, x], argTypes := #[22, 22] }) (hs : ac.eval s = .slice A n c)
    (h : Own1 w lo A n c rows) (m : Mid 0 0 w W) (r : Row) (u : Value) (hu : r.v = u) (hrow : W.ownsRow w.heap.size 3 1 r.v r.xs.length (ints r.xs)) (hx : ac.eval x = .slice (some ⟨W.heap.size, 0, none⟩) 1 1) (hn : n ≤ 1048576) (hb : lo ≤ w.heap.size)
    (hk : ∀ A' c' w', Own1 w' lo A' (n + 1) c' (rows ++ [r]) → W.grownBy w' (obS A n c) → (obS A' (n + 1) c' = obS A n c ∨ obS A' (n + 1) c' = some (W.heap.size + 1)) → wpList Tryz.prog ops Q rest (ac.put o.dst (.slice A' (n + 1) c')) w') :
    wpList Tryz.prog ops Q (o :: rest) ac (W.alloc (.cells #[u] 48)) := by
  subst hu
  have hms := m.size
  refine wpList_push (news := [r.v]) hgd s x 22 ho lo 48 (.slice none 0 0) 1 24 undSSI infoSI rfl (by decide) (.slice A n c) n (rowsV rows) hs (h.mid m).out 1 hx rfl ?_ (by unfold maxLen; omega) (by omega) (by omega) ?_
  · intro u hu
    simp at hu
    subst hu
    rfl
  · intro v' w' h1 h2 h3
    obtain ⟨A', c', rfl, -, -⟩ := owns_shape h1
    exact hk A' c' w' (h.push m hb hrow h1 h2) h2 h3
theorem step_push1 {K : Act → World → Prop} {E : Prop} {w : World} {lo : Nat} {A : Option Addr} {n c : Nat} {rows : List Row} (hgd : o.guard = none) (s x : Operand)
    (ho : o.op = .call { callee := .builtin .append, args := #[s, x], argTypes := #[22, 22] }) (hs : ac.eval s = .slice A n c)
    (h : Own1 w lo A n c rows) (m : Mid 0 0 w W) (r : Row) (u : Value) (hu : r.v = u) (hrow : W.ownsRow w.heap.size 3 1 r.v r.xs.length (ints r.xs)) (hx : ac.eval x = .slice (some ⟨W.heap.size, 0, none⟩) 1 1) (hn : n ≤ 1048576) (hb : lo ≤ w.heap.size)
    (hk : ∀ A' c' w', Own1 w' lo A' (n + 1) c' (rows ++ [r]) → W.grownBy w' (obS A n c) → (obS A' (n + 1) c' = obS A n c ∨ obS A' (n + 1) c' = some (W.heap.size + 1)) → K (ac.put o.dst (.slice A' (n + 1) c')) w') :
    if Region.wanted o (yielded ops ac.tmps) = true then Oper.wp Tryz.prog o ac (W.alloc (.cells #[u] 48)) K Q else E := by
  subst hu
  have hms := m.size
  refine step_cat (w := W.alloc (.cells #[r.v] 48)) hgd s x 22 ho lo 48 (.slice none 0 0) 1 24 undSSI infoSI rfl (by decide) (.slice A n c) n (rowsV rows) hs ((h.mid m).out.alloc _) (some ⟨W.heap.size, 0, none⟩) 1 1 (W.heap.size + 1) [r.v] hx (fun _ => ⟨W.heap.size, 0, rfl, Nat.lt_succ_self _, fun j u hu => (World.cell?_alloc_at _ _ _ _ rfl).trans (by simpa using hu)⟩) rfl ?_ (by unfold maxLen; omega) (by omega) (by simp; omega) ?_
  · intro u hu
    simp at hu
    subst hu
    rfl
  · intro v' w' h1 h2 h3
    obtain ⟨A', c', rfl, -, -⟩ := owns_shape h1
    have h2' := grown_trans (World.grownBy_alloc W _ _) h2
    exact hk A' c' w' (h.push m hb hrow h1 h2') h2' (by simpa using h3)
end
end Go.Proofs.YtkaofcakelpnpaaGreat

namespace Go.Proofs.YtkaofcakelpnpaaGreat
set_option linter.unusedVariables false
set_option linter.unusedSimpArgs false
open Go.RowKit
def notIn (T es : List Ed) : List Ed := es.filter fun e => decide (e ∉ T)
theorem notIn_take {T es : List Ed} {k : Nat} {e : Ed} (h : es[k]? = some e) : notIn T (es.take (k + 1)) = notIn T (es.take k) ++ (if e ∉ T then [e] else []) := by
  obtain ⟨hk, h'⟩ := List.getElem?_eq_some_iff.1 h
  unfold notIn
  rw [List.take_succ_eq_append_getElem hk, h', List.filter_append]
  by_cases h2 : e ∉ T
  · simp [h2]
  · simp [h2]
theorem notIn_canon (T es : List Ed) : notIn (canon T) es = notIn T es := by
  unfold notIn
  congr 1
  funext e
  rw [decide_eq_decide, mem_canon]
theorem notIn_len (T es : List Ed) : (notIn T es).length ≤ es.length := List.length_filter_le _ _
set_option maxHeartbeats 3200000 in
set_option maxRecDepth 100000 in
theorem impl_ExtraEdges (r n : Nat) (A : Option Addr) (es : List Ed) (c : Nat) (w : World) (lo hi : Nat) (hr : RG w lo hi A es) (hcl : es.length ≤ c) (hf : IsFol r n es) (T : List Ed) (hTl : T.length ≤ 1000000)
    (hT : ∀ W, RG W lo hi A es → Calls Tryz.prog 85 #[graV r n A es.length c] W fun e w' => ∃ A1 c1, e = .returned (.slice A1 (canon T).length c1) ∧ OG w' W.heap.size w'.heap.size A1 c1 (canon T) ∧ Mid 0 0 W w') :
    Calls Tryz.prog 55 #[graV r n A es.length c] w fun e w' => ∃ A1 c1, e = .returned (.slice A1 (notIn T es).length c1) ∧ OG w' w.heap.size w'.heap.size A1 c1 (notIn T es) ∧ Mid 0 0 w w' := by
  have hl := hf.gr.len
  have HF := Lib.hid hf
  have HT := Lib.hid hT
  clear hf hT
  rw [← notIn_canon]
  have hcT : (canon T).length ≤ 1048576 := by have := putAll_len [] T; unfold canon; simp at this; omega
  obtain ⟨TT, hTT⟩ : ∃ TT, canon T = TT := ⟨_, rfl⟩
  rw [hTT] at HT hcT ⊢
  clear hTT hTl
  have hm0 : Mid 0 0 w ((w.alloc (.cells #[.int .i64 r, .int .i64 n, .slice A es.length c] 32)).alloc (.cells #[] 64)) := (Mid.alloc _ _).trans (Mid.alloc _ _)
  have B0 := (Box.new w #[.int .i64 r, .int .i64 n, .slice A es.length c] 32).mid (Mid.alloc _ (.cells #[] 64)) oZr
  have O0 := owns_empty (w.alloc (.cells #[.int .i64 r, .int .i64 n, .slice A es.length c] 32)) 64 3
  simp only [World.size_alloc] at O0
  have p0 := B0.cell 0 rfl
  have p1 := B0.cell 1 rfl
  have p2 := B0.cell 2 rfl
  go_enter Tryz.func55, Tryz.ntmps55
  go_wp2_with fail
  generalize (w.alloc (.cells #[.int .i64 r, .int .i64 n, .slice A es.length c] 32)).alloc (.cells #[] 64) = w1 at hm0 B0 O0 p0 p1 p2 ⊢
  have hs1 : w.heap.size + 1 < w1.heap.size := (O0.lt _ rfl).2
  with_reducible refine (impl_IsFolded r n A es c w1 lo hi (hr.mid hm0 oZl) (by omega) hcl true (iff_of_true rfl HF.out)).mono ?_
  rintro en w2 ⟨rfl, hm2⟩
  have hs2 := hm2.size
  clear p0 p1 p2
  replace B0 := B0.mid hm2 oZr
  replace O0 := owns_mid O0 hm2 oZl
  replace hm0 := hm0.trans hm2
  have p0 := B0.cell 0 rfl
  have p1 := B0.cell 1 rfl
  have p2 := B0.cell 2 rfl
  clear hm2
  go_wp2_with fail
  with_reducible refine (HT.out w2 (hr.mid hm0 oZl)).mono ?_
  rintro en w3 ⟨AT, cT, rfl, hOT, hm3⟩
  have hs3 := hm3.size
  clear p0 p1 p2 HT
  replace B0 := B0.mid hm3 oZr
  replace O0 := owns_mid O0 hm3 oZl
  replace hm0 := hm0.trans hm3
  have p0 := B0.cell 0 rfl
  have p1 := B0.cell 1 rfl
  have p2 := B0.cell 2 rfl
  clear hm3
  have hRT := hOT.rg
  have HRT := Lib.hid hRT
  have HO0 : Hid (w3.ownsRow (w.heap.size + 1) 64 3 (.slice (some ⟨w.heap.size + 1, 0, none⟩) 0 0) 0 (ints (edI (notIn TT (es.take 0))))) := Lib.hid O0
  have HN0 : Hid ((notIn TT (es.take 0)).length = 0) := Lib.hid rfl
  have HD0 : Hid (∀ g, Value.ownBlock (.slice (some (⟨w.heap.size + 1, 0, none⟩ : Addr)) 0 0) = some g → g = w.heap.size + 1 ∨ w3.heap.size ≤ g) := Lib.hid (fun g hg => .inl (by injection hg with hg; exact hg.symm))
  have hL2 : w.heap.size + 2 ≤ w2.heap.size := by omega
  clear hOT hRT O0
  generalize (some (⟨w.heap.size + 1, 0, none⟩ : Addr)) = A0 at HO0 HD0 ⊢
  generalize w2.heap.size = L2 at HRT hL2 hs3
  generalize hH : w3.heap.size = H3 at HRT HD0 hs3
  have hsz3 : H3 ≤ w3.heap.size := Nat.le_of_eq hH.symm
  clear hH hs2
  go_wp2_with fail
  clear p0 p1 p2 B0
  go_loopw [3, 17] (fun ov kv wr => ∃ (k n2 : Nat) (A2 : Option Addr) (c2 : Nat), kv = .int .i64 k ∧ ov = .slice A2 n2 c2 ∧ k ≤ es.length ∧ Hid ((notIn TT (es.take k)).length = n2) ∧ Hid (wr.ownsRow (w.heap.size + 1) 64 3 (.slice A2 n2 c2) n2 (ints (edI (notIn TT (es.take k))))) ∧ Hid (∀ g, Value.ownBlock (.slice A2 n2 c2) = some g → g = w.heap.size + 1 ∨ H3 ≤ g) ∧ Hid (RG wr L2 H3 AT TT) ∧ H3 ≤ wr.heap.size ∧ Mid 0 0 w wr) (fun _ kv _ => es.length - (intOf kv).toNat)
  case atStart => exact ⟨0, 0, A0, 0, rfl, rfl, Nat.zero_le _, HN0, HO0, HD0, HRT, hsz3, hm0⟩
  case round =>
    clear HN0 HO0 HD0 HRT hsz3 hm0
    obtain ⟨wo, hwo⟩ : ∃ wo, wo = wr := ⟨_, rfl⟩
    subst hwo
    obtain ⟨k, n2, A2, c2, rfl, rfl, hk, HN, HO, HD, HRT, hsz, hm0⟩ := hrel
    have hn2 : n2 ≤ 120 := by have h1 := notIn_len TT (es.take k); have h2 := HN.out; rw [List.length_take] at h1; omega
    by_cases hlt : k < es.length
    · obtain ⟨b, off, e, hA, -, hbh, he, c0, c1, c2'⟩ := (hr.mid hm0 oZl).ed hlt
      subst hA
      have hbs : b < wo.heap.size := Nat.lt_of_lt_of_le hbh (Nat.le_trans hr.1 hm0.size)
      have hk0 : (0 : Int) ≤ (k : Int) := by omega
      have hkm : (k : Int) < (es.length : Int) := by omega
      have hal := Mid.alloc wo (.cells #[.int .i64 e.a, .int .i64 e.l, .int .i64 e.b] 64)
      have B1 := Box.new wo #[.int .i64 e.a, .int .i64 e.l, .int .i64 e.b] 64
      have HO1 := Lib.hid (owns_mid HO.out hal oZl)
      have HRT1 := Lib.hid (HRT.out.mid hal oZl)
      have hm1 := hm0.trans hal
      have HE := Lib.hid he
      have hsal := hal.size
      have q0 := B1.cell 0 rfl
      have q1 := B1.cell 1 rfl
      have q2 := B1.cell 2 rfl
      clear HO HRT hm0 he
      go_wp2_with fail
      generalize wo.alloc (.cells #[.int .i64 e.a, .int .i64 e.l, .int .i64 e.b] 64) = w4 at hal B1 HO1 HRT1 hm1 q0 q1 q2 hsal ⊢
      with_reducible refine (containsE AT TT cT e w4 _ _ HRT1.out hcT).mono ?_
      rintro en w5 ⟨rfl, hm5⟩
      have HO5 := Lib.hid (owns_mid HO1.out hm5 oZl)
      have HRT5 := Lib.hid (HRT1.out.mid hm5 oZl)
      have B5 := B1.mid hm5 oZr
      have hs5 := hm5.size
      have hm6 := hm1.trans hm5
      clear HO1 HRT1 B1 hm1 hm5 q0 q1 q2 hal
      have q0 := B5.cell 0 rfl
      have q1 := B5.cell 1 rfl
      have q2 := B5.cell 2 rfl
      by_cases hin : e ∈ TT
      · have din : decide (e ∈ TT) = true := by simpa using hin
        have HN2 : Hid ((notIn TT (es.take (k + 1))).length = n2) := Lib.hid (by rw [notIn_take HE.out, if_neg (by simpa using hin), List.append_nil]; exact HN.out)
        have HO6 : Hid (w5.ownsRow (w.heap.size + 1) 64 3 (.slice A2 n2 c2) n2 (ints (edI (notIn TT (es.take (k + 1)))))) := Lib.hid (by rw [notIn_take HE.out, if_neg (by simpa using hin), List.append_nil]; exact HO5.out)
        clear HN HO5
        go_wp2_with fail
        go_roundw
        case rel => exact ⟨k + 1, n2, A2, c2, by go_num, rfl, by omega, HN2, HO6, HD, HRT5, by omega, hm6⟩
        case measure => simp [intOf]; omega
      · have din : decide (e ∈ TT) = false := by simpa using hin
        go_wp2_with (at_builtin; refine MarkerX.to ?_)
        unfold MarkerX
        refine wpList_pushE2 rfl _ _ rfl (w.heap.size + 1) A2 n2 c2 _ rfl HO5.out e rfl (by omega) (by omega) ?_
        intro A6 c6 w6 ho6 hgr6 hat6
        have HN2 : Hid ((notIn TT (es.take (k + 1))).length = n2 + 1) := Lib.hid (by rw [notIn_take HE.out, if_pos hin, List.length_append, HN.out]; rfl)
        have HO6 : Hid (w6.ownsRow (w.heap.size + 1) 64 3 (.slice A6 (n2 + 1) c6) (n2 + 1) (ints (edI (notIn TT (es.take (k + 1)))))) := Lib.hid (by rw [notIn_take HE.out, if_pos hin]; exact ho6)
        have HRT6 := Lib.hid (RV.grown HRT5.out hgr6 (fun g hg => by rcases HD.out g hg with h | h <;> omega))
        have hm7 := hm6.grownNew hgr6 (fun g hg => by have := (HO5.out.lt g hg).1; omega)
        have hs6 := hgr6.size
        have HD6 : Hid (∀ g, Value.ownBlock (.slice A6 (n2 + 1) c6) = some g → g = w.heap.size + 1 ∨ H3 ≤ g) := Lib.hid (by
          intro g hg
          rcases hat6 with h | h
          · exact HD.out g (h ▸ hg)
          · rw [h] at hg
            injection hg with hg
            omega)
        clear ho6 hgr6 hat6 HN HO5 HRT5 B5 hm6 HD q0 q1 q2
        go_wp2_with fail
        go_roundw
        case rel => exact ⟨k + 1, n2 + 1, A6, c6, by go_num, rfl, by omega, HN2, HO6, HD6, HRT6, by omega, hm7⟩
        case measure => simp [intOf]; omega
    · obtain rfl : k = es.length := by omega
      have hN := HN.out
      have hO := HO.out
      rw [List.take_length] at hN hO
      subst hN
      have hOG : OG wo w.heap.size wo.heap.size A2 c2 (notIn TT es) := ⟨Nat.le_refl _, owns_base hO (Nat.le_succ _), fun g hg => (hO.lt g hg).2⟩
      have HOG := Lib.hid hOG
      clear hO HO hOG HRT HN HD
      go_wp2_with fail
      go_ret
      exact ⟨A2, c2, rfl, HOG.out, hm0⟩
end Go.Proofs.YtkaofcakelpnpaaGreat

namespace Go.Proofs.YtkaofcakelpnpaaGreat
set_option linter.unusedVariables false
set_option linter.unusedSimpArgs false
open Go.RowKit
section
variable {P : Program} {ops : Array Oper} {Q : Exit → Act → World → Prop} {md : Region.Mode} {S : World → Prop} {Z : List Nat}
def wpAnyZ (P : Program) (md : Region.Mode) (ops : Array Oper) (Q : Exit → Act → World → Prop) (S : World → Prop) (Z : List Nat) : Nat → Array Bool → Act → World → Prop
  | 0, listed, a, w => Region.ready md ops listed = [] ∧ Q .normal a w
  | fuel + 1, listed, a, w =>
    (Region.ready md ops listed = [] → Q .normal a w) ∧
    ∀ i ∈ Region.ready md ops listed, wpOp P ops Q i (fun a' w' => (i ∈ Z ∨ S w') ∧ wpAnyZ P md ops Q S Z fuel (listed.setIfInBounds i true) a' w') a w
theorem wpAny_of_Z : ∀ (fuel : Nat) (listed : Array Bool) (a : Act) (w : World), wpAnyZ P md ops Q S Z fuel listed a w → wpAny P md ops Q fuel listed a w
  | 0, _, _, _, h => h
  | fuel + 1, _, _, _, h => ⟨h.1, fun i hi => wpOp_mono (fun a' w' h' => wpAny_of_Z fuel _ a' w' h'.2) (h.2 i hi)⟩
theorem not_lastZ {z i : Nat} {listed : Array Bool} (hz : Region.waitsFor md ops z i = true) (hun : listed.getD i true = false) : z ∉ Region.ready md ops listed := by
  intro hr
  obtain ⟨-, oz, hoz, hall⟩ := mem_ready.1 hr
  obtain ⟨oz', hoz', e, he, hb, hon⟩ := Region.waitsFor_spec hz
  obtain rfl : oz' = oz := Option.some.inj (hoz'.symm.trans hoz)
  have h1 := hall e he hb
  rw [hon, getD_both hun] at h1
  cases h1
theorem not_lastC {i m : Nat} {C : List Nat} {listed : Array Bool} (hC : ∀ m ∈ C, listed.getD m true = false ∧ ∃ p ∈ i :: C, Region.waitsFor md ops m p = true) (hi : listed.getD i true = false) (hm : m ∈ C) : m ∉ Region.ready md ops listed := by
  obtain ⟨-, p, hp, hw⟩ := hC m hm
  have hun : listed.getD p true = false := by
    rcases List.mem_cons.1 hp with rfl | hp
    · exact hi
    · exact (hC p hp).1
  exact not_lastZ hw hun
theorem wpAnyZ_firstC {i : Nat} {oi : Oper} {v : Value} {C : List Nat} (hi : ops[i]? = some oi) (hsel : ∀ (j : Nat) (o : Oper) cs b, ops[j]? = some o → o.op ≠ .select cs b)
    (hQ : ∀ c a w, Q (.panic c) (a.put oi.dst v) w → Q (.panic c) a w) (hZC : ∀ z ∈ Z, z ∈ C) :
    ∀ (fuel : Nat) (listed : Array Bool) (a : Act) (w : World),
      (∀ j oj, ops[j]? = some oj → j ≠ i → listed.getD j true = false → (∀ e ∈ oj.after, Region.binds md e = true → e.on ≠ i) → oi.apart ops oj = true) →
      (∀ m ∈ C, listed.getD m true = false ∧ ∃ p ∈ i :: C, Region.waitsFor md ops m p = true) →
      i ∈ Region.ready md ops listed → YieldsIf P ops S oi v a → S w →
      wpAnyZ P md ops Q S Z fuel (listed.setIfInBounds i true) (a.put oi.dst v) w → wpAnyZ P md ops Q S Z (fuel + 1) listed a w := by
  intro fuel
  induction fuel with
  | zero =>
    intro listed a w _ _ hr hy hS H
    refine ⟨fun h => (by rw [h] at hr; cases hr), fun j hj => ?_⟩
    by_cases hji : j = i
    · subst hji; exact hy.wpOp hi hS ⟨.inr hS, H⟩
    · have := ready_mono hj hji
      rw [H.1] at this
      cases this
  | succ fuel ih =>
    intro listed a w hfree hC hr hy hS H
    refine ⟨fun h => (by rw [h] at hr; cases hr), fun j hj => ?_⟩
    by_cases hji : j = i
    · subst hji; exact hy.wpOp hi hS ⟨.inr hS, H⟩
    · have hjC : j ∉ C := fun e => not_lastC hC (mem_ready.1 hr).1 e hj
      have hjz : j ∉ Z := fun e => hjC (hZC j e)
      have h1 := H.2 j (ready_mono hj hji)
      obtain ⟨hjun, oj, hoj, hall⟩ := mem_ready.1 hj
      have hnot : ∀ e ∈ oj.after, Region.binds md e = true → e.on ≠ i := fun e he hb heq => by
        have h1 := hall e he hb
        have h0 := (mem_ready.1 hr).1
        rw [heq] at h1
        rcases Nat.lt_or_ge i listed.size with h' | h'
        · simp [h'] at h0 h1; rw [h0] at h1; cases h1
        · simp [Array.getElem?_eq_none h'] at h1
      have h2 := wpOp_putIf hoj (hfree j oj hoj hji hjun hnot) (fun cs b => hsel i oi cs b hi) (fun cs b => hsel j oj cs b hoj) hQ hy h1
      have hfree' : ∀ k ok, ops[k]? = some ok → k ≠ i → (listed.setIfInBounds j true).getD k true = false →
          (∀ e ∈ ok.after, Region.binds md e = true → e.on ≠ i) → oi.apart ops ok = true := fun k ok hk hki hun hno => by
        refine hfree k ok hk hki ?_ hno
        by_cases hjk : j = k
        · subst hjk; exact hjun
        · rw [getD_set_ne true hjk] at hun; exact hun
      have hC' : ∀ m ∈ C, (listed.setIfInBounds j true).getD m true = false ∧ ∃ p ∈ i :: C, Region.waitsFor md ops m p = true := fun m hm => by
        refine ⟨?_, (hC m hm).2⟩
        have hjm : j ≠ m := fun e => hjC (e ▸ hm)
        rw [getD_set_ne true hjm]
        exact (hC m hm).1
      refine wpOp_mono (fun a' w' h3 => ?_) h2
      have hS' : S w' := h3.2.1.resolve_left hjz
      refine ⟨.inr hS', ih (listed.setIfInBounds j true) a' w' hfree' hC' (ready_mono hr (Ne.symm hji)) h3.1 hS' ?_⟩
      rw [Array.setIfInBounds_comm _ _ hji]
      exact h3.2.2
theorem wpAnyZ_takeC (C : List Nat) {i : Nat} {oi : Oper} {v : Value} {fuel : Nat} {listed : Array Bool} {a : Act} {w : World} (hi : ops[i]? = some oi)
    (hs : Region.noSelect ops = true) (hf : Region.free md ops listed i = true) (hr : (Region.ready md ops listed).contains i = true)
    (hz : ((Z.all fun z => C.contains z) && C.all fun m => (listed.getD m true == false) && (i :: C).any fun p => Region.waitsFor md ops m p) = true)
    (hQ : ∀ c a w, Q (.panic c) (a.put oi.dst v) w → Q (.panic c) a w) (hy : YieldsIf P ops S oi v a) (hS : S w)
    (h : wpAnyZ P md ops Q S Z fuel (listed.setIfInBounds i true) (a.put oi.dst v) w) : wpAnyZ P md ops Q S Z (fuel + 1) listed a w := by
  rw [Bool.and_eq_true] at hz
  refine wpAnyZ_firstC hi (Region.noSelect_spec hs) hQ (C := C) (fun z hzm => by simpa using List.all_eq_true.1 hz.1 z hzm) fuel listed a w (Region.free_spec hi hf) (fun m hm => ?_) (by simpa using hr) hy hS h
  have := List.all_eq_true.1 hz.2 m hm
  rw [Bool.and_eq_true] at this
  refine ⟨by simpa using this.1, ?_⟩
  obtain ⟨p, hp, hw⟩ := List.any_eq_true.1 this.2
  exact ⟨p, hp, hw⟩
def AllReadyZ (P : Program) (md : Region.Mode) (ops : Array Oper) (Q : Exit → Act → World → Prop) (S : World → Prop) (Z : List Nat) (fuel : Nat) (listed : Array Bool) (a : Act) (w : World) (rs : List Nat) : Prop :=
  ∀ i ∈ rs, wpOp P ops Q i (fun a' w' => (i ∈ Z ∨ S w') ∧ wpAnyZ P md ops Q S Z fuel (listed.setIfInBounds i true) a' w') a w
theorem AllReadyZ.nil {fuel : Nat} {listed : Array Bool} {a : Act} {w : World} : AllReadyZ P md ops Q S Z fuel listed a w [] := fun _ h => by cases h
theorem AllReadyZ.cons {fuel : Nat} {listed : Array Bool} {a : Act} {w : World} {i : Nat} {o : Oper} {rs : List Nat} (ho : ops[i]? = some o)
    (h : ∀ K' : Act → World → Prop, Shut (∀ a w, (i ∈ Z ∨ S w) → ((i ∈ Z ∨ S w) → wpAnyZ P md ops Q S Z fuel (listed.setIfInBounds i true) a w) → K' a w) → if Region.wanted o (yielded ops a.tmps) = true then Oper.wp P o a w K' Q else K' (a.put o.dst undef) w)
    (hs : AllReadyZ P md ops Q S Z fuel listed a w rs) : AllReadyZ P md ops Q S Z fuel listed a w (i :: rs) := fun j hj => by
  rcases List.mem_cons.1 hj with rfl | hj
  · exact wpOp_step ho (fun K' hK => h K' (fun a w hS hW => hK a w ⟨hS, hW hS⟩))
  · exact hs j hj
theorem wpAnyZ_ready {rs : List Nat} {fuel : Nat} {listed : Array Bool} {a : Act} {w : World} (hr : Region.ready md ops listed = rs) (hne : rs ≠ [])
    (h : AllReadyZ P md ops Q S Z fuel listed a w rs) : wpAnyZ P md ops Q S Z (fuel + 1) listed a w :=
  ⟨fun h0 => absurd (hr.symm.trans h0) hne, fun i hi => h i (hr ▸ hi)⟩
theorem wpAnyZ_done {listed : Array Bool} {a : Act} {w : World} (hr : Region.ready md ops listed = []) (h : Q .normal a w) : ∀ fuel, wpAnyZ P md ops Q S Z fuel listed a w
  | 0 => ⟨hr, h⟩
  | _ + 1 => ⟨fun _ => h, by rw [hr]; simp⟩
theorem wp_region_Z {id : Nat} {a : Act} {w : World} (Z : List Nat) (hm : P.follows .mixedOrders = true) (hS : S w.drew)
    (h : wpAnyZ P .any ops Q S Z ops.size (Array.replicate ops.size false) a w.drew) : (Code.region id ops true).wp P Q a w :=
  wp_region_any hm (wpAny_of_Z _ _ _ _ h)
end
end Go.Proofs.YtkaofcakelpnpaaGreat

namespace Go.Proofs.YtkaofcakelpnpaaGreat
set_option linter.unusedVariables false
set_option linter.unusedSimpArgs false
open Go.RowKit
def WordsR (w : World) (H B : Nat) (vals : List Value) (st : BS) : Prop := ∀ p ∈ st, ∃ Aw cw, vals[p.1.toNat]? = some (.slice Aw p.2.length cw) ∧ (p.2 ≠ [] → ∃ b, Aw = some ⟨b, 0, none⟩ ∧ b < H ∧ b ≠ B ∧ b < w.heap.size ∧ ∀ j u, (ints p.2)[j]? = some u → w.cell? ⟨b, j, none⟩ = some u)
theorem WordsR.mid {w w' : World} {H B : Nat} {vals : List Value} {st : BS} (h : WordsR w H B vals st) (m : Mid 0 0 w w') : WordsR w' H B vals st := fun p hp => by
  obtain ⟨Aw, cw, h1, h2⟩ := h p hp
  refine ⟨Aw, cw, h1, fun hn => ?_⟩
  obtain ⟨b, hA, h3, h4, h5, h6⟩ := h2 hn
  exact ⟨b, hA, h3, h4, Nat.lt_of_lt_of_le h5 m.size, fun j u hu => cell_keep m h5 oZr (h6 j u hu)⟩
theorem WordsR.grown {w w' : World} {H B : Nat} {vals : List Value} {st : BS} {row : Option Nat} (h : WordsR w H B vals st) (hg : w.grownBy w' row) (hd : ∀ g, row = some g → g = B ∨ H ≤ g) : WordsR w' H B vals st := fun p hp => by
  obtain ⟨Aw, cw, h1, h2⟩ := h p hp
  refine ⟨Aw, cw, h1, fun hn => ?_⟩
  obtain ⟨b, hA, h3, h4, h5, h6⟩ := h2 hn
  refine ⟨b, hA, h3, h4, Nat.lt_of_lt_of_le h5 hg.size, fun j u hu => (World.cell?_of_block (hg.block b h5 (fun e => ?_))).trans (h6 j u hu)⟩
  rcases hd b e.symm with h0 | h0
  · exact h4 h0
  · omega
theorem TreeSt.wordsR {w : World} {g n : Nat} {oB : Option Nat} {vals : List Value} {st : BS} {B : Nat} (h : TreeSt w g oB n vals st) (hB : ∀ j, w.cell? ⟨B, j, none⟩ = none) : WordsR w w.heap.size B vals st := fun p hp => by
  obtain ⟨b, c, h1, h2, h3, h4, h5⟩ := h.on p hp
  refine ⟨_, c, h1, fun hn => ⟨b, rfl, h5, ?_, h5, h2⟩⟩
  intro hb
  subst hb
  have hl : 0 < p.2.length := List.length_pos_iff.2 hn
  have := h2 0 (.int .i64 p.2[0]) (by rw [ints_get, List.getElem?_eq_getElem hl]; rfl)
  rw [hB] at this
  cases this
theorem WordsR.rv {w : World} {H B : Nat} {vals : List Value} {st : BS} (h : WordsR w H B vals st) (hH : H ≤ w.heap.size) {p : Int × List Int} (hp : p ∈ st) : ∃ Aw cw, vals[p.1.toNat]? = some (.slice Aw p.2.length cw) ∧ RV w 0 H Aw (ints p.2) := by
  obtain ⟨Aw, cw, h1, h2⟩ := h p hp
  refine ⟨Aw, cw, h1, hH, fun hn => ?_⟩
  obtain ⟨b, hA, h3, h4, h5, h6⟩ := h2 (by intro h0; rw [h0] at hn; exact hn rfl)
  exact ⟨b, 0, hA, Nat.zero_le _, h3, fun j u hu => by rw [Nat.zero_add]; exact h6 j u hu⟩
theorem ob_oneB {b g n c : Nat} (h : Value.ownBlock (.slice (some ⟨b, 0, none⟩) n c) = some g) : g = b := (Option.some.inj (show some b = some g from h)).symm
theorem rv_get0' {w : World} {lo hi b j : Nat} {cs : List Value} {u : Value} (h : RV w lo hi (some ⟨b, 0, none⟩) cs) (hu : cs[j]? = some u) : b < hi ∧ w.cell? ⟨b, j, none⟩ = some u := by
  obtain ⟨b', off, e, -, h2, hc⟩ := h.2 (by intro h0; subst h0; simp at hu)
  injection e with e
  injection e with e1 e2
  subst e1 e2
  have := hc j u hu
  rw [Nat.zero_add] at this
  exact ⟨h2, this⟩
theorem rss_lit3 {w : World} (A1 A2 A3 : Option Addr) (c1 c2 c3 : Nat) (x1 x2 x3 : List Int) (h1 : Rs w w.heap.size A1 (ints x1)) (h2 : Rs w w.heap.size A2 (ints x2)) (h3 : Rs w w.heap.size A3 (ints x3)) :
    RSS (w.alloc (.cells #[.slice A1 x1.length c1, .slice A2 x2.length c2, .slice A3 x3.length c3] 48)) 0 (w.heap.size + 1) (some ⟨w.heap.size, 0, none⟩) [x1, x2, x3] := by
  have hk : ∀ {A : Option Addr} {x : List Int}, Rs w w.heap.size A (ints x) → RV (w.alloc (.cells #[.slice A1 x1.length c1, .slice A2 x2.length c2, .slice A3 x3.length c3] 48)) 0 (w.heap.size + 1) A (ints x) := fun h => by
    refine ⟨by simp, fun hn => ?_⟩
    obtain ⟨b, off, e, hb, hc⟩ := (h.alloc (Nat.le_refl _) (.cells #[.slice A1 x1.length c1, .slice A2 x2.length c2, .slice A3 x3.length c3] 48)) hn
    exact ⟨b, off, e, Nat.zero_le _, by omega, hc⟩
  refine ⟨[⟨A1, c1, x1⟩, ⟨A2, c2, x2⟩, ⟨A3, c3, x3⟩], rfl, ⟨by simp, fun _ => ⟨w.heap.size, 0, rfl, Nat.zero_le _, Nat.lt_succ_self _, fun j u hu => ?_⟩⟩, fun r hr => ?_⟩
  · rw [Nat.zero_add, World.cell?_alloc_new]
    simpa [rowsV, Row.v] using hu
  · simp at hr
    rcases hr with rfl | rfl | rfl
    · exact hk h1
    · exact hk h2
    · exact hk h3
set_option maxHeartbeats 6400000 in
set_option maxRecDepth 100000 in
theorem impl_BasisOf (r n : Nat) (A : Option Addr) (es : List Ed) (c : Nat) (w : World) (lo hi : Nat) (hr : RG w lo hi A es) (hcl : es.length ≤ c) (hco : IsCor r n es) (X : List Ed) (hX : ∀ e ∈ X, e ∈ es) (hXl : X.length ≤ 120)
    (hE : ∀ W, RG W lo hi A es → Calls Tryz.prog 55 #[graV r n A es.length c] W fun e w' => ∃ A1 c1, e = .returned (.slice A1 X.length c1) ∧ OG w' W.heap.size w'.heap.size A1 c1 X ∧ Mid 0 0 W w') :
    Calls Tryz.prog 27 #[graV r n A es.length c] w fun e w' => ∃ A1 c1, e = .returned (.slice A1 (X.map (basisW r es)).length c1) ∧ OSS w' w.heap.size w'.heap.size 48 3 A1 c1 (X.map (basisW r es)) ∧ Mid 0 0 w w' := by
  have hg := hco.gr
  have hn1 : 0 < n := by have := hg.size; omega
  have hn40 : n ≤ 40 := by have := hg.size; omega
  have hl := hg.len
  have hr3 : r ≤ 3 := by have := hg.rank; omega
  have HCO := Lib.hid hco
  have HE := Lib.hid hE
  have HX := Lib.hid hX
  clear hco hE hX
  have hm0 : Mid 0 0 w ((w.alloc (.cells #[.int .i64 r, .int .i64 n, .slice A es.length c] 32)).alloc (.cells #[] 48)) := (Mid.alloc _ _).trans (Mid.alloc _ _)
  have B0 := (Box.new w #[.int .i64 r, .int .i64 n, .slice A es.length c] 32).mid (Mid.alloc _ (.cells #[] 48)) oZr
  have O0 := Own1.empty (w.alloc (.cells #[.int .i64 r, .int .i64 n, .slice A es.length c] 32))
  have hB : ∀ j, ((w.alloc (.cells #[.int .i64 r, .int .i64 n, .slice A es.length c] 32)).alloc (.cells #[] 48)).cell? ⟨w.heap.size + 1, j, none⟩ = none := fun j => by
    have h := World.cell?_alloc_new (w.alloc (.cells #[.int .i64 r, .int .i64 n, .slice A es.length c] 32)) #[] 48 j
    rw [World.size_alloc] at h
    rw [h]
    rfl
  simp only [World.size_alloc] at O0
  have p0 := B0.cell 0 rfl
  have p1 := B0.cell 1 rfl
  have p2 := B0.cell 2 rfl
  go_enter Tryz.func27, Tryz.ntmps27
  go_wp2_with fail
  generalize (w.alloc (.cells #[.int .i64 r, .int .i64 n, .slice A es.length c] 32)).alloc (.cells #[] 48) = w1 at hm0 B0 O0 hB p0 p1 p2 ⊢
  have hs1 : w.heap.size + 1 < w1.heap.size := (O0.lt rfl).2
  with_reducible refine (impl_IsCore r n A es c w1 lo hi (hr.mid hm0 oZl) (by omega) hcl true (iff_of_true rfl HCO.out)).mono ?_
  rintro en w2 ⟨rfl, hm2⟩
  have hs2 := hm2.size
  have hB2 : ∀ j, w2.cell? ⟨w.heap.size + 1, j, none⟩ = none := fun j => (World.cell?_of_block (hm2.block _ (by simpa using hs1) (by omega))).trans (hB j)
  clear p0 p1 p2 hB
  replace O0 := O0.mid hm2
  replace B0 := B0.mid hm2 oZr
  replace hm0 := hm0.trans hm2
  have p0 := B0.cell 0 rfl
  have p1 := B0.cell 1 rfl
  have p2 := B0.cell 2 rfl
  clear hm2
  have hT := impl_tree r n 0 A es c w2 lo hi (hr.mid hm0 oZl) hg hn1
  have h00 : ((0 : Nat) : Int) = 0 := rfl
  rw [h00] at hT
  have hor : ordE r es 0 = (bfs es (lets r) 0).map Prod.fst := by unfold ordE; rw [Int.toNat_natCast]
  rw [hor] at hT
  obtain ⟨ST, hST⟩ : ∃ ST, bfs es (lets r) 0 = ST := ⟨_, rfl⟩
  rw [hST] at hT
  have HSTE := Lib.hid hST
  have HTL := Lib.hid hT
  clear hT h00 hor hST
  go_wp2_with fail
  with_reducible refine HTL.out.mono ?_
  rintro en w3 ⟨A1, c1, rfl, hm3, -, vals, hval, hts⟩
  have hs3 := hm3.size
  have hWR := hts.wordsR (B := w.heap.size + 1) (fun j => (World.cell?_of_block (hm3.block _ (show w.heap.size + 1 < w2.heap.size by omega) (by omega))).trans (hB2 j))
  have hRV := (owns_rv hval).wide (lo' := w.heap.size + 2) (hi' := w3.heap.size) (by omega) (Nat.le_refl _) (Nat.le_refl _)
  clear p0 p1 p2 hval hts hB2 HTL
  replace O0 := O0.mid hm3
  replace B0 := B0.mid hm3 oZr
  replace hm0 := hm0.trans hm3
  have p0 := B0.cell 0 rfl
  have p1 := B0.cell 1 rfl
  have p2 := B0.cell 2 rfl
  clear hm3
  have HWR := Lib.hid hWR
  have HRV := Lib.hid hRV
  have HO := Lib.hid O0
  clear hWR hRV O0
  go_wp2_with fail
  with_reducible refine (HE.out w3 (hr.mid hm0 oZl)).mono ?_
  rintro en w4 ⟨AX, cX, rfl, hOX, hm4⟩
  have hs4 := hm4.size
  have HWR4 := Lib.hid (HWR.out.mid hm4)
  have HRV4 := Lib.hid (HRV.out.mid hm4 oZl)
  have HO4 := Lib.hid (HO.out.mid hm4)
  have HRX := Lib.hid (hOX.rg.wide (lo' := w.heap.size + 2) (hi' := w4.heap.size) (by omega) (Nat.le_refl _) (Nat.le_refl _))
  have HRV4' := Lib.hid (HRV4.out.wide (lo' := w.heap.size + 2) (hi' := w4.heap.size) (Nat.le_refl _) hs4 (Nat.le_refl _))
  have hm05 := hm0.trans hm4
  have HWR4' : Hid (WordsR w4 w4.heap.size (w.heap.size + 1) vals ST) := Lib.hid (fun p hp => by
    obtain ⟨Aw, cw, h1, h2⟩ := HWR4.out p hp
    refine ⟨Aw, cw, h1, fun hn => ?_⟩
    obtain ⟨b, hA, h3, h4, h5, h6⟩ := h2 hn
    exact ⟨b, hA, by omega, h4, h5, h6⟩)
  have HD0 : Hid (∀ g, obS (some (⟨w.heap.size + 1, 0, none⟩ : Addr)) 0 0 = some g → g = w.heap.size + 1 ∨ w4.heap.size ≤ g) := Lib.hid (fun g hg => .inl (ob_oneB hg))
  have HN0 : Hid (rowsD ([] : List Row) = (X.take 0).map (basisW r es)) := Lib.hid rfl
  clear HWR HRV HO HWR4 HRV4 hOX B0 p0 p1 p2 hm0 hm4 HE
  generalize (some (⟨w.heap.size + 1, 0, none⟩ : Addr)) = A0 at HO4 HD0 ⊢
  generalize hH : w4.heap.size = H4 at HRX HRV4' HWR4' HD0
  have hsz4 : H4 ≤ w4.heap.size := Nat.le_of_eq hH.symm
  have hw4 : w.heap.size + 2 ≤ H4 := by omega
  generalize w2.heap.size + 1 = gv at HRV4' ⊢
  clear hH
  go_wp2_with fail
  go_loopw [3, 21] (fun ov kv wr => ∃ (k : Nat) (rows : List Row) (A2 : Option Addr) (c2 : Nat), kv = .int .i64 k ∧ ov = .slice A2 k c2 ∧ k ≤ X.length ∧ Hid (rowsD rows = (X.take k).map (basisW r es)) ∧ Hid (Own1 wr (w.heap.size + 1) A2 k c2 rows) ∧ Hid (∀ g, obS A2 k c2 = some g → g = w.heap.size + 1 ∨ H4 ≤ g) ∧ Hid (RG wr (w.heap.size + 2) H4 AX X) ∧ Hid (RV wr (w.heap.size + 2) H4 (some ⟨gv, 0, none⟩) vals) ∧ Hid (WordsR wr H4 (w.heap.size + 1) vals ST) ∧ H4 ≤ wr.heap.size ∧ Mid 0 0 w wr) (fun _ kv _ => X.length - (intOf kv).toNat)
  case atStart => exact ⟨0, [], A0, 0, rfl, rfl, Nat.zero_le _, HN0, HO4, HD0, HRX, HRV4', HWR4', hsz4, hm05⟩
  case round =>
    clear HN0 HO4 HD0 HRX HRV4' HWR4' hsz4 hm05
    obtain ⟨wo, hwo⟩ : ∃ wo, wo = wr := ⟨_, rfl⟩
    subst hwo
    obtain ⟨k, rows, A2, c2, rfl, rfl, hk, HN, HO, HD, HRX, HRV, HWR, hsz, hm0⟩ := hrel
    by_cases hlt : k < X.length
    · obtain ⟨b, off, ⟨ea, el, ebb⟩, hA, -, hbh, he, x0, x1, x2⟩ := (HRX.out).ed hlt
      simp only at x0 x1 x2
      subst hA
      have hbs : b < wo.heap.size := Nat.lt_of_lt_of_le hbh hsz
      have hk0 : (0 : Int) ≤ (k : Int) := by omega
      have hkm : (k : Int) < (X.length : Int) := by omega
      have hin := hg.all _ (HX.out _ (List.mem_of_getElem? he))
      unfold InG at hin
      simp only at hin
      obtain ⟨pa, rfl⟩ : ∃ m : Nat, ea = m := ⟨ea.toNat, by omega⟩
      obtain ⟨pb, rfl⟩ : ∃ m : Nat, ebb = m := ⟨ebb.toNat, by omega⟩
      have hpan : pa < n := by omega
      have hpbn : pb < n := by omega
      have hwa := wordV_mem HCO.out hpan
      have hwb := wordV_mem HCO.out hpbn
      obtain ⟨hla, hlla⟩ := wordV_ok HCO.out hpan
      obtain ⟨hlb, hllb⟩ := wordV_ok HCO.out hpbn
      have hbas : basisW r es ⟨(pa : Int), el, (pb : Int)⟩ = red [] (wordV r es (pa : Int) ++ [el] ++ invW (wordV r es (pb : Int))) := rfl
      rw [HSTE.out] at hwa hwb
      generalize wordV r es (pa : Int) = wa at hwa hla hlla hbas
      generalize wordV r es (pb : Int) = wb at hwb hlb hllb hbas
      obtain ⟨Aa, ca, hva, hra⟩ := HWR.out.rv hsz hwa
      obtain ⟨Ab, cb, hvb, hrb⟩ := HWR.out.rv hsz hwb
      simp only [Int.toNat_natCast] at hva hvb
      obtain ⟨hgvH, hca⟩ := rv_get0' HRV.out hva
      have hcb := (rv_get0' HRV.out hvb).2
      have hal := Mid.alloc wo (.cells #[.int .i64 (pa : Int), .int .i64 el, .int .i64 (pb : Int)] 64)
      have B1 := Box.new wo #[.int .i64 (pa : Int), .int .i64 el, .int .i64 (pb : Int)] 64
      have hgvo : gv < wo.heap.size := by omega
      have HEK := Lib.hid he
      have HBAS := Lib.hid hbas
      have hel : -3 ≤ el ∧ el ≤ 3 := by omega
      have hoka : OkI wa := fun x hx => by have := mem_lets.1 (hlla x hx); omega
      have hokb : OkI wb := fun x hx => by have := mem_lets.1 (hllb x hx); omega
      have HOKA := Lib.hid hoka
      have HOKB := Lib.hid hokb
      have hpa0 : (0 : Int) ≤ (pa : Int) := by omega
      have hpan' : (pa : Int) < (n : Int) := by omega
      have hpb0 : (0 : Int) ≤ (pb : Int) := by omega
      have hpbn' : (pb : Int) < (n : Int) := by omega
      clear he hbas hva hvb hwa hwb hlla hllb hoka hokb hin
      go_wp2_with fail
      generalize wo.alloc (.cells #[.int .i64 (pa : Int), .int .i64 el, .int .i64 (pb : Int)] 64) = wbx at hal B1 ⊢
      clear x0 x1 x2
      have hmz := hal.trans (Mid.drew1 wbx)
      have HO1 := Lib.hid (HO.out.mid hmz)
      have HRX1 := Lib.hid (HRX.out.mid hmz oZl)
      have HRV1 := Lib.hid (HRV.out.mid hmz oZl)
      have HWR1 := Lib.hid (HWR.out.mid hmz)
      have hra1 := hra.mid hmz oZl
      have hrb1 := hrb.mid hmz oZl
      have hca1 := cell_keep hmz hgvo oZr hca
      have hcb1 := cell_keep hmz hgvo oZr hcb
      have hgv1 : gv < (World.drew wbx).heap.size := Nat.lt_of_lt_of_le hgvo hmz.size
      have hmt := hm0.trans hmz
      have B2 := B1.mid (Mid.drew1 wbx) oZr
      have hsal := hmz.size
      have hbb : wo.heap.size < (World.drew wbx).heap.size := B2.1
      have q0 := B2.cell 0 rfl
      have q1 := B2.cell 1 rfl
      have q2 := B2.cell 2 rfl
      clear hca hcb hra hrb hal B1 HO HRX HRV HWR hm0
      refine wp_region_Z (S := (fun w' => w'.cell? ⟨wo.heap.size, 0, none⟩ = some (.int .i64 (pa : Int)) ∧ w'.cell? ⟨wo.heap.size, 1, none⟩ = some (.int .i64 el) ∧ w'.cell? ⟨wo.heap.size, 2, none⟩ = some (.int .i64 (pb : Int)) ∧ w'.cell? ⟨gv, pa, none⟩ = some (.slice Aa wa.length ca) ∧ w'.cell? ⟨gv, pb, none⟩ = some (.slice Ab wb.length cb))) [18, 19] (by kernel_rfl) ⟨q0, q1, q2, hca1, hcb1⟩ ?_
      generalize World.drew wbx = wz at HO1 HRX1 HRV1 HWR1 hra1 hrb1 hca1 hcb1 hgv1 hmt B2 hsal hbb q0 q1 q2 hmz ⊢
      have hS : wz.cell? ⟨wo.heap.size, 0, none⟩ = some (.int .i64 (pa : Int)) ∧ wz.cell? ⟨wo.heap.size, 1, none⟩ = some (.int .i64 el) ∧ wz.cell? ⟨wo.heap.size, 2, none⟩ = some (.int .i64 (pb : Int)) ∧ wz.cell? ⟨gv, pa, none⟩ = some (.slice Aa wa.length ca) ∧ wz.cell? ⟨gv, pb, none⟩ = some (.slice Ab wb.length cb) := ⟨q0, q1, q2, hca1, hcb1⟩
      refine wpAnyZ_takeC [18, 19] (i := 0) (v := ?_) rfl (by kernel_rfl) (by kernel_rfl) (by kernel_rfl) (by kernel_rfl) (fun _ _ _ h => h) (Or.inl ⟨by rfl, ?_⟩) hS ?_
      rotate_left
      focus (intro w hSw; (try dsimp only at hSw); go_simp; try with_reducible rfl)
      try simp only [Act.put, List.setIfInBounds_toArray, List.set_cons_zero, List.set_cons_succ, List.getElem_toArray, List.getElem_cons_zero, List.getElem_cons_succ]
      refine wpAnyZ_takeC [4, 5, 15, 16, 17, 18, 19] (i := 1) (v := ?_) rfl (by kernel_rfl) (by kernel_rfl) (by kernel_rfl) (by kernel_rfl) (fun _ _ _ h => h) (Or.inl ⟨by rfl, ?_⟩) hS ?_
      rotate_left
      focus (intro w hSw; (try dsimp only at hSw); go_simp; try with_reducible rfl)
      try simp only [Act.put, List.setIfInBounds_toArray, List.set_cons_zero, List.set_cons_succ, List.getElem_toArray, List.getElem_cons_zero, List.getElem_cons_succ]
      refine wpAnyZ_takeC [3, 4, 5, 15, 16, 17, 18, 19] (i := 2) (v := ?_) rfl (by kernel_rfl) (by kernel_rfl) (by kernel_rfl) (by kernel_rfl) (fun _ _ _ h => h) (Or.inl ⟨by rfl, ?_⟩) hS ?_
      rotate_left
      focus (intro w hSw; (try dsimp only at hSw); go_simp; try with_reducible rfl)
      try simp only [Act.put, List.setIfInBounds_toArray, List.set_cons_zero, List.set_cons_succ, List.getElem_toArray, List.getElem_cons_zero, List.getElem_cons_succ]
      refine wpAnyZ_takeC [4, 5, 15, 16, 17, 18, 19] (i := 3) (v := ?_) rfl (by kernel_rfl) (by kernel_rfl) (by kernel_rfl) (by kernel_rfl) (fun _ _ _ h => h) (Or.inl ⟨by rfl, ?_⟩) hS ?_
      rotate_left
      focus (intro w hSw; (try dsimp only at hSw); go_simp; try with_reducible rfl)
      try simp only [Act.put, List.setIfInBounds_toArray, List.set_cons_zero, List.set_cons_succ, List.getElem_toArray, List.getElem_cons_zero, List.getElem_cons_succ]
      refine wpAnyZ_takeC [5, 15, 16, 17, 18, 19] (i := 4) (v := ?_) rfl (by kernel_rfl) (by kernel_rfl) (by kernel_rfl) (by kernel_rfl) (fun _ _ _ h => h) (Or.inl ⟨by rfl, ?_⟩) hS ?_
      rotate_left
      focus (intro w hSw; (try dsimp only at hSw); go_simp; try with_reducible rfl)
      try simp only [Act.put, List.setIfInBounds_toArray, List.set_cons_zero, List.set_cons_succ, List.getElem_toArray, List.getElem_cons_zero, List.getElem_cons_succ]
      refine wpAnyZ_takeC [15, 16, 17, 18, 19] (i := 5) (v := ?_) rfl (by kernel_rfl) (by kernel_rfl) (by kernel_rfl) (by kernel_rfl) (fun _ _ _ h => h) (Or.inl ⟨by rfl, ?_⟩) hS ?_
      rotate_left
      focus (intro w hSw; (try dsimp only at hSw); go_simp; try with_reducible rfl)
      try simp only [Act.put, List.setIfInBounds_toArray, List.set_cons_zero, List.set_cons_succ, List.getElem_toArray, List.getElem_cons_zero, List.getElem_cons_succ]
      refine wpAnyZ_takeC [7, 8, 15, 16, 17, 18, 19] (i := 6) (v := ?_) rfl (by kernel_rfl) (by kernel_rfl) (by kernel_rfl) (by kernel_rfl) (fun _ _ _ h => h) (Or.inl ⟨by rfl, ?_⟩) hS ?_
      rotate_left
      focus (intro w hSw; (try dsimp only at hSw); go_simp; try with_reducible rfl)
      try simp only [Act.put, List.setIfInBounds_toArray, List.set_cons_zero, List.set_cons_succ, List.getElem_toArray, List.getElem_cons_zero, List.getElem_cons_succ]
      refine wpAnyZ_takeC [8, 15, 16, 17, 18, 19] (i := 7) (v := ?_) rfl (by kernel_rfl) (by kernel_rfl) (by kernel_rfl) (by kernel_rfl) (fun _ _ _ h => h) (Or.inl ⟨by rfl, ?_⟩) hS ?_
      rotate_left
      focus (intro w hSw; (try dsimp only at hSw); go_simp; try with_reducible rfl)
      try simp only [Act.put, List.setIfInBounds_toArray, List.set_cons_zero, List.set_cons_succ, List.getElem_toArray, List.getElem_cons_zero, List.getElem_cons_succ]
      refine wpAnyZ_takeC [12, 13, 14, 15, 16, 17, 18, 19] (i := 9) (v := ?_) rfl (by kernel_rfl) (by kernel_rfl) (by kernel_rfl) (by kernel_rfl) (fun _ _ _ h => h) (Or.inl ⟨by rfl, ?_⟩) hS ?_
      rotate_left
      focus (intro w hSw; (try dsimp only at hSw); go_simp; try with_reducible rfl)
      try simp only [Act.put, List.setIfInBounds_toArray, List.set_cons_zero, List.set_cons_succ, List.getElem_toArray, List.getElem_cons_zero, List.getElem_cons_succ]
      refine wpAnyZ_takeC [11, 12, 13, 14, 15, 16, 17, 18, 19] (i := 10) (v := ?_) rfl (by kernel_rfl) (by kernel_rfl) (by kernel_rfl) (by kernel_rfl) (fun _ _ _ h => h) (Or.inl ⟨by rfl, ?_⟩) hS ?_
      rotate_left
      focus (intro w hSw; (try dsimp only at hSw); go_simp; try with_reducible rfl)
      try simp only [Act.put, List.setIfInBounds_toArray, List.set_cons_zero, List.set_cons_succ, List.getElem_toArray, List.getElem_cons_zero, List.getElem_cons_succ]
      refine wpAnyZ_takeC [12, 13, 14, 15, 16, 17, 18, 19] (i := 11) (v := ?_) rfl (by kernel_rfl) (by kernel_rfl) (by kernel_rfl) (by kernel_rfl) (fun _ _ _ h => h) (Or.inl ⟨by rfl, ?_⟩) hS ?_
      rotate_left
      focus (intro w hSw; (try dsimp only at hSw); go_simp; try with_reducible rfl)
      try simp only [Act.put, List.setIfInBounds_toArray, List.set_cons_zero, List.set_cons_succ, List.getElem_toArray, List.getElem_cons_zero, List.getElem_cons_succ]
      refine wpAnyZ_takeC [13, 14, 15, 16, 17, 18, 19] (i := 12) (v := ?_) rfl (by kernel_rfl) (by kernel_rfl) (by kernel_rfl) (by kernel_rfl) (fun _ _ _ h => h) (Or.inl ⟨by rfl, ?_⟩) hS ?_
      rotate_left
      focus (intro w hSw; (try dsimp only at hSw); go_simp; try with_reducible rfl)
      try simp only [Act.put, List.setIfInBounds_toArray, List.set_cons_zero, List.set_cons_succ, List.getElem_toArray, List.getElem_cons_zero, List.getElem_cons_succ]
      refine wpAnyZ_takeC [14, 15, 16, 17, 18, 19] (i := 13) (v := ?_) rfl (by kernel_rfl) (by kernel_rfl) (by kernel_rfl) (by kernel_rfl) (fun _ _ _ h => h) (Or.inl ⟨by rfl, ?_⟩) hS ?_
      rotate_left
      focus (intro w hSw; (try dsimp only at hSw); go_simp; try with_reducible rfl)
      try simp only [Act.put, List.setIfInBounds_toArray, List.set_cons_zero, List.set_cons_succ, List.getElem_toArray, List.getElem_cons_zero, List.getElem_cons_succ]
      have q0z := q0
      have q1z := q1
      have q2z := q2
      have vaz := hca1
      have vbz := hcb1
      have hbbz := hbb
      have hgvz := hgv1
      have hHz : H4 ≤ wz.heap.size := by omega
      have hIz := impl_InvertWord Ab wb cb H4 wz hrb1.rs hHz HOKB.out (by omega)
      clear q0 q1 q2 hca1 hcb1 hbb hgv1 B2 hmz hS
      refine wpAnyZ_ready (rs := [8,14]) (by kernel_rfl) (by simp) (AllReadyZ.cons rfl (fun K hK => ?_) (AllReadyZ.cons rfl (fun K hK => ?_) AllReadyZ.nil))
      · go_simp
        refine hK.out _ _ (Or.inr ⟨cell_keep (Mid.alloc wz (.cells #[.int .i64 el] 3)) hbbz oZr q0z, cell_keep (Mid.alloc wz (.cells #[.int .i64 el] 3)) hbbz oZr q1z, cell_keep (Mid.alloc wz (.cells #[.int .i64 el] 3)) hbbz oZr q2z, cell_keep (Mid.alloc wz (.cells #[.int .i64 el] 3)) hgvz oZr vaz, cell_keep (Mid.alloc wz (.cells #[.int .i64 el] 3)) hgvz oZr vbz⟩) (fun _ => ?_)
        clear hK K
        try simp only [Act.put, List.setIfInBounds_toArray, List.set_cons_zero, List.set_cons_succ, List.getElem_toArray, List.getElem_cons_zero, List.getElem_cons_succ]
        have ha8 := Mid.alloc wz (.cells #[.int .i64 el] 3)
        have q08 := cell_keep ha8 hbbz oZr q0z
        have q18 := cell_keep ha8 hbbz oZr q1z
        have q28 := cell_keep ha8 hbbz oZr q2z
        have va8 := cell_keep ha8 hgvz oZr vaz
        have vb8 := cell_keep ha8 hgvz oZr vbz
        have hbb8 : wo.heap.size < (wz.alloc (.cells #[.int .i64 el] 3)).heap.size := Nat.lt_of_lt_of_le hbbz ha8.size
        have hgv8 : gv < (wz.alloc (.cells #[.int .i64 el] 3)).heap.size := Nat.lt_of_lt_of_le hgvz ha8.size
        have hon8 : (wz.alloc (.cells #[.int .i64 el] 3)).cell? ⟨wz.heap.size, 0, none⟩ = some (.int .i64 el) := World.cell?_alloc_at _ _ _ _ rfl
        have hs8 : wz.heap.size < (wz.alloc (.cells #[.int .i64 el] 3)).heap.size := by simp
        generalize wz.alloc (.cells #[.int .i64 el] 3) = w8 at ha8 q08 q18 q28 va8 vb8 hbb8 hgv8 hon8 hs8 ⊢
        have hrbA := hrb1.mid ha8 oZl
        have hH8 : H4 ≤ w8.heap.size := by omega
        have hI8 := impl_InvertWord Ab wb cb H4 w8 hrbA.rs hH8 HOKB.out (by omega)
        clear hIz
        refine wpAnyZ_ready (rs := [14]) (by kernel_rfl) (by simp) (AllReadyZ.cons rfl (fun K hK => ?_) AllReadyZ.nil)
        (go_simp; (with_reducible refine hI8.mono ?_); intro en w14 hq14; obtain ⟨A7, c7, rfl, ho14, hm14⟩ := RetI.get hq14; go_wp2_with fail)
        refine hK.out _ _ (Or.inr ⟨cell_keep hm14 hbb8 oZr q08, cell_keep hm14 hbb8 oZr q18, cell_keep hm14 hbb8 oZr q28, cell_keep hm14 hgv8 oZr va8, cell_keep hm14 hgv8 oZr vb8⟩) (fun _ => ?_)
        clear hK K
        try simp only [Act.put, List.setIfInBounds_toArray, List.set_cons_zero, List.set_cons_succ, List.getElem_toArray, List.getElem_cons_zero, List.getElem_cons_succ]
        have q0C := cell_keep hm14 hbb8 oZr q08
        have q1C := cell_keep hm14 hbb8 oZr q18
        have q2C := cell_keep hm14 hbb8 oZr q28
        have vaC := cell_keep hm14 hgv8 oZr va8
        have vbC := cell_keep hm14 hgv8 oZr vb8
        have hbbC : wo.heap.size < w14.heap.size := Nat.lt_of_lt_of_le hbb8 hm14.size
        have hgvC : gv < w14.heap.size := Nat.lt_of_lt_of_le hgv8 hm14.size
        have hmc := ha8.trans hm14
        have honeC : Rs w14 w14.heap.size (some ⟨wz.heap.size, 0, none⟩) (ints [el]) := (rs_one (cell_keep hm14 hs8 oZr hon8)).more (by have := hm14.size; omega)
        have hinvC : Rs w14 w14.heap.size A7 (ints (invW wb)) := (owns_rv ho14).rsS
        clear ha8 hon8 hrbA hI8 hq14 ho14 hm14 q08 q18 q28 va8 vb8 q0z q1z q2z vaz vbz
        generalize w14 = wc at hmc honeC hinvC q0C q1C q2C vaC vbC hbbC hgvC ⊢
        -- both are made: at world wc; hmc : Mid 0 0 wz wc; the letter's block wz.heap.size; the inverse (A7, c7)
        have hraC := hra1.mid hmc oZl
        have hal15 := Mid.alloc wc (.cells #[.slice Aa wa.length ca, .slice (some ⟨wz.heap.size, 0, none⟩) 1 1, .slice A7 (invW wb).length c7] 48)
        have q0D := cell_keep hal15 hbbC oZr q0C
        have q1D := cell_keep hal15 hbbC oZr q1C
        have q2D := cell_keep hal15 hbbC oZr q2C
        have vaD := cell_keep hal15 hgvC oZr vaC
        have vbD := cell_keep hal15 hgvC oZr vbC
        have hbbD : wo.heap.size < (wc.alloc (.cells #[.slice Aa wa.length ca, .slice (some ⟨wz.heap.size, 0, none⟩) 1 1, .slice A7 (invW wb).length c7] 48)).heap.size := Nat.lt_of_lt_of_le hbbC hal15.size
        have hgvD : gv < (wc.alloc (.cells #[.slice Aa wa.length ca, .slice (some ⟨wz.heap.size, 0, none⟩) 1 1, .slice A7 (invW wb).length c7] 48)).heap.size := Nat.lt_of_lt_of_le hgvC hal15.size
        have hrss := rss_lit3 (w := wc) Aa (some ⟨wz.heap.size, 0, none⟩) A7 ca 1 c7 wa [el] (invW wb) hraC.rsS honeC hinvC
        have hmd15 := hmc.trans hal15
        refine wpAnyZ_ready (rs := [15]) (by kernel_rfl) (by simp) (AllReadyZ.cons rfl (fun K hK => ?_) AllReadyZ.nil)
        go_simp
        refine hK.out _ _ (Or.inr ⟨cell_keep hal15 hbbC oZr q0C, cell_keep hal15 hbbC oZr q1C, cell_keep hal15 hbbC oZr q2C, cell_keep hal15 hgvC oZr vaC, cell_keep hal15 hgvC oZr vbC⟩) (fun _ => ?_)
        clear hK K
        try simp only [Act.put, List.setIfInBounds_toArray, List.set_cons_zero, List.set_cons_succ, List.getElem_toArray, List.getElem_cons_zero, List.getElem_cons_succ]
        have hsz15 : (wc.alloc (.cells #[.slice Aa wa.length ca, .slice (some ⟨wz.heap.size, 0, none⟩) 1 1, .slice A7 (invW wb).length c7] 48)).heap.size = wc.heap.size + 1 := by simp
        generalize wc.alloc (.cells #[.slice Aa wa.length ca, .slice (some ⟨wz.heap.size, 0, none⟩) 1 1, .slice A7 (invW wb).length c7] 48) = w15 at hal15 q0D q1D q2D vaD vbD hbbD hgvD hrss hmd15 hsz15 ⊢
        have hokP : ∀ xs ∈ [wa, [el], invW wb], OkI xs := by
          intro xs hx
          simp at hx
          rcases hx with rfl | rfl | rfl
          · exact HOKA.out
          · intro y hy
            simp at hy
            subst hy
            omega
          · exact okI_invW HOKB.out
        have hP := impl_product (some ⟨wc.heap.size, 0, none⟩) [wa, [el], invW wb] 3 w15 0 (wc.heap.size + 1) hrss hokP (by simp) (by simp only [sumL, List.map_cons, List.map_nil, List.sum_cons, List.sum_nil, List.length_cons, List.length_nil, invW_len]; omega)
        have hfl : ([wa, [el], invW wb] : List (List Int)).flatten = wa ++ [el] ++ invW wb := by simp
        rw [hfl, ← HBAS.out] at hP
        have hP' : Calls Tryz.prog 56 #[.slice (some ⟨wc.heap.size, 0, none⟩) 3 3] w15 fun e' w' => RetI 3 (basisW r es ⟨(pa : Int), el, (pb : Int)⟩) w15 e' w' := hP
        have HP := Lib.hid hP'
        clear hP hfl hrss hP'
        refine wpAnyZ_ready (rs := [16]) (by kernel_rfl) (by simp) (AllReadyZ.cons rfl (fun K hK => ?_) AllReadyZ.nil)
        (go_simp; (with_reducible refine HP.out.mono ?_); intro en w16 hq16; obtain ⟨A16, c16, rfl, ho16, hm16⟩ := RetI.get hq16; go_wp2_with fail)
        refine hK.out _ _ (Or.inr ⟨cell_keep hm16 hbbD oZr q0D, cell_keep hm16 hbbD oZr q1D, cell_keep hm16 hbbD oZr q2D, cell_keep hm16 hgvD oZr vaD, cell_keep hm16 hgvD oZr vbD⟩) (fun _ => ?_)
        clear hK K
        try simp only [Act.put, List.setIfInBounds_toArray, List.set_cons_zero, List.set_cons_succ, List.getElem_toArray, List.getElem_cons_zero, List.getElem_cons_succ]
        have q0E := cell_keep hm16 hbbD oZr q0D
        have q1E := cell_keep hm16 hbbD oZr q1D
        have q2E := cell_keep hm16 hbbD oZr q2D
        have vaE := cell_keep hm16 hgvD oZr vaD
        have vbE := cell_keep hm16 hgvD oZr vbD
        have hbbE : wo.heap.size < w16.heap.size := Nat.lt_of_lt_of_le hbbD hm16.size
        have hgvE : gv < w16.heap.size := Nat.lt_of_lt_of_le hgvD hm16.size
        have hmd16 := hmd15.trans hm16
        have hrow : w16.ownsRow wz.heap.size 3 1 (Row.v ⟨A16, c16, basisW r es ⟨(pa : Int), el, (pb : Int)⟩⟩) (basisW r es ⟨(pa : Int), el, (pb : Int)⟩).length (ints (basisW r es ⟨(pa : Int), el, (pb : Int)⟩)) := owns_base ho16 hmd15.size
        have hszz := hmd16.size
        refine wpAnyZ_ready (rs := [17]) (by kernel_rfl) (by simp) (AllReadyZ.cons rfl (fun K hK => ?_) AllReadyZ.nil)
        go_simp
        refine hK.out _ _ (Or.inr ⟨cell_keep (Mid.alloc w16 (.cells #[.slice A16 (basisW r es ⟨(pa : Int), el, (pb : Int)⟩).length c16] 48)) hbbE oZr q0E, cell_keep (Mid.alloc w16 (.cells #[.slice A16 (basisW r es ⟨(pa : Int), el, (pb : Int)⟩).length c16] 48)) hbbE oZr q1E, cell_keep (Mid.alloc w16 (.cells #[.slice A16 (basisW r es ⟨(pa : Int), el, (pb : Int)⟩).length c16] 48)) hbbE oZr q2E, cell_keep (Mid.alloc w16 (.cells #[.slice A16 (basisW r es ⟨(pa : Int), el, (pb : Int)⟩).length c16] 48)) hgvE oZr vaE, cell_keep (Mid.alloc w16 (.cells #[.slice A16 (basisW r es ⟨(pa : Int), el, (pb : Int)⟩).length c16] 48)) hgvE oZr vbE⟩) (fun _ => ?_)
        clear hK K
        try simp only [Act.put, List.setIfInBounds_toArray, List.set_cons_zero, List.set_cons_succ, List.getElem_toArray, List.getElem_cons_zero, List.getElem_cons_succ]
        refine wpAnyZ_ready (rs := [18]) (by kernel_rfl) (by simp) (AllReadyZ.cons rfl (fun K hK => ?_) AllReadyZ.nil)
        (refine step_push1 (by rfl) (.tmp 25) (.tmp 42) (by rfl) (by rfl) HO1.out hmd16 ⟨A16, c16, basisW r es ⟨(pa : Int), el, (pb : Int)⟩⟩ (.slice A16 (basisW r es ⟨(pa : Int), el, (pb : Int)⟩).length c16) rfl hrow (by rfl) (by omega) (by omega) ?_; intro A18 c18 w18 hO18 hgr18 hat18)
        refine hK.out _ _ (Or.inl (by simp)) (fun _ => ?_)
        clear hK K
        try simp only [Act.put, List.setIfInBounds_toArray, List.set_cons_zero, List.set_cons_succ, List.getElem_toArray, List.getElem_cons_zero, List.getElem_cons_succ]
        have HO18 := Lib.hid hO18
        have HN18 : Hid (rowsD (rows ++ [(⟨A16, c16, basisW r es ⟨(pa : Int), el, (pb : Int)⟩⟩ : Row)]) = (X.take (k + 1)).map (basisW r es)) := Lib.hid (by
          obtain ⟨h1, h2⟩ := List.getElem?_eq_some_iff.1 HEK.out
          rw [rowsD_append, HN.out, List.take_succ_eq_append_getElem h1, h2, List.map_append]
          rfl)
        have HRX18 := Lib.hid (RV.grown (HRX1.out.mid hmd16 oZl) hgr18 (fun g hg => by rcases HD.out g hg with h | h <;> omega))
        have HRV18 := Lib.hid ((HRV1.out.mid hmd16 oZl).grown hgr18 (fun g hg => by rcases HD.out g hg with h | h <;> omega))
        have HWR18 := Lib.hid ((HWR1.out.mid hmd16).grown hgr18 HD.out)
        have hm18 := (hmt.trans hmd16).grownNew hgr18 (fun g hg => by have := (HO1.out.lt hg).1; omega)
        have hs18 := hgr18.size
        have HD18 : Hid (∀ g, obS A18 (k + 1) c18 = some g → g = w.heap.size + 1 ∨ H4 ≤ g) := Lib.hid (by
          intro g hg
          rcases hat18 with h | h
          · exact HD.out g (h ▸ hg)
          · rw [h] at hg
            have hg' := Option.some.inj hg
            omega)
        clear hO18 hgr18 hat18 HO1 HRX1 HRV1 HWR1 hmt hmd16 hm16 ho16 hrow HD HN HP hmd15 hal15 hmc hraC honeC hinvC hra1 hrb1 q0C q1C q2C vaC vbC q0D q1D q2D vaD vbD q0E q1E q2E vaE vbE
        refine wpAnyZ_ready (rs := [19]) (by kernel_rfl) (by simp) (AllReadyZ.cons rfl (fun K hK => ?_) AllReadyZ.nil)
        go_simp
        refine hK.out _ _ (Or.inl (by simp)) (fun _ => ?_)
        clear hK K
        try simp only [Act.put, List.setIfInBounds_toArray, List.set_cons_zero, List.set_cons_succ, List.getElem_toArray, List.getElem_cons_zero, List.getElem_cons_succ]
        refine wpAnyZ_done (by kernel_rfl) ?_ _
        go_wp2_with fail
        go_roundw
        case rel => exact ⟨k + 1, _, A18, c18, by go_num, rfl, by omega, HN18, HO18, HD18, HRX18, HRV18, HWR18, by omega, hm18⟩
        case measure => simp [intOf]; omega
      · (go_simp; (with_reducible refine hIz.mono ?_); intro en w14 hq14; obtain ⟨A7, c7, rfl, ho14, hm14⟩ := RetI.get hq14; go_wp2_with fail)
        refine hK.out _ _ (Or.inr ⟨cell_keep hm14 hbbz oZr q0z, cell_keep hm14 hbbz oZr q1z, cell_keep hm14 hbbz oZr q2z, cell_keep hm14 hgvz oZr vaz, cell_keep hm14 hgvz oZr vbz⟩) (fun _ => ?_)
        clear hK K
        try simp only [Act.put, List.setIfInBounds_toArray, List.set_cons_zero, List.set_cons_succ, List.getElem_toArray, List.getElem_cons_zero, List.getElem_cons_succ]
        have q04 := cell_keep hm14 hbbz oZr q0z
        have q14 := cell_keep hm14 hbbz oZr q1z
        have q24 := cell_keep hm14 hbbz oZr q2z
        have va4 := cell_keep hm14 hgvz oZr vaz
        have vb4 := cell_keep hm14 hgvz oZr vbz
        have hbb4 : wo.heap.size < w14.heap.size := Nat.lt_of_lt_of_le hbbz hm14.size
        have hgv4 : gv < w14.heap.size := Nat.lt_of_lt_of_le hgvz hm14.size
        have hon14 : w14.heap.size < (w14.alloc (.cells #[.int .i64 el] 3)).heap.size := by simp
        refine wpAnyZ_ready (rs := [8]) (by kernel_rfl) (by simp) (AllReadyZ.cons rfl (fun K hK => ?_) AllReadyZ.nil)
        go_simp
        refine hK.out _ _ (Or.inr ⟨cell_keep (Mid.alloc w14 (.cells #[.int .i64 el] 3)) hbb4 oZr q04, cell_keep (Mid.alloc w14 (.cells #[.int .i64 el] 3)) hbb4 oZr q14, cell_keep (Mid.alloc w14 (.cells #[.int .i64 el] 3)) hbb4 oZr q24, cell_keep (Mid.alloc w14 (.cells #[.int .i64 el] 3)) hgv4 oZr va4, cell_keep (Mid.alloc w14 (.cells #[.int .i64 el] 3)) hgv4 oZr vb4⟩) (fun _ => ?_)
        clear hK K
        try simp only [Act.put, List.setIfInBounds_toArray, List.set_cons_zero, List.set_cons_succ, List.getElem_toArray, List.getElem_cons_zero, List.getElem_cons_succ]
        have ha8 := Mid.alloc w14 (.cells #[.int .i64 el] 3)
        have q0C := cell_keep ha8 hbb4 oZr q04
        have q1C := cell_keep ha8 hbb4 oZr q14
        have q2C := cell_keep ha8 hbb4 oZr q24
        have vaC := cell_keep ha8 hgv4 oZr va4
        have vbC := cell_keep ha8 hgv4 oZr vb4
        have hbbC : wo.heap.size < (w14.alloc (.cells #[.int .i64 el] 3)).heap.size := Nat.lt_of_lt_of_le hbb4 ha8.size
        have hgvC : gv < (w14.alloc (.cells #[.int .i64 el] 3)).heap.size := Nat.lt_of_lt_of_le hgv4 ha8.size
        have hmc := hm14.trans ha8
        have honeC : Rs (w14.alloc (.cells #[.int .i64 el] 3)) (w14.alloc (.cells #[.int .i64 el] 3)).heap.size (some ⟨w14.heap.size, 0, none⟩) (ints [el]) := (rs_one (World.cell?_alloc_at _ _ _ _ rfl)).more (by simp)
        have hinvC : Rs (w14.alloc (.cells #[.int .i64 el] 3)) (w14.alloc (.cells #[.int .i64 el] 3)).heap.size A7 (ints (invW wb)) := (owns_rv (owns_mid ho14 ha8 oZl)).rsS
        generalize w14.alloc (.cells #[.int .i64 el] 3) = wc at ha8 hmc honeC hinvC q0C q1C q2C vaC vbC hbbC hgvC hon14 ⊢
        clear ha8 hq14 ho14 hm14 hIz q04 q14 q24 va4 vb4 q0z q1z q2z vaz vbz
        -- both are made: at world wc; hmc : Mid 0 0 wz wc; the letter's block w14.heap.size; the inverse (A7, c7)
        have hraC := hra1.mid hmc oZl
        have hal15 := Mid.alloc wc (.cells #[.slice Aa wa.length ca, .slice (some ⟨w14.heap.size, 0, none⟩) 1 1, .slice A7 (invW wb).length c7] 48)
        have q0D := cell_keep hal15 hbbC oZr q0C
        have q1D := cell_keep hal15 hbbC oZr q1C
        have q2D := cell_keep hal15 hbbC oZr q2C
        have vaD := cell_keep hal15 hgvC oZr vaC
        have vbD := cell_keep hal15 hgvC oZr vbC
        have hbbD : wo.heap.size < (wc.alloc (.cells #[.slice Aa wa.length ca, .slice (some ⟨w14.heap.size, 0, none⟩) 1 1, .slice A7 (invW wb).length c7] 48)).heap.size := Nat.lt_of_lt_of_le hbbC hal15.size
        have hgvD : gv < (wc.alloc (.cells #[.slice Aa wa.length ca, .slice (some ⟨w14.heap.size, 0, none⟩) 1 1, .slice A7 (invW wb).length c7] 48)).heap.size := Nat.lt_of_lt_of_le hgvC hal15.size
        have hrss := rss_lit3 (w := wc) Aa (some ⟨w14.heap.size, 0, none⟩) A7 ca 1 c7 wa [el] (invW wb) hraC.rsS honeC hinvC
        have hmd15 := hmc.trans hal15
        refine wpAnyZ_ready (rs := [15]) (by kernel_rfl) (by simp) (AllReadyZ.cons rfl (fun K hK => ?_) AllReadyZ.nil)
        go_simp
        refine hK.out _ _ (Or.inr ⟨cell_keep hal15 hbbC oZr q0C, cell_keep hal15 hbbC oZr q1C, cell_keep hal15 hbbC oZr q2C, cell_keep hal15 hgvC oZr vaC, cell_keep hal15 hgvC oZr vbC⟩) (fun _ => ?_)
        clear hK K
        try simp only [Act.put, List.setIfInBounds_toArray, List.set_cons_zero, List.set_cons_succ, List.getElem_toArray, List.getElem_cons_zero, List.getElem_cons_succ]
        have hsz15 : (wc.alloc (.cells #[.slice Aa wa.length ca, .slice (some ⟨w14.heap.size, 0, none⟩) 1 1, .slice A7 (invW wb).length c7] 48)).heap.size = wc.heap.size + 1 := by simp
        generalize wc.alloc (.cells #[.slice Aa wa.length ca, .slice (some ⟨w14.heap.size, 0, none⟩) 1 1, .slice A7 (invW wb).length c7] 48) = w15 at hal15 q0D q1D q2D vaD vbD hbbD hgvD hrss hmd15 hsz15 ⊢
        have hokP : ∀ xs ∈ [wa, [el], invW wb], OkI xs := by
          intro xs hx
          simp at hx
          rcases hx with rfl | rfl | rfl
          · exact HOKA.out
          · intro y hy
            simp at hy
            subst hy
            omega
          · exact okI_invW HOKB.out
        have hP := impl_product (some ⟨wc.heap.size, 0, none⟩) [wa, [el], invW wb] 3 w15 0 (wc.heap.size + 1) hrss hokP (by simp) (by simp only [sumL, List.map_cons, List.map_nil, List.sum_cons, List.sum_nil, List.length_cons, List.length_nil, invW_len]; omega)
        have hfl : ([wa, [el], invW wb] : List (List Int)).flatten = wa ++ [el] ++ invW wb := by simp
        rw [hfl, ← HBAS.out] at hP
        have hP' : Calls Tryz.prog 56 #[.slice (some ⟨wc.heap.size, 0, none⟩) 3 3] w15 fun e' w' => RetI 3 (basisW r es ⟨(pa : Int), el, (pb : Int)⟩) w15 e' w' := hP
        have HP := Lib.hid hP'
        clear hP hfl hrss hP'
        refine wpAnyZ_ready (rs := [16]) (by kernel_rfl) (by simp) (AllReadyZ.cons rfl (fun K hK => ?_) AllReadyZ.nil)
        (go_simp; (with_reducible refine HP.out.mono ?_); intro en w16 hq16; obtain ⟨A16, c16, rfl, ho16, hm16⟩ := RetI.get hq16; go_wp2_with fail)
        refine hK.out _ _ (Or.inr ⟨cell_keep hm16 hbbD oZr q0D, cell_keep hm16 hbbD oZr q1D, cell_keep hm16 hbbD oZr q2D, cell_keep hm16 hgvD oZr vaD, cell_keep hm16 hgvD oZr vbD⟩) (fun _ => ?_)
        clear hK K
        try simp only [Act.put, List.setIfInBounds_toArray, List.set_cons_zero, List.set_cons_succ, List.getElem_toArray, List.getElem_cons_zero, List.getElem_cons_succ]
        have q0E := cell_keep hm16 hbbD oZr q0D
        have q1E := cell_keep hm16 hbbD oZr q1D
        have q2E := cell_keep hm16 hbbD oZr q2D
        have vaE := cell_keep hm16 hgvD oZr vaD
        have vbE := cell_keep hm16 hgvD oZr vbD
        have hbbE : wo.heap.size < w16.heap.size := Nat.lt_of_lt_of_le hbbD hm16.size
        have hgvE : gv < w16.heap.size := Nat.lt_of_lt_of_le hgvD hm16.size
        have hmd16 := hmd15.trans hm16
        have hrow : w16.ownsRow wz.heap.size 3 1 (Row.v ⟨A16, c16, basisW r es ⟨(pa : Int), el, (pb : Int)⟩⟩) (basisW r es ⟨(pa : Int), el, (pb : Int)⟩).length (ints (basisW r es ⟨(pa : Int), el, (pb : Int)⟩)) := owns_base ho16 hmd15.size
        have hszz := hmd16.size
        refine wpAnyZ_ready (rs := [17]) (by kernel_rfl) (by simp) (AllReadyZ.cons rfl (fun K hK => ?_) AllReadyZ.nil)
        go_simp
        refine hK.out _ _ (Or.inr ⟨cell_keep (Mid.alloc w16 (.cells #[.slice A16 (basisW r es ⟨(pa : Int), el, (pb : Int)⟩).length c16] 48)) hbbE oZr q0E, cell_keep (Mid.alloc w16 (.cells #[.slice A16 (basisW r es ⟨(pa : Int), el, (pb : Int)⟩).length c16] 48)) hbbE oZr q1E, cell_keep (Mid.alloc w16 (.cells #[.slice A16 (basisW r es ⟨(pa : Int), el, (pb : Int)⟩).length c16] 48)) hbbE oZr q2E, cell_keep (Mid.alloc w16 (.cells #[.slice A16 (basisW r es ⟨(pa : Int), el, (pb : Int)⟩).length c16] 48)) hgvE oZr vaE, cell_keep (Mid.alloc w16 (.cells #[.slice A16 (basisW r es ⟨(pa : Int), el, (pb : Int)⟩).length c16] 48)) hgvE oZr vbE⟩) (fun _ => ?_)
        clear hK K
        try simp only [Act.put, List.setIfInBounds_toArray, List.set_cons_zero, List.set_cons_succ, List.getElem_toArray, List.getElem_cons_zero, List.getElem_cons_succ]
        refine wpAnyZ_ready (rs := [18]) (by kernel_rfl) (by simp) (AllReadyZ.cons rfl (fun K hK => ?_) AllReadyZ.nil)
        (refine step_push1 (by rfl) (.tmp 25) (.tmp 42) (by rfl) (by rfl) HO1.out hmd16 ⟨A16, c16, basisW r es ⟨(pa : Int), el, (pb : Int)⟩⟩ (.slice A16 (basisW r es ⟨(pa : Int), el, (pb : Int)⟩).length c16) rfl hrow (by rfl) (by omega) (by omega) ?_; intro A18 c18 w18 hO18 hgr18 hat18)
        refine hK.out _ _ (Or.inl (by simp)) (fun _ => ?_)
        clear hK K
        try simp only [Act.put, List.setIfInBounds_toArray, List.set_cons_zero, List.set_cons_succ, List.getElem_toArray, List.getElem_cons_zero, List.getElem_cons_succ]
        have HO18 := Lib.hid hO18
        have HN18 : Hid (rowsD (rows ++ [(⟨A16, c16, basisW r es ⟨(pa : Int), el, (pb : Int)⟩⟩ : Row)]) = (X.take (k + 1)).map (basisW r es)) := Lib.hid (by
          obtain ⟨h1, h2⟩ := List.getElem?_eq_some_iff.1 HEK.out
          rw [rowsD_append, HN.out, List.take_succ_eq_append_getElem h1, h2, List.map_append]
          rfl)
        have HRX18 := Lib.hid (RV.grown (HRX1.out.mid hmd16 oZl) hgr18 (fun g hg => by rcases HD.out g hg with h | h <;> omega))
        have HRV18 := Lib.hid ((HRV1.out.mid hmd16 oZl).grown hgr18 (fun g hg => by rcases HD.out g hg with h | h <;> omega))
        have HWR18 := Lib.hid ((HWR1.out.mid hmd16).grown hgr18 HD.out)
        have hm18 := (hmt.trans hmd16).grownNew hgr18 (fun g hg => by have := (HO1.out.lt hg).1; omega)
        have hs18 := hgr18.size
        have HD18 : Hid (∀ g, obS A18 (k + 1) c18 = some g → g = w.heap.size + 1 ∨ H4 ≤ g) := Lib.hid (by
          intro g hg
          rcases hat18 with h | h
          · exact HD.out g (h ▸ hg)
          · rw [h] at hg
            have hg' := Option.some.inj hg
            omega)
        clear hO18 hgr18 hat18 HO1 HRX1 HRV1 HWR1 hmt hmd16 hm16 ho16 hrow HD HN HP hmd15 hal15 hmc hraC honeC hinvC hra1 hrb1 q0C q1C q2C vaC vbC q0D q1D q2D vaD vbD q0E q1E q2E vaE vbE
        refine wpAnyZ_ready (rs := [19]) (by kernel_rfl) (by simp) (AllReadyZ.cons rfl (fun K hK => ?_) AllReadyZ.nil)
        go_simp
        refine hK.out _ _ (Or.inl (by simp)) (fun _ => ?_)
        clear hK K
        try simp only [Act.put, List.setIfInBounds_toArray, List.set_cons_zero, List.set_cons_succ, List.getElem_toArray, List.getElem_cons_zero, List.getElem_cons_succ]
        refine wpAnyZ_done (by kernel_rfl) ?_ _
        go_wp2_with fail
        go_roundw
        case rel => exact ⟨k + 1, _, A18, c18, by go_num, rfl, by omega, HN18, HO18, HD18, HRX18, HRV18, HWR18, by omega, hm18⟩
        case measure => simp [intOf]; omega
    · obtain rfl : k = X.length := by omega
      have hN := HN.out
      rw [List.take_length] at hN
      have hlen : (X.map (basisW r es)).length = X.length := List.length_map ..
      have HQ : Hid (OSS wo w.heap.size wo.heap.size 48 3 A2 c2 (X.map (basisW r es))) := Lib.hid ((HO.out.base (Nat.le_succ _)).oss hN)
      have HLN := Lib.hid hlen
      clear hN hlen HN HO HD HRX HRV HWR
      go_wp2_with fail
      go_ret
      exact ⟨A2, c2, by rw [HLN.out]; rfl, HQ.out, hm0⟩
end Go.Proofs.YtkaofcakelpnpaaGreat

namespace Go.Proofs.YtkaofcakelpnpaaGreat
set_option linter.unusedVariables false
set_option linter.unusedSimpArgs false
open Go.RowKit
def Marks (n : Nat) (bs : List Value) (st : BS) : Prop := bs.length = n ∧ ∀ u : Nat, u < n → bs[u]? = some (.bool (decide ((u : Int) ∈ st.map Prod.fst)))
theorem Marks.none (n : Nat) : Marks n (List.replicate n (.bool false)) [] := ⟨by simp, fun u hu => by simp [hu]⟩
theorem Marks.set {n t : Nat} {bs : List Value} {st : BS} {wd : List Int} (h : Marks n bs st) (ht : t < n) : Marks n (bs.set t (.bool true)) (st ++ [((t : Int), wd)]) := by
  refine ⟨by rw [List.length_set]; exact h.1, fun u hu => ?_⟩
  by_cases hut : u = t
  · subst hut
    rw [List.getElem?_set_self (by rw [h.1]; exact ht)]
    simp
  · rw [List.getElem?_set_ne (Ne.symm hut), h.2 u hu]
    have h1 : ¬ (u : Int) = (t : Int) := by omega
    simp [h1]
theorem TreeSt.other {w : World} {g n gs tt : Nat} {oB : Option Nat} {vals : List Value} {st : BS} {v : Value} (h : TreeSt w g oB n vals st) (hb : ∃ b, w.cell? ⟨gs, 0, none⟩ = some (.bool b)) : TreeSt (w.setCell ⟨gs, tt, none⟩ v) g oB n vals st := by
  refine ⟨h.len, fun p hp => ?_, h.off⟩
  obtain ⟨b, c, h1, h2, h3, h4, h5⟩ := h.on p hp
  refine ⟨b, c, h1, fun j u hu => ?_, h3, h4, by simpa using h5⟩
  have hbg : b ≠ gs := by
    intro e
    subst e
    have hj := (List.getElem?_eq_some_iff.1 hu).1
    rw [ints_len] at hj
    have hl : 0 < p.2.length := by omega
    have h6 := h2 0 (.int .i64 p.2[0]) (by rw [ints_get, List.getElem?_eq_getElem hl]; rfl)
    obtain ⟨bb, h7⟩ := hb
    rw [h7] at h6
    cases h6
  exact (World.cell?_setCell_other w _ _ v (by intro e; injection e with e; exact hbg e.symm)).trans (h2 j u hu)
set_option maxHeartbeats 6400000 in
set_option maxRecDepth 100000 in
theorem spec_l5Search (r n : Nat) (A : Option Addr) (es : List Ed) (c : Nat) (w : World) (lo hi : Nat) (hr : RG w lo hi A es) (hg : IsGr r n es) (hn1 : 0 < n) :
    Calls Tryz.prog 114 #[graV r n A es.length c, .int .i64 0] w fun e w' => ∃ gs gw bs vals oB, e = .returned (.tuple #[.slice (some ⟨gs, 0, none⟩) n n, .slice (some ⟨gw, 0, none⟩) n n]) ∧ Mid 0 0 w w' ∧
      w'.ownsRow w.heap.size 4 1 (.slice (some ⟨gs, 0, none⟩) n n) n bs ∧ Marks n bs (bfs es (lets r) 0) ∧ w'.ownsRow w.heap.size 48 1 (.slice (some ⟨gw, 0, none⟩) n n) n vals ∧ TreeSt w' gw oB n vals (bfs es (lets r) 0) := by
  have hn40 : n ≤ 40 := by have := hg.size; omega
  have hr3 : r ≤ 3 := by have := hg.rank; omega
  have hl := hg.len
  have hmx : n ≤ maxLen := by unfold maxLen; omega
  have hgl : ∀ e ∈ es, 1 ≤ e.l ∧ e.l ≤ 3 := fun e he => by have := hg.all e he; unfold InG at this; omega
  have hm0 : Mid 0 0 w (w.alloc (.cells #[.int .i64 r, .int .i64 n, .slice A es.length c] 32)) := Mid.alloc _ _
  have B0 := Box.new w #[.int .i64 r, .int .i64 n, .slice A es.length c] 32
  have HG := Lib.hid hg
  have HGL := Lib.hid hgl
  have hv0 : (0 : Int) ≤ 0 := Int.le_refl _
  have hv3 : (0 : Int) < (n : Int) := by omega
  clear hg hgl
  have p0 := B0.cell 0 rfl
  have p1 := B0.cell 1 rfl
  have p2 := B0.cell 2 rfl
  go_enter Tryz.func114, Tryz.ntmps114
  go_wp2_with (at_make; refine MarkerX.to ?_)
  generalize w.alloc (.cells #[.int .i64 r, .int .i64 n, .slice A es.length c] 32) = w1 at hm0 B0 p0 p1 p2 ⊢
  have hs1 : w.heap.size < w1.heap.size := B0.1
  unfold MarkerX
  refine wpList_mk rfl _ _ 80 rfl 4 (.bool false) 1 undSB infoB rfl .i64 .i64 _ _ n rfl rfl rfl rfl (by omega) hmx ?_
  intro w2 hown2 hgr2 hsz2
  have hm2 := Mid.of_grown (lo := 0) (hi := 0) hgr2 (by intro g h; cases h)
  clear p0 p1 p2
  replace B0 := B0.mid hm2 oZr
  replace hm0 := hm0.trans hm2
  have p0 := B0.cell 0 rfl
  have p1 := B0.cell 1 rfl
  have p2 := B0.cell 2 rfl
  go_wp2_with (at_make; refine MarkerX.to ?_)
  unfold MarkerX
  refine wpList_mk rfl _ _ 22 rfl 48 (.slice none 0 0) 24 undSSI infoSI rfl .i64 .i64 _ _ n rfl rfl rfl rfl (by omega) hmx ?_
  intro w3 hown3 hgr3 hsz3
  have hm3 := Mid.of_grown (lo := 0) (hi := 0) hgr3 (by intro g h; cases h)
  clear p0 p1 p2
  replace B0 := B0.mid hm3 oZr
  replace hown2 := owns_mid hown2 hm3 oZl
  replace hm0 := hm0.trans hm3
  have hne : ¬ w1.heap.size = w2.heap.size := by omega
  have hfs := hown2.frozenAt 0
  have hfw := hown3.frozenAt 0
  have hcs := hown2.cellAt 0 (by omega)
  have hcw := hown3.cellAt 0 (by omega)
  rw [List.getElem?_replicate, if_pos hn1] at hcs hcw
  generalize w1.heap.size = gs at hown2 hfs hcs hne hs1 hsz2 ⊢
  generalize hgw : w2.heap.size = gw at hown3 hfw hcw hne hsz2 hsz3 ⊢
  have p0 := B0.cell 0 rfl
  have p1 := B0.cell 1 rfl
  have p2 := B0.cell 2 rfl
  have hbw : ¬ gs = w.heap.size := by omega
  have hbw2 : ¬ gw = w.heap.size := by omega
  have hmA := Mid.setAt w3 gs 0 (.bool true)
  have hBA := B0.mid hmA (Or.inl hs1)
  have hmB := Mid.setAt (w3.setCell ⟨gs, 0, none⟩ (.bool true)) gw 0 (.slice (some ⟨w3.heap.size, 0, none⟩) 0 0)
  have hBB := hBA.mid hmB (Or.inl (by omega))
  have hBC := hBB.mid (Mid.alloc ((w3.setCell ⟨gs, 0, none⟩ (.bool true)).setCell ⟨gw, 0, none⟩ (.slice (some ⟨w3.heap.size, 0, none⟩) 0 0)) (.cells #[] 3)) oZr
  have hBD := hBC.mid (Mid.alloc (((w3.setCell ⟨gs, 0, none⟩ (.bool true)).setCell ⟨gw, 0, none⟩ (.slice (some ⟨w3.heap.size, 0, none⟩) 0 0)).alloc (.cells #[] 3)) (.cells #[.int .i64 0] 3)) oZr
  have hsA := owns_set hown2 0 (.bool true) rfl
  have hwA := hown3.kept (grown_of_setCell w3 gs 0 (.bool true)) (owns_ne hown3 hown2 (by decide))
  have hsB := hsA.kept (grown_of_setCell (w3.setCell ⟨gs, 0, none⟩ (.bool true)) gw 0 (.slice (some ⟨w3.heap.size, 0, none⟩) 0 0)) (owns_ne hsA hwA (by decide))
  have hwB := owns_set hwA 0 (.slice (some ⟨w3.heap.size, 0, none⟩) 0 0) rfl
  have hsD := (hsB.alloc (.cells #[] 3)).alloc (.cells #[.int .i64 0] 3)
  have hwD := (hwB.alloc (.cells #[] 3)).alloc (.cells #[.int .i64 0] 3)
  have hmD := (((hm0.storeNew (p := ⟨gs, 0, none⟩) (by show w.heap.size ≤ gs; omega) (.bool true)).storeNew (p := ⟨gw, 0, none⟩) (by show w.heap.size ≤ gw; omega) (.slice (some ⟨w3.heap.size, 0, none⟩) 0 0)).trans (Mid.alloc ((w3.setCell ⟨gs, 0, none⟩ (.bool true)).setCell ⟨gw, 0, none⟩ (.slice (some ⟨w3.heap.size, 0, none⟩) 0 0)) (.cells #[] 3))).trans (Mid.alloc (((w3.setCell ⟨gs, 0, none⟩ (.bool true)).setCell ⟨gw, 0, none⟩ (.slice (some ⟨w3.heap.size, 0, none⟩) 0 0)).alloc (.cells #[] 3)) (.cells #[.int .i64 0] 3))
  have T0 : TreeSt ((w3.setCell ⟨gs, 0, none⟩ (.bool true)).alloc (.cells #[] 3)) gw (some (w3.heap.size + 1)) n (List.replicate n (.slice none 0 0)) [] := ⟨by simp, by simp, fun u hu _ => by simp [hu]⟩
  have T1 := T0.set (t := 0) (b := w3.heap.size) (c := 0) (wd := []) hn1 (by simp) (by simp) (by simp [ints]) (by omega) (by intro e; have := Option.some.inj e; omega) (by simp)
  have heq : ((w3.setCell ⟨gs, 0, none⟩ (.bool true)).alloc (.cells #[] 3)).setCell ⟨gw, 0, none⟩ (.slice (some ⟨w3.heap.size, 0, none⟩) 0 0) = ((w3.setCell ⟨gs, 0, none⟩ (.bool true)).setCell ⟨gw, 0, none⟩ (.slice (some ⟨w3.heap.size, 0, none⟩) 0 0)).alloc (.cells #[] 3) := by go_simp
  simp only [List.length_nil, List.nil_append] at T1
  have h00 : ((0 : Nat) : Int) = 0 := rfl
  rw [h00] at T1
  rw [heq] at T1
  have T2 := T1.mid (a := 0) (b := 0) (Mid.alloc (((w3.setCell ⟨gs, 0, none⟩ (.bool true)).setCell ⟨gw, 0, none⟩ (.slice (some ⟨w3.heap.size, 0, none⟩) 0 0)).alloc (.cells #[] 3)) (.cells #[.int .i64 0] 3))
  have hM0 := (Marks.none n).set (t := 0) (wd := []) hn1
  rw [h00, List.nil_append] at hM0
  have hsX : (((w3.setCell ⟨gs, 0, none⟩ (.bool true)).setCell ⟨gw, 0, none⟩ (.slice (some ⟨w3.heap.size, 0, none⟩) 0 0)).alloc (.cells #[] 3)).heap.size = w3.heap.size + 1 := by simp
  have O2 : ((((w3.setCell ⟨gs, 0, none⟩ (.bool true)).setCell ⟨gw, 0, none⟩ (.slice (some ⟨w3.heap.size, 0, none⟩) 0 0)).alloc (.cells #[] 3)).alloc (.cells #[.int .i64 0] 3)).ownsRow (w3.heap.size + 1) 3 1 (.slice (some ⟨w3.heap.size + 1, 0, none⟩) 1 1) 1 (ints [(0 : Int)]) := by rw [← hsX]; exact World.ownsRow_lit (size := 1) (((w3.setCell ⟨gs, 0, none⟩ (.bool true)).setCell ⟨gw, 0, none⟩ (.slice (some ⟨w3.heap.size, 0, none⟩) 0 0)).alloc (.cells #[] 3)) #[.int .i64 0] 1 (Nat.le_refl _) (by simp [maxLen]) (by simp)
  clear p0 p1 p2
  have p0 := hBD.cell 0 rfl
  have p1 := hBD.cell 1 rfl
  have p2 := hBD.cell 2 rfl
  clear hmA hBA hmB hBB hBC hsA hwA hsB hwB T0 T1 heq B0 hm0 hsX
  go_wp2_with fail
  generalize hw4 : (((w3.setCell ⟨gs, 0, none⟩ (.bool true)).setCell ⟨gw, 0, none⟩ (.slice (some ⟨w3.heap.size, 0, none⟩) 0 0)).alloc (.cells #[] 3)).alloc (.cells #[.int .i64 0] 3) = w4 at hBD hsD hwD hmD T2 O2 p0 p1 p2 ⊢
  clear hw4 hgr2 hgr3 hm2 hm3 hown2 hown3 hfs hfw hcs hcw hgw
  have HS := Lib.hid hsD
  have HM := Lib.hid hM0
  have HT := Lib.hid T2
  generalize (List.replicate n (Value.bool false)).set 0 (.bool true) = bs0 at HS HM
  generalize (List.replicate n (Value.slice none 0 0)).set 0 (.slice (some ⟨w3.heap.size, 0, none⟩) 0 0) = vals0 at hwD HT
  have hq4 : w3.heap.size + 1 < w4.heap.size := (O2.lt _ rfl).2
  clear hsD hM0 T2
  with_reducible refine (spec_l5Letters r _ (by omega)).mono ?_
  rintro en w5 ⟨A4, c4, rfl, hL4, hm5⟩
  have hs5 := hm5.size
  clear p0 p1 p2
  replace hBD := hBD.mid hm5 oZr
  replace O2 := owns_mid O2 hm5 oZl
  replace hwD := owns_mid hwD hm5 oZl
  replace hmD := hmD.trans hm5
  replace HS := Lib.hid (owns_mid HS.out hm5 oZl)
  replace HT := Lib.hid (HT.out.mid (a := 0) (b := 0) hm5)
  have HLL := Lib.hid (lets_len r)
  obtain ⟨LL, hLL⟩ : ∃ LL, (lets r).length = LL := ⟨_, rfl⟩
  have hLL6 : LL ≤ 6 := by have := HLL.out; omega
  rw [hLL]
  have HLn := Lib.hid hLL
  have HL4 := Lib.hid hL4
  have HT1 : Hid (TreeSt w5 gw (Value.ownBlock (.slice (some (⟨w3.heap.size + 1, 0, none⟩ : Addr)) 1 1)) n vals0 (bfsSt es (lets r) 0 0)) := Lib.hid HT.out
  have HM1 : Hid (Marks n bs0 (bfsSt es (lets r) 0 0)) := Lib.hid HM.out
  have HW1 := Lib.hid hwD
  have HD0 : Hid (∀ g, Value.ownBlock (.slice (some (⟨w3.heap.size + 1, 0, none⟩ : Addr)) 1 1) = some g → g < w4.heap.size ∨ w5.heap.size ≤ g) := Lib.hid (fun g hg => .inl (by have := Option.some.inj (show some (w3.heap.size + 1) = some g from hg); omega))
  have HQ := Lib.hid (show w5.ownsRow (gw + 1) 3 1 (.slice (some ⟨w3.heap.size + 1, 0, none⟩) 1 1) 1 (ints ((bfsSt es (lets r) 0 0).map Prod.fst)) from owns_base O2 (by omega))
  have hgL : gw < w4.heap.size := by omega
  clear hLL hL4 hm5 O2 HT HM hwD
  generalize (some (⟨w3.heap.size + 1, 0, none⟩ : Addr)) = Q0 at HQ HD0 HT1 ⊢
  generalize w4.heap.size = L4 at HL4 HD0 hgL
  generalize w5.heap.size = H4 at HL4 HD0
  go_wp2_with fail
  go_loopw [8, 10] (fun ord iv wr => ∃ (i n1 : Nat) (A1 : Option Addr) (c1 : Nat) (vals bs : List Value), i ≤ n1 ∧ iv = .int .i64 i ∧ ord = .slice A1 n1 c1 ∧ Hid ((bfsSt es (lets r) 0 i).length = n1) ∧ Hid (wr.ownsRow (gw + 1) 3 1 (.slice A1 n1 c1) n1 (ints ((bfsSt es (lets r) 0 i).map Prod.fst))) ∧ Hid (wr.ownsRow gw 48 1 (.slice (some ⟨gw, 0, none⟩) n n) n vals) ∧ Hid (wr.ownsRow gs 4 1 (.slice (some ⟨gs, 0, none⟩) n n) n bs) ∧ Hid (Marks n bs (bfsSt es (lets r) 0 i)) ∧ Hid (TreeSt wr gw (Value.ownBlock (.slice A1 n1 c1)) n vals (bfsSt es (lets r) 0 i)) ∧ Hid (RV wr L4 H4 A4 (ints (lets r))) ∧ Hid (∀ g, Value.ownBlock (.slice A1 n1 c1) = some g → g < L4 ∨ H4 ≤ g) ∧ Box wr w.heap.size [.int .i64 r, .int .i64 n, .slice A es.length c] ∧ Mid 0 0 w wr) (fun _ i _ => (41 - intOf i).toNat)
  case atStart => exact ⟨0, 1, Q0, 1, vals0, bs0, Nat.zero_le _, rfl, rfl, Lib.hid rfl, HQ, HW1, HS, HM1, HT1, HL4, HD0, hBD, hmD⟩
  case round =>
    clear HQ HW1 HS HM1 HT1 HL4 HD0 hBD hmD
    obtain ⟨wo, hwo⟩ : ∃ wo, wo = wr := ⟨_, rfl⟩
    subst hwo
    obtain ⟨i, n1, A1, c1, vals, bs, hin, rfl, rfl, HN, HQ, HW, HS, HM, HT, HL4, HD, bx, hm⟩ := hrel
    have hok := bfsSt_ok (L := lets r) HG.out.all hv0 hv3 i
    have hn1 : n1 ≤ 40 := by have h1 := hok.len (by omega); have h2 := HN.out; omega
    have HOK := Lib.hid hok
    clear hok
    by_cases hlt : i < n1
    · obtain ⟨p, hp⟩ := get_of_lt (bfsSt es (lets r) 0 i) (show i < (bfsSt es (lets r) 0 i).length by rw [HN.out]; exact hlt)
      have hrng := HOK.out.rng p (List.mem_of_getElem? hp)
      obtain ⟨pu, wd⟩ := p
      simp only at hrng
      obtain ⟨u, rfl⟩ : ∃ u : Nat, pu = u := ⟨pu.toNat, by omega⟩
      have hun : u < n := by omega
      have hwl := HOK.out.wl i _ hp
      simp only at hwl
      have HP := Lib.hid hp
      have hNX := Lib.hid (bfsSt_next hp)
      have hi0 : (0 : Int) ≤ (i : Int) := by omega
      clear hp
      go_wp2_with fail
      go_loopw [8, 11] (fun ord jv wr => ∃ (j n1 : Nat) (A1 : Option Addr) (c1 : Nat) (vals bs : List Value), j ≤ LL ∧ jv = .int .i64 j ∧ ord = .slice A1 n1 c1 ∧ Hid ((bfsRow es ((lets r).take j) ((u : Int), wd) (bfsSt es (lets r) 0 i)).length = n1) ∧ Hid (wr.ownsRow (gw + 1) 3 1 (.slice A1 n1 c1) n1 (ints ((bfsRow es ((lets r).take j) ((u : Int), wd) (bfsSt es (lets r) 0 i)).map Prod.fst))) ∧ Hid (wr.ownsRow gw 48 1 (.slice (some ⟨gw, 0, none⟩) n n) n vals) ∧ Hid (wr.ownsRow gs 4 1 (.slice (some ⟨gs, 0, none⟩) n n) n bs) ∧ Hid (Marks n bs (bfsRow es ((lets r).take j) ((u : Int), wd) (bfsSt es (lets r) 0 i))) ∧ Hid (TreeSt wr gw (Value.ownBlock (.slice A1 n1 c1)) n vals (bfsRow es ((lets r).take j) ((u : Int), wd) (bfsSt es (lets r) 0 i))) ∧ Hid (RV wr L4 H4 A4 (ints (lets r))) ∧ Hid (∀ g, Value.ownBlock (.slice A1 n1 c1) = some g → g < L4 ∨ H4 ≤ g) ∧ Box wr w.heap.size [.int .i64 r, .int .i64 n, .slice A es.length c] ∧ Mid 0 0 w wr) (fun _ j _ => LL - (intOf j).toNat)
      case atStart => exact ⟨0, n1, _, c1, vals, bs, Nat.zero_le _, rfl, rfl, by rw [List.take_zero]; exact HN, by rw [List.take_zero]; exact HQ, HW, HS, by rw [List.take_zero]; exact HM, by rw [List.take_zero]; exact HT, HL4, HD, bx, hm⟩
      case round =>
        clear HQ HW HS HM HT HL4 HD bx hm
        obtain ⟨j, n1, A1, c1, vals, bs, hj, rfl, rfl, HN, HQ, HW, HS, HM, HT, HL4, HD, bx, hm⟩ := hrel
        obtain ⟨stj, hstj⟩ : ∃ st, bfsRow es ((lets r).take j) ((u : Int), wd) (bfsSt es (lets r) 0 i) = st := ⟨_, rfl⟩
        have hokj : BfsOk n (lets r) stj := by rw [← hstj]; exact BfsOk.row HG.out.all _ (fun x hx => List.mem_of_mem_take hx) HOK.out HP.out
        have hpj : stj[i]? = some ((u : Int), wd) := by rw [← hstj]; exact prefix_get (bfsRow_pre _ _ _ _) HP.out
        rw [hstj] at HN HQ HM HT
        have hn1b : n1 ≤ 40 := by have h1 := hokj.len (by omega); have h2 := HN.out; omega
        by_cases hlt2 : j < LL
        · obtain ⟨B4, o4, x, rfl, hB4, hx, hcx⟩ := HL4.out.at (k := j) (by rw [HLn.out]; exact hlt2)
          have hxm := lets_le (List.mem_of_getElem? hx)
          have hnx := bfsRow_take (es := es) (p := ((u : Int), wd)) (st := bfsSt es (lets r) 0 i) hx
          rw [hstj] at hnx
          simp only at hnx
          have hj0 : (0 : Int) ≤ (j : Int) := by omega
          have hj1 : (j : Int) < (LL : Int) := by omega
          have hil : i < n1 := by have h1 := (List.getElem?_eq_some_iff.1 hpj).1; have h2 := HN.out; omega
          have hi1 : (i : Int) < (n1 : Int) := by omega
          obtain ⟨g1, rfl, hg1, hg1s⟩ := owns_addr HQ.out (show 0 < n1 by omega)
          have hcu : wr.cell? ⟨g1, i, none⟩ = some (.int .i64 u) := (HQ.out.cellAt i (by omega)).trans (by rw [ints_get, List.getElem?_map, hpj]; rfl)
          have hB4s : B4 < wr.heap.size := Nat.lt_of_lt_of_le hB4 HL4.out.1
          have hcs := nextV_cases HG.out.all (u : Int) x
          obtain ⟨bw, cw, hvw, hrvw⟩ := HT.out.word (List.mem_of_getElem? hpj)
          simp only [Int.toNat_natCast] at hvw hrvw
          have HVW := Lib.hid hvw
          have HOJ := Lib.hid hokj
          have HXJ := Lib.hid hx
          have HPJ := Lib.hid hpj
          have HCX := Lib.hid hcx
          have HCU := Lib.hid hcu
          have k0 := wg_cell bx.1 (bx.cell 0 rfl)
          have k1 := wg_cell bx.1 (bx.cell 1 rfl)
          have k2 := wg_cell bx.1 (bx.cell 2 rfl)
          have k3 := wg_cell hg1s hcu
          have k4 := wg_cell hB4s hcx
          have hA := fun m os => spec_NextVertex r n A es c u x (wg wr m os) lo hi (hr.mid (hm.trans (Mid.ofWg wr m os)) oZl) (by omega) HGL.out (by omega) (by omega)
          clear hx hokj hpj hstj hcu hcx hvw
          go_wp2_with fail
          refine wp_region_quiet_wg (by kernel_rfl) (by kernel_rfl) ?_
          repeat
            (with_reducible refine wpQuiet_step (fun K hK => ?_))
            go_simp
            first
              | ((with_reducible refine hK _ ?_); clear hK K)
              | (rw [if_neg (by decide)]; (with_reducible refine hK _ ?_); clear hK K)
              | (apply Exists.intro; refine ⟨fun _ => ?_, hK _ ?_⟩; ((go_at_call 96; exact Calls.wg_of (hA _ _))); clear hK K)
          with_reducible refine wpQuiet_nil ?_
          intro _ hw'
          obtain ⟨⟨nq, osq⟩, hw''⟩ := hw'
          subst hw''
          have hwg := Mid.ofWg wr nq osq
          have HCX6 := Lib.hid (cell_keep hwg hB4s oZr HCX.out)
          have HCU6 := Lib.hid (cell_keep hwg hg1s oZr HCU.out)
          generalize wg wr nq osq = w6 at hwg HCX6 HCU6 ⊢
          have hswg := hwg.size
          replace bx := bx.mid hwg oZr
          replace hm := hm.trans hwg
          replace HQ := Lib.hid (owns_mid HQ.out hwg oZl)
          replace HW := Lib.hid (owns_mid HW.out hwg oZl)
          replace HS := Lib.hid (owns_mid HS.out hwg oZl)
          replace HT := Lib.hid (HT.out.mid (a := 0) (b := 0) hwg)
          replace HL4 := Lib.hid (HL4.out.mid hwg oZl)
          replace hrvw := (hrvw.mid hwg oZl).wide (Nat.le_refl _) hwg.size (Nat.le_refl _)
          generalize htx : nextV es (u : Int) x = tt at hnx hcs ⊢
          clear k0 k1 k2 k3 k4 hA HCX HCU
          by_cases ht0 : tt < 0
          · have b1 : decide (0 ≤ tt) = false := by simp; omega
            have HNX := Lib.hid (hnx.trans (by rw [bfsStep, htx, if_pos (.inl ht0)] : bfsStep es (u : Int) wd stj x = stj))
            clear hnx hcs ht0 htx hrvw
            go_wp2_with fail
            go_roundw
            case rel => exact ⟨j + 1, n1, _, c1, vals, bs, by omega, by go_num, rfl, by rw [HNX.out]; exact HN, by rw [HNX.out]; exact HQ, HW, HS, by rw [HNX.out]; exact HM, by rw [HNX.out]; exact HT, HL4, HD, bx, hm⟩
            case measure => simp [intOf]; omega
          · obtain ⟨tn, rfl⟩ : ∃ tn : Nat, tt = tn := ⟨tt.toNat, by omega⟩
            have htn : tn < n := by omega
            have ht1 : (tn : Int) < (n : Int) := by omega
            have ht2 : (0 : Int) ≤ (tn : Int) := by omega
            have b1 : decide (0 ≤ (tn : Int)) = true := by simp
            have hcse : w6.cell? ⟨gs, tn, none⟩ = some (.bool (decide ((tn : Int) ∈ stj.map Prod.fst))) := (HS.out.cellAt tn (by omega)).trans (HM.out.2 tn htn)
            clear hcs ht0
            by_cases hmem : (tn : Int) ∈ stj.map Prod.fst
            · rw [decide_eq_true hmem] at hcse
              have HNX := Lib.hid (hnx.trans (by rw [bfsStep, htx, if_pos (.inr hmem)] : bfsStep es (u : Int) wd stj x = stj))
              clear hnx htx hmem hrvw
              go_wp2_with fail
              go_roundw
              case rel => exact ⟨j + 1, n1, _, c1, vals, bs, by omega, by go_num, rfl, by rw [HNX.out]; exact HN, by rw [HNX.out]; exact HQ, HW, HS, by rw [HNX.out]; exact HM, by rw [HNX.out]; exact HT, HL4, HD, bx, hm⟩
              case measure => simp [intOf]; omega
            · rw [decide_eq_false hmem] at hcse
              have HNX := Lib.hid (hnx.trans (by rw [bfsStep, htx, if_neg (fun h => h.elim (fun h => by omega) hmem)] : bfsStep es (u : Int) wd stj x = stj ++ [((tn : Int), wd ++ [x])]))
              have HMEM := Lib.hid hmem
              have hfse := HS.out.frozenAt tn
              clear hnx htx hmem
              have hbb0 : ∃ b, w6.cell? ⟨gs, 0, none⟩ = some (.bool b) := ⟨_, (HS.out.cellAt 0 (by omega)).trans (HM.out.2 0 (by omega))⟩
              have hmS := Mid.setAt w6 gs tn (.bool true)
              have HT7 := Lib.hid (HT.out.other (tt := tn) (v := .bool true) hbb0)
              have HS7 := Lib.hid (owns_set HS.out tn (.bool true) rfl)
              have HM7 := Lib.hid (HM.out.set (wd := wd ++ [x]) htn)
              have HW7 := Lib.hid (owns_mid HW.out hmS (Or.inl (by omega)))
              have HQ7 := Lib.hid (owns_mid HQ.out hmS (Or.inl (by omega)))
              have HL7 := Lib.hid (HL4.out.mid hmS (Or.inl (by omega)))
              have bx7 := bx.mid hmS (Or.inl hs1)
              have hm7 := hm.storeNew (p := ⟨gs, tn, none⟩) (by show w.heap.size ≤ gs; omega) (.bool true)
              have hcu7 := cell_keep hmS (show g1 < w6.heap.size by omega) (Or.inr (by omega)) HCU6.out
              have hsz7 : (w6.setCell ⟨gs, tn, none⟩ (.bool true)).heap.size = w6.heap.size := by simp [World.setCell]
              clear hrvw HQ HS HW HT HL4 bx hm hmS hbb0
              go_wp2_with fail
              generalize w6.setCell ⟨gs, tn, none⟩ (.bool true) = w7 at HT7 HS7 HW7 HQ7 HL7 bx7 hm7 hcu7 hsz7 ⊢
              have hmd := Mid.drew1 w7
              have HT8 := Lib.hid (HT7.out.mid (a := 0) (b := 0) hmd)
              have HS8 := Lib.hid (owns_mid HS7.out hmd oZl)
              have HW8 := Lib.hid (owns_mid HW7.out hmd oZl)
              have HQ8 := Lib.hid (owns_mid HQ7.out hmd oZl)
              have HL8 := Lib.hid (HL7.out.mid hmd oZl)
              have bx8 := bx7.mid hmd oZr
              have hm8 := hm7.trans hmd
              have hsd := hmd.size
              have qaz := cell_keep hmd (show g1 < w7.heap.size by omega) oZr hcu7
              obtain ⟨bw2, cw2, hvw2, hrv2⟩ := HT8.out.word (List.mem_of_getElem? HPJ.out)
              simp only [Int.toNat_natCast] at hvw2 hrv2
              have qbz : (World.drew w7).cell? ⟨gw, u, none⟩ = some (.slice (some ⟨bw2, 0, none⟩) wd.length cw2) := (HW8.out.cellAt u (by omega)).trans hvw2
              have qcz : (World.drew w7).cell? ⟨B4, o4 + j, none⟩ = some (.int .i64 x) := by
                obtain ⟨B', o', x', hA', -, hx', hc'⟩ := HL8.out.at (k := j) (by rw [HLn.out]; exact hlt2)
                injection hA' with hA'
                injection hA' with e1 e2
                subst e1 e2
                rw [HXJ.out] at hx'
                injection hx' with hx'
                subst hx'
                exact hc'
              have haz : g1 < (World.drew w7).heap.size := by omega
              have hbz : gw < (World.drew w7).heap.size := (HW8.out.lt _ rfl).2
              have hcz : B4 < (World.drew w7).heap.size := by omega
              have hrvz := hrv2.wide (lo' := 0) (hi' := (World.drew w7).heap.size) (Nat.zero_le _) (Nat.le_refl _) (Nat.le_refl _)
              have hu0 : (0 : Int) ≤ (u : Int) := by omega
              have hu1 : (u : Int) < (n : Int) := by omega
              have hlaw : (ints wd).length = wd.length * 1 := by rw [ints_len]; omega
              have hone1 : ∀ u ∈ [Value.int .i64 x], u.oneCell' = true := by
                intro u hu
                simp at hu
                subst hu
                rfl
              have hmx1 : wd.length + 1 ≤ maxLen := by unfold maxLen; omega
              have hby1 : (wd.length + 1) * 8 ≤ 140737488355328 := by omega
              have hmx3 : 0 + wd.length ≤ maxLen := by unfold maxLen; omega
              have hby3 : (0 + wd.length) * 8 ≤ 140737488355328 := by omega
              clear HT7 HS7 HW7 HQ7 HL7 bx7 hm7 hcu7 hmd hvw2 hrv2
              refine wp_region_Z (S := (fun w' => w'.cell? ⟨g1, i, none⟩ = some (.int .i64 (u : Int)) ∧ w'.cell? ⟨gw, u, none⟩ = some (.slice (some ⟨bw2, 0, none⟩) wd.length cw2) ∧ w'.cell? ⟨B4, o4 + j, none⟩ = some (.int .i64 x))) [18] (by kernel_rfl) ⟨qaz, qbz, qcz⟩ ?_
              generalize World.drew w7 = wz at HT8 HS8 HW8 HQ8 HL8 bx8 hm8 hsd qaz qbz qcz haz hbz hcz hrvz ⊢
              have hSz : wz.cell? ⟨g1, i, none⟩ = some (.int .i64 (u : Int)) ∧ wz.cell? ⟨gw, u, none⟩ = some (.slice (some ⟨bw2, 0, none⟩) wd.length cw2) ∧ wz.cell? ⟨B4, o4 + j, none⟩ = some (.int .i64 x) := ⟨qaz, qbz, qcz⟩
              refine wpAnyZ_takeC [17, 18] (i := 0) (v := ?_) rfl (by kernel_rfl) (by kernel_rfl) (by kernel_rfl) (by kernel_rfl) (fun _ _ _ h => h) (Or.inl ⟨by rfl, ?_⟩) hSz ?_
              rotate_left
              focus (intro w hSw; (try dsimp only at hSw); go_simp; try with_reducible rfl)
              try simp only [Act.put, List.setIfInBounds_toArray, List.set_cons_zero, List.set_cons_succ, List.getElem_toArray, List.getElem_cons_zero, List.getElem_cons_succ]
              refine wpAnyZ_takeC [17, 18] (i := 1) (v := ?_) rfl (by kernel_rfl) (by kernel_rfl) (by kernel_rfl) (by kernel_rfl) (fun _ _ _ h => h) (Or.inl ⟨by rfl, ?_⟩) hSz ?_
              rotate_left
              focus (intro w hSw; (try dsimp only at hSw); go_simp; try with_reducible rfl)
              try simp only [Act.put, List.setIfInBounds_toArray, List.set_cons_zero, List.set_cons_succ, List.getElem_toArray, List.getElem_cons_zero, List.getElem_cons_succ]
              refine wpAnyZ_takeC [8, 9, 10, 16, 18] (i := 3) (v := ?_) rfl (by kernel_rfl) (by kernel_rfl) (by kernel_rfl) (by kernel_rfl) (fun _ _ _ h => h) (Or.inl ⟨by rfl, ?_⟩) hSz ?_
              rotate_left
              focus (intro w hSw; (try dsimp only at hSw); go_simp; try with_reducible rfl)
              try simp only [Act.put, List.setIfInBounds_toArray, List.set_cons_zero, List.set_cons_succ, List.getElem_toArray, List.getElem_cons_zero, List.getElem_cons_succ]
              refine wpAnyZ_takeC [6, 7, 8, 9, 10, 16, 18] (i := 4) (v := ?_) rfl (by kernel_rfl) (by kernel_rfl) (by kernel_rfl) (by kernel_rfl) (fun _ _ _ h => h) (Or.inl ⟨by rfl, ?_⟩) hSz ?_
              rotate_left
              focus (intro w hSw; (try dsimp only at hSw); go_simp; try with_reducible rfl)
              try simp only [Act.put, List.setIfInBounds_toArray, List.set_cons_zero, List.set_cons_succ, List.getElem_toArray, List.getElem_cons_zero, List.getElem_cons_succ]
              refine wpAnyZ_takeC [6, 7, 8, 9, 10, 16, 18] (i := 5) (v := ?_) rfl (by kernel_rfl) (by kernel_rfl) (by kernel_rfl) (by kernel_rfl) (fun _ _ _ h => h) (Or.inl ⟨by rfl, ?_⟩) hSz ?_
              rotate_left
              focus (intro w hSw; (try dsimp only at hSw); go_simp; try with_reducible rfl)
              try simp only [Act.put, List.setIfInBounds_toArray, List.set_cons_zero, List.set_cons_succ, List.getElem_toArray, List.getElem_cons_zero, List.getElem_cons_succ]
              refine wpAnyZ_takeC [7, 8, 9, 10, 16, 18] (i := 6) (v := ?_) rfl (by kernel_rfl) (by kernel_rfl) (by kernel_rfl) (by kernel_rfl) (fun _ _ _ h => h) (Or.inl ⟨by rfl, ?_⟩) hSz ?_
              rotate_left
              focus (intro w hSw; (try dsimp only at hSw); go_simp; try with_reducible rfl)
              try simp only [Act.put, List.setIfInBounds_toArray, List.set_cons_zero, List.set_cons_succ, List.getElem_toArray, List.getElem_cons_zero, List.getElem_cons_succ]
              refine wpAnyZ_takeC [8, 9, 10, 16, 18] (i := 7) (v := ?_) rfl (by kernel_rfl) (by kernel_rfl) (by kernel_rfl) (by kernel_rfl) (fun _ _ _ h => h) (Or.inl ⟨by rfl, ?_⟩) hSz ?_
              rotate_left
              focus (intro w hSw; (try dsimp only at hSw); go_simp; try with_reducible rfl)
              try simp only [Act.put, List.setIfInBounds_toArray, List.set_cons_zero, List.set_cons_succ, List.getElem_toArray, List.getElem_cons_zero, List.getElem_cons_succ]
              refine wpAnyZ_takeC [9, 10, 16, 18] (i := 8) (v := ?_) rfl (by kernel_rfl) (by kernel_rfl) (by kernel_rfl) (by kernel_rfl) (fun _ _ _ h => h) (Or.inl ⟨by rfl, ?_⟩) hSz ?_
              rotate_left
              focus (intro w hSw; (try dsimp only at hSw); go_simp; try with_reducible rfl)
              try simp only [Act.put, List.setIfInBounds_toArray, List.set_cons_zero, List.set_cons_succ, List.getElem_toArray, List.getElem_cons_zero, List.getElem_cons_succ]
              refine wpAnyZ_takeC [10, 16, 18] (i := 9) (v := ?_) rfl (by kernel_rfl) (by kernel_rfl) (by kernel_rfl) (by kernel_rfl) (fun _ _ _ h => h) (Or.inl ⟨by rfl, ?_⟩) hSz ?_
              rotate_left
              focus (intro w hSw; (try dsimp only at hSw); go_simp; try with_reducible rfl)
              try simp only [Act.put, List.setIfInBounds_toArray, List.set_cons_zero, List.set_cons_succ, List.getElem_toArray, List.getElem_cons_zero, List.getElem_cons_succ]
              refine wpAnyZ_takeC [13, 14, 15, 16, 18] (i := 11) (v := ?_) rfl (by kernel_rfl) (by kernel_rfl) (by kernel_rfl) (by kernel_rfl) (fun _ _ _ h => h) (Or.inl ⟨by rfl, ?_⟩) hSz ?_
              rotate_left
              focus (intro w hSw; (try dsimp only at hSw); go_simp; try with_reducible rfl)
              try simp only [Act.put, List.setIfInBounds_toArray, List.set_cons_zero, List.set_cons_succ, List.getElem_toArray, List.getElem_cons_zero, List.getElem_cons_succ]
              refine wpAnyZ_takeC [13, 14, 15, 16, 18] (i := 12) (v := ?_) rfl (by kernel_rfl) (by kernel_rfl) (by kernel_rfl) (by kernel_rfl) (fun _ _ _ h => h) (Or.inl ⟨by rfl, ?_⟩) hSz ?_
              rotate_left
              focus (intro w hSw; (try dsimp only at hSw); go_simp; try with_reducible rfl)
              try simp only [Act.put, List.setIfInBounds_toArray, List.set_cons_zero, List.set_cons_succ, List.getElem_toArray, List.getElem_cons_zero, List.getElem_cons_succ]
              refine wpAnyZ_takeC [14, 15, 16, 18] (i := 13) (v := ?_) rfl (by kernel_rfl) (by kernel_rfl) (by kernel_rfl) (by kernel_rfl) (fun _ _ _ h => h) (Or.inl ⟨by rfl, ?_⟩) hSz ?_
              rotate_left
              focus (intro w hSw; (try dsimp only at hSw); go_simp; try with_reducible rfl)
              try simp only [Act.put, List.setIfInBounds_toArray, List.set_cons_zero, List.set_cons_succ, List.getElem_toArray, List.getElem_cons_zero, List.getElem_cons_succ]
              refine wpAnyZ_takeC [15, 16, 18] (i := 14) (v := ?_) rfl (by kernel_rfl) (by kernel_rfl) (by kernel_rfl) (by kernel_rfl) (fun _ _ _ h => h) (Or.inl ⟨by rfl, ?_⟩) hSz ?_
              rotate_left
              focus (intro w hSw; (try dsimp only at hSw); go_simp; try with_reducible rfl)
              try simp only [Act.put, List.setIfInBounds_toArray, List.set_cons_zero, List.set_cons_succ, List.getElem_toArray, List.getElem_cons_zero, List.getElem_cons_succ]
              clear hSz
              refine wpAnyZ_ready (rs := [2,15]) (by kernel_rfl) (by simp) (AllReadyZ.cons rfl (fun K hK => ?_) (AllReadyZ.cons rfl (fun K hK => ?_) AllReadyZ.nil))
              · go_simp
                refine hK.out _ _ (Or.inr ⟨cell_keep (Mid.alloc wz (.cells #[] 3)) haz oZr qaz, cell_keep (Mid.alloc wz (.cells #[] 3)) hbz oZr qbz, cell_keep (Mid.alloc wz (.cells #[] 3)) hcz oZr qcz⟩) (fun _ => ?_)
                clear hK K
                try simp only [Act.put, List.setIfInBounds_toArray, List.set_cons_zero, List.set_cons_succ, List.getElem_toArray, List.getElem_cons_zero, List.getElem_cons_succ]
                have hal1 := Mid.alloc wz (.cells #[] 3)
                have e1 := owns_empty wz 3 1
                have hr1 := hrvz.mid hal1 oZl
                have qaa := cell_keep hal1 haz oZr qaz
                have qba := cell_keep hal1 hbz oZr qbz
                have qca := cell_keep hal1 hcz oZr qcz
                have haa : g1 < (wz.alloc (.cells #[] 3)).heap.size := Nat.lt_of_lt_of_le haz hal1.size
                have hba : gw < (wz.alloc (.cells #[] 3)).heap.size := Nat.lt_of_lt_of_le hbz hal1.size
                have hca : B4 < (wz.alloc (.cells #[] 3)).heap.size := Nat.lt_of_lt_of_le hcz hal1.size
                have hlt1 : wz.heap.size < (wz.alloc (.cells #[] 3)).heap.size := by simp
                generalize wz.alloc (.cells #[] 3) = wa at hal1 e1 hr1 qaa qba qca haa hba hca hlt1 ⊢
                have hbs3 : wz.heap.size ≤ wa.heap.size := by omega
                refine wpAnyZ_ready (rs := [10,15]) (by kernel_rfl) (by simp) (AllReadyZ.cons rfl (fun K hK => ?_) (AllReadyZ.cons rfl (fun K hK => ?_) AllReadyZ.nil))
                · (refine step_cat (by rfl) (.tmp 67) (.tmp 74) 48 (by rfl) wz.heap.size 3 (.int .i64 0) 1 8 undSI infoI rfl (by decide) _ 0 _ (by rfl) e1 (some ⟨bw2, 0, none⟩) wd.length cw2 _ (ints wd) (by rfl) hr1.rs hlaw (one_of_ints _) hmx3 hby3 hbs3 ?_; intro v3 w3x ho3 hgr3 hat3; obtain ⟨A3x, c3x, rfl, -, -⟩ := owns_shape ho3)
                  refine hK.out _ _ (Or.inr ⟨cell_keep (Mid.of_grownRow e1 hgr3) haa (Or.inl haz) qaa, cell_keep (Mid.of_grownRow e1 hgr3) hba (Or.inl hbz) qba, cell_keep (Mid.of_grownRow e1 hgr3) hca (Or.inl hcz) qca⟩) (fun _ => ?_)
                  clear hK K
                  try simp only [Act.put, List.setIfInBounds_toArray, List.set_cons_zero, List.set_cons_succ, List.getElem_toArray, List.getElem_cons_zero, List.getElem_cons_succ]
                  try rw [Nat.zero_add, List.nil_append] at ho3
                  try rw [Nat.zero_add]
                  have hm3 := hal1.transNew (Mid.of_grownRow e1 hgr3) (Or.inl (Nat.le_refl _))
                  have qab := cell_keep (Mid.of_grownRow e1 hgr3) haa (Or.inl haz) qaa
                  have qbb := cell_keep (Mid.of_grownRow e1 hgr3) hba (Or.inl hbz) qba
                  have qcb := cell_keep (Mid.of_grownRow e1 hgr3) hca (Or.inl hcz) qca
                  have hab : g1 < w3x.heap.size := Nat.lt_of_lt_of_le haa (Mid.of_grownRow e1 hgr3).size
                  have hbb : gw < w3x.heap.size := Nat.lt_of_lt_of_le hba (Mid.of_grownRow e1 hgr3).size
                  have hcb : B4 < w3x.heap.size := Nat.lt_of_lt_of_le hca (Mid.of_grownRow e1 hgr3).size
                  clear hal1 e1 hr1 hgr3 hat3 hbs3 qaa qba qca
                  refine wpAnyZ_ready (rs := [15]) (by kernel_rfl) (by simp) (AllReadyZ.cons rfl (fun K hK => ?_) AllReadyZ.nil)
                  go_simp
                  refine hK.out _ _ (Or.inr ⟨cell_keep (Mid.alloc w3x (.cells #[.int .i64 x] 3)) hab oZr qab, cell_keep (Mid.alloc w3x (.cells #[.int .i64 x] 3)) hbb oZr qbb, cell_keep (Mid.alloc w3x (.cells #[.int .i64 x] 3)) hcb oZr qcb⟩) (fun _ => ?_)
                  clear hK K
                  try simp only [Act.put, List.setIfInBounds_toArray, List.set_cons_zero, List.set_cons_succ, List.getElem_toArray, List.getElem_cons_zero, List.getElem_cons_succ]
                  have hal8 := Mid.alloc w3x (.cells #[.int .i64 x] 3)
                  have qac := cell_keep hal8 hab oZr qab
                  have qbc := cell_keep hal8 hbb oZr qbb
                  have qcc := cell_keep hal8 hcb oZr qcb
                  have hac : g1 < (w3x.alloc (.cells #[.int .i64 x] 3)).heap.size := Nat.lt_of_lt_of_le hab hal8.size
                  have hbc : gw < (w3x.alloc (.cells #[.int .i64 x] 3)).heap.size := Nat.lt_of_lt_of_le hbb hal8.size
                  have hcc : B4 < (w3x.alloc (.cells #[.int .i64 x] 3)).heap.size := Nat.lt_of_lt_of_le hcb hal8.size
                  have hmc := hm3.trans hal8
                  have hrow := ho3.alloc (.cells #[.int .i64 x] 3)
                  have hone := rs_one (w := w3x.alloc (.cells #[.int .i64 x] 3)) (p := w3x.heap.size) (v := .int .i64 x) (World.cell?_alloc_at _ _ _ _ rfl)
                  generalize w3x.alloc (.cells #[.int .i64 x] 3) = wc at hal8 hmc hrow hone qac qbc qcc hac hbc hcc ⊢
                  clear hal8 ho3 hm3 qab qbb qcb
                  refine wpAnyZ_ready (rs := [16]) (by kernel_rfl) (by simp) (AllReadyZ.cons rfl (fun K hK => ?_) AllReadyZ.nil)
                  (refine step_cat (by rfl) (.tmp 75) (.tmp 80) 48 (by rfl) wz.heap.size 3 (.int .i64 0) 1 8 undSI infoI rfl (by decide) (.slice A3x wd.length c3x) wd.length _ (by rfl) hrow (some ⟨w3x.heap.size, 0, none⟩) 1 1 _ [.int .i64 x] (by rfl) hone rfl hone1 hmx1 hby1 hmc.size ?_; intro v9 w9 ho9 hgr9 hat9; obtain ⟨A9x, c9x, rfl, -, -⟩ := owns_shape ho9)
                  refine hK.out _ _ (Or.inr ⟨cell_keep (Mid.of_grownRow hrow hgr9) hac (Or.inl haz) qac, cell_keep (Mid.of_grownRow hrow hgr9) hbc (Or.inl hbz) qbc, cell_keep (Mid.of_grownRow hrow hgr9) hcc (Or.inl hcz) qcc⟩) (fun _ => ?_)
                  clear hK K
                  try simp only [Act.put, List.setIfInBounds_toArray, List.set_cons_zero, List.set_cons_succ, List.getElem_toArray, List.getElem_cons_zero, List.getElem_cons_succ]
                  have hm9 := hmc.transNew (Mid.of_grownRow hrow hgr9) (Or.inl (Nat.le_refl _))
                  have qa9 := cell_keep (Mid.of_grownRow hrow hgr9) hac (Or.inl haz) qac
                  have qb9 := cell_keep (Mid.of_grownRow hrow hgr9) hbc (Or.inl hbz) qbc
                  have qc9 := cell_keep (Mid.of_grownRow hrow hgr9) hcc (Or.inl hcz) qcc
                  obtain ⟨g9, rfl, hg9a, hg9b⟩ := owns_addr ho9 (Nat.succ_pos _)
                  have HC9 : Hid (∀ jj uu, (ints (wd ++ [x]))[jj]? = some uu → w9.cell? ⟨g9, jj, none⟩ = some uu) := Lib.hid (fun jj uu hu => by
                    have hlj := (List.getElem?_eq_some_iff.1 hu).1
                    rw [ints_len, List.length_append] at hlj
                    rw [ints_append] at hu
                    exact (ho9.cellAt jj (by simp at hlj; omega)).trans hu)
                  have HW9 := Lib.hid (owns_mid HW8.out hm9 oZl)
                  have HT9 := Lib.hid (HT8.out.mid (a := 0) (b := 0) hm9)
                  have HS9 := Lib.hid (owns_mid HS8.out hm9 oZl)
                  have HQ9 := Lib.hid (owns_mid HQ8.out hm9 oZl)
                  have HL9 := Lib.hid (HL8.out.mid hm9 oZl)
                  have bx9 := bx8.mid hm9 oZr
                  have hm09 := hm8.trans hm9
                  have hval := HT8.out.off tn htn HMEM.out
                  have hct9 : w9.cell? ⟨gw, tn, none⟩ = some (.slice none 0 0) := (HW9.out.cellAt tn (by omega)).trans hval
                  have hfz9 := HW9.out.frozenAt tn
                  have hqb := (HQ8.out.lt g1 rfl).2
                  clear ho9 hgr9 hat9 hrow hone hmc HW8 HT8 HS8 HQ8 HL8 bx8 hm8 hval
                  have hmW := Mid.setAt w9 gw tn (.slice (some ⟨g9, 0, none⟩) (wd.length + 1) c9x)
                  have T10 := HT9.out.set (t := tn) (b := g9) (c := c9x) (wd := wd ++ [x]) htn HMEM.out (fun p hp => (HOJ.out.rng p hp).1) HC9.out (by omega) (fun e => by have := Option.some.inj (show some g1 = some g9 from e); omega) hg9b
                  rw [show (wd ++ [x]).length = wd.length + 1 by simp] at T10
                  have HT10 := Lib.hid T10
                  have HW10 := Lib.hid (owns_set HW9.out tn (.slice (some ⟨g9, 0, none⟩) (wd.length + 1) c9x) rfl)
                  have HS10 := Lib.hid (HS9.out.kept (grown_of_setCell w9 gw tn (.slice (some ⟨g9, 0, none⟩) (wd.length + 1) c9x)) (owns_ne HS9.out HW9.out (by decide)))
                  have HQ10 := Lib.hid (owns_mid HQ9.out hmW (Or.inl (Nat.le_refl _)))
                  have HL10 := Lib.hid (HL9.out.mid hmW (Or.inl (by omega)))
                  have bx10 := bx9.mid hmW (Or.inl (by omega))
                  have hm010 := hm09.storeNew (p := ⟨gw, tn, none⟩) (by show w.heap.size ≤ gw; omega) (.slice (some ⟨g9, 0, none⟩) (wd.length + 1) c9x)
                  have hsz10 := hmW.size
                  clear T10 HW9 HS9 HQ9 HL9 bx9 hm09 HT9 HC9 hmW
                  refine wpAnyZ_ready (rs := [17]) (by kernel_rfl) (by simp) (AllReadyZ.cons rfl (fun K hK => ?_) AllReadyZ.nil)
                  go_simp
                  refine hK.out _ _ (Or.inr ⟨qa9, qb9, qc9⟩) (fun _ => ?_)
                  clear hK K
                  try simp only [Act.put, List.setIfInBounds_toArray, List.set_cons_zero, List.set_cons_succ, List.getElem_toArray, List.getElem_cons_zero, List.getElem_cons_succ]
                  clear qa9 qb9 qc9
                  refine wpAnyZ_ready (rs := [18]) (by kernel_rfl) (by simp) (AllReadyZ.cons rfl (fun K hK => ?_) AllReadyZ.nil)
                  go_simp
                  refine hK.out _ _ (Or.inl (by simp)) (fun _ => ?_)
                  clear hK K
                  try simp only [Act.put, List.setIfInBounds_toArray, List.set_cons_zero, List.set_cons_succ, List.getElem_toArray, List.getElem_cons_zero, List.getElem_cons_succ]
                  generalize w9.setCell ⟨gw, tn, none⟩ (.slice (some ⟨g9, 0, none⟩) (wd.length + 1) c9x) = w10 at HT10 HW10 HS10 HQ10 HL10 bx10 hm010 hsz10 ⊢
                  clear hct9 hfz9
                  refine wpAnyZ_done (by kernel_rfl) ?_ _
                  go_wp2_with (at_builtin; refine MarkerX.to ?_)
                  unfold MarkerX
                  refine wpList_pushI2 rfl _ _ rfl (gw + 1) _ n1 c1 (stj.map Prod.fst) rfl HQ10.out tn rfl (by omega) (by omega) ?_
                  intro A11 c11 w11 hq11 hgr11 hat11
                  have hmap : (stj ++ [((tn : Int), wd ++ [x])]).map Prod.fst = stj.map Prod.fst ++ [(tn : Int)] := by simp
                  rw [← hmap, ← HNX.out] at hq11
                  have HQ11 := Lib.hid hq11
                  have HW11 := Lib.hid (HW10.out.kept hgr11 (owns_ne HW10.out HQ10.out (by decide)))
                  have HS11 := Lib.hid (HS10.out.kept hgr11 (owns_ne HS10.out HQ10.out (by decide)))
                  have hT11 := HT10.out.grow hgr11 (oB' := Value.ownBlock (.slice A11 (n1 + 1) c11)) (hat11.imp id fun h => ⟨_, h, by omega⟩)
                  rw [← HNX.out] at hT11
                  have HT11 := Lib.hid hT11
                  have hM11 := HM7.out
                  rw [← HNX.out] at hM11
                  have HM11 := Lib.hid hM11
                  have HL11 := Lib.hid (HL10.out.grown hgr11 HD.out)
                  have bx11 := bx10.grown hgr11 (by intro h0; have := Option.some.inj (show some g1 = some w.heap.size from h0); omega)
                  have hm11 := hm010.grownNew hgr11 (fun g hg => by have := Option.some.inj (show some g1 = some g from hg); omega)
                  have HN11 : Hid ((bfsRow es ((lets r).take (j + 1)) ((u : Int), wd) (bfsSt es (lets r) 0 i)).length = n1 + 1) := Lib.hid (by rw [HNX.out, List.length_append, HN.out]; rfl)
                  have hH10 : H4 ≤ w10.heap.size := HL10.out.1
                  have HD11 : Hid (∀ g, Value.ownBlock (.slice A11 (n1 + 1) c11) = some g → g < L4 ∨ H4 ≤ g) := Lib.hid (by
                    intro g hg
                    rcases hat11 with h | h
                    · exact HD.out g (h.symm.trans hg)
                    · rw [h] at hg
                      have := Option.some.inj hg
                      omega)
                  clear hq11 hgr11 hat11 hmap hT11 hM11 HQ10 HW10 HS10 HT10 HL10 bx10 hm010 HD
                  go_wp2_with fail
                  go_roundw
                  case rel => exact ⟨j + 1, n1 + 1, A11, c11, _, _, by omega, by go_num, rfl, HN11, HQ11, HW11, HS11, HM11, HT11, HL11, HD11, bx11, hm11⟩
                  case measure => simp [intOf]; omega
                · go_simp
                  refine hK.out _ _ (Or.inr ⟨cell_keep (Mid.alloc wa (.cells #[.int .i64 x] 3)) haa oZr qaa, cell_keep (Mid.alloc wa (.cells #[.int .i64 x] 3)) hba oZr qba, cell_keep (Mid.alloc wa (.cells #[.int .i64 x] 3)) hca oZr qca⟩) (fun _ => ?_)
                  clear hK K
                  try simp only [Act.put, List.setIfInBounds_toArray, List.set_cons_zero, List.set_cons_succ, List.getElem_toArray, List.getElem_cons_zero, List.getElem_cons_succ]
                  have hal8 := Mid.alloc wa (.cells #[.int .i64 x] 3)
                  have qab := cell_keep hal8 haa oZr qaa
                  have qbb := cell_keep hal8 hba oZr qba
                  have qcb := cell_keep hal8 hca oZr qca
                  have hab : g1 < (wa.alloc (.cells #[.int .i64 x] 3)).heap.size := Nat.lt_of_lt_of_le haa hal8.size
                  have hbb : gw < (wa.alloc (.cells #[.int .i64 x] 3)).heap.size := Nat.lt_of_lt_of_le hba hal8.size
                  have hcb : B4 < (wa.alloc (.cells #[.int .i64 x] 3)).heap.size := Nat.lt_of_lt_of_le hca hal8.size
                  have hmb := hal1.trans hal8
                  replace e1 := e1.alloc (.cells #[.int .i64 x] 3)
                  replace hr1 := hr1.mid hal8 oZl
                  have c8 : (wa.alloc (.cells #[.int .i64 x] 3)).cell? ⟨wa.heap.size, 0, none⟩ = some (.int .i64 x) := World.cell?_alloc_at _ _ _ _ rfl
                  have hlt8 : wa.heap.size < (wa.alloc (.cells #[.int .i64 x] 3)).heap.size := by simp
                  generalize wa.alloc (.cells #[.int .i64 x] 3) = wb at hal8 hmb e1 hr1 c8 qab qbb qcb hab hbb hcb hlt8 ⊢
                  replace hbs3 : wz.heap.size ≤ wb.heap.size := by omega
                  clear hal1 hal8 qaa qba qca
                  refine wpAnyZ_ready (rs := [10]) (by kernel_rfl) (by simp) (AllReadyZ.cons rfl (fun K hK => ?_) AllReadyZ.nil)
                  (refine step_cat (by rfl) (.tmp 67) (.tmp 74) 48 (by rfl) wz.heap.size 3 (.int .i64 0) 1 8 undSI infoI rfl (by decide) _ 0 _ (by rfl) e1 (some ⟨bw2, 0, none⟩) wd.length cw2 _ (ints wd) (by rfl) hr1.rs hlaw (one_of_ints _) hmx3 hby3 hbs3 ?_; intro v3 w3x ho3 hgr3 hat3; obtain ⟨A3x, c3x, rfl, -, -⟩ := owns_shape ho3)
                  refine hK.out _ _ (Or.inr ⟨cell_keep (Mid.of_grownRow e1 hgr3) hab (Or.inl haz) qab, cell_keep (Mid.of_grownRow e1 hgr3) hbb (Or.inl hbz) qbb, cell_keep (Mid.of_grownRow e1 hgr3) hcb (Or.inl hcz) qcb⟩) (fun _ => ?_)
                  clear hK K
                  try simp only [Act.put, List.setIfInBounds_toArray, List.set_cons_zero, List.set_cons_succ, List.getElem_toArray, List.getElem_cons_zero, List.getElem_cons_succ]
                  try rw [Nat.zero_add, List.nil_append] at ho3
                  try rw [Nat.zero_add]
                  have qac := cell_keep (Mid.of_grownRow e1 hgr3) hab (Or.inl haz) qab
                  have qbc := cell_keep (Mid.of_grownRow e1 hgr3) hbb (Or.inl hbz) qbb
                  have qcc := cell_keep (Mid.of_grownRow e1 hgr3) hcb (Or.inl hcz) qcb
                  have hac : g1 < w3x.heap.size := Nat.lt_of_lt_of_le hab (Mid.of_grownRow e1 hgr3).size
                  have hbc : gw < w3x.heap.size := Nat.lt_of_lt_of_le hbb (Mid.of_grownRow e1 hgr3).size
                  have hcc : B4 < w3x.heap.size := Nat.lt_of_lt_of_le hcb (Mid.of_grownRow e1 hgr3).size
                  have hmc := hmb.transNew (Mid.of_grownRow e1 hgr3) (Or.inl (Nat.le_refl _))
                  have hrow := ho3
                  have hone := rs_one (cell_grown hgr3 hlt8 (own_ne (by omega)) c8)
                  generalize w3x = wc at hmc hrow hone qac qbc qcc hac hbc hcc ⊢
                  clear hmb e1 hr1 c8 hgr3 hat3 ho3 qab qbb qcb
                  refine wpAnyZ_ready (rs := [16]) (by kernel_rfl) (by simp) (AllReadyZ.cons rfl (fun K hK => ?_) AllReadyZ.nil)
                  (refine step_cat (by rfl) (.tmp 75) (.tmp 80) 48 (by rfl) wz.heap.size 3 (.int .i64 0) 1 8 undSI infoI rfl (by decide) (.slice A3x wd.length c3x) wd.length _ (by rfl) hrow (some ⟨wa.heap.size, 0, none⟩) 1 1 _ [.int .i64 x] (by rfl) hone rfl hone1 hmx1 hby1 hmc.size ?_; intro v9 w9 ho9 hgr9 hat9; obtain ⟨A9x, c9x, rfl, -, -⟩ := owns_shape ho9)
                  refine hK.out _ _ (Or.inr ⟨cell_keep (Mid.of_grownRow hrow hgr9) hac (Or.inl haz) qac, cell_keep (Mid.of_grownRow hrow hgr9) hbc (Or.inl hbz) qbc, cell_keep (Mid.of_grownRow hrow hgr9) hcc (Or.inl hcz) qcc⟩) (fun _ => ?_)
                  clear hK K
                  try simp only [Act.put, List.setIfInBounds_toArray, List.set_cons_zero, List.set_cons_succ, List.getElem_toArray, List.getElem_cons_zero, List.getElem_cons_succ]
                  have hm9 := hmc.transNew (Mid.of_grownRow hrow hgr9) (Or.inl (Nat.le_refl _))
                  have qa9 := cell_keep (Mid.of_grownRow hrow hgr9) hac (Or.inl haz) qac
                  have qb9 := cell_keep (Mid.of_grownRow hrow hgr9) hbc (Or.inl hbz) qbc
                  have qc9 := cell_keep (Mid.of_grownRow hrow hgr9) hcc (Or.inl hcz) qcc
                  obtain ⟨g9, rfl, hg9a, hg9b⟩ := owns_addr ho9 (Nat.succ_pos _)
                  have HC9 : Hid (∀ jj uu, (ints (wd ++ [x]))[jj]? = some uu → w9.cell? ⟨g9, jj, none⟩ = some uu) := Lib.hid (fun jj uu hu => by
                    have hlj := (List.getElem?_eq_some_iff.1 hu).1
                    rw [ints_len, List.length_append] at hlj
                    rw [ints_append] at hu
                    exact (ho9.cellAt jj (by simp at hlj; omega)).trans hu)
                  have HW9 := Lib.hid (owns_mid HW8.out hm9 oZl)
                  have HT9 := Lib.hid (HT8.out.mid (a := 0) (b := 0) hm9)
                  have HS9 := Lib.hid (owns_mid HS8.out hm9 oZl)
                  have HQ9 := Lib.hid (owns_mid HQ8.out hm9 oZl)
                  have HL9 := Lib.hid (HL8.out.mid hm9 oZl)
                  have bx9 := bx8.mid hm9 oZr
                  have hm09 := hm8.trans hm9
                  have hval := HT8.out.off tn htn HMEM.out
                  have hct9 : w9.cell? ⟨gw, tn, none⟩ = some (.slice none 0 0) := (HW9.out.cellAt tn (by omega)).trans hval
                  have hfz9 := HW9.out.frozenAt tn
                  have hqb := (HQ8.out.lt g1 rfl).2
                  clear ho9 hgr9 hat9 hrow hone hmc HW8 HT8 HS8 HQ8 HL8 bx8 hm8 hval
                  have hmW := Mid.setAt w9 gw tn (.slice (some ⟨g9, 0, none⟩) (wd.length + 1) c9x)
                  have T10 := HT9.out.set (t := tn) (b := g9) (c := c9x) (wd := wd ++ [x]) htn HMEM.out (fun p hp => (HOJ.out.rng p hp).1) HC9.out (by omega) (fun e => by have := Option.some.inj (show some g1 = some g9 from e); omega) hg9b
                  rw [show (wd ++ [x]).length = wd.length + 1 by simp] at T10
                  have HT10 := Lib.hid T10
                  have HW10 := Lib.hid (owns_set HW9.out tn (.slice (some ⟨g9, 0, none⟩) (wd.length + 1) c9x) rfl)
                  have HS10 := Lib.hid (HS9.out.kept (grown_of_setCell w9 gw tn (.slice (some ⟨g9, 0, none⟩) (wd.length + 1) c9x)) (owns_ne HS9.out HW9.out (by decide)))
                  have HQ10 := Lib.hid (owns_mid HQ9.out hmW (Or.inl (Nat.le_refl _)))
                  have HL10 := Lib.hid (HL9.out.mid hmW (Or.inl (by omega)))
                  have bx10 := bx9.mid hmW (Or.inl (by omega))
                  have hm010 := hm09.storeNew (p := ⟨gw, tn, none⟩) (by show w.heap.size ≤ gw; omega) (.slice (some ⟨g9, 0, none⟩) (wd.length + 1) c9x)
                  have hsz10 := hmW.size
                  clear T10 HW9 HS9 HQ9 HL9 bx9 hm09 HT9 HC9 hmW
                  refine wpAnyZ_ready (rs := [17]) (by kernel_rfl) (by simp) (AllReadyZ.cons rfl (fun K hK => ?_) AllReadyZ.nil)
                  go_simp
                  refine hK.out _ _ (Or.inr ⟨qa9, qb9, qc9⟩) (fun _ => ?_)
                  clear hK K
                  try simp only [Act.put, List.setIfInBounds_toArray, List.set_cons_zero, List.set_cons_succ, List.getElem_toArray, List.getElem_cons_zero, List.getElem_cons_succ]
                  clear qa9 qb9 qc9
                  refine wpAnyZ_ready (rs := [18]) (by kernel_rfl) (by simp) (AllReadyZ.cons rfl (fun K hK => ?_) AllReadyZ.nil)
                  go_simp
                  refine hK.out _ _ (Or.inl (by simp)) (fun _ => ?_)
                  clear hK K
                  try simp only [Act.put, List.setIfInBounds_toArray, List.set_cons_zero, List.set_cons_succ, List.getElem_toArray, List.getElem_cons_zero, List.getElem_cons_succ]
                  generalize w9.setCell ⟨gw, tn, none⟩ (.slice (some ⟨g9, 0, none⟩) (wd.length + 1) c9x) = w10 at HT10 HW10 HS10 HQ10 HL10 bx10 hm010 hsz10 ⊢
                  clear hct9 hfz9
                  refine wpAnyZ_done (by kernel_rfl) ?_ _
                  go_wp2_with (at_builtin; refine MarkerX.to ?_)
                  unfold MarkerX
                  refine wpList_pushI2 rfl _ _ rfl (gw + 1) _ n1 c1 (stj.map Prod.fst) rfl HQ10.out tn rfl (by omega) (by omega) ?_
                  intro A11 c11 w11 hq11 hgr11 hat11
                  have hmap : (stj ++ [((tn : Int), wd ++ [x])]).map Prod.fst = stj.map Prod.fst ++ [(tn : Int)] := by simp
                  rw [← hmap, ← HNX.out] at hq11
                  have HQ11 := Lib.hid hq11
                  have HW11 := Lib.hid (HW10.out.kept hgr11 (owns_ne HW10.out HQ10.out (by decide)))
                  have HS11 := Lib.hid (HS10.out.kept hgr11 (owns_ne HS10.out HQ10.out (by decide)))
                  have hT11 := HT10.out.grow hgr11 (oB' := Value.ownBlock (.slice A11 (n1 + 1) c11)) (hat11.imp id fun h => ⟨_, h, by omega⟩)
                  rw [← HNX.out] at hT11
                  have HT11 := Lib.hid hT11
                  have hM11 := HM7.out
                  rw [← HNX.out] at hM11
                  have HM11 := Lib.hid hM11
                  have HL11 := Lib.hid (HL10.out.grown hgr11 HD.out)
                  have bx11 := bx10.grown hgr11 (by intro h0; have := Option.some.inj (show some g1 = some w.heap.size from h0); omega)
                  have hm11 := hm010.grownNew hgr11 (fun g hg => by have := Option.some.inj (show some g1 = some g from hg); omega)
                  have HN11 : Hid ((bfsRow es ((lets r).take (j + 1)) ((u : Int), wd) (bfsSt es (lets r) 0 i)).length = n1 + 1) := Lib.hid (by rw [HNX.out, List.length_append, HN.out]; rfl)
                  have hH10 : H4 ≤ w10.heap.size := HL10.out.1
                  have HD11 : Hid (∀ g, Value.ownBlock (.slice A11 (n1 + 1) c11) = some g → g < L4 ∨ H4 ≤ g) := Lib.hid (by
                    intro g hg
                    rcases hat11 with h | h
                    · exact HD.out g (h.symm.trans hg)
                    · rw [h] at hg
                      have := Option.some.inj hg
                      omega)
                  clear hq11 hgr11 hat11 hmap hT11 hM11 HQ10 HW10 HS10 HT10 HL10 bx10 hm010 HD
                  go_wp2_with fail
                  go_roundw
                  case rel => exact ⟨j + 1, n1 + 1, A11, c11, _, _, by omega, by go_num, rfl, HN11, HQ11, HW11, HS11, HM11, HT11, HL11, HD11, bx11, hm11⟩
                  case measure => simp [intOf]; omega
              · go_simp
                refine hK.out _ _ (Or.inr ⟨cell_keep (Mid.alloc wz (.cells #[.int .i64 x] 3)) haz oZr qaz, cell_keep (Mid.alloc wz (.cells #[.int .i64 x] 3)) hbz oZr qbz, cell_keep (Mid.alloc wz (.cells #[.int .i64 x] 3)) hcz oZr qcz⟩) (fun _ => ?_)
                clear hK K
                try simp only [Act.put, List.setIfInBounds_toArray, List.set_cons_zero, List.set_cons_succ, List.getElem_toArray, List.getElem_cons_zero, List.getElem_cons_succ]
                have hal8 := Mid.alloc wz (.cells #[.int .i64 x] 3)
                have qab := cell_keep hal8 haz oZr qaz
                have qbb := cell_keep hal8 hbz oZr qbz
                have qcb := cell_keep hal8 hcz oZr qcz
                have hab : g1 < (wz.alloc (.cells #[.int .i64 x] 3)).heap.size := Nat.lt_of_lt_of_le haz hal8.size
                have hbb : gw < (wz.alloc (.cells #[.int .i64 x] 3)).heap.size := Nat.lt_of_lt_of_le hbz hal8.size
                have hcb : B4 < (wz.alloc (.cells #[.int .i64 x] 3)).heap.size := Nat.lt_of_lt_of_le hcz hal8.size
                have hr8 := hrvz.mid hal8 oZl
                have c8 : (wz.alloc (.cells #[.int .i64 x] 3)).cell? ⟨wz.heap.size, 0, none⟩ = some (.int .i64 x) := World.cell?_alloc_at _ _ _ _ rfl
                have hlt8 : wz.heap.size < (wz.alloc (.cells #[.int .i64 x] 3)).heap.size := by simp
                generalize wz.alloc (.cells #[.int .i64 x] 3) = wb at hal8 hr8 c8 qab qbb qcb hab hbb hcb hlt8 ⊢
                refine wpAnyZ_ready (rs := [2]) (by kernel_rfl) (by simp) (AllReadyZ.cons rfl (fun K hK => ?_) AllReadyZ.nil)
                go_simp
                refine hK.out _ _ (Or.inr ⟨cell_keep (Mid.alloc wb (.cells #[] 3)) hab oZr qab, cell_keep (Mid.alloc wb (.cells #[] 3)) hbb oZr qbb, cell_keep (Mid.alloc wb (.cells #[] 3)) hcb oZr qcb⟩) (fun _ => ?_)
                clear hK K
                try simp only [Act.put, List.setIfInBounds_toArray, List.set_cons_zero, List.set_cons_succ, List.getElem_toArray, List.getElem_cons_zero, List.getElem_cons_succ]
                have hal1 := Mid.alloc wb (.cells #[] 3)
                have e1 := owns_empty wb 3 1
                have hr1 := hr8.mid hal1 oZl
                have c1x := cell_keep hal1 hlt8 oZr c8
                have qaa := cell_keep hal1 hab oZr qab
                have qba := cell_keep hal1 hbb oZr qbb
                have qca := cell_keep hal1 hcb oZr qcb
                have haa : g1 < (wb.alloc (.cells #[] 3)).heap.size := Nat.lt_of_lt_of_le hab hal1.size
                have hba : gw < (wb.alloc (.cells #[] 3)).heap.size := Nat.lt_of_lt_of_le hbb hal1.size
                have hca : B4 < (wb.alloc (.cells #[] 3)).heap.size := Nat.lt_of_lt_of_le hcb hal1.size
                have hma := hal8.trans hal1
                have hlt1 : wb.heap.size < (wb.alloc (.cells #[] 3)).heap.size := by simp
                generalize wb.alloc (.cells #[] 3) = wa at hal1 e1 hr1 c1x qaa qba qca haa hba hca hma hlt1 ⊢
                have hbs3 : wb.heap.size ≤ wa.heap.size := by omega
                clear hal8 hal1 hr8 c8
                refine wpAnyZ_ready (rs := [10]) (by kernel_rfl) (by simp) (AllReadyZ.cons rfl (fun K hK => ?_) AllReadyZ.nil)
                (refine step_cat (by rfl) (.tmp 67) (.tmp 74) 48 (by rfl) wb.heap.size 3 (.int .i64 0) 1 8 undSI infoI rfl (by decide) _ 0 _ (by rfl) e1 (some ⟨bw2, 0, none⟩) wd.length cw2 _ (ints wd) (by rfl) hr1.rs hlaw (one_of_ints _) hmx3 hby3 hbs3 ?_; intro v3 w3x ho3 hgr3 hat3; obtain ⟨A3x, c3x, rfl, -, -⟩ := owns_shape ho3)
                refine hK.out _ _ (Or.inr ⟨cell_keep (Mid.of_grownRow e1 hgr3) haa (Or.inl hab) qaa, cell_keep (Mid.of_grownRow e1 hgr3) hba (Or.inl hbb) qba, cell_keep (Mid.of_grownRow e1 hgr3) hca (Or.inl hcb) qca⟩) (fun _ => ?_)
                clear hK K
                try simp only [Act.put, List.setIfInBounds_toArray, List.set_cons_zero, List.set_cons_succ, List.getElem_toArray, List.getElem_cons_zero, List.getElem_cons_succ]
                try rw [Nat.zero_add, List.nil_append] at ho3
                try rw [Nat.zero_add]
                have qac := cell_keep (Mid.of_grownRow e1 hgr3) haa (Or.inl hab) qaa
                have qbc := cell_keep (Mid.of_grownRow e1 hgr3) hba (Or.inl hbb) qba
                have qcc := cell_keep (Mid.of_grownRow e1 hgr3) hca (Or.inl hcb) qca
                have hac : g1 < w3x.heap.size := Nat.lt_of_lt_of_le haa (Mid.of_grownRow e1 hgr3).size
                have hbc : gw < w3x.heap.size := Nat.lt_of_lt_of_le hba (Mid.of_grownRow e1 hgr3).size
                have hcc : B4 < w3x.heap.size := Nat.lt_of_lt_of_le hca (Mid.of_grownRow e1 hgr3).size
                have hmc := hma.transNew (Mid.of_grownRow e1 hgr3) (Or.inl (by omega))
                have hrow := owns_base ho3 (show wz.heap.size ≤ wb.heap.size by omega)
                have hone := rs_one (cell_grown hgr3 (show wz.heap.size < wa.heap.size by omega) (own_ne (by omega)) c1x)
                generalize w3x = wc at hmc hrow hone qac qbc qcc hac hbc hcc ⊢
                clear e1 hr1 c1x hma hgr3 hat3 ho3 qaa qba qca qab qbb qcb
                refine wpAnyZ_ready (rs := [16]) (by kernel_rfl) (by simp) (AllReadyZ.cons rfl (fun K hK => ?_) AllReadyZ.nil)
                (refine step_cat (by rfl) (.tmp 75) (.tmp 80) 48 (by rfl) wz.heap.size 3 (.int .i64 0) 1 8 undSI infoI rfl (by decide) (.slice A3x wd.length c3x) wd.length _ (by rfl) hrow (some ⟨wz.heap.size, 0, none⟩) 1 1 _ [.int .i64 x] (by rfl) hone rfl hone1 hmx1 hby1 hmc.size ?_; intro v9 w9 ho9 hgr9 hat9; obtain ⟨A9x, c9x, rfl, -, -⟩ := owns_shape ho9)
                refine hK.out _ _ (Or.inr ⟨cell_keep (Mid.of_grownRow hrow hgr9) hac (Or.inl haz) qac, cell_keep (Mid.of_grownRow hrow hgr9) hbc (Or.inl hbz) qbc, cell_keep (Mid.of_grownRow hrow hgr9) hcc (Or.inl hcz) qcc⟩) (fun _ => ?_)
                clear hK K
                try simp only [Act.put, List.setIfInBounds_toArray, List.set_cons_zero, List.set_cons_succ, List.getElem_toArray, List.getElem_cons_zero, List.getElem_cons_succ]
                have hm9 := hmc.transNew (Mid.of_grownRow hrow hgr9) (Or.inl (Nat.le_refl _))
                have qa9 := cell_keep (Mid.of_grownRow hrow hgr9) hac (Or.inl haz) qac
                have qb9 := cell_keep (Mid.of_grownRow hrow hgr9) hbc (Or.inl hbz) qbc
                have qc9 := cell_keep (Mid.of_grownRow hrow hgr9) hcc (Or.inl hcz) qcc
                obtain ⟨g9, rfl, hg9a, hg9b⟩ := owns_addr ho9 (Nat.succ_pos _)
                have HC9 : Hid (∀ jj uu, (ints (wd ++ [x]))[jj]? = some uu → w9.cell? ⟨g9, jj, none⟩ = some uu) := Lib.hid (fun jj uu hu => by
                  have hlj := (List.getElem?_eq_some_iff.1 hu).1
                  rw [ints_len, List.length_append] at hlj
                  rw [ints_append] at hu
                  exact (ho9.cellAt jj (by simp at hlj; omega)).trans hu)
                have HW9 := Lib.hid (owns_mid HW8.out hm9 oZl)
                have HT9 := Lib.hid (HT8.out.mid (a := 0) (b := 0) hm9)
                have HS9 := Lib.hid (owns_mid HS8.out hm9 oZl)
                have HQ9 := Lib.hid (owns_mid HQ8.out hm9 oZl)
                have HL9 := Lib.hid (HL8.out.mid hm9 oZl)
                have bx9 := bx8.mid hm9 oZr
                have hm09 := hm8.trans hm9
                have hval := HT8.out.off tn htn HMEM.out
                have hct9 : w9.cell? ⟨gw, tn, none⟩ = some (.slice none 0 0) := (HW9.out.cellAt tn (by omega)).trans hval
                have hfz9 := HW9.out.frozenAt tn
                have hqb := (HQ8.out.lt g1 rfl).2
                clear ho9 hgr9 hat9 hrow hone hmc HW8 HT8 HS8 HQ8 HL8 bx8 hm8 hval
                have hmW := Mid.setAt w9 gw tn (.slice (some ⟨g9, 0, none⟩) (wd.length + 1) c9x)
                have T10 := HT9.out.set (t := tn) (b := g9) (c := c9x) (wd := wd ++ [x]) htn HMEM.out (fun p hp => (HOJ.out.rng p hp).1) HC9.out (by omega) (fun e => by have := Option.some.inj (show some g1 = some g9 from e); omega) hg9b
                rw [show (wd ++ [x]).length = wd.length + 1 by simp] at T10
                have HT10 := Lib.hid T10
                have HW10 := Lib.hid (owns_set HW9.out tn (.slice (some ⟨g9, 0, none⟩) (wd.length + 1) c9x) rfl)
                have HS10 := Lib.hid (HS9.out.kept (grown_of_setCell w9 gw tn (.slice (some ⟨g9, 0, none⟩) (wd.length + 1) c9x)) (owns_ne HS9.out HW9.out (by decide)))
                have HQ10 := Lib.hid (owns_mid HQ9.out hmW (Or.inl (Nat.le_refl _)))
                have HL10 := Lib.hid (HL9.out.mid hmW (Or.inl (by omega)))
                have bx10 := bx9.mid hmW (Or.inl (by omega))
                have hm010 := hm09.storeNew (p := ⟨gw, tn, none⟩) (by show w.heap.size ≤ gw; omega) (.slice (some ⟨g9, 0, none⟩) (wd.length + 1) c9x)
                have hsz10 := hmW.size
                clear T10 HW9 HS9 HQ9 HL9 bx9 hm09 HT9 HC9 hmW
                refine wpAnyZ_ready (rs := [17]) (by kernel_rfl) (by simp) (AllReadyZ.cons rfl (fun K hK => ?_) AllReadyZ.nil)
                go_simp
                refine hK.out _ _ (Or.inr ⟨qa9, qb9, qc9⟩) (fun _ => ?_)
                clear hK K
                try simp only [Act.put, List.setIfInBounds_toArray, List.set_cons_zero, List.set_cons_succ, List.getElem_toArray, List.getElem_cons_zero, List.getElem_cons_succ]
                clear qa9 qb9 qc9
                refine wpAnyZ_ready (rs := [18]) (by kernel_rfl) (by simp) (AllReadyZ.cons rfl (fun K hK => ?_) AllReadyZ.nil)
                go_simp
                refine hK.out _ _ (Or.inl (by simp)) (fun _ => ?_)
                clear hK K
                try simp only [Act.put, List.setIfInBounds_toArray, List.set_cons_zero, List.set_cons_succ, List.getElem_toArray, List.getElem_cons_zero, List.getElem_cons_succ]
                generalize w9.setCell ⟨gw, tn, none⟩ (.slice (some ⟨g9, 0, none⟩) (wd.length + 1) c9x) = w10 at HT10 HW10 HS10 HQ10 HL10 bx10 hm010 hsz10 ⊢
                clear hct9 hfz9
                refine wpAnyZ_done (by kernel_rfl) ?_ _
                go_wp2_with (at_builtin; refine MarkerX.to ?_)
                unfold MarkerX
                refine wpList_pushI2 rfl _ _ rfl (gw + 1) _ n1 c1 (stj.map Prod.fst) rfl HQ10.out tn rfl (by omega) (by omega) ?_
                intro A11 c11 w11 hq11 hgr11 hat11
                have hmap : (stj ++ [((tn : Int), wd ++ [x])]).map Prod.fst = stj.map Prod.fst ++ [(tn : Int)] := by simp
                rw [← hmap, ← HNX.out] at hq11
                have HQ11 := Lib.hid hq11
                have HW11 := Lib.hid (HW10.out.kept hgr11 (owns_ne HW10.out HQ10.out (by decide)))
                have HS11 := Lib.hid (HS10.out.kept hgr11 (owns_ne HS10.out HQ10.out (by decide)))
                have hT11 := HT10.out.grow hgr11 (oB' := Value.ownBlock (.slice A11 (n1 + 1) c11)) (hat11.imp id fun h => ⟨_, h, by omega⟩)
                rw [← HNX.out] at hT11
                have HT11 := Lib.hid hT11
                have hM11 := HM7.out
                rw [← HNX.out] at hM11
                have HM11 := Lib.hid hM11
                have HL11 := Lib.hid (HL10.out.grown hgr11 HD.out)
                have bx11 := bx10.grown hgr11 (by intro h0; have := Option.some.inj (show some g1 = some w.heap.size from h0); omega)
                have hm11 := hm010.grownNew hgr11 (fun g hg => by have := Option.some.inj (show some g1 = some g from hg); omega)
                have HN11 : Hid ((bfsRow es ((lets r).take (j + 1)) ((u : Int), wd) (bfsSt es (lets r) 0 i)).length = n1 + 1) := Lib.hid (by rw [HNX.out, List.length_append, HN.out]; rfl)
                have hH10 : H4 ≤ w10.heap.size := HL10.out.1
                have HD11 : Hid (∀ g, Value.ownBlock (.slice A11 (n1 + 1) c11) = some g → g < L4 ∨ H4 ≤ g) := Lib.hid (by
                  intro g hg
                  rcases hat11 with h | h
                  · exact HD.out g (h.symm.trans hg)
                  · rw [h] at hg
                    have := Option.some.inj hg
                    omega)
                clear hq11 hgr11 hat11 hmap hT11 hM11 HQ10 HW10 HS10 HT10 HL10 bx10 hm010 HD
                go_wp2_with fail
                go_roundw
                case rel => exact ⟨j + 1, n1 + 1, A11, c11, _, _, by omega, by go_num, rfl, HN11, HQ11, HW11, HS11, HM11, HT11, HL11, HD11, bx11, hm11⟩
                case measure => simp [intOf]; omega
        · obtain rfl : j = LL := by omega
          have htk : (lets r).take j = lets r := List.take_of_length_le (by rw [HLn.out]; exact Nat.le_refl _)
          rw [htk] at hstj
          have hnx := hNX.out
          rw [hstj] at hnx
          have HNX := Lib.hid hnx
          have hin1 : i + 1 ≤ n1 := by have h1 := (List.getElem?_eq_some_iff.1 hpj).1; have h2 := HN.out; omega
          clear hnx hstj hpj
          go_wp2_with fail
          go_roundw
          case rel => exact ⟨i + 1, n1, A1, c1, vals, bs, hin1, by go_num, rfl, by rw [HNX.out]; exact HN, by rw [HNX.out]; exact HQ, HW, HS, by rw [HNX.out]; exact HM, by rw [HNX.out]; exact HT, HL4, HD, bx, hm⟩
          case measure => simp [intOf]; omega
    · obtain rfl : i = n1 := by omega
      have hbf := bfs_eq (L := lets r) HG.out.all hv0 hv3 (by omega) HN.out
      have HBF := Lib.hid hbf
      clear hbf
      go_wp2_with fail
      go_ret2
      exact ⟨gs, gw, bs, vals, _, rfl, hm, owns_base HS.out (by omega), by rw [HBF.out]; exact HM.out, owns_base HW.out (by omega), by rw [HBF.out]; exact HT.out⟩
end Go.Proofs.YtkaofcakelpnpaaGreat

namespace Go.Proofs.YtkaofcakelpnpaaGreat
set_option linter.unusedVariables false
set_option linter.unusedSimpArgs false
open Go.RowKit
set_option maxHeartbeats 3200000 in
set_option maxRecDepth 100000 in
theorem spec_PathWord (r n v : Nat) (A : Option Addr) (es : List Ed) (c : Nat) (w : World) (lo hi : Nat) (hr : RG w lo hi A es) (hco : IsCor r n es) (hv : v < n) :
    Calls Tryz.prog 98 #[graV r n A es.length c, .int .i64 0, .int .i64 v] w fun e w' => ∃ A1 c1, e = .returned (.tuple #[.slice A1 (wordV r es v).length c1, .bool true]) ∧ w'.ownsRow w.heap.size 3 1 (.slice A1 (wordV r es v).length c1) (wordV r es v).length (ints (wordV r es v)) ∧ Mid 0 0 w w' := by
  have hn1 : 0 < n := by omega
  have hn40 : n ≤ 40 := by have := hco.gr.size; omega
  have hl := hco.gr.len
  have HCO := Lib.hid hco
  have hmem := wordV_mem hco hv
  obtain ⟨hwl, -⟩ := wordV_ok hco hv
  generalize hW : wordV r es (v : Int) = wd at hmem hwl ⊢
  have HME := Lib.hid hmem
  clear hco hmem hW
  have hm0 : Mid 0 0 w (w.alloc (.cells #[.int .i64 r, .int .i64 n, .slice A es.length c] 32)) := Mid.alloc _ _
  have B0 := Box.new w #[.int .i64 r, .int .i64 n, .slice A es.length c] 32
  have hib0 : inB 0 0 ((n : Int) - 1) = true := by unfold inB; simp; omega
  have hibv : inB (v : Int) 0 ((n : Int) - 1) = true := by unfold inB; simp; omega
  have p0 := B0.cell 0 rfl
  have p1 := B0.cell 1 rfl
  have p2 := B0.cell 2 rfl
  go_enter Tryz.func98, Tryz.ntmps98
  go_wp2_with fail
  generalize w.alloc (.cells #[.int .i64 r, .int .i64 n, .slice A es.length c] 32) = w1 at hm0 B0 p0 p1 p2 ⊢
  have hs1 : w.heap.size < w1.heap.size := B0.1
  with_reducible refine (spec_IsFolded r n A es c w1 lo hi (hr.mid hm0 oZl) (by omega) true (iff_of_true rfl HCO.out.fol)).mono ?_
  rintro en w2 ⟨rfl, hm2⟩
  clear p0 p1 p2
  replace B0 := B0.mid hm2 oZr
  replace hm0 := hm0.trans hm2
  have p0 := B0.cell 0 rfl
  have p1 := B0.cell 1 rfl
  have p2 := B0.cell 2 rfl
  go_wp2_with fail
  with_reducible refine (l1In_at hib0 _).mono ?_
  rintro en w3 ⟨rfl, rfl⟩
  go_wp2_with fail
  with_reducible refine (l1In_at hibv _).mono ?_
  rintro en w3 ⟨rfl, rfl⟩
  go_wp2_with fail
  with_reducible refine (spec_l5Search r n A es c w2 lo hi (hr.mid hm0 oZl) HCO.out.gr hn1).mono ?_
  rintro en w3 ⟨gs, gw, bs, vals, oB, rfl, hm3, hse, hmk, hwo, hts⟩
  have hs3 := hm3.size
  have hs2 := hm2.size
  have hcs : w3.cell? ⟨gs, v, none⟩ = some (.bool true) := by
    have h := (hse.cellAt v (by omega)).trans (hmk.2 v hv)
    rw [decide_eq_true (List.mem_map_of_mem (f := Prod.fst) HME.out)] at h
    exact h
  obtain ⟨bw, cw, hvw, hrv⟩ := hts.word HME.out
  simp only [Int.toNat_natCast] at hvw hrv
  have hcw : w3.cell? ⟨gw, v, none⟩ = some (.slice (some ⟨bw, 0, none⟩) wd.length cw) := (hwo.cellAt v (by omega)).trans hvw
  have hgs := (hse.lt gs rfl).2
  have hgw := (hwo.lt gw rfl).2
  have hv0 : (0 : Int) ≤ (v : Int) := by omega
  have hvn : (v : Int) < (n : Int) := by omega
  have hoe := owns_empty w3 3 1
  have hal := Mid.alloc w3 (.cells #[] 3)
  have hra := (hrv.mid hal oZl).rs
  have hla : (ints wd).length = wd.length * 1 := by rw [ints_len]; omega
  have hm4 := hm0.trans hm3
  clear p0 p1 p2 hse hmk hwo hts hvw hm3 hm2 hm0 B0 hrv
  go_wp2_with (at_builtin; refine MarkerX.to ?_)
  unfold MarkerX
  refine wpList_cat rfl _ _ 48 rfl w3.heap.size 3 (.int .i64 0) 1 8 undSI infoI rfl (by decide) _ 0 _ rfl hoe (some ⟨bw, 0, none⟩) wd.length cw _ (ints wd) rfl hra hla (one_of_ints _) (by unfold maxLen; omega) (by omega) (by simp) ?_
  intro v7 w7 ho7 hgr7 hat7
  obtain ⟨A7, c7, rfl, -, -⟩ := owns_shape ho7
  rw [Nat.zero_add, List.nil_append] at ho7
  try rw [Nat.zero_add]
  have hm7 : Mid 0 0 w3 w7 := hal.transNew (Mid.of_grownRow hoe hgr7) (Or.inl (Nat.le_refl _))
  have hm8 := hm4.trans hm7
  clear hgr7 hat7 hoe hal hra hcs hcw
  go_wp2_with fail
  go_ret2
  exact ⟨A7, c7, rfl, owns_base ho7 (by omega), hm8⟩
theorem spec_TreeWord (r n v : Nat) (A : Option Addr) (es : List Ed) (c : Nat) (w : World) (lo hi : Nat) (hr : RG w lo hi A es) (hco : IsCor r n es) (hv : v < n) :
    Calls Tryz.prog 70 #[graV r n A es.length c, .int .i64 v] w fun e w' => ∃ A1 c1, e = .returned (.slice A1 (wordV r es v).length c1) ∧ w'.ownsRow w.heap.size 3 1 (.slice A1 (wordV r es v).length c1) (wordV r es v).length (ints (wordV r es v)) ∧ Mid 0 0 w w' := by
  have hm0 : Mid 0 0 w (w.alloc (.cells #[.int .i64 r, .int .i64 n, .slice A es.length c] 32)) := Mid.alloc _ _
  have B0 := Box.new w #[.int .i64 r, .int .i64 n, .slice A es.length c] 32
  have hP := spec_PathWord r n v A es c (w.alloc (.cells #[.int .i64 r, .int .i64 n, .slice A es.length c] 32)) lo hi (hr.mid hm0 oZl) hco hv
  generalize wordV r es (v : Int) = wd at hP ⊢
  have p0 := B0.cell 0 rfl
  have p1 := B0.cell 1 rfl
  have p2 := B0.cell 2 rfl
  go_enter Tryz.func70, Tryz.ntmps70
  go_wp2_with fail
  with_reducible refine hP.mono ?_
  rintro en w2 ⟨A1, c1, rfl, ho, hm⟩
  have hb := owns_base ho (show w.heap.size ≤ _ by simp)
  go_wp2_with fail
  go_ret
  exact ⟨A1, c1, rfl, hb, hm0.trans hm⟩
end Go.Proofs.YtkaofcakelpnpaaGreat

namespace Go.Proofs.YtkaofcakelpnpaaGreat
set_option linter.unusedVariables false
set_option linter.unusedSimpArgs false
open Go.RowKit
def cmpN (a b : List Int) : Int := if a.length < b.length then -1 else if b.length < a.length then 1 else if cmpW (halves a).1 (halves b).1 = 0 then cmpW (halves a).2 (halves b).2 else cmpW (halves a).1 (halves b).1
def CompareNielsenIs (a b : List Int) (res : Int) : Prop := cmpN a b = res
theorem OI.cap {w : World} {lo hi : Nat} {A : Option Addr} {c : Nat} {xs : List Int} (h : OI w lo hi A c xs) : xs.length ≤ c := by
  obtain ⟨A', c', he, hn, -⟩ := owns_shape h.2.1
  injection he with _ _ hc
  omega
end Go.Proofs.YtkaofcakelpnpaaGreat
