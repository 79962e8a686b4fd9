
/- IsGraph, both sides. -/
import Derived.Test.YtkcfbcbkokabdaaG2
namespace Go.Proofs.Ytkcfbcbkokabdaa
set_option linter.unusedVariables false
set_option linter.unusedSimpArgs false
open Go.RowKit

/-- The edges below k lie in the graph and ascend. -/
def UpTo (r s : Int) (es : List Ed) (k : Nat) : Prop := ∀ j e, j < k → es[j]? = some e → edB r s e = true ∧ ∀ f, 0 < j → es[j - 1]? = some f → cmpE f e < 0
theorem UpTo.zero (r s : Int) (es : List Ed) : UpTo r s es 0 := fun j e h => absurd h (Nat.not_lt_zero _)
theorem UpTo.succ {r s : Int} {es : List Ed} {k : Nat} {e : Ed} (h : UpTo r s es k) (he : es[k]? = some e) (h1 : edB r s e = true) (h2 : ∀ f, 0 < k → es[k - 1]? = some f → cmpE f e < 0) : UpTo r s es (k + 1) := by
  intro j e' hj he'
  rcases Nat.lt_succ_iff_lt_or_eq.1 hj with h3 | rfl
  · exact h j e' h3 he'
  · rw [he] at he'
    injection he' with he'
    subst he'
    exact ⟨h1, h2⟩
abbrev graV (r s : Int) (A : Option Addr) (n c : Nat) : Value := .agg #[.int .i64 r, .int .i64 s, .slice A n c]
theorem edB_iff {r s : Int} {e : Ed} (h1 : 1 ≤ s) (h2 : s ≤ 40) : edB r s e = true ↔ InG r s e := by
  unfold edB InG inB
  rw [IntWalk.wrap64_in (s - 1) (by omega)]
  simp
  omega
theorem asc_at {es : List Ed} : Asc es ↔ ∀ (j : Nat) (e f : Ed), 0 < j → es[j - 1]? = some f → es[j]? = some e → LtE f e := by
  constructor
  · intro h j e f hj hf he
    obtain ⟨h1, h1'⟩ := List.getElem?_eq_some_iff.1 hf
    obtain ⟨h2, h2'⟩ := List.getElem?_eq_some_iff.1 he
    have := List.pairwise_iff_getElem.1 h (j - 1) j h1 h2 (by omega)
    rw [h1', h2'] at this
    exact this
  · intro h
    refine List.pairwise_iff_getElem.2 fun i j hi hj hij => ?_
    obtain ⟨d, rfl⟩ : ∃ d, j = i + 1 + d := ⟨j - i - 1, by omega⟩
    clear hij
    induction d with
    | zero => exact h (i + 1) _ _ (by omega) (by rw [Nat.add_sub_cancel]; exact List.getElem?_eq_getElem hi) (List.getElem?_eq_getElem hj)
    | succ d ih => exact (ih (by omega)).trans (h (i + 1 + (d + 1)) _ _ (by omega) (List.getElem?_eq_getElem (by omega)) (List.getElem?_eq_getElem hj))
theorem upTo_all {r s : Int} {es : List Ed} (h1 : 1 ≤ s) (h2 : s ≤ 40) : UpTo r s es es.length ↔ (∀ e ∈ es, InG r s e) ∧ Asc es := by
  constructor
  · intro h
    refine ⟨fun e he => ?_, asc_at.2 fun j e f hj hf he => ?_⟩
    · obtain ⟨j, hj⟩ := List.mem_iff_getElem?.1 he
      exact (edB_iff h1 h2).1 (h j e (List.getElem?_eq_some_iff.1 hj).1 hj).1
    · exact cmpE_neg.1 ((h j e (List.getElem?_eq_some_iff.1 he).1 he).2 f hj hf)
  · rintro ⟨h3, h4⟩ j e hj he
    exact ⟨(edB_iff h1 h2).2 (h3 e (List.mem_of_getElem? he)), fun f h0 hf => cmpE_neg.2 (asc_at.1 h4 j e f h0 hf he)⟩
/-- The tests of IsGraph. -/
structure GrT (r s : Int) (es : List Ed) : Prop where
  rank : inB r 1 3 = true
  size : inB s 1 40 = true
  len : es.length ≤ 120
  up : UpTo r s es es.length
theorem grT_iff {r s : Int} {es : List Ed} : GrT r s es ↔ IsGr r s es := by
  constructor
  · rintro ⟨h1, h2, h3, h4⟩
    have h1 : 1 ≤ r ∧ r ≤ 3 := by simpa [inB] using h1
    have h2 : 1 ≤ s ∧ s ≤ 40 := by simpa [inB] using h2
    obtain ⟨h5, h6⟩ := (upTo_all h2.1 h2.2).1 h4
    exact ⟨h1, h2, h3, h5, h6⟩
  · rintro ⟨h1, h2, h3, h4, h5⟩
    exact ⟨by simpa [inB] using h1, by simpa [inB] using h2, h3, (upTo_all h2.1 h2.2).2 ⟨h4, h5⟩⟩
theorem within_at {x lo hi : Int} {b : Bool} (h : inB x lo hi = b) (W : World) : Calls Try.prog 63 #[.int .i64 x, .int .i64 lo, .int .i64 hi] W fun e w' => e = .returned (.bool b) ∧ W = w' := h ▸ within_any x lo hi W
theorem l1In_at {x lo hi : Int} {b : Bool} (h : inB x lo hi = b) (W : World) : Calls Try.prog 49 #[.int .i64 x, .int .i64 lo, .int .i64 hi] W fun e w' => e = .returned (.bool b) ∧ W = w' := h ▸ l1In_any x lo hi W

set_option maxHeartbeats 1600000 in
theorem impl_IsGraph (r s : Int) (A : Option Addr) (es : List Ed) (c : Nat) (w : World) (lo hi : Nat) (hr : RV w lo hi A (ints (edI es))) (hl : es.length ≤ 1048576) (b : Bool) (hb : b = true ↔ IsGr r s es) :
    Calls Try.prog 35 #[graV r s A es.length c] w fun e w' => e = .returned (.bool b) ∧ Mid 0 0 w w' := by
  have HB := Lib.hid (hb.trans grT_iff.symm)
  clear hb
  have bx0 := Box.new w #[.int .i64 r, .int .i64 s, .slice A es.length c] 29
  have hm0 := Mid.alloc w (.cells #[.int .i64 r, .int .i64 s, .slice A es.length c] 29)
  cases h1 : inB r 1 3 with
  | false =>
    obtain rfl : b = false := by cases b with | false => rfl | true => have := (HB.out.1 rfl).rank; rw [h1] at this; cases this
    clear HB
    go_enter Try.func35, Try.ntmps35
    go_wp2_with fail
    with_reducible refine (within_at h1 _).mono ?_
    rintro en w1 ⟨rfl, rfl⟩
    go_wp2_with fail
    go_ret
    exact ⟨rfl, hm0⟩
  | true =>
  have H1 := Lib.hid h1
  go_enter Try.func35, Try.ntmps35
  go_wp2_with fail
  with_reducible refine (within_at h1 _).mono ?_
  rintro en w1 ⟨rfl, rfl⟩
  clear h1
  cases h2 : inB s 1 40 with
  | false =>
    obtain rfl : b = false := by cases b with | false => rfl | true => have := (HB.out.1 rfl).size; rw [h2] at this; cases this
    clear HB
    go_wp2_with fail
    with_reducible refine (within_at h2 _).mono ?_
    rintro en w1 ⟨rfl, rfl⟩
    go_wp2_with fail
    go_ret
    exact ⟨rfl, hm0⟩
  | true =>
  have H2 := Lib.hid h2
  go_wp2_with fail
  with_reducible refine (within_at h2 _).mono ?_
  rintro en w1 ⟨rfl, rfl⟩
  clear h2
  by_cases h3 : 120 < es.length
  · obtain rfl : b = false := by cases b with | false => rfl | true => have := (HB.out.1 rfl).len; omega
    clear HB
    go_wp2_with fail
    go_ret
    exact ⟨rfl, hm0⟩
  have HL := Lib.hid (show es.length ≤ 120 by omega)
  go_wp2_with fail
  go_loopw [2, 24] (fun _ i wr => ∃ k : Nat, k ≤ es.length ∧ i = .int .i64 k ∧ Box wr w.heap.size [.int .i64 r, .int .i64 s, .slice A es.length c] ∧ UpTo r s es k ∧ Mid 0 0 w wr) (fun _ i _ => es.length - (intOf i).toNat)
  case atStart => exact ⟨0, Nat.zero_le _, rfl, bx0, UpTo.zero _ _ _, hm0⟩
  case round =>
    obtain ⟨k, hk, rfl, bx, hup, hm⟩ := hrel
    by_cases hlt : k < es.length
    · obtain ⟨B, off, e, rfl, -, hbh, he, c0, c1, c2⟩ := (hr.mid hm (Or.inl (Nat.zero_le _))).ed hlt
      have hk0 : (0 : Int) ≤ (k : Int) := by omega
      have hkn : (k : Int) < (es.length : Int) := by omega
      have HUP := Lib.hid hup
      have HEK := Lib.hid he
      have hal := Mid.alloc wr (.cells #[.int .i64 e.a, .int .i64 e.l, .int .i64 e.b] 48)
      have by1 := bx.mid hal (Or.inr (Nat.zero_le _))
      have by2 := Box.new wr #[.int .i64 e.a, .int .i64 e.l, .int .i64 e.b] 48
      have hrm := (hr.mid hm (Or.inl (Nat.zero_le _))).mid hal (Or.inl (Nat.zero_le _))
      have zp := Nat.lt_of_lt_of_le hbh hrm.1
      have g0 := wg_cell by1.1 (by1.cell 0 rfl)
      have g1 := wg_cell by1.1 (by1.cell 1 rfl)
      have g2 := wg_cell by1.1 (by1.cell 2 rfl)
      have e0 := wg_cell by2.1 (by2.cell 0 rfl)
      have e1 := wg_cell by2.1 (by2.cell 1 rfl)
      have e2 := wg_cell by2.1 (by2.cell 2 rfl)
      cases hA0 : edB r s e with
      | false =>
        obtain rfl : b = false := by cases b with | false => rfl | true => have := ((HB.out.1 rfl).up k e hlt he).1; rw [hA0] at this; cases this
        have hA := fun W => impl_accepts r s (some ⟨B, off, none⟩) es.length c e W
        rw [hA0] at hA
        clear hup he hA0
        go_wp2_with fail
        refine wp_region_quiet_wg (by kernel_rfl) (by kernel_rfl) ?_
        repeat
          (with_reducible refine wpQuiet_step (fun K hK => ?_))
          go_simp
          first
            | ((with_reducible refine hK _ ?_); clear hK K)
            | (rw [if_neg (by decide)]; (with_reducible refine hK _ ?_); clear hK K)
            | (apply Exists.intro; refine ⟨fun _ => ?_, hK _ ?_⟩; ((go_at_call 64; exact Calls.wg_of (hA _))); clear hK K)
        with_reducible refine wpQuiet_nil ?_
        intro _ hw'
        obtain ⟨⟨nq, osq⟩, hw''⟩ := hw'
        subst hw''
        go_wp2_with fail
        go_ret
        exact ⟨rfl, (hm.trans hal).trans (Mid.ofWg _ _ _)⟩
      | true =>
        have hA := fun W => impl_accepts r s (some ⟨B, off, none⟩) es.length c e W
        rw [hA0] at hA
        have HA0 := Lib.hid hA0
        by_cases hkz : k = 0
        · have hkz2 : decide ((0 : Int) < (k : Int)) = false := by simp; omega
          have hkz3 : (0 < k) = False := eq_false (by omega)
          have HKZ := Lib.hid hkz
          clear hup he hA0 hkz
          go_wp2_with fail
          refine wp_region_quiet_wg (by kernel_rfl) (by kernel_rfl) ?_
          repeat
            (with_reducible refine wpQuiet_step (fun K hK => ?_))
            go_simp
            first
              | ((with_reducible refine hK _ ?_); clear hK K)
              | (rw [if_neg (by decide)]; (with_reducible refine hK _ ?_); clear hK K)
              | (apply Exists.intro; refine ⟨fun _ => ?_, hK _ ?_⟩; ((go_at_call 64; exact Calls.wg_of (hA _))); clear hK K)
          with_reducible refine wpQuiet_nil ?_
          intro _ hw'
          obtain ⟨⟨nq, osq⟩, hw''⟩ := hw'
          subst hw''
          go_wp2_with fail
          go_roundw
          case rel => exact ⟨k + 1, by omega, by go_num, by1.mid (Mid.ofWg _ _ _) (Or.inr (Nat.zero_le _)), HUP.out.succ HEK.out HA0.out (fun f h => absurd h (by have := HKZ.out; omega)), (hm.trans hal).trans (Mid.ofWg _ _ _)⟩
          case measure => simp [intOf]; omega
        · obtain ⟨m, hm1⟩ : ∃ m, k = m + 1 := ⟨k - 1, by omega⟩
          obtain ⟨B', off', f, hA1, -, -, hf, p0, p1, p2⟩ := hrm.ed (show m < es.length by omega)
          injection hA1 with hA1
          injection hA1 with hA2 hA3
          subst hA2
          subst hA3
          have hkm : (k : Int) - 1 = (m : Int) := by omega
          have hkp : (0 : Int) < (k : Int) := by omega
          have hkp3 : 0 < k := by omega
          have hwm : IntKind.i64.wrap (m : Int) = (m : Int) := IntWalk.i64_in _ (by omega)
          have hm0' : (0 : Int) ≤ (m : Int) := by omega
          have hmn : (m : Int) < (es.length : Int) := by omega
          have p0 := wg_cell zp p0
          have p1 := wg_cell zp p1
          have p2 := wg_cell zp p2
          obtain ⟨v, hv⟩ : ∃ v, cmpE f e = v := ⟨_, rfl⟩
          have hQ := fun W => impl_CompareEdges f e W
          rw [hv] at hQ
          have HF := Lib.hid hf
          have HKM := Lib.hid hm1
          by_cases hv0 : 0 ≤ v
          · obtain rfl : b = false := by
              cases b with
              | false => rfl
              | true =>
                have := ((HB.out.1 rfl).up k e hlt he).2 f (by omega) (by rw [hm1]; exact hf)
                omega
            clear hup he hA0 hf hm1 hv
            go_wp2_with fail
            refine wp_region_quiet_wg (by kernel_rfl) (by kernel_rfl) ?_
            repeat
              (with_reducible refine wpQuiet_step (fun K hK => ?_))
              go_simp
              first
                | ((with_reducible refine hK _ ?_); clear hK K)
                | (rw [if_neg (by decide)]; (with_reducible refine hK _ ?_); clear hK K)
                | (apply Exists.intro; refine ⟨fun _ => ?_, hK _ ?_⟩; ((first | (go_at_call 64; exact Calls.wg_of (hA _)) | (go_at_call 65; exact Calls.wg_of (hQ _)))); clear hK K)
            with_reducible refine wpQuiet_nil ?_
            intro _ hw'
            obtain ⟨⟨nq, osq⟩, hw''⟩ := hw'
            subst hw''
            go_wp2_with fail
            go_ret
            exact ⟨rfl, (hm.trans hal).trans (Mid.ofWg _ _ _)⟩
          · have HV := Lib.hid (show cmpE f e < 0 by omega)
            clear hup he hA0 hf hm1 hv
            go_wp2_with fail
            refine wp_region_quiet_wg (by kernel_rfl) (by kernel_rfl) ?_
            repeat
              (with_reducible refine wpQuiet_step (fun K hK => ?_))
              go_simp
              first
                | ((with_reducible refine hK _ ?_); clear hK K)
                | (rw [if_neg (by decide)]; (with_reducible refine hK _ ?_); clear hK K)
                | (apply Exists.intro; refine ⟨fun _ => ?_, hK _ ?_⟩; ((first | (go_at_call 64; exact Calls.wg_of (hA _)) | (go_at_call 65; exact Calls.wg_of (hQ _)))); clear hK K)
            with_reducible refine wpQuiet_nil ?_
            intro _ hw'
            obtain ⟨⟨nq, osq⟩, hw''⟩ := hw'
            subst hw''
            go_wp2_with fail
            go_roundw
            case rel =>
              refine ⟨k + 1, by omega, by go_num, by1.mid (Mid.ofWg _ _ _) (Or.inr (Nat.zero_le _)), HUP.out.succ HEK.out HA0.out (fun f' h h' => ?_), (hm.trans hal).trans (Mid.ofWg _ _ _)⟩
              rw [HKM.out, Nat.add_sub_cancel, HF.out] at h'
              injection h' with h'
              subst h'
              exact HV.out
            case measure => simp [intOf]; omega
    · obtain rfl : k = es.length := by omega
      obtain rfl : b = true := HB.out.2 ⟨H1.out, H2.out, HL.out, hup⟩
      go_wp2_with fail
      go_ret
      exact ⟨rfl, hm⟩
end Go.Proofs.Ytkcfbcbkokabdaa
