
/- IsGraph, the reference. -/
import Derived.Test.YtkcfbcbkokabdaaG3
namespace Go.Proofs.Ytkcfbcbkokabdaa
set_option linter.unusedVariables false
set_option linter.unusedSimpArgs false
open Go.RowKit

set_option maxHeartbeats 1600000 in
theorem spec_IsGraph (r s : Int) (A : Option Addr) (es : List Ed) (c : Nat) (w : World) (lo hi : Nat) (hr : RV w lo hi A (ints (edI es))) (hl : es.length ≤ 1048576) (b : Bool) (hb : b = true ↔ IsGr r s es) :
    Calls Try.prog 33 #[graV r s A es.length c] w fun e w' => e = .returned (.bool b) ∧ Mid 0 0 w w' := by
  have HB := Lib.hid (hb.trans grT_iff.symm)
  clear hb
  have bx0 := Box.new w #[.int .i64 r, .int .i64 s, .slice A es.length c] 29
  have hm0 := Mid.alloc w (.cells #[.int .i64 r, .int .i64 s, .slice A es.length c] 29)
  go_enter Try.func33, Try.ntmps33
  go_wp2_with fail
  go_loopw [2, 3] (fun _ i wr => ∃ k : Nat, k ≤ es.length ∧ i = .int .i64 k ∧ Box wr w.heap.size [.int .i64 r, .int .i64 s, .slice A es.length c] ∧ UpTo r s es k ∧ Mid 0 0 w wr) (fun _ i _ => es.length - (intOf i).toNat)
  case atStart => exact ⟨0, Nat.zero_le _, rfl, bx0, UpTo.zero _ _ _, hm0⟩
  case round =>
    obtain ⟨k, hk, rfl, bx, hup, hm⟩ := hrel
    have G0 := bx.cell 0 rfl
    have G1 := bx.cell 1 rfl
    have G2 := bx.cell 2 rfl
    by_cases hlt : k < es.length
    · have hrm := hr.mid hm (Or.inl (Nat.zero_le _))
      obtain ⟨B, off, e, rfl, -, hbh, he, e0, e1, e2⟩ := hrm.ed hlt
      have hk0 : (0 : Int) ≤ (k : Int) := by omega
      have hkn : (k : Int) < (es.length : Int) := by omega
      have HUP := Lib.hid hup
      have HEK := Lib.hid he
      have zp := Nat.lt_of_lt_of_le hbh hrm.1
      have g0 := wg_cell bx.1 G0
      have g1 := wg_cell bx.1 G1
      have g2 := wg_cell bx.1 G2
      have e0 := wg_cell zp e0
      have e1 := wg_cell zp e1
      have e2 := wg_cell zp e2
      have hA := fun W => spec_l4Edge r s (some ⟨B, off, none⟩) es.length c e W
      cases hA0 : edB r s e with
      | false =>
        obtain rfl : b = false := by cases b with | false => rfl | true => have := ((HB.out.1 rfl).up k e hlt he).1; rw [hA0] at this; cases this
        rw [hA0] at hA
        clear hup he hA0
        go_wp2_with fail
        refine wp_region_quiet_wg (by kernel_rfl) (by kernel_rfl) ?_
        repeat
          (with_reducible refine wpQuiet_step (fun K hK => ?_))
          go_simp
          first
            | ((with_reducible refine hK _ ?_); clear hK K)
            | (rw [if_neg (by decide)]; (with_reducible refine hK _ ?_); clear hK K)
            | (apply Exists.intro; refine ⟨fun _ => ?_, hK _ ?_⟩; ((go_at_call 60; exact Calls.wg_of (hA _))); clear hK K)
        with_reducible refine wpQuiet_nil ?_
        intro _ hw'
        obtain ⟨⟨nq, osq⟩, hw''⟩ := hw'
        subst hw''
        go_wp2_with fail
        go_ret
        exact ⟨rfl, hm.trans (Mid.ofWg _ _ _)⟩
      | true =>
        rw [hA0] at hA
        have HA0 := Lib.hid hA0
        by_cases hkz : k = 0
        · have hkz2 : decide ((0 : Int) < (k : Int)) = false := by simp; omega
          have hkz3 : (0 < k) = False := eq_false (by omega)
          have HKZ := Lib.hid hkz
          clear hup he hA0 hkz
          go_wp2_with fail
          refine wp_region_quiet_wg (by kernel_rfl) (by kernel_rfl) ?_
          repeat
            (with_reducible refine wpQuiet_step (fun K hK => ?_))
            go_simp
            first
              | ((with_reducible refine hK _ ?_); clear hK K)
              | (rw [if_neg (by decide)]; (with_reducible refine hK _ ?_); clear hK K)
              | (apply Exists.intro; refine ⟨fun _ => ?_, hK _ ?_⟩; ((go_at_call 60; exact Calls.wg_of (hA _))); clear hK K)
          with_reducible refine wpQuiet_nil ?_
          intro _ hw'
          obtain ⟨⟨nq, osq⟩, hw''⟩ := hw'
          subst hw''
          go_wp2_with fail
          go_roundw
          case rel => exact ⟨k + 1, by omega, by go_num, bx.mid (Mid.ofWg _ _ _) (Or.inr (Nat.zero_le _)), HUP.out.succ HEK.out HA0.out (fun f h => absurd h (by have := HKZ.out; omega)), hm.trans (Mid.ofWg _ _ _)⟩
          case measure => simp [intOf]; omega
        · obtain ⟨m, hm1⟩ : ∃ m, k = m + 1 := ⟨k - 1, by omega⟩
          obtain ⟨B', off', f, hA1, -, -, hf, p0, p1, p2⟩ := hrm.ed (show m < es.length by omega)
          injection hA1 with hA1
          injection hA1 with hA2 hA3
          subst hA2
          subst hA3
          have hkm : (k : Int) - 1 = (m : Int) := by omega
          have hkp : (0 : Int) < (k : Int) := by omega
          have hkp3 : 0 < k := by omega
          have hwm : IntKind.i64.wrap (m : Int) = (m : Int) := IntWalk.i64_in _ (by omega)
          have hm0' : (0 : Int) ≤ (m : Int) := by omega
          have hmn : (m : Int) < (es.length : Int) := by omega
          have p0 := wg_cell zp p0
          have p1 := wg_cell zp p1
          have p2 := wg_cell zp p2
          obtain ⟨v, hv⟩ : ∃ v, cmpE f e = v := ⟨_, rfl⟩
          have hQ := fun W => spec_CompareEdges f e W
          rw [hv] at hQ
          have HF := Lib.hid hf
          have HKM := Lib.hid hm1
          by_cases hv0 : 0 ≤ v
          · obtain rfl : b = false := by
              cases b with
              | false => rfl
              | true =>
                have := ((HB.out.1 rfl).up k e hlt he).2 f (by omega) (by rw [hm1]; exact hf)
                omega
            clear hup he hA0 hf hm1 hv
            go_wp2_with fail
            refine wp_region_quiet_wg (by kernel_rfl) (by kernel_rfl) ?_
            repeat
              (with_reducible refine wpQuiet_step (fun K hK => ?_))
              go_simp
              first
                | ((with_reducible refine hK _ ?_); clear hK K)
                | (rw [if_neg (by decide)]; (with_reducible refine hK _ ?_); clear hK K)
                | (apply Exists.intro; refine ⟨fun _ => ?_, hK _ ?_⟩; ((first | (go_at_call 60; exact Calls.wg_of (hA _)) | (go_at_call 61; exact Calls.wg_of (hQ _)))); clear hK K)
            with_reducible refine wpQuiet_nil ?_
            intro _ hw'
            obtain ⟨⟨nq, osq⟩, hw''⟩ := hw'
            subst hw''
            go_wp2_with fail
            go_ret
            exact ⟨rfl, hm.trans (Mid.ofWg _ _ _)⟩
          · have HV := Lib.hid (show cmpE f e < 0 by omega)
            clear hup he hA0 hf hm1 hv
            go_wp2_with fail
            refine wp_region_quiet_wg (by kernel_rfl) (by kernel_rfl) ?_
            repeat
              (with_reducible refine wpQuiet_step (fun K hK => ?_))
              go_simp
              first
                | ((with_reducible refine hK _ ?_); clear hK K)
                | (rw [if_neg (by decide)]; (with_reducible refine hK _ ?_); clear hK K)
                | (apply Exists.intro; refine ⟨fun _ => ?_, hK _ ?_⟩; ((first | (go_at_call 60; exact Calls.wg_of (hA _)) | (go_at_call 61; exact Calls.wg_of (hQ _)))); clear hK K)
            with_reducible refine wpQuiet_nil ?_
            intro _ hw'
            obtain ⟨⟨nq, osq⟩, hw''⟩ := hw'
            subst hw''
            go_wp2_with fail
            go_roundw
            case rel =>
              refine ⟨k + 1, by omega, by go_num, bx.mid (Mid.ofWg _ _ _) (Or.inr (Nat.zero_le _)), HUP.out.succ HEK.out HA0.out (fun f' h h' => ?_), hm.trans (Mid.ofWg _ _ _)⟩
              rw [HKM.out, Nat.add_sub_cancel, HF.out] at h'
              injection h' with h'
              subst h'
              exact HV.out
            case measure => simp [intOf]; omega
    · obtain rfl : k = es.length := by omega
      cases h1 : inB r 1 3 with
      | false =>
        obtain rfl : b = false := by cases b with | false => rfl | true => have := (HB.out.1 rfl).rank; rw [h1] at this; cases this
        go_wp2_with fail
        with_reducible refine (l1In_at h1 _).mono ?_
        rintro en w1 ⟨rfl, rfl⟩
        go_wp2_with fail
        go_ret
        exact ⟨rfl, hm⟩
      | true =>
      go_wp2_with fail
      with_reducible refine (l1In_at h1 _).mono ?_
      rintro en w1 ⟨rfl, rfl⟩
      cases h2 : inB s 1 40 with
      | false =>
        obtain rfl : b = false := by cases b with | false => rfl | true => have := (HB.out.1 rfl).size; rw [h2] at this; cases this
        go_wp2_with fail
        with_reducible refine (l1In_at h2 _).mono ?_
        rintro en w1 ⟨rfl, rfl⟩
        go_wp2_with fail
        go_ret
        exact ⟨rfl, hm⟩
      | true =>
      obtain rfl : b = decide (es.length ≤ 120) := by
        rw [Bool.eq_iff_iff, HB.out, decide_eq_true_iff]
        exact ⟨fun h => h.len, fun h => ⟨h1, h2, h, hup⟩⟩
      go_wp2_with fail
      with_reducible refine (l1In_at h2 _).mono ?_
      rintro en w1 ⟨rfl, rfl⟩
      go_wp2_with fail
      go_ret
      have hd : decide ((es.length : Int) ≤ 120) = decide (es.length ≤ 120) := decide_eq_decide.2 (by omega)
      refine ⟨?_, hm⟩
      first
        | rfl
        | exact congrArg (fun x => Ending.returned (Value.bool x)) hd
end Go.Proofs.Ytkcfbcbkokabdaa
