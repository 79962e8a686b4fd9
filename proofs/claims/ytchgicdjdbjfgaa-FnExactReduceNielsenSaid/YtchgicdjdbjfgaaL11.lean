
/- Contracts: letters and words of a rank. -/
import Derived.Test.YtchgicdjdbjfgaaL10
import Derived.Test.YtchgicdjdbjfgaaM2
namespace Go.Proofs.Ytchgicdjdbjfgaa
set_option linter.unusedVariables false
set_option linter.unusedSimpArgs false
open Go.RowKit

set_option maxHeartbeats 400000 in
theorem impl_areInverse (a b : Int) (w : World) (ha : -9223372036854775808 ≤ a) (ha2 : a ≤ 9223372036854775807) :
    Calls Try.prog 128 #[.int .i64 a, .int .i64 b] w fun e w' => e = .returned (.bool (invB a b)) ∧ w = w' := by
  by_cases h0 : a = 0
  · subst h0
    go_enter Try.func128, Try.ntmps128
    go_wp2_with fail
    go_ret
    exact ⟨by simp [invB], rfl⟩
  · by_cases hm : a = minI
    · have hr : invB a b = false := by simp [invB, hm]
      rw [hr]
      clear h0 hr
      subst hm
      unfold minI
      clear ha ha2
      go_enter Try.func128, Try.ntmps128
      go_wp2_with fail
      go_ret
      exact ⟨rfl, rfl⟩
    · have hlo : -9223372036854775807 ≤ a := by unfold minI at hm; omega
      have hx : (a != 0) = true := by simpa using h0
      by_cases hb : (b == -a) = true
      · have hr : invB a b = true := by simp [invB, h0, hm]; simpa using hb
        rw [hr]
        clear h0 hm hr
        go_enter Try.func128, Try.ntmps128
        go_wp2_with fail
        go_ret
        exact ⟨by simp; omega, rfl⟩
      · have hb' : (b == -a) = false := by simpa using hb
        have hr : invB a b = false := by simp [invB]; intro _ _; simpa using hb
        rw [hr]
        clear h0 hm hr hb
        go_enter Try.func128, Try.ntmps128
        go_wp2_with fail
        go_ret
        exact ⟨rfl, rfl⟩

set_option maxHeartbeats 400000 in
theorem impl_isLetter (rank x : Int) (w : World) (h1 : 1 ≤ rank) (h3 : rank ≤ 3) :
    Calls Try.prog 148 #[.int .i64 rank, .int .i64 x] w fun e w' => e = .returned (.bool (letB rank x)) ∧ w = w' := by
  by_cases h0 : x = 0
  · subst h0
    go_enter Try.func148, Try.ntmps148
    go_wp2_with fail
    go_ret
    exact ⟨by simp [letB], rfl⟩
  · have hx : (x != 0) = true := by simpa using h0
    have hr : letB rank x = inB x (-rank) rank := by simp [letB, inB, h0]
    rw [hr]
    clear h0 hr
    go_enter Try.func148, Try.ntmps148
    go_wp2_with fail
    with_reducible refine (within_any _ _ _ _).mono ?_
    rintro e w' ⟨rfl, rfl⟩
    go_wp2_with fail
    go_ret
    exact ⟨rfl, rfl⟩

set_option maxHeartbeats 400000 in
theorem impl_compareInts (a b : Int) (w : World) :
    Calls Try.prog 149 #[.int .i64 a, .int .i64 b] w fun e w' => e = .returned (.int .i64 (cmpI a b)) ∧ w = w' := by
  by_cases h1 : a < b
  · have hr : cmpI a b = -1 := by simp [cmpI, h1]
    rw [hr]
    clear hr
    go_enter Try.func149, Try.ntmps149
    go_wp2_with fail
    go_ret
    exact ⟨rfl, rfl⟩
  · by_cases h2 : b < a
    · have hr : cmpI a b = 1 := by simp [cmpI, h1, h2]
      rw [hr]
      clear hr
      go_enter Try.func149, Try.ntmps149
      go_wp2_with fail
      go_ret
      exact ⟨rfl, rfl⟩
    · have hr : cmpI a b = 0 := by simp [cmpI, h1, h2]
      rw [hr]
      clear hr
      go_enter Try.func149, Try.ntmps149
      go_wp2_with fail
      go_ret
      exact ⟨rfl, rfl⟩

theorem wrap_neg {x : Int} (h1 : -9223372036854775808 ≤ x) (h2 : x ≤ 9223372036854775807) : wrap64 (-x) = negI x := by
  unfold negI minI
  by_cases h : x = -9223372036854775808
  · rw [if_pos h, h]
    unfold wrap64
    omega
  · rw [if_neg h]
    exact IntWalk.wrap64_in _ ⟨by omega, by omega⟩
theorem invW_cons (x : Int) (t : List Int) : invW (x :: t) = invW t ++ [negI x] := by simp [invW]

set_option maxHeartbeats 800000 in
theorem spec_InvertWord (A : Option Addr) (xs : List Int) (c B : Nat) (w : World) (hr : Rs w B A (ints xs)) (hB : B ≤ w.heap.size) (hok : OkI xs) (hl : xs.length ≤ 4194304) :
    Calls Try.prog 126 #[.slice A xs.length c] w fun e w' => RetI 3 (invW xs) w e w' := by
  have HOK := Lib.hid hok
  clear hok
  have hb0 := (Below.refl w.heap.size w).alloc (Nat.le_refl _) (.cells #[] 3)
  have ho0 := owns_empty w 3 1
  go_enter Try.func126, Try.ntmps126
  go_wp2_with fail
  go_loopw [3, 4] (fun v i wr => ∃ j : Nat, j ≤ xs.length ∧ i = .int .i64 ((j : Int) - 1) ∧ wr.ownsRow w.heap.size 3 1 v (xs.length - j) (ints (invW (xs.drop j))) ∧ Below w.heap.size w wr)
    (fun _ i _ => (intOf i + 1).toNat)
  case atStart => exact ⟨xs.length, Nat.le_refl _, rfl, by simpa [invW, ints] using ho0, hb0⟩
  case round =>
    obtain ⟨j, hj, rfl, hown, hb⟩ := hrel
    have hsz := hb.size
    cases j with
    | zero =>
      go_wp2_with fail
      go_ret
      exact RetI.mk (by rw [invW_len]) (by simpa using hown) hb
    | succ m =>
      rw [show (((m + 1 : Nat) : Int) - 1) = (m : Int) from by omega]
      obtain ⟨b, off, x, rfl, -, hx, hc⟩ := ((hr.more hB).below hb).int (show m < xs.length by omega)
      have hbx := HOK.out x (List.mem_of_getElem? hx)
      have HW := Lib.hid (wrap_neg hbx.1 hbx.2)
      have HX := Lib.hid hx
      clear hx hbx
      go_wp2_with (at_builtin; refine wpList_push rfl _ _ 27 rfl w.heap.size 3 (.int .i64 0) 1 8 undSI infoI rfl (by decide) _ _ _ rfl hown 1 [.int .i64 (wrap64 (-x))] rfl rfl ?c1 ?c2 ?c3 hsz ?next)
      case c1 => exact one_of_ints [wrap64 (-x)]
      case c2 => unfold maxLen; omega
      case c3 => omega
      case next =>
        intro v' w1 hown1 hgr _
        go_wp2_with fail
        go_roundw
        case rel =>
          refine ⟨m, by omega, rfl, ?_, hb.grown hgr hsz (fun g hg => (hown.lt g hg).1)⟩
          rw [drop_of xs HX.out, invW_cons, ints_append, show xs.length - m = xs.length - (m + 1) + 1 from by omega, ← HW.out]
          exact hown1
        case measure => simp [intOf]
end Go.Proofs.Ytchgicdjdbjfgaa
