
/- Contracts: the orders of letters and words. -/
import Derived.Test.YtchgicdjdbjfgaaL11
namespace Go.Proofs.Ytchgicdjdbjfgaa
set_option linter.unusedVariables false
set_option linter.unusedSimpArgs false
open Go.RowKit

set_option maxHeartbeats 400000 in
theorem impl_compareLetters (a b : Int) (w : World) (ha : -9223372036854775808 ≤ a) (ha2 : a ≤ 9223372036854775807) (hb : -9223372036854775808 ≤ b) (hb2 : b ≤ 9223372036854775807) :
    Calls Try.prog 175 #[.int .i64 a, .int .i64 b] w fun e w' => e = .returned (.int .i64 (cmpL a b)) ∧ w = w' := by
  by_cases hab : a = b
  · subst hab
    have hr : cmpL a a = 0 := by simp [cmpL]
    rw [hr]
    clear hr
    go_enter Try.func175, Try.ntmps175
    go_wp2_with fail
    go_ret
    exact ⟨rfl, rfl⟩
  · have hab' : (a == b) = false := by simpa using hab
    by_cases ham : a = minI
    · have hr : cmpL a b = 1 := by rw [cmpL, if_neg hab, if_pos ham]
      rw [hr]
      subst ham
      unfold minI at *
      clear ha ha2 hr hab
      go_enter Try.func175, Try.ntmps175
      go_wp2_with fail
      go_ret
      exact ⟨rfl, rfl⟩
    · by_cases hbm : b = minI
      · have hr : cmpL a b = -1 := by rw [cmpL, if_neg hab, if_neg ham, if_pos hbm]
        have hlo : -9223372036854775807 ≤ a := by unfold minI at ham; omega
        rw [hr]
        subst hbm
        unfold minI at *
        clear hb hb2 hr ham
        go_enter Try.func175, Try.ntmps175
        go_wp2_with fail
        go_ret
        exact ⟨rfl, rfl⟩
      · have hlo : -9223372036854775807 ≤ a := by unfold minI at ham; omega
        have hlo2 : -9223372036854775807 ≤ b := by unfold minI at hbm; omega
        clear ha hb
        have hne : cmpL a b = if absI a < absI b then -1 else if absI b < absI a then 1 else if b < a then -1 else 1 := by rw [cmpL, if_neg hab, if_neg ham, if_neg hbm]
        have HR := Lib.hid hne
        have HAB := Lib.hid hab
        clear hab ham hbm hne
        go_enter Try.func175, Try.ntmps175
        go_wp2_with fail
        all_goals
          refine (impl_compareInts _ _ _).mono ?_
          rintro e w' ⟨rfl, rfl⟩
          generalize hk : cmpI _ _ = k
          have hv : k = -1 ∨ k = 0 ∨ k = 1 := hk ▸ cmpI_vals _ _
          have HK := Lib.hid hk
          clear hk
          rcases hv with rfl | rfl | rfl
          · go_wp2_with fail
            go_ret
            have hk := HK.out
            refine ⟨?_, rfl⟩
            rw [HR.out]
            unfold cmpI at hk
            unfold absI
            repeat' split at hk
            all_goals first | (exfalso; omega) | skip
            repeat' split
            all_goals first | rfl | (exfalso; omega)
          · go_wp2_with fail
            refine (impl_compareInts _ _ _).mono ?_
            rintro e w' ⟨rfl, rfl⟩
            go_wp2_with fail
            go_ret
            have hk := HK.out
            have hn := HAB.out
            refine ⟨?_, rfl⟩
            rw [HR.out]
            unfold cmpI at hk ⊢
            unfold absI
            repeat' split at hk
            all_goals first | (exfalso; omega) | skip
            repeat' split
            all_goals first | rfl | (exfalso; omega)
          · go_wp2_with fail
            go_ret
            have hk := HK.out
            refine ⟨?_, rfl⟩
            rw [HR.out]
            unfold cmpI at hk
            unfold absI
            repeat' split at hk
            all_goals first | (exfalso; omega) | skip
            repeat' split
            all_goals first | rfl | (exfalso; omega)

theorem l2_goal {x y r : Int} (h : cmpL x y = r) : Ending.returned (.int .i64 r) = Ending.returned (.int .i64 (cmpL x y)) := by rw [h]

set_option maxHeartbeats 8000000 in
theorem spec_l2Order (x y : Int) (w : World) (hx : -9223372036854775808 ≤ x) (hx2 : x ≤ 9223372036854775807) (hy : -9223372036854775808 ≤ y) (hy2 : y ≤ 9223372036854775807) :
    Calls Try.prog 174 #[.int .i64 x, .int .i64 y] w fun e w' => e = .returned (.int .i64 (cmpL x y)) ∧ w = w' := by
  obtain ⟨nx, hnx⟩ : ∃ nx, wrap64 (-x) = nx := ⟨_, rfl⟩
  obtain ⟨ny, hny⟩ : ∃ ny, wrap64 (-y) = ny := ⟨_, rfl⟩
  have ex := (wrap_neg hx hx2).symm.trans hnx
  have ey := (wrap_neg hy hy2).symm.trans hny
  unfold negI at ex ey
  have cx : (x ≤ minI ∧ nx ≤ x ∧ x ≤ nx ∧ x < 0) ∨ (minI < x ∧ nx ≤ -x ∧ -x ≤ nx ∧ 0 ≤ x) ∨ (minI < x ∧ nx ≤ -x ∧ -x ≤ nx ∧ x < 0) := by
    unfold minI at *
    by_cases h : x = -9223372036854775808
    · rw [if_pos h] at ex; left; omega
    · rw [if_neg h] at ex; right; omega
  have cy : (y ≤ minI ∧ ny ≤ y ∧ y ≤ ny ∧ y < 0) ∨ (minI < y ∧ ny ≤ -y ∧ -y ≤ ny ∧ 0 ≤ y) ∨ (minI < y ∧ ny ≤ -y ∧ -y ≤ ny ∧ y < 0) := by
    unfold minI at *
    by_cases h : y = -9223372036854775808
    · rw [if_pos h] at ey; left; omega
    · rw [if_neg h] at ey; right; omega
  have BX := Lib.hid (And.intro hx hx2)
  have BY := Lib.hid (And.intro hy hy2)
  clear ex ey hx hx2 hy hy2
  by_cases hxy : x = y
  · subst hxy
    have hr : cmpL x x = 0 := by simp [cmpL]
    rw [hr]
    clear hr cy
    rcases cx with ⟨hm, h1, h2, h3⟩ | ⟨hm, h1, h2, h3⟩ | ⟨hm, h1, h2, h3⟩
    all_goals
      have HM := Lib.hid hm
      clear hm
      go_enter Try.func174, Try.ntmps174
      go_wp2_with fail
      go_ret
      exact ⟨rfl, rfl⟩
  · have hxy' : (x == y) = false := by simpa using hxy
    have HXY := Lib.hid hxy
    clear hxy
    have htri : (x < y ∨ y < x) := by have := HXY.out; omega
    rcases cx with ⟨hm, h1, h2, h3⟩ | ⟨hm, h1, h2, h3⟩ | ⟨hm, h1, h2, h3⟩
    · rcases cy with ⟨hm', h1', h2', h3'⟩ | ⟨hm', h1', h2', h3'⟩ | ⟨hm', h1', h2', h3'⟩
      · have := BX.out
        have := BY.out
        unfold minI at hm hm'
        exfalso; omega
      · have hlt : x < y := by have := BY.out; have := BX.out; unfold minI at hm hm'; omega
        clear htri
        have HM := Lib.hid hm
        have HM' := Lib.hid hm'
        clear hm hm'
        go_enter Try.func174, Try.ntmps174
        go_wp2_with fail
        go_ret
        refine ⟨l2_goal ?_, rfl⟩
        have hm := HM.out
        have hm' := HM'.out
        have hne := HXY.out
        obtain ⟨q1, q2⟩ := BX.out
        obtain ⟨q3, q4⟩ := BY.out
        clear HM HM' HXY BX BY hnx hny
        unfold minI at hm hm'
        unfold cmpL absI minI
        repeat' split
        all_goals first | rfl | (exfalso; omega)
      · have hlt : x < y := by have := BY.out; have := BX.out; unfold minI at hm hm'; omega
        clear htri
        have HM := Lib.hid hm
        have HM' := Lib.hid hm'
        clear hm hm'
        go_enter Try.func174, Try.ntmps174
        go_wp2_with fail
        go_ret
        refine ⟨l2_goal ?_, rfl⟩
        have hm := HM.out
        have hm' := HM'.out
        have hne := HXY.out
        obtain ⟨q1, q2⟩ := BX.out
        obtain ⟨q3, q4⟩ := BY.out
        clear HM HM' HXY BX BY hnx hny
        unfold minI at hm hm'
        unfold cmpL absI minI
        repeat' split
        all_goals first | rfl | (exfalso; omega)
    · rcases cy with ⟨hm', h1', h2', h3'⟩ | ⟨hm', h1', h2', h3'⟩ | ⟨hm', h1', h2', h3'⟩
      · have hlt : y < x := by have := BY.out; have := BX.out; unfold minI at hm hm'; omega
        clear htri
        have HM := Lib.hid hm
        have HM' := Lib.hid hm'
        clear hm hm'
        go_enter Try.func174, Try.ntmps174
        go_wp2_with fail
        go_ret
        refine ⟨l2_goal ?_, rfl⟩
        have hm := HM.out
        have hm' := HM'.out
        have hne := HXY.out
        obtain ⟨q1, q2⟩ := BX.out
        obtain ⟨q3, q4⟩ := BY.out
        clear HM HM' HXY BX BY hnx hny
        unfold minI at hm hm'
        unfold cmpL absI minI
        repeat' split
        all_goals first | rfl | (exfalso; omega)
      · rcases (show x < y ∨ y < x ∨ (x ≤ y ∧ y ≤ x) from by omega) with hc | hc | ⟨hc, hc'⟩
        · rcases htri with ht | ht
          · first
            | (exfalso; omega)
            | skip
            all_goals
              have HM := Lib.hid hm
              have HM' := Lib.hid hm'
              clear hm hm'
              go_enter Try.func174, Try.ntmps174
              go_wp2_with fail
              go_ret
              refine ⟨l2_goal ?_, rfl⟩
              have hm := HM.out
              have hm' := HM'.out
              have hne := HXY.out
              obtain ⟨q1, q2⟩ := BX.out
              obtain ⟨q3, q4⟩ := BY.out
              clear HM HM' HXY BX BY hnx hny
              unfold minI at hm hm'
              unfold cmpL absI minI
              repeat' split
              all_goals first | rfl | (exfalso; omega)
          · first
            | (exfalso; omega)
            | skip
            all_goals
              have HM := Lib.hid hm
              have HM' := Lib.hid hm'
              clear hm hm'
              go_enter Try.func174, Try.ntmps174
              go_wp2_with fail
              go_ret
              refine ⟨l2_goal ?_, rfl⟩
              have hm := HM.out
              have hm' := HM'.out
              have hne := HXY.out
              obtain ⟨q1, q2⟩ := BX.out
              obtain ⟨q3, q4⟩ := BY.out
              clear HM HM' HXY BX BY hnx hny
              unfold minI at hm hm'
              unfold cmpL absI minI
              repeat' split
              all_goals first | rfl | (exfalso; omega)
        · rcases htri with ht | ht
          · first
            | (exfalso; omega)
            | skip
            all_goals
              have HM := Lib.hid hm
              have HM' := Lib.hid hm'
              clear hm hm'
              go_enter Try.func174, Try.ntmps174
              go_wp2_with fail
              go_ret
              refine ⟨l2_goal ?_, rfl⟩
              have hm := HM.out
              have hm' := HM'.out
              have hne := HXY.out
              obtain ⟨q1, q2⟩ := BX.out
              obtain ⟨q3, q4⟩ := BY.out
              clear HM HM' HXY BX BY hnx hny
              unfold minI at hm hm'
              unfold cmpL absI minI
              repeat' split
              all_goals first | rfl | (exfalso; omega)
          · first
            | (exfalso; omega)
            | skip
            all_goals
              have HM := Lib.hid hm
              have HM' := Lib.hid hm'
              clear hm hm'
              go_enter Try.func174, Try.ntmps174
              go_wp2_with fail
              go_ret
              refine ⟨l2_goal ?_, rfl⟩
              have hm := HM.out
              have hm' := HM'.out
              have hne := HXY.out
              obtain ⟨q1, q2⟩ := BX.out
              obtain ⟨q3, q4⟩ := BY.out
              clear HM HM' HXY BX BY hnx hny
              unfold minI at hm hm'
              unfold cmpL absI minI
              repeat' split
              all_goals first | rfl | (exfalso; omega)
        · rcases htri with ht | ht
          · first
            | (exfalso; omega)
            | skip
            all_goals
              have HM := Lib.hid hm
              have HM' := Lib.hid hm'
              clear hm hm'
              go_enter Try.func174, Try.ntmps174
              go_wp2_with fail
              go_ret
              refine ⟨l2_goal ?_, rfl⟩
              have hm := HM.out
              have hm' := HM'.out
              have hne := HXY.out
              obtain ⟨q1, q2⟩ := BX.out
              obtain ⟨q3, q4⟩ := BY.out
              clear HM HM' HXY BX BY hnx hny
              unfold minI at hm hm'
              unfold cmpL absI minI
              repeat' split
              all_goals first | rfl | (exfalso; omega)
          · first
            | (exfalso; omega)
            | skip
            all_goals
              have HM := Lib.hid hm
              have HM' := Lib.hid hm'
              clear hm hm'
              go_enter Try.func174, Try.ntmps174
              go_wp2_with fail
              go_ret
              refine ⟨l2_goal ?_, rfl⟩
              have hm := HM.out
              have hm' := HM'.out
              have hne := HXY.out
              obtain ⟨q1, q2⟩ := BX.out
              obtain ⟨q3, q4⟩ := BY.out
              clear HM HM' HXY BX BY hnx hny
              unfold minI at hm hm'
              unfold cmpL absI minI
              repeat' split
              all_goals first | rfl | (exfalso; omega)
      · rcases (show x < ny ∨ ny < x ∨ (x ≤ ny ∧ ny ≤ x) from by omega) with hc | hc | ⟨hc, hc'⟩
        · rcases htri with ht | ht
          · first
            | (exfalso; omega)
            | skip
            all_goals
              have HM := Lib.hid hm
              have HM' := Lib.hid hm'
              clear hm hm'
              go_enter Try.func174, Try.ntmps174
              go_wp2_with fail
              go_ret
              refine ⟨l2_goal ?_, rfl⟩
              have hm := HM.out
              have hm' := HM'.out
              have hne := HXY.out
              obtain ⟨q1, q2⟩ := BX.out
              obtain ⟨q3, q4⟩ := BY.out
              clear HM HM' HXY BX BY hnx hny
              unfold minI at hm hm'
              unfold cmpL absI minI
              repeat' split
              all_goals first | rfl | (exfalso; omega)
          · first
            | (exfalso; omega)
            | skip
            all_goals
              have HM := Lib.hid hm
              have HM' := Lib.hid hm'
              clear hm hm'
              go_enter Try.func174, Try.ntmps174
              go_wp2_with fail
              go_ret
              refine ⟨l2_goal ?_, rfl⟩
              have hm := HM.out
              have hm' := HM'.out
              have hne := HXY.out
              obtain ⟨q1, q2⟩ := BX.out
              obtain ⟨q3, q4⟩ := BY.out
              clear HM HM' HXY BX BY hnx hny
              unfold minI at hm hm'
              unfold cmpL absI minI
              repeat' split
              all_goals first | rfl | (exfalso; omega)
        · rcases htri with ht | ht
          · first
            | (exfalso; omega)
            | skip
            all_goals
              have HM := Lib.hid hm
              have HM' := Lib.hid hm'
              clear hm hm'
              go_enter Try.func174, Try.ntmps174
              go_wp2_with fail
              go_ret
              refine ⟨l2_goal ?_, rfl⟩
              have hm := HM.out
              have hm' := HM'.out
              have hne := HXY.out
              obtain ⟨q1, q2⟩ := BX.out
              obtain ⟨q3, q4⟩ := BY.out
              clear HM HM' HXY BX BY hnx hny
              unfold minI at hm hm'
              unfold cmpL absI minI
              repeat' split
              all_goals first | rfl | (exfalso; omega)
          · first
            | (exfalso; omega)
            | skip
            all_goals
              have HM := Lib.hid hm
              have HM' := Lib.hid hm'
              clear hm hm'
              go_enter Try.func174, Try.ntmps174
              go_wp2_with fail
              go_ret
              refine ⟨l2_goal ?_, rfl⟩
              have hm := HM.out
              have hm' := HM'.out
              have hne := HXY.out
              obtain ⟨q1, q2⟩ := BX.out
              obtain ⟨q3, q4⟩ := BY.out
              clear HM HM' HXY BX BY hnx hny
              unfold minI at hm hm'
              unfold cmpL absI minI
              repeat' split
              all_goals first | rfl | (exfalso; omega)
        · rcases htri with ht | ht
          · first
            | (exfalso; omega)
            | skip
            all_goals
              have HM := Lib.hid hm
              have HM' := Lib.hid hm'
              clear hm hm'
              go_enter Try.func174, Try.ntmps174
              go_wp2_with fail
              go_ret
              refine ⟨l2_goal ?_, rfl⟩
              have hm := HM.out
              have hm' := HM'.out
              have hne := HXY.out
              obtain ⟨q1, q2⟩ := BX.out
              obtain ⟨q3, q4⟩ := BY.out
              clear HM HM' HXY BX BY hnx hny
              unfold minI at hm hm'
              unfold cmpL absI minI
              repeat' split
              all_goals first | rfl | (exfalso; omega)
          · first
            | (exfalso; omega)
            | skip
            all_goals
              have HM := Lib.hid hm
              have HM' := Lib.hid hm'
              clear hm hm'
              go_enter Try.func174, Try.ntmps174
              go_wp2_with fail
              go_ret
              refine ⟨l2_goal ?_, rfl⟩
              have hm := HM.out
              have hm' := HM'.out
              have hne := HXY.out
              obtain ⟨q1, q2⟩ := BX.out
              obtain ⟨q3, q4⟩ := BY.out
              clear HM HM' HXY BX BY hnx hny
              unfold minI at hm hm'
              unfold cmpL absI minI
              repeat' split
              all_goals first | rfl | (exfalso; omega)
    · rcases cy with ⟨hm', h1', h2', h3'⟩ | ⟨hm', h1', h2', h3'⟩ | ⟨hm', h1', h2', h3'⟩
      · have hlt : y < x := by have := BY.out; have := BX.out; unfold minI at hm hm'; omega
        clear htri
        have HM := Lib.hid hm
        have HM' := Lib.hid hm'
        clear hm hm'
        go_enter Try.func174, Try.ntmps174
        go_wp2_with fail
        go_ret
        refine ⟨l2_goal ?_, rfl⟩
        have hm := HM.out
        have hm' := HM'.out
        have hne := HXY.out
        obtain ⟨q1, q2⟩ := BX.out
        obtain ⟨q3, q4⟩ := BY.out
        clear HM HM' HXY BX BY hnx hny
        unfold minI at hm hm'
        unfold cmpL absI minI
        repeat' split
        all_goals first | rfl | (exfalso; omega)
      · rcases (show nx < y ∨ y < nx ∨ (nx ≤ y ∧ y ≤ nx) from by omega) with hc | hc | ⟨hc, hc'⟩
        · rcases htri with ht | ht
          · first
            | (exfalso; omega)
            | skip
            all_goals
              have HM := Lib.hid hm
              have HM' := Lib.hid hm'
              clear hm hm'
              go_enter Try.func174, Try.ntmps174
              go_wp2_with fail
              go_ret
              refine ⟨l2_goal ?_, rfl⟩
              have hm := HM.out
              have hm' := HM'.out
              have hne := HXY.out
              obtain ⟨q1, q2⟩ := BX.out
              obtain ⟨q3, q4⟩ := BY.out
              clear HM HM' HXY BX BY hnx hny
              unfold minI at hm hm'
              unfold cmpL absI minI
              repeat' split
              all_goals first | rfl | (exfalso; omega)
          · first
            | (exfalso; omega)
            | skip
            all_goals
              have HM := Lib.hid hm
              have HM' := Lib.hid hm'
              clear hm hm'
              go_enter Try.func174, Try.ntmps174
              go_wp2_with fail
              go_ret
              refine ⟨l2_goal ?_, rfl⟩
              have hm := HM.out
              have hm' := HM'.out
              have hne := HXY.out
              obtain ⟨q1, q2⟩ := BX.out
              obtain ⟨q3, q4⟩ := BY.out
              clear HM HM' HXY BX BY hnx hny
              unfold minI at hm hm'
              unfold cmpL absI minI
              repeat' split
              all_goals first | rfl | (exfalso; omega)
        · rcases htri with ht | ht
          · first
            | (exfalso; omega)
            | skip
            all_goals
              have HM := Lib.hid hm
              have HM' := Lib.hid hm'
              clear hm hm'
              go_enter Try.func174, Try.ntmps174
              go_wp2_with fail
              go_ret
              refine ⟨l2_goal ?_, rfl⟩
              have hm := HM.out
              have hm' := HM'.out
              have hne := HXY.out
              obtain ⟨q1, q2⟩ := BX.out
              obtain ⟨q3, q4⟩ := BY.out
              clear HM HM' HXY BX BY hnx hny
              unfold minI at hm hm'
              unfold cmpL absI minI
              repeat' split
              all_goals first | rfl | (exfalso; omega)
          · first
            | (exfalso; omega)
            | skip
            all_goals
              have HM := Lib.hid hm
              have HM' := Lib.hid hm'
              clear hm hm'
              go_enter Try.func174, Try.ntmps174
              go_wp2_with fail
              go_ret
              refine ⟨l2_goal ?_, rfl⟩
              have hm := HM.out
              have hm' := HM'.out
              have hne := HXY.out
              obtain ⟨q1, q2⟩ := BX.out
              obtain ⟨q3, q4⟩ := BY.out
              clear HM HM' HXY BX BY hnx hny
              unfold minI at hm hm'
              unfold cmpL absI minI
              repeat' split
              all_goals first | rfl | (exfalso; omega)
        · rcases htri with ht | ht
          · first
            | (exfalso; omega)
            | skip
            all_goals
              have HM := Lib.hid hm
              have HM' := Lib.hid hm'
              clear hm hm'
              go_enter Try.func174, Try.ntmps174
              go_wp2_with fail
              go_ret
              refine ⟨l2_goal ?_, rfl⟩
              have hm := HM.out
              have hm' := HM'.out
              have hne := HXY.out
              obtain ⟨q1, q2⟩ := BX.out
              obtain ⟨q3, q4⟩ := BY.out
              clear HM HM' HXY BX BY hnx hny
              unfold minI at hm hm'
              unfold cmpL absI minI
              repeat' split
              all_goals first | rfl | (exfalso; omega)
          · first
            | (exfalso; omega)
            | skip
            all_goals
              have HM := Lib.hid hm
              have HM' := Lib.hid hm'
              clear hm hm'
              go_enter Try.func174, Try.ntmps174
              go_wp2_with fail
              go_ret
              refine ⟨l2_goal ?_, rfl⟩
              have hm := HM.out
              have hm' := HM'.out
              have hne := HXY.out
              obtain ⟨q1, q2⟩ := BX.out
              obtain ⟨q3, q4⟩ := BY.out
              clear HM HM' HXY BX BY hnx hny
              unfold minI at hm hm'
              unfold cmpL absI minI
              repeat' split
              all_goals first | rfl | (exfalso; omega)
      · rcases (show nx < ny ∨ ny < nx ∨ (nx ≤ ny ∧ ny ≤ nx) from by omega) with hc | hc | ⟨hc, hc'⟩
        · rcases htri with ht | ht
          · first
            | (exfalso; omega)
            | skip
            all_goals
              have HM := Lib.hid hm
              have HM' := Lib.hid hm'
              clear hm hm'
              go_enter Try.func174, Try.ntmps174
              go_wp2_with fail
              go_ret
              refine ⟨l2_goal ?_, rfl⟩
              have hm := HM.out
              have hm' := HM'.out
              have hne := HXY.out
              obtain ⟨q1, q2⟩ := BX.out
              obtain ⟨q3, q4⟩ := BY.out
              clear HM HM' HXY BX BY hnx hny
              unfold minI at hm hm'
              unfold cmpL absI minI
              repeat' split
              all_goals first | rfl | (exfalso; omega)
          · first
            | (exfalso; omega)
            | skip
            all_goals
              have HM := Lib.hid hm
              have HM' := Lib.hid hm'
              clear hm hm'
              go_enter Try.func174, Try.ntmps174
              go_wp2_with fail
              go_ret
              refine ⟨l2_goal ?_, rfl⟩
              have hm := HM.out
              have hm' := HM'.out
              have hne := HXY.out
              obtain ⟨q1, q2⟩ := BX.out
              obtain ⟨q3, q4⟩ := BY.out
              clear HM HM' HXY BX BY hnx hny
              unfold minI at hm hm'
              unfold cmpL absI minI
              repeat' split
              all_goals first | rfl | (exfalso; omega)
        · rcases htri with ht | ht
          · first
            | (exfalso; omega)
            | skip
            all_goals
              have HM := Lib.hid hm
              have HM' := Lib.hid hm'
              clear hm hm'
              go_enter Try.func174, Try.ntmps174
              go_wp2_with fail
              go_ret
              refine ⟨l2_goal ?_, rfl⟩
              have hm := HM.out
              have hm' := HM'.out
              have hne := HXY.out
              obtain ⟨q1, q2⟩ := BX.out
              obtain ⟨q3, q4⟩ := BY.out
              clear HM HM' HXY BX BY hnx hny
              unfold minI at hm hm'
              unfold cmpL absI minI
              repeat' split
              all_goals first | rfl | (exfalso; omega)
          · first
            | (exfalso; omega)
            | skip
            all_goals
              have HM := Lib.hid hm
              have HM' := Lib.hid hm'
              clear hm hm'
              go_enter Try.func174, Try.ntmps174
              go_wp2_with fail
              go_ret
              refine ⟨l2_goal ?_, rfl⟩
              have hm := HM.out
              have hm' := HM'.out
              have hne := HXY.out
              obtain ⟨q1, q2⟩ := BX.out
              obtain ⟨q3, q4⟩ := BY.out
              clear HM HM' HXY BX BY hnx hny
              unfold minI at hm hm'
              unfold cmpL absI minI
              repeat' split
              all_goals first | rfl | (exfalso; omega)
        · rcases htri with ht | ht
          · first
            | (exfalso; omega)
            | skip
            all_goals
              have HM := Lib.hid hm
              have HM' := Lib.hid hm'
              clear hm hm'
              go_enter Try.func174, Try.ntmps174
              go_wp2_with fail
              go_ret
              refine ⟨l2_goal ?_, rfl⟩
              have hm := HM.out
              have hm' := HM'.out
              have hne := HXY.out
              obtain ⟨q1, q2⟩ := BX.out
              obtain ⟨q3, q4⟩ := BY.out
              clear HM HM' HXY BX BY hnx hny
              unfold minI at hm hm'
              unfold cmpL absI minI
              repeat' split
              all_goals first | rfl | (exfalso; omega)
          · first
            | (exfalso; omega)
            | skip
            all_goals
              have HM := Lib.hid hm
              have HM' := Lib.hid hm'
              clear hm hm'
              go_enter Try.func174, Try.ntmps174
              go_wp2_with fail
              go_ret
              refine ⟨l2_goal ?_, rfl⟩
              have hm := HM.out
              have hm' := HM'.out
              have hne := HXY.out
              obtain ⟨q1, q2⟩ := BX.out
              obtain ⟨q3, q4⟩ := BY.out
              clear HM HM' HXY BX BY hnx hny
              unfold minI at hm hm'
              unfold cmpL absI minI
              repeat' split
              all_goals first | rfl | (exfalso; omega)

/-! ### the order of words -/
theorem cmpLs_drop {x y : List Int} {k : Nat} {a b : Int} (ha : x[k]? = some a) (hb : y[k]? = some b) : cmpLs (x.drop k) (y.drop k) = if cmpL a b = 0 then cmpLs (x.drop (k + 1)) (y.drop (k + 1)) else cmpL a b := by
  rw [drop_of x ha, drop_of y hb]
  rfl

set_option maxHeartbeats 1600000 in
theorem impl_CompareWords (A A' : Option Addr) (xs ys : List Int) (c c' : Nat) (w : World) (B B' : Nat) (hr : Rs w B A (ints xs)) (hr' : Rs w B' A' (ints ys)) (hox : OkI xs) (hoy : OkI ys) (hl : xs.length ≤ 4194304) (hl' : ys.length ≤ 4194304) :
    Calls Try.prog 151 #[.slice A xs.length c, .slice A' ys.length c'] w fun e w' => e = .returned (.int .i64 (cmpW xs ys)) ∧ ∃ n, w' = w.drewN n := by
  have HOX := Lib.hid hox
  have HOY := Lib.hid hoy
  clear hox hoy
  by_cases h1 : xs.length < ys.length
  · have hr1 : cmpI (xs.length : Int) (ys.length : Int) = -1 := by unfold cmpI; rw [if_pos (by omega)]
    have hr2 : cmpW xs ys = -1 := by unfold cmpW; rw [if_pos h1]
    rw [hr2]
    clear hr2
    go_enter Try.func151, Try.ntmps151
    go_wp2_with fail
    refine (impl_compareInts _ _ _).mono ?_
    rintro e w' ⟨rfl, rfl⟩
    go_wp2_with fail
    go_ret
    exact ⟨rfl, 0, rfl⟩
  · by_cases h2 : ys.length < xs.length
    · have hr1 : cmpI (xs.length : Int) (ys.length : Int) = 1 := by unfold cmpI; rw [if_neg (by omega), if_pos (by omega)]
      have hr2 : cmpW xs ys = 1 := by unfold cmpW; rw [if_neg h1, if_pos h2]
      rw [hr2]
      clear hr2
      go_enter Try.func151, Try.ntmps151
      go_wp2_with fail
      refine (impl_compareInts _ _ _).mono ?_
      rintro e w' ⟨rfl, rfl⟩
      go_wp2_with fail
      go_ret
      exact ⟨rfl, 0, rfl⟩
    · have hr1 : cmpI (xs.length : Int) (ys.length : Int) = 0 := by unfold cmpI; rw [if_neg (by omega), if_neg (by omega)]
      have hr2 : cmpW xs ys = cmpLs xs ys := by unfold cmpW; rw [if_neg h1, if_neg h2]
      rw [hr2]
      clear hr2
      go_enter Try.func151, Try.ntmps151
      go_wp2_with fail
      refine (impl_compareInts _ _ _).mono ?_
      rintro e w' ⟨rfl, rfl⟩
      go_wp2_with fail
      go_loopw [6, 7, 18] (fun _ _ i wr => ∃ k : Nat, k ≤ xs.length ∧ i = .int .i64 k ∧ (∃ n, wr = w.drewN n) ∧ cmpLs (xs.drop k) (ys.drop k) = cmpLs xs ys) (fun _ _ i _ => xs.length - (intOf i).toNat)
      case atStart => exact ⟨0, Nat.zero_le _, rfl, ⟨0, rfl⟩, rfl⟩
      case round =>
        obtain ⟨k, hk, rfl, ⟨nd, rfl⟩, heq⟩ := hrel
        have HE := Lib.hid heq
        clear heq
        by_cases hlt : k < xs.length
        · obtain ⟨b, off, x, rfl, -, hx, hc⟩ := hr.int hlt
          obtain ⟨b', off', y, rfl, -, hy, hc'⟩ := hr'.int (show k < ys.length by omega)
          have hbx := HOX.out x (List.mem_of_getElem? hx)
          have hby := HOY.out y (List.mem_of_getElem? hy)
          have hstep := cmpLs_drop hx hy
          have HS := Lib.hid hstep
          have hC := fun n : Nat => pq (impl_compareLetters x y (w.drewN n) hbx.1 hbx.2 hby.1 hby.2)
          obtain ⟨q, hq⟩ : ∃ q, q = cmpL x y := ⟨_, rfl⟩
          have hv : q = -1 ∨ q = 0 ∨ q = 1 := hq ▸ cmpL_vals x y
          rw [← hq] at hC
          have HQ := Lib.hid hq
          have HC := Lib.hid hC
          have hlt3 : (k : Int) < (ys.length : Int) := by omega
          clear hx hy hbx hby hstep hq hC
          rcases hv with rfl | rfl | rfl
          · go_wp2_with fail
            go_quiet ((go_at_call 175; first | exact qz0 (HC.out _) | exact qz1 (HC.out _)))
            go_wp2_with fail
            go_ret
            have e : cmpLs xs ys = -1 := by rw [← HE.out, HS.out, ← HQ.out]; rfl
            rw [e]
            exact ⟨rfl, _, by first | rfl | exact dn _ _ _⟩
          · go_wp2_with fail
            go_quiet ((go_at_call 175; first | exact qz0 (HC.out _) | exact qz1 (HC.out _)))
            go_wp2_with fail
            go_roundw
            case rel =>
              refine ⟨k + 1, by omega, by go_num, ⟨_, by first | rfl | exact dn _ _ _⟩, ?_⟩
              have e := HS.out
              rw [← HQ.out, if_pos rfl, HE.out] at e
              exact e.symm
            case measure => simp [intOf]; omega
          · go_wp2_with fail
            go_quiet ((go_at_call 175; first | exact qz0 (HC.out _) | exact qz1 (HC.out _)))
            go_wp2_with fail
            go_ret
            have e : cmpLs xs ys = 1 := by rw [← HE.out, HS.out, ← HQ.out]; rfl
            rw [e]
            exact ⟨rfl, _, by first | rfl | exact dn _ _ _⟩
        · go_wp2_with fail
          go_ret
          have e : cmpLs xs ys = 0 := by
            rw [← HE.out, List.drop_eq_nil_of_le (by omega)]
            rfl
          rw [e]
          exact ⟨rfl, _, rfl⟩

set_option maxHeartbeats 1600000 in
theorem spec_CompareWords (A A' : Option Addr) (xs ys : List Int) (c c' : Nat) (w : World) (B B' : Nat) (hr : Rs w B A (ints xs)) (hr' : Rs w B' A' (ints ys)) (hox : OkI xs) (hoy : OkI ys) (hl : xs.length ≤ 4194304) (hl' : ys.length ≤ 4194304) :
    Calls Try.prog 146 #[.slice A xs.length c, .slice A' ys.length c'] w fun e w' => e = .returned (.int .i64 (cmpW xs ys)) ∧ ∃ n, w' = w.drewN n := by
  have HOX := Lib.hid hox
  have HOY := Lib.hid hoy
  clear hox hoy
  by_cases h1 : xs.length < ys.length
  · have hr2 : cmpW xs ys = -1 := by unfold cmpW; rw [if_pos h1]
    have hne : ((xs.length : Int) != (ys.length : Int)) = true := by simp; omega
    rw [hr2]
    clear hr2
    go_enter Try.func146, Try.ntmps146
    go_wp2_with fail
    go_ret
    exact ⟨rfl, 0, rfl⟩
  · by_cases h2 : ys.length < xs.length
    · have hr2 : cmpW xs ys = 1 := by unfold cmpW; rw [if_neg h1, if_pos h2]
      have hne : ((xs.length : Int) != (ys.length : Int)) = true := by simp; omega
      rw [hr2]
      clear hr2
      go_enter Try.func146, Try.ntmps146
      go_wp2_with fail
      go_ret
      exact ⟨rfl, 0, rfl⟩
    · have hr2 : cmpW xs ys = cmpLs xs ys := by unfold cmpW; rw [if_neg h1, if_neg h2]
      have hne : ((xs.length : Int) != (ys.length : Int)) = false := by simp; omega
      rw [hr2]
      clear hr2
      go_enter Try.func146, Try.ntmps146
      go_wp2_with fail
      go_loopw [5, 6] (fun i _ wr => ∃ k : Nat, k ≤ xs.length ∧ i = .int .i64 k ∧ (∃ n, wr = w.drewN n) ∧ cmpLs (xs.drop k) (ys.drop k) = cmpLs xs ys) (fun i _ _ => xs.length - (intOf i).toNat)
      case atStart => exact ⟨0, Nat.zero_le _, rfl, ⟨0, rfl⟩, rfl⟩
      case round =>
        obtain ⟨k, hk, rfl, ⟨nd, rfl⟩, heq⟩ := hrel
        have HE := Lib.hid heq
        clear heq
        by_cases hlt : k < xs.length
        · obtain ⟨b, off, x, rfl, -, hx, hc⟩ := hr.int hlt
          obtain ⟨b', off', y, rfl, -, hy, hc'⟩ := hr'.int (show k < ys.length by omega)
          have hbx := HOX.out x (List.mem_of_getElem? hx)
          have hby := HOY.out y (List.mem_of_getElem? hy)
          have hstep := cmpLs_drop hx hy
          have HS := Lib.hid hstep
          have hC := fun n : Nat => pq (spec_l2Order x y (w.drewN n) hbx.1 hbx.2 hby.1 hby.2)
          obtain ⟨q, hq⟩ : ∃ q, q = cmpL x y := ⟨_, rfl⟩
          have hv : q = -1 ∨ q = 0 ∨ q = 1 := hq ▸ cmpL_vals x y
          rw [← hq] at hC
          have HQ := Lib.hid hq
          have HC := Lib.hid hC
          have hlt3 : (k : Int) < (ys.length : Int) := by omega
          clear hx hy hbx hby hstep hq hC
          rcases hv with rfl | rfl | rfl
          · go_wp2_with fail
            go_quiet ((go_at_call 174; first | exact qz0 (HC.out _) | exact qz1 (HC.out _)))
            go_wp2_with fail
            go_ret
            have e : cmpLs xs ys = -1 := by rw [← HE.out, HS.out, ← HQ.out]; rfl
            rw [e]
            exact ⟨rfl, _, by first | rfl | exact dn _ _ _⟩
          · go_wp2_with fail
            go_quiet ((go_at_call 174; first | exact qz0 (HC.out _) | exact qz1 (HC.out _)))
            go_wp2_with fail
            go_roundw
            case rel =>
              refine ⟨k + 1, by omega, by go_num, ⟨_, by first | rfl | exact dn _ _ _⟩, ?_⟩
              have e := HS.out
              rw [← HQ.out, if_pos rfl, HE.out] at e
              exact e.symm
            case measure => simp [intOf]; omega
          · go_wp2_with fail
            go_quiet ((go_at_call 174; first | exact qz0 (HC.out _) | exact qz1 (HC.out _)))
            go_wp2_with fail
            go_ret
            have e : cmpLs xs ys = 1 := by rw [← HE.out, HS.out, ← HQ.out]; rfl
            rw [e]
            exact ⟨rfl, _, by first | rfl | exact dn _ _ _⟩
        · go_wp2_with fail
          go_ret
          have e : cmpLs xs ys = 0 := by
            rw [← HE.out, List.drop_eq_nil_of_le (by omega)]
            rfl
          rw [e]
          exact ⟨rfl, _, rfl⟩
end Go.Proofs.Ytchgicdjdbjfgaa
