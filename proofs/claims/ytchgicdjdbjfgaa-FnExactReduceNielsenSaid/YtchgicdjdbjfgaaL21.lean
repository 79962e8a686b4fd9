
/- CompareNielsen, both sides, and in the laws' words. -/
import Derived.Test.YtchgicdjdbjfgaaL20
import Derived.Test.YtchgicdjdbjfgaaK1
import Derived.Test.YtchgicdjdbjfgaaO
namespace Go.Proofs.Ytchgicdjdbjfgaa
set_option linter.unusedVariables false
set_option linter.unusedSimpArgs false
open Go.RowKit

/-- The order of Nielsen's lists on words. -/
def cmpN (a b : List Int) : Int := if a.length < b.length then -1 else if b.length < a.length then 1 else if cmpW (halves a).1 (halves b).1 = 0 then cmpW (halves a).2 (halves b).2 else cmpW (halves a).1 (halves b).1


set_option maxHeartbeats 1600000 in
theorem spec_CompareNielsen (A A' : Option Addr) (xs ys : List Int) (c c' : Nat) (w : World) (hr : Rs w w.heap.size A (ints xs)) (hr' : Rs w w.heap.size A' (ints ys)) (hc : xs.length ≤ c) (hc' : ys.length ≤ c') (hox : OkI xs) (hoy : OkI ys) (hl : xs.length ≤ 1048576) (hl' : ys.length ≤ 1048576) :
    Calls Try.prog 112 #[.slice A xs.length c, .slice A' ys.length c'] w fun e w' => e = .returned (.int .i64 (cmpN xs ys)) ∧ Mid 0 0 w w' := by
  have HOX := Lib.hid hox
  have HOY := Lib.hid hoy
  clear hox hoy
  by_cases h1 : xs.length < ys.length
  · have hv : cmpN xs ys = -1 := by unfold cmpN; rw [if_pos h1]
    rw [hv]
    clear hv
    have hne : ((xs.length : Int) != (ys.length : Int)) = true := by simp; omega
    go_enter Try.func112, Try.ntmps112
    go_wp2_with fail
    go_ret
    exact ⟨rfl, Mid.refl _ _ _⟩
  · by_cases h2 : ys.length < xs.length
    · have hv : cmpN xs ys = 1 := by unfold cmpN; rw [if_neg h1, if_pos h2]
      rw [hv]
      clear hv
      have hne : ((xs.length : Int) != (ys.length : Int)) = true := by simp; omega
      go_enter Try.func112, Try.ntmps112
      go_wp2_with fail
      go_ret
      exact ⟨rfl, Mid.refl _ _ _⟩
    · have hv : cmpN xs ys = if cmpW (halves xs).1 (halves ys).1 = 0 then cmpW (halves xs).2 (halves ys).2 else cmpW (halves xs).1 (halves ys).1 := by unfold cmpN; rw [if_neg h1, if_neg h2]
      rw [hv]
      clear hv
      have hne : ((xs.length : Int) != (ys.length : Int)) = false := by simp; omega
      have hnx := halfN_le xs
      have hny := halfN_le ys
      obtain ⟨p1, hp1⟩ : ∃ p, p = (halves xs).1 := ⟨_, rfl⟩
      obtain ⟨p2, hp2⟩ : ∃ p, p = (halves xs).2 := ⟨_, rfl⟩
      obtain ⟨q1, hq1⟩ : ∃ p, p = (halves ys).1 := ⟨_, rfl⟩
      obtain ⟨q2, hq2⟩ : ∃ p, p = (halves ys).2 := ⟨_, rfl⟩
      have hx := halves_len xs
      have hy := halves_len ys
      have hkx := halves_ok HOX.out
      have hky := halves_ok HOY.out
      have hXr : (∀ w e w', RetHalves xs w e w' → ∃ A c A' c', e = .returned (.tuple #[.slice A p1.length c, .slice A' p2.length c']) ∧ Rs w' w'.heap.size A (ints p1) ∧ Rs w' w'.heap.size A' (ints p2) ∧ Mid 0 0 w w') := by
        intro w e w' h
        rw [hp1, hp2, hx.1, hx.2]
        exact h
      have hYr : (∀ w e w', RetHalves ys w e w' → ∃ A c A' c', e = .returned (.tuple #[.slice A q1.length c, .slice A' q2.length c']) ∧ Rs w' w'.heap.size A (ints q1) ∧ Rs w' w'.heap.size A' (ints q2) ∧ Mid 0 0 w w') := by
        intro w e w' h
        rw [hq1, hq2, hy.1, hy.2]
        exact h
      have HX := Lib.hid hXr
      have HY := Lib.hid hYr
      clear hXr hYr
      rw [← hp1, ← hp2] at hx hkx
      rw [← hq1, ← hq2] at hy hky
      rw [← hp1, ← hp2, ← hq1, ← hq2]
      have hlp1 : p1.length ≤ 4194304 := by omega
      have hlp2 : p2.length ≤ 4194304 := by omega
      have hlq1 : q1.length ≤ 4194304 := by omega
      have hlq2 : q2.length ≤ 4194304 := by omega
      have HKX := Lib.hid hkx
      have HKY := Lib.hid hky
      clear hp1 hp2 hq1 hq2 hx hy hkx hky hnx hny
      obtain ⟨u, hu⟩ : ∃ u, u = cmpW p1 q1 := ⟨_, rfl⟩
      have HU := Lib.hid hu
      rw [← hu]
      clear hu
      by_cases hu0 : u = 0
      · subst hu0
        rw [if_pos rfl]
        go_enter Try.func112, Try.ntmps112
        go_wp2_with fail
        refine (spec_l20Halves A xs c _ hr hc HOX.out hl).mono ?_
        intro e w1 hret
        obtain ⟨A1, c1, A2, c2, rfl, hA1, hA2, hm1⟩ := HX.out _ _ _ hret
        have hr1 := (hr'.below hm1.bel).more hm1.size
        go_wp2_with fail
        refine (spec_l20Halves A' ys c' _ hr1 hc' HOY.out hl').mono ?_
        intro e w2 hret2
        obtain ⟨B1, d1, B2, d2, rfl, hB1, hB2, hm2⟩ := HY.out _ _ _ hret2
        have hA1' := (hA1.below hm2.bel).more hm2.size
        have hA2' := (hA2.below hm2.bel).more hm2.size
        go_wp2_with fail
        refine (spec_CompareWords A1 B1 p1 q1 c1 d1 _ _ _ hA1' hB1 HKX.out.1 HKY.out.1 hlp1 hlq1).mono ?_
        rintro e w3 ⟨rfl, n, rfl⟩
        rw [← HU.out]
        go_wp2_with fail
        refine (spec_CompareWords A2 B2 p2 q2 c2 d2 _ _ _ (hA2'.drewN n) (hB2.drewN n) HKX.out.2 HKY.out.2 hlp2 hlq2).mono ?_
        rintro e w4 ⟨rfl, m, rfl⟩
        go_wp2_with fail
        go_ret
        exact ⟨rfl, (hm1.trans hm2).drewN (n + m)⟩
      · rw [if_neg hu0]
        have hub : (u == 0) = false := by simpa using hu0
        have hub' : (u != 0) = true := by simpa using hu0
        clear hu0
        go_enter Try.func112, Try.ntmps112
        go_wp2_with fail
        refine (spec_l20Halves A xs c _ hr hc HOX.out hl).mono ?_
        intro e w1 hret
        obtain ⟨A1, c1, A2, c2, rfl, hA1, hA2, hm1⟩ := HX.out _ _ _ hret
        have hr1 := (hr'.below hm1.bel).more hm1.size
        go_wp2_with fail
        refine (spec_l20Halves A' ys c' _ hr1 hc' HOY.out hl').mono ?_
        intro e w2 hret2
        obtain ⟨B1, d1, B2, d2, rfl, hB1, hB2, hm2⟩ := HY.out _ _ _ hret2
        have hA1' := (hA1.below hm2.bel).more hm2.size
        go_wp2_with fail
        refine (spec_CompareWords A1 B1 p1 q1 c1 d1 _ _ _ hA1' hB1 HKX.out.1 HKY.out.1 hlp1 hlq1).mono ?_
        rintro e w3 ⟨rfl, n, rfl⟩
        rw [← HU.out]
        go_wp2_with fail
        go_ret
        exact ⟨rfl, (hm1.trans hm2).drewN n⟩


set_option maxHeartbeats 1600000 in
theorem impl_CompareNielsen (A A' : Option Addr) (xs ys : List Int) (c c' : Nat) (w : World) (hr : Rs w w.heap.size A (ints xs)) (hr' : Rs w w.heap.size A' (ints ys)) (hc : xs.length ≤ c) (hc' : ys.length ≤ c') (hox : OkI xs) (hoy : OkI ys) (hl : xs.length ≤ 1048576) (hl' : ys.length ≤ 1048576) :
    Calls Try.prog 117 #[.slice A xs.length c, .slice A' ys.length c'] w fun e w' => e = .returned (.int .i64 (cmpN xs ys)) ∧ Mid 0 0 w w' := by
  have HOX := Lib.hid hox
  have HOY := Lib.hid hoy
  clear hox hoy
  by_cases h1 : xs.length < ys.length
  · have hv : cmpN xs ys = -1 := by unfold cmpN; rw [if_pos h1]
    rw [hv]
    clear hv
    have hci : cmpI (xs.length : Int) (ys.length : Int) = -1 := by unfold cmpI; rw [if_pos (by omega)]
    have hne : ((xs.length : Int) != (ys.length : Int)) = true := by simp; omega
    go_enter Try.func117, Try.ntmps117
    go_wp2_with fail
    refine (impl_compareInts _ _ _).mono ?_
    rintro e w' ⟨rfl, rfl⟩
    rw [hci]
    go_wp2_with fail
    go_ret
    exact ⟨rfl, Mid.refl _ _ _⟩
  · by_cases h2 : ys.length < xs.length
    · have hv : cmpN xs ys = 1 := by unfold cmpN; rw [if_neg h1, if_pos h2]
      rw [hv]
      clear hv
      have hci : cmpI (xs.length : Int) (ys.length : Int) = 1 := by unfold cmpI; rw [if_neg (by omega), if_pos (by omega)]
      have hne : ((xs.length : Int) != (ys.length : Int)) = true := by simp; omega
      go_enter Try.func117, Try.ntmps117
      go_wp2_with fail
      refine (impl_compareInts _ _ _).mono ?_
      rintro e w' ⟨rfl, rfl⟩
      rw [hci]
      go_wp2_with fail
      go_ret
      exact ⟨rfl, Mid.refl _ _ _⟩
    · have hv : cmpN xs ys = if cmpW (halves xs).1 (halves ys).1 = 0 then cmpW (halves xs).2 (halves ys).2 else cmpW (halves xs).1 (halves ys).1 := by unfold cmpN; rw [if_neg h1, if_neg h2]
      rw [hv]
      clear hv
      have hci : cmpI (xs.length : Int) (ys.length : Int) = 0 := by unfold cmpI; rw [if_neg (by omega), if_neg (by omega)]
      have hne : ((xs.length : Int) != (ys.length : Int)) = false := by simp; omega
      have hnx := halfN_le xs
      have hny := halfN_le ys
      obtain ⟨p1, hp1⟩ : ∃ p, p = (halves xs).1 := ⟨_, rfl⟩
      obtain ⟨p2, hp2⟩ : ∃ p, p = (halves xs).2 := ⟨_, rfl⟩
      obtain ⟨q1, hq1⟩ : ∃ p, p = (halves ys).1 := ⟨_, rfl⟩
      obtain ⟨q2, hq2⟩ : ∃ p, p = (halves ys).2 := ⟨_, rfl⟩
      have hx := halves_len xs
      have hy := halves_len ys
      have hkx := halves_ok HOX.out
      have hky := halves_ok HOY.out
      have hXr : (∀ w e w', RetHalves xs w e w' → ∃ A c A' c', e = .returned (.tuple #[.slice A p1.length c, .slice A' p2.length c']) ∧ Rs w' w'.heap.size A (ints p1) ∧ Rs w' w'.heap.size A' (ints p2) ∧ Mid 0 0 w w') := by
        intro w e w' h
        rw [hp1, hp2, hx.1, hx.2]
        exact h
      have hYr : (∀ w e w', RetHalves ys w e w' → ∃ A c A' c', e = .returned (.tuple #[.slice A q1.length c, .slice A' q2.length c']) ∧ Rs w' w'.heap.size A (ints q1) ∧ Rs w' w'.heap.size A' (ints q2) ∧ Mid 0 0 w w') := by
        intro w e w' h
        rw [hq1, hq2, hy.1, hy.2]
        exact h
      have HX := Lib.hid hXr
      have HY := Lib.hid hYr
      clear hXr hYr
      rw [← hp1, ← hp2] at hx hkx
      rw [← hq1, ← hq2] at hy hky
      rw [← hp1, ← hp2, ← hq1, ← hq2]
      have hlp1 : p1.length ≤ 4194304 := by omega
      have hlp2 : p2.length ≤ 4194304 := by omega
      have hlq1 : q1.length ≤ 4194304 := by omega
      have hlq2 : q2.length ≤ 4194304 := by omega
      have HKX := Lib.hid hkx
      have HKY := Lib.hid hky
      clear hp1 hp2 hq1 hq2 hx hy hkx hky hnx hny
      obtain ⟨u, hu⟩ : ∃ u, u = cmpW p1 q1 := ⟨_, rfl⟩
      have HU := Lib.hid hu
      rw [← hu]
      clear hu
      by_cases hu0 : u = 0
      · subst hu0
        rw [if_pos rfl]
        go_enter Try.func117, Try.ntmps117
        go_wp2_with fail
        refine (impl_compareInts _ _ _).mono ?_
        rintro e w' ⟨rfl, rfl⟩
        rw [hci]
        go_wp2_with fail
        refine (impl_halves A xs c _ hr hc HOX.out hl).mono ?_
        intro e w1 hret
        obtain ⟨A1, c1, A2, c2, rfl, hA1, hA2, hm1⟩ := HX.out _ _ _ hret
        have hr1 := (hr'.below hm1.bel).more hm1.size
        go_wp2_with fail
        refine (impl_halves A' ys c' _ hr1 hc' HOY.out hl').mono ?_
        intro e w2 hret2
        obtain ⟨B1, d1, B2, d2, rfl, hB1, hB2, hm2⟩ := HY.out _ _ _ hret2
        have hA1' := (hA1.below hm2.bel).more hm2.size
        have hA2' := (hA2.below hm2.bel).more hm2.size
        go_wp2_with fail
        refine (impl_CompareWords A1 B1 p1 q1 c1 d1 _ _ _ hA1' hB1 HKX.out.1 HKY.out.1 hlp1 hlq1).mono ?_
        rintro e w3 ⟨rfl, n, rfl⟩
        rw [← HU.out]
        go_wp2_with fail
        refine (impl_CompareWords A2 B2 p2 q2 c2 d2 _ _ _ (hA2'.drewN n) (hB2.drewN n) HKX.out.2 HKY.out.2 hlp2 hlq2).mono ?_
        rintro e w4 ⟨rfl, m, rfl⟩
        go_wp2_with fail
        go_ret
        exact ⟨rfl, (hm1.trans hm2).drewN (n + m)⟩
      · rw [if_neg hu0]
        have hub : (u == 0) = false := by simpa using hu0
        have hub' : (u != 0) = true := by simpa using hu0
        clear hu0
        go_enter Try.func117, Try.ntmps117
        go_wp2_with fail
        refine (impl_compareInts _ _ _).mono ?_
        rintro e w' ⟨rfl, rfl⟩
        rw [hci]
        go_wp2_with fail
        refine (impl_halves A xs c _ hr hc HOX.out hl).mono ?_
        intro e w1 hret
        obtain ⟨A1, c1, A2, c2, rfl, hA1, hA2, hm1⟩ := HX.out _ _ _ hret
        have hr1 := (hr'.below hm1.bel).more hm1.size
        go_wp2_with fail
        refine (impl_halves A' ys c' _ hr1 hc' HOY.out hl').mono ?_
        intro e w2 hret2
        obtain ⟨B1, d1, B2, d2, rfl, hB1, hB2, hm2⟩ := HY.out _ _ _ hret2
        have hA1' := (hA1.below hm2.bel).more hm2.size
        go_wp2_with fail
        refine (impl_CompareWords A1 B1 p1 q1 c1 d1 _ _ _ hA1' hB1 HKX.out.1 HKY.out.1 hlp1 hlq1).mono ?_
        rintro e w3 ⟨rfl, n, rfl⟩
        rw [← HU.out]
        go_wp2_with fail
        go_ret
        exact ⟨rfl, (hm1.trans hm2).drewN n⟩


def CompareNielsenIs (a b : List Int) (res : Int) : Prop := cmpN a b = res
theorem CompareNielsenIs_ex (a b : List Int) (_ : OkI a) (_ : a.length ≤ 1048576) (_ : OkI b) (_ : b.length ≤ 1048576) : ∃ res, CompareNielsenIs a b res := ⟨_, rfl⟩
theorem OI.cap {w : World} {lo hi : Nat} {A : Option Addr} {c : Nat} {xs : List Int} (h : OI w lo hi A c xs) : xs.length ≤ c := by
  obtain ⟨A', c', he, hn, -⟩ := owns_shape h.2.1
  injection he with _ _ hc
  omega

theorem sspec_CompareNielsen (A : Option Addr) (a : List Int) (c : Nat) (A' : Option Addr) (b : List Int) (c' : Nat) (w : World) (lo hi : Nat) (h : OI w lo hi A c a) (_o : OkI a) (hl : a.length ≤ 1048576) (lo' hi' : Nat) (h' : OI w lo' hi' A' c' b) (_o' : OkI b) (hl' : b.length ≤ 1048576) (res : Int) (hres : CompareNielsenIs a b res) :
    Calls Try.prog 112 #[.slice A a.length c, .slice A' b.length c'] w (Stp (.int .i64 res) w) := by
  have h1 := spec_CompareNielsen A A' a b c c' w h.ri.rs h'.ri.rs h.cap h'.cap _o _o' hl hl'
  rw [hres] at h1
  exact h1
theorem simpl_CompareNielsen (A : Option Addr) (a : List Int) (c : Nat) (A' : Option Addr) (b : List Int) (c' : Nat) (w : World) (lo hi : Nat) (h : OI w lo hi A c a) (_o : OkI a) (hl : a.length ≤ 1048576) (lo' hi' : Nat) (h' : OI w lo' hi' A' c' b) (_o' : OkI b) (hl' : b.length ≤ 1048576) (res : Int) (hres : CompareNielsenIs a b res) :
    Calls Try.prog 117 #[.slice A a.length c, .slice A' b.length c'] w (Stp (.int .i64 res) w) := by
  have h1 := impl_CompareNielsen A A' a b c c' w h.ri.rs h'.ri.rs h.cap h'.cap _o _o' hl hl'
  rw [hres] at h1
  exact h1
end Go.Proofs.Ytchgicdjdbjfgaa
