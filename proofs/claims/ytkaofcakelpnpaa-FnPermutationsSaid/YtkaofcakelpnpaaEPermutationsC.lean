
import Derived.Test.YtkaofcakelpnpaaPm1
import Derived.Test.YtkaofcakelpnpaaPm2

/- The walk of the law FnPermutations: it returns true at every input, and turns nothing that was there. -/
namespace Go.Proofs.Ytkaofcakelpnpaa
open Go.RowKit
set_option linter.unusedVariables false
set_option linter.unusedSimpArgs false

theorem ComposeIs_inv {p inv idl : List Int} (hp : IsPerm p) (h1 : InversePermutationIs p inv) (h2 : idl = upto p.length) : ComposePermutationsIs p inv idl := by
  have e := h1.1 hp
  subst e h2
  exact ⟨fun _ => (inv_comp hp).symm, fun h => absurd ⟨hp, invK_perm hp, (invK_len p _).symm⟩ h⟩
theorem ComposeIs_pow {p : List Int} (hp : IsPerm p) (k : Nat) {Y : List Int} (hY : Y = powP p k) : ComposePermutationsIs Y p (powP p (k + 1)) := by
  subst hY
  exact ⟨fun _ => (powP_succ hp k).symm, fun h => absurd ⟨powP_perm hp k, hp, powP_len p k⟩ h⟩
theorem wf_small {x : Int} (h : -1048576 ≤ x ∧ x ≤ 1048576) : (Lit.int .i64 x).wf = true := by
  simp [Lit.wf, IntKind.min, IntKind.max, IntKind.signed, IntKind.bits]
  omega
theorem pow_hit {p idl : List Int} {k N : Nat} (hp : IsPerm p) (hN : N = ordN (cyc p)) (hid : idl = upto p.length) (hk : k + 1 ≤ N) (r : Bool) (hr : r = decide (k + 1 = N)) : r = decide (powP p (k + 1) = idl) := by
  have h := powP_id hp (k + 1)
  rw [hr, hid]
  refine decide_eq_decide.2 ⟨fun e => h.2 (by rw [← hN, e]; exact Nat.dvd_refl _), fun e => ?_⟩
  have h2 := h.1 e
  rw [← hN] at h2
  exact Nat.le_antisymm hk (Nat.le_of_dvd (Nat.succ_pos _) h2)
theorem sign_val {p : List Int} {s : Int} (h : SignOfIs p s) (hp : IsPerm p) : s = sgnP p := by
  obtain ⟨cy, h1, h2, -⟩ := h
  rw [h2 hp, h1.1 hp]
  rfl
theorem sgn_cases (p : List Int) : sgnP p = 1 ∨ sgnP p = -1 := by
  unfold sgnP
  split
  · exact .inl rfl
  · exact .inr rfl
theorem sum_take_le {K : List Int} (h : ∀ x ∈ K, 1 ≤ x) (k : Nat) : 0 ≤ (K.take k).sum ∧ (K.take k).sum ≤ K.sum := by
  have h1 := sum_nonneg (cy := K.take k) fun x hx => h x (List.mem_of_mem_take hx)
  have h2 := sum_nonneg (cy := K.drop k) fun x hx => h x (List.mem_of_mem_drop hx)
  have h3 : (K.take k).sum + (K.drop k).sum = K.sum := by rw [← List.sum_append, List.take_append_drop]
  omega

set_option maxRecDepth 100000 in
set_option maxHeartbeats 16000000 in
theorem walk_Permutations (A0 : Option Addr) (d0 : List Int) (c0 : Nat) (w : World) (r0 : RV w 0 w.heap.size A0 (byts d0)) (_o0 : OkB d0) (_l0 : d0.length ≤ 9223372036854775807) :
    Calls Try.prog 3 #[.slice A0 d0.length c0] w fun e w' => e = .returned (.bool true) ∧ Below w.heap.size w w' := by
  by_cases hbig : decide ((d0.length : Int) > 1048576) = true
  · go_enter Try.func3, Try.ntmps3
    go_wp2_with fail
    with_reducible refine (big_any A0 d0.length c0 w).mono ?_
    rintro e w1 ⟨rfl, rfl⟩
    rw [hbig]
    go_wp2_with fail
    go_ret
    exact ⟨rfl, Below.refl _ _⟩
  have hl0 : d0.length ≤ 1048576 := by simp at hbig; omega
  have hbig2 : decide ((d0.length : Int) > 1048576) = false := by simpa using hbig
  clear hbig _l0
  obtain ⟨L0, hL0⟩ : ∃ n, n = w.heap.size := ⟨_, rfl⟩
  rw [← hL0]
  have hm := Mid.refl 0 0 w
  go_enter Try.func3, Try.ntmps3
  go_wp2_with fail
  with_reducible refine (big_any A0 d0.length c0 w).mono ?_
  rintro e w1 ⟨rfl, rfl⟩
  rw [hbig2]
  go_wp2_with fail
  with_reducible refine (DrawComposePermutations_any A0 d0 c0 _ _ _o0 hl0 r0).mono ?_
  rintro e wa1 ⟨A1, c1, p, A2, c2, q, rfl, dp, dq, o1, o2, m⟩
  replace r0 := r0.mid m (Or.inl (Nat.zero_le _))
  replace hm := hm.trans m
  clear m
  have hpl := dp.len
  have hql := dq.len
  have hpo := dp.ok
  have hqo := dq.ok
  have hpl2 := dp.1
  have hql2 := dq.1
  obtain ⟨x, hx⟩ := ComposePermutationsIs_ex p q hpl hql
  have hxl := ComposePermutationsIs_len hx hpl hql
  have HX := Lib.hid hx
  clear hx dp dq
  go_wp2_with fail
  with_reducible refine (simpl_ComposePermutations A1 p c1 A2 q c2 _ _ _ (OI.ri o1) hpl _ _ (OI.ri o2) hql x HX.out).mono ?_
  rintro e wa2 ⟨A3, c3, rfl, o3, m⟩
  replace r0 := r0.mid m (Or.inl (Nat.zero_le _))
  replace o1 := o1.mid m (Or.inl (Nat.zero_le _))
  replace o2 := o2.mid m (Or.inl (Nat.zero_le _))
  replace hm := hm.trans m
  clear m
  go_wp2_with fail
  with_reducible refine (sspec_ComposePermutations A1 p c1 A2 q c2 _ _ _ (OI.ri o1) hpl _ _ (OI.ri o2) hql x HX.out).mono ?_
  rintro e wa3 ⟨A4, c4, rfl, o4, m⟩
  replace r0 := r0.mid m (Or.inl (Nat.zero_le _))
  replace o1 := o1.mid m (Or.inl (Nat.zero_le _))
  replace o2 := o2.mid m (Or.inl (Nat.zero_le _))
  replace o3 := o3.mid m (Or.inl (Nat.zero_le _))
  replace hm := hm.trans m
  clear m
  go_wp2_with fail
  with_reducible refine (sameInts_any A3 x c3 A4 x c4 _ _ _ _ _ (OI.ri o3) (OI.ri o4) hxl hxl true (by simp)).mono ?_
  rintro e wa4 ⟨rfl, m⟩
  replace r0 := r0.mid m (Or.inl (Nat.zero_le _))
  replace o1 := o1.mid m (Or.inl (Nat.zero_le _))
  replace o2 := o2.mid m (Or.inl (Nat.zero_le _))
  replace o3 := o3.mid m (Or.inl (Nat.zero_le _))
  replace o4 := o4.mid m (Or.inl (Nat.zero_le _))
  replace hm := hm.trans m
  clear m
  clear o4
  by_cases hP : IsPerm p
  rotate_left
  · have HR : Hid (IsPermutationIs p false) := Lib.hid (by simp [IsPermutationIs, hP])
    clear hP
    go_wp2_with fail
    with_reducible refine (simpl_IsPermutation A1 p c1 _ _ _ (OI.ri o1) hpl false HR.out).mono ?_
    rintro e wa21 ⟨rfl, m⟩
    replace r0 := r0.mid m (Or.inl (Nat.zero_le _))
    replace o1 := o1.mid m (Or.inl (Nat.zero_le _))
    replace o2 := o2.mid m (Or.inl (Nat.zero_le _))
    replace o3 := o3.mid m (Or.inl (Nat.zero_le _))
    replace hm := hm.trans m
    clear m
    go_wp2_with fail
    with_reducible refine (sspec_IsPermutation A1 p c1 _ _ _ (OI.ri o1) hpl false HR.out).mono ?_
    rintro e wa22 ⟨rfl, m⟩
    replace r0 := r0.mid m (Or.inl (Nat.zero_le _))
    replace o1 := o1.mid m (Or.inl (Nat.zero_le _))
    replace o2 := o2.mid m (Or.inl (Nat.zero_le _))
    replace o3 := o3.mid m (Or.inl (Nat.zero_le _))
    replace hm := hm.trans m
    clear m
    go_wp2_with fail
    with_reducible refine (sspec_IsPermutation A1 p c1 _ _ _ (OI.ri o1) hpl false HR.out).mono ?_
    rintro e wa23 ⟨rfl, m⟩
    replace r0 := r0.mid m (Or.inl (Nat.zero_le _))
    replace o1 := o1.mid m (Or.inl (Nat.zero_le _))
    replace o2 := o2.mid m (Or.inl (Nat.zero_le _))
    replace o3 := o3.mid m (Or.inl (Nat.zero_le _))
    replace hm := hm.trans m
    clear m
    clear o1 o2 o3
    go_wp2_with fail
    with_reducible refine (DrawCycleType_any A0 d0 c0 _ _ _o0 hl0 r0).mono ?_
    rintro e wa24 ⟨A5, c5, a, rfl, da, o5, m⟩
    replace r0 := r0.mid m (Or.inl (Nat.zero_le _))
    replace hm := hm.trans m
    clear m
    have hal := da.len
    have hao := da.ok
    go_wp2_with fail
    with_reducible refine (DrawIdentityPermutation_any A0 d0 c0 _ _ _o0 hl0 r0).mono ?_
    rintro e wa25 ⟨z, rfl, hz, m⟩
    replace r0 := r0.mid m (Or.inl (Nat.zero_le _))
    replace o5 := o5.mid m (Or.inl (Nat.zero_le _))
    replace hm := hm.trans m
    clear m
    obtain ⟨t1, ht1⟩ := CycleTypeIs_ex a hao hal
    have hl1 := CycleTypeIs_len ht1 hao hal
    have T1 := Lib.hid ht1
    obtain ⟨t2, ht2⟩ := OrderOfPermutationIs_ex a hao hal
    have T2 := Lib.hid ht2
    obtain ⟨t3, ht3⟩ := FixedPointsIs_ex a hal
    have hl3 := FixedPointsIs_len ht3 hal
    have T3 := Lib.hid ht3
    obtain ⟨t4, ht4⟩ := SignOfIs_ex a hao hal
    have T4 := Lib.hid ht4
    obtain ⟨t5, ht5⟩ := InversePermutationIs_ex a hal
    have hl5 := InversePermutationIs_len ht5 hal
    have T5 := Lib.hid ht5
    obtain ⟨t6, ht6⟩ := IdentityPermutationIs_ex z
    have hl6 := IdentityPermutationIs_len ht6
    have T6 := Lib.hid ht6
    have hzw := wf_small (x := z) (by omega)
    clear ht1 ht2 ht3 ht4 ht5 ht6 da
    go_wp2_with fail
    with_reducible refine (simpl_CycleType A5 a c5 _ _ _ (OI.ri o5) hao hal t1 T1.out).mono ?_
    rintro e wa26 ⟨A11, c11, rfl, o11, m⟩
    replace r0 := r0.mid m (Or.inl (Nat.zero_le _))
    replace o5 := o5.mid m (Or.inl (Nat.zero_le _))
    replace hm := hm.trans m
    clear m
    go_wp2_with fail
    with_reducible refine (sspec_CycleType A5 a c5 _ _ _ (OI.ri o5) hao hal t1 T1.out).mono ?_
    rintro e wa27 ⟨A12, c12, rfl, o12, m⟩
    replace r0 := r0.mid m (Or.inl (Nat.zero_le _))
    replace o5 := o5.mid m (Or.inl (Nat.zero_le _))
    replace o11 := o11.mid m (Or.inl (Nat.zero_le _))
    replace hm := hm.trans m
    clear m
    go_wp2_with fail
    with_reducible refine (sameInts_any A11 t1 c11 A12 t1 c12 _ _ _ _ _ (OI.ri o11) (OI.ri o12) hl1 hl1 true (by simp)).mono ?_
    rintro e wa28 ⟨rfl, m⟩
    replace r0 := r0.mid m (Or.inl (Nat.zero_le _))
    replace o5 := o5.mid m (Or.inl (Nat.zero_le _))
    replace o11 := o11.mid m (Or.inl (Nat.zero_le _))
    replace o12 := o12.mid m (Or.inl (Nat.zero_le _))
    replace hm := hm.trans m
    clear m
    clear o11 o12
    go_wp2_with fail
    with_reducible refine (simpl_OrderOfPermutation A5 a c5 _ _ _ (OI.ri o5) hao hal t2 T2.out).mono ?_
    rintro e wa29 ⟨rfl, m⟩
    replace r0 := r0.mid m (Or.inl (Nat.zero_le _))
    replace o5 := o5.mid m (Or.inl (Nat.zero_le _))
    replace hm := hm.trans m
    clear m
    go_wp2_with fail
    with_reducible refine (sspec_OrderOfPermutation A5 a c5 _ _ _ (OI.ri o5) hao hal t2 T2.out).mono ?_
    rintro e wa30 ⟨rfl, m⟩
    replace r0 := r0.mid m (Or.inl (Nat.zero_le _))
    replace o5 := o5.mid m (Or.inl (Nat.zero_le _))
    replace hm := hm.trans m
    clear m
    go_wp2_with fail
    with_reducible refine (simpl_FixedPoints A5 a c5 _ _ _ (OI.ri o5)  hal t3 T3.out).mono ?_
    rintro e wa31 ⟨A15, c15, rfl, o15, m⟩
    replace r0 := r0.mid m (Or.inl (Nat.zero_le _))
    replace o5 := o5.mid m (Or.inl (Nat.zero_le _))
    replace hm := hm.trans m
    clear m
    go_wp2_with fail
    with_reducible refine (sspec_FixedPoints A5 a c5 _ _ _ (OI.ri o5)  hal t3 T3.out).mono ?_
    rintro e wa32 ⟨A16, c16, rfl, o16, m⟩
    replace r0 := r0.mid m (Or.inl (Nat.zero_le _))
    replace o5 := o5.mid m (Or.inl (Nat.zero_le _))
    replace o15 := o15.mid m (Or.inl (Nat.zero_le _))
    replace hm := hm.trans m
    clear m
    go_wp2_with fail
    with_reducible refine (sameInts_any A15 t3 c15 A16 t3 c16 _ _ _ _ _ (OI.ri o15) (OI.ri o16) hl3 hl3 true (by simp)).mono ?_
    rintro e wa33 ⟨rfl, m⟩
    replace r0 := r0.mid m (Or.inl (Nat.zero_le _))
    replace o5 := o5.mid m (Or.inl (Nat.zero_le _))
    replace o15 := o15.mid m (Or.inl (Nat.zero_le _))
    replace o16 := o16.mid m (Or.inl (Nat.zero_le _))
    replace hm := hm.trans m
    clear m
    clear o15 o16
    go_wp2_with fail
    with_reducible refine (simpl_SignOf A5 a c5 _ _ _ (OI.ri o5) hao hal t4 T4.out).mono ?_
    rintro e wa34 ⟨rfl, m⟩
    replace r0 := r0.mid m (Or.inl (Nat.zero_le _))
    replace o5 := o5.mid m (Or.inl (Nat.zero_le _))
    replace hm := hm.trans m
    clear m
    go_wp2_with fail
    with_reducible refine (sspec_SignOf A5 a c5 _ _ _ (OI.ri o5) hao hal t4 T4.out).mono ?_
    rintro e wa35 ⟨rfl, m⟩
    replace r0 := r0.mid m (Or.inl (Nat.zero_le _))
    replace o5 := o5.mid m (Or.inl (Nat.zero_le _))
    replace hm := hm.trans m
    clear m
    go_wp2_with fail
    with_reducible refine (simpl_InversePermutation A5 a c5 _ _ _ (OI.ri o5)  hal t5 T5.out).mono ?_
    rintro e wa36 ⟨A19, c19, rfl, o19, m⟩
    replace r0 := r0.mid m (Or.inl (Nat.zero_le _))
    replace o5 := o5.mid m (Or.inl (Nat.zero_le _))
    replace hm := hm.trans m
    clear m
    go_wp2_with fail
    with_reducible refine (sspec_InversePermutation A5 a c5 _ _ _ (OI.ri o5)  hal t5 T5.out).mono ?_
    rintro e wa37 ⟨A20, c20, rfl, o20, m⟩
    replace r0 := r0.mid m (Or.inl (Nat.zero_le _))
    replace o5 := o5.mid m (Or.inl (Nat.zero_le _))
    replace o19 := o19.mid m (Or.inl (Nat.zero_le _))
    replace hm := hm.trans m
    clear m
    go_wp2_with fail
    with_reducible refine (sameInts_any A19 t5 c19 A20 t5 c20 _ _ _ _ _ (OI.ri o19) (OI.ri o20) hl5 hl5 true (by simp)).mono ?_
    rintro e wa38 ⟨rfl, m⟩
    replace r0 := r0.mid m (Or.inl (Nat.zero_le _))
    replace o5 := o5.mid m (Or.inl (Nat.zero_le _))
    replace o19 := o19.mid m (Or.inl (Nat.zero_le _))
    replace o20 := o20.mid m (Or.inl (Nat.zero_le _))
    replace hm := hm.trans m
    clear m
    clear o19 o20
    go_wp2_with fail
    with_reducible refine (simpl_IdentityPermutation z _ hzw  t6 T6.out).mono ?_
    rintro e wa39 ⟨A21, c21, rfl, o21, m⟩
    replace r0 := r0.mid m (Or.inl (Nat.zero_le _))
    replace o5 := o5.mid m (Or.inl (Nat.zero_le _))
    replace hm := hm.trans m
    clear m
    go_wp2_with fail
    with_reducible refine (sspec_IdentityPermutation z _ hzw  t6 T6.out).mono ?_
    rintro e wa40 ⟨A22, c22, rfl, o22, m⟩
    replace r0 := r0.mid m (Or.inl (Nat.zero_le _))
    replace o5 := o5.mid m (Or.inl (Nat.zero_le _))
    replace o21 := o21.mid m (Or.inl (Nat.zero_le _))
    replace hm := hm.trans m
    clear m
    go_wp2_with fail
    with_reducible refine (sameInts_any A21 t6 c21 A22 t6 c22 _ _ _ _ _ (OI.ri o21) (OI.ri o22) hl6 hl6 true (by simp)).mono ?_
    rintro e wa41 ⟨rfl, m⟩
    replace r0 := r0.mid m (Or.inl (Nat.zero_le _))
    replace o5 := o5.mid m (Or.inl (Nat.zero_le _))
    replace o21 := o21.mid m (Or.inl (Nat.zero_le _))
    replace o22 := o22.mid m (Or.inl (Nat.zero_le _))
    replace hm := hm.trans m
    clear m
    clear o21 o22
    go_wp2_with fail
    go_ret
    subst hL0
    exact ⟨rfl, hm.bel⟩
  have HP := Lib.hid hP
  have HR : Hid (IsPermutationIs p true) := Lib.hid (by simp [IsPermutationIs, hP])
  obtain ⟨idl, hid⟩ := IdentityPermutationIs_ex (p.length : Int)
  have hidl := IdentityPermutationIs_len hid
  have HI2 : Hid (idl = upto p.length) := Lib.hid (by rw [hid]; congr 1; have := hP.1; omega)
  have HI := Lib.hid hid
  obtain ⟨inv, hinv⟩ := InversePermutationIs_ex p hpl
  have hinvl := InversePermutationIs_len hinv hpl
  have HINV := Lib.hid hinv
  have HCI : Hid (ComposePermutationsIs p inv idl) := Lib.hid (ComposeIs_inv hP hinv HI2.out)
  obtain ⟨no, hno⟩ := OrderOfPermutationIs_ex p hpo hpl
  have HNO := Lib.hid hno
  obtain ⟨N, hN, hNo, hNb⟩ : ∃ N : Nat, no = (N : Int) ∧ N = ordN (cyc p) ∧ N ≤ 1099511627776 := by
    obtain ⟨cy, h1, h2, -⟩ := hno
    have e := h1.1 hP
    subst e
    refine ⟨_, h2 hP, rfl, ?_⟩
    have hf := cyc_facts hP
    have hall : ∀ k, k ≤ (cyc p).length → OrdAt (cyc p) k (ordN ((cyc p).take k)) := fun k => by
      induction k with
      | zero => exact fun _ => OrdAt.zero _
      | succ k ih =>
        intro hk
        obtain ⟨x, hx⟩ := get_of_lt (cyc p) hk
        have hx1 := hf.1 x (List.mem_of_getElem? hx)
        obtain ⟨c, rfl⟩ := Int.eq_ofNat_of_zero_le (by omega : 0 ≤ x)
        have h3 := OrdAt.succ hf.1 (ih (by omega)) hx
        have e : ordN ((cyc p).take (k + 1)) = ordN ((cyc p).take k) / Nat.gcd (ordN ((cyc p).take k)) c * c := by
          unfold ordN
          rw [take_succ_of _ hx, List.foldl_append]
          simp [ordStep]
        rw [e]
        exact h3
    have h3 := OrdAt.bound hf.1 hf.2 (hall _ (Nat.le_refl _))
    rwa [List.take_length] at h3
  have hnb1 : 0 ≤ no := by omega
  have hnb2 : no ≤ 1099511627776 := by omega
  have HN := Lib.hid hN
  have HNO2 := Lib.hid hNo
  have hwl := wf_small (x := (p.length : Int)) (by omega)
  clear hno hNo hinv hid hP hN hNb
  go_wp2_with fail
  with_reducible refine (simpl_IsPermutation A1 p c1 _ _ _ (OI.ri o1) hpl true HR.out).mono ?_
  rintro e wa61 ⟨rfl, m⟩
  replace r0 := r0.mid m (Or.inl (Nat.zero_le _))
  replace o1 := o1.mid m (Or.inl (Nat.zero_le _))
  replace o2 := o2.mid m (Or.inl (Nat.zero_le _))
  replace o3 := o3.mid m (Or.inl (Nat.zero_le _))
  replace hm := hm.trans m
  clear m
  go_wp2_with fail
  with_reducible refine (sspec_IsPermutation A1 p c1 _ _ _ (OI.ri o1) hpl true HR.out).mono ?_
  rintro e wa62 ⟨rfl, m⟩
  replace r0 := r0.mid m (Or.inl (Nat.zero_le _))
  replace o1 := o1.mid m (Or.inl (Nat.zero_le _))
  replace o2 := o2.mid m (Or.inl (Nat.zero_le _))
  replace o3 := o3.mid m (Or.inl (Nat.zero_le _))
  replace hm := hm.trans m
  clear m
  go_wp2_with fail
  with_reducible refine (sspec_IsPermutation A1 p c1 _ _ _ (OI.ri o1) hpl true HR.out).mono ?_
  rintro e wa63 ⟨rfl, m⟩
  replace r0 := r0.mid m (Or.inl (Nat.zero_le _))
  replace o1 := o1.mid m (Or.inl (Nat.zero_le _))
  replace o2 := o2.mid m (Or.inl (Nat.zero_le _))
  replace o3 := o3.mid m (Or.inl (Nat.zero_le _))
  replace hm := hm.trans m
  clear m
  go_wp2_with fail
  with_reducible refine (simpl_IdentityPermutation (p.length : Int) _ hwl idl HI.out).mono ?_
  rintro e wa64 ⟨A5, c5, rfl, o5, m⟩
  replace r0 := r0.mid m (Or.inl (Nat.zero_le _))
  replace o1 := o1.mid m (Or.inl (Nat.zero_le _))
  replace o2 := o2.mid m (Or.inl (Nat.zero_le _))
  replace o3 := o3.mid m (Or.inl (Nat.zero_le _))
  replace hm := hm.trans m
  clear m
  go_wp2_with fail
  with_reducible refine (simpl_InversePermutation A1 p c1 _ _ _ (OI.ri o1) hpl inv HINV.out).mono ?_
  rintro e wa65 ⟨A6, c6, rfl, o6, m⟩
  replace r0 := r0.mid m (Or.inl (Nat.zero_le _))
  replace o1 := o1.mid m (Or.inl (Nat.zero_le _))
  replace o2 := o2.mid m (Or.inl (Nat.zero_le _))
  replace o3 := o3.mid m (Or.inl (Nat.zero_le _))
  replace o5 := o5.mid m (Or.inl (Nat.zero_le _))
  replace hm := hm.trans m
  clear m
  go_wp2_with fail
  with_reducible refine (simpl_ComposePermutations A1 p c1 A6 inv c6 _ _ _ (OI.ri o1) hpl _ _ (OI.ri o6) hinvl idl HCI.out).mono ?_
  rintro e wa66 ⟨A7, c7, rfl, o7, m⟩
  replace r0 := r0.mid m (Or.inl (Nat.zero_le _))
  replace o1 := o1.mid m (Or.inl (Nat.zero_le _))
  replace o2 := o2.mid m (Or.inl (Nat.zero_le _))
  replace o3 := o3.mid m (Or.inl (Nat.zero_le _))
  replace o5 := o5.mid m (Or.inl (Nat.zero_le _))
  replace o6 := o6.mid m (Or.inl (Nat.zero_le _))
  replace hm := hm.trans m
  clear m
  go_wp2_with fail
  with_reducible refine (sameInts_any A7 idl c7 A5 idl c5 _ _ _ _ _ (OI.ri o7) (OI.ri o5) hidl hidl true (by simp)).mono ?_
  rintro e wa67 ⟨rfl, m⟩
  replace r0 := r0.mid m (Or.inl (Nat.zero_le _))
  replace o1 := o1.mid m (Or.inl (Nat.zero_le _))
  replace o2 := o2.mid m (Or.inl (Nat.zero_le _))
  replace o3 := o3.mid m (Or.inl (Nat.zero_le _))
  replace o5 := o5.mid m (Or.inl (Nat.zero_le _))
  replace o6 := o6.mid m (Or.inl (Nat.zero_le _))
  replace o7 := o7.mid m (Or.inl (Nat.zero_le _))
  replace hm := hm.trans m
  clear m
  clear o6 o7
  go_wp2_with fail
  with_reducible refine (simpl_OrderOfPermutation A1 p c1 _ _ _ (OI.ri o1) hpo hpl no HNO.out).mono ?_
  rintro e wa68 ⟨rfl, m⟩
  replace r0 := r0.mid m (Or.inl (Nat.zero_le _))
  replace o1 := o1.mid m (Or.inl (Nat.zero_le _))
  replace o2 := o2.mid m (Or.inl (Nat.zero_le _))
  replace o3 := o3.mid m (Or.inl (Nat.zero_le _))
  replace o5 := o5.mid m (Or.inl (Nat.zero_le _))
  replace hm := hm.trans m
  clear m
  go_wp2_with fail
  generalize hwb : wa68 = wb at r0 o1 o2 o3 o5 hm ⊢
  clear hwb
  have HID := Lib.hid hidl
  go_loopw [7, 9] (fun yv iv wr => ∃ (k : Nat) (j : Int) (Ay : Option Addr) (cy : Nat) (Y : List Int) (lo hi : Nat), iv = .int .i64 j ∧ Hid (j = (k : Int) + 1) ∧ 1 ≤ j ∧ j ≤ no + 1 ∧ yv = .slice Ay Y.length cy ∧ Hid (Y = powP p k) ∧ Y.length ≤ 1048576 ∧ RI wr lo hi Ay Y ∧ Mid 0 0 wb wr)
    (fun _ iv _ => (no + 1 - intOf iv).toNat)
  case atStart => exact ⟨0, 1, A5, c5, idl, _, _, rfl, Lib.hid rfl, by omega, by omega, rfl, Lib.hid (by rw [HI2.out, powP_zero]), HID.out, OI.ri o5, Mid.refl 0 0 wb⟩
  case round =>
    obtain ⟨k, j, Ay, cy, Y, lo, hi, rfl, HJ, hj1, hj2, rfl, HY, hYl, hry, hmr⟩ := hrel
    replace o1 := o1.mid hmr (Or.inl (Nat.zero_le _))
    replace o5 := o5.mid hmr (Or.inl (Nat.zero_le _))
    by_cases hlt : j ≤ no
    · have HC : Hid (ComposePermutationsIs Y p (powP p (k + 1))) := Lib.hid (ComposeIs_pow HP.out k HY.out)
      obtain ⟨Y2, hY2⟩ : ∃ l, powP p (k + 1) = l := ⟨_, rfl⟩
      have HY2 := Lib.hid hY2.symm
      rw [hY2] at HC
      have hY2l : Y2.length ≤ 1048576 := by rw [← hY2, powP_len]; exact hpl
      obtain ⟨r, hr⟩ : ∃ r, r = decide (k + 1 = N) := ⟨_, rfl⟩
      have HR2 : Hid (r = decide (Y2 = idl)) := Lib.hid (by rw [← hY2]; exact pow_hit HP.out HNO2.out HI2.out (by have := HJ.out; have := HN.out; omega) r hr)
      have heq : ((j == no) : Bool) = r := by
        have h1 := HJ.out
        have h2 := HN.out
        rw [hr]
        by_cases e : k + 1 = N
        · rw [decide_eq_true e]
          simp
          omega
        · rw [decide_eq_false e]
          simp
          omega
      clear hr hY2
      go_wp2_with fail
      with_reducible refine (sspec_ComposePermutations Ay Y cy A1 p c1 _ _ _ hry hYl _ _ (OI.ri o1) hpl Y2 HC.out).mono ?_
      rintro e w6 ⟨A6, c6, rfl, o6, m6⟩
      replace o1 := o1.mid m6 (Or.inl (Nat.zero_le _))
      replace o5 := o5.mid m6 (Or.inl (Nat.zero_le _))
      replace hmr := hmr.trans m6
      go_wp2_with fail
      with_reducible refine (sameInts_any A6 Y2 c6 A5 idl c5 _ _ _ _ _ (OI.ri o6) (OI.ri o5) hY2l HID.out r HR2.out).mono ?_
      rintro e w7 ⟨rfl, m7⟩
      replace o6 := o6.mid m7 (Or.inl (Nat.zero_le _))
      replace hmr := hmr.trans m7
      clear m6 m7 hry
      cases r
      · go_wp2_with fail
        go_roundw
        case rel => exact ⟨k + 1, j + 1, A6, c6, Y2, _, _, rfl, Lib.hid (by have := HJ.out; omega), by omega, by omega, rfl, HY2, hY2l, OI.ri o6, hmr⟩
        case measure => simp [intOf]; omega
      · go_wp2_with fail
        go_roundw
        case rel => exact ⟨k + 1, j + 1, A6, c6, Y2, _, _, rfl, Lib.hid (by have := HJ.out; omega), by omega, by omega, rfl, HY2, hY2l, OI.ri o6, hmr⟩
        case measure => simp [intOf]; omega
    · replace r0 := r0.mid hmr (Or.inl (Nat.zero_le _))
      replace o2 := o2.mid hmr (Or.inl (Nat.zero_le _))
      replace o3 := o3.mid hmr (Or.inl (Nat.zero_le _))
      replace hm := hm.trans hmr
      clear hmr hry HY o5 hj1 hj2 HJ hnb1 hnb2
      have HM := Lib.hid hm
      clear hm
      obtain ⟨kt, hkt⟩ := CycleTypeIs_ex p hpo hpl
      have hktl := CycleTypeIs_len hkt hpo hpl
      have hke : kt = cyc p := hkt.1 HP.out
      have HKP : Hid (∀ x ∈ kt, 1 ≤ x) := Lib.hid (by rw [hke]; exact (cyc_facts HP.out).1)
      have HKS : Hid (kt.sum = p.length) := Lib.hid (by rw [hke]; exact cyc_sum HP.out)
      have HK := Lib.hid hkt
      clear hkt hke
      have hm := HM.out
      clear HM
      by_cases hQ : IsPerm q
      rotate_left
      · have HRQ : Hid (IsPermutationIs q false) := Lib.hid (by simp [IsPermutationIs, hQ])
        clear hQ
        go_wp2_with fail
        with_reducible refine (sspec_IsPermutation A2 q c2 _ _ _ (OI.ri o2) hql false HRQ.out).mono ?_
        rintro e wa101 ⟨rfl, m⟩
        replace r0 := r0.mid m (Or.inl (Nat.zero_le _))
        replace o1 := o1.mid m (Or.inl (Nat.zero_le _))
        replace o2 := o2.mid m (Or.inl (Nat.zero_le _))
        replace o3 := o3.mid m (Or.inl (Nat.zero_le _))
        replace hm := hm.trans m
        clear m
        go_wp2_with fail
        with_reducible refine (simpl_CycleType A1 p c1 _ _ _ (OI.ri o1) hpo hpl kt HK.out).mono ?_
        rintro e wa102 ⟨A8, c8, rfl, o8, m⟩
        replace r0 := r0.mid m (Or.inl (Nat.zero_le _))
        replace o1 := o1.mid m (Or.inl (Nat.zero_le _))
        replace o2 := o2.mid m (Or.inl (Nat.zero_le _))
        replace o3 := o3.mid m (Or.inl (Nat.zero_le _))
        replace hm := hm.trans m
        clear m
        go_wp2_with fail
        generalize hwc : wa102 = wc at r0 o1 o2 o3 o8 hm ⊢
        clear hwc
        obtain ⟨K, hK⟩ : ∃ n, kt.length = n := ⟨_, rfl⟩
        have HKL := Lib.hid hK
        have HO8 := Lib.hid (OI.ri o8)
        have hPl2 : (p.length : Int) ≤ 60 := by omega
        rw [hK] at hktl ⊢
        clear hK o8
        go_loop [11, 12] (fun sv iv => ∃ (k : Nat) (s : Int), k ≤ K ∧ iv = .int .i64 k ∧ sv = .int .i64 s ∧ Hid (s = (kt.take k).sum) ∧ 0 ≤ s ∧ s ≤ p.length) (fun _ iv => K - (intOf iv).toNat)
        case atStart => exact ⟨0, 0, Nat.zero_le _, rfl, rfl, Lib.hid rfl, by omega, by omega⟩
        case round =>
          obtain ⟨k, s, hkK, rfl, rfl, HS, hs1, hs2⟩ := hrel
          by_cases hlt : k < K
          · obtain ⟨b, off, y, rfl, -, hy, hcy⟩ := HO8.out.rs.int (k := k) (by rw [HKL.out]; exact hlt)
            have hs3 : s + y = (kt.take (k + 1)).sum := by rw [take_succ_of kt hy, List.sum_append, HS.out]; simp
            have hy1 := HKP.out y (List.mem_of_getElem? hy)
            have hs4 := sum_take_le HKP.out (k + 1)
            rw [HKS.out, ← hs3] at hs4
            have HS3 := Lib.hid hs3
            have hs5 := hs4.1
            have hs6 := hs4.2
            clear hs3 hs4 hy
            go_wp2_with fail
            go_round
            case rel => exact ⟨k + 1, s + y, by omega, by go_num, rfl, HS3, hs5, hs6⟩
            case measure => simp [intOf]; omega
          · have hse : s = (p.length : Int) := by
              rw [HS.out, ← HKS.out, List.take_of_length_le (by rw [HKL.out]; omega)]
            subst hse
            clear HS hs1 hs2 hPl2 HKS HKP HO8
            clear o1 o2 o3
            go_wp2_with fail
            with_reducible refine (DrawCycleType_any A0 d0 c0 _ _ _o0 hl0 r0).mono ?_
            rintro e wa122 ⟨A5, c5, a, rfl, da, o5, m⟩
            replace r0 := r0.mid m (Or.inl (Nat.zero_le _))
            replace hm := hm.trans m
            clear m
            have hal := da.len
            have hao := da.ok
            go_wp2_with fail
            with_reducible refine (DrawIdentityPermutation_any A0 d0 c0 _ _ _o0 hl0 r0).mono ?_
            rintro e wa123 ⟨z, rfl, hz, m⟩
            replace r0 := r0.mid m (Or.inl (Nat.zero_le _))
            replace o5 := o5.mid m (Or.inl (Nat.zero_le _))
            replace hm := hm.trans m
            clear m
            obtain ⟨t1, ht1⟩ := CycleTypeIs_ex a hao hal
            have hl1 := CycleTypeIs_len ht1 hao hal
            have T1 := Lib.hid ht1
            obtain ⟨t2, ht2⟩ := OrderOfPermutationIs_ex a hao hal
            have T2 := Lib.hid ht2
            obtain ⟨t3, ht3⟩ := FixedPointsIs_ex a hal
            have hl3 := FixedPointsIs_len ht3 hal
            have T3 := Lib.hid ht3
            obtain ⟨t4, ht4⟩ := SignOfIs_ex a hao hal
            have T4 := Lib.hid ht4
            obtain ⟨t5, ht5⟩ := InversePermutationIs_ex a hal
            have hl5 := InversePermutationIs_len ht5 hal
            have T5 := Lib.hid ht5
            obtain ⟨t6, ht6⟩ := IdentityPermutationIs_ex z
            have hl6 := IdentityPermutationIs_len ht6
            have T6 := Lib.hid ht6
            have hzw := wf_small (x := z) (by omega)
            clear ht1 ht2 ht3 ht4 ht5 ht6 da
            go_wp2_with fail
            with_reducible refine (simpl_CycleType A5 a c5 _ _ _ (OI.ri o5) hao hal t1 T1.out).mono ?_
            rintro e wa124 ⟨A11, c11, rfl, o11, m⟩
            replace r0 := r0.mid m (Or.inl (Nat.zero_le _))
            replace o5 := o5.mid m (Or.inl (Nat.zero_le _))
            replace hm := hm.trans m
            clear m
            go_wp2_with fail
            with_reducible refine (sspec_CycleType A5 a c5 _ _ _ (OI.ri o5) hao hal t1 T1.out).mono ?_
            rintro e wa125 ⟨A12, c12, rfl, o12, m⟩
            replace r0 := r0.mid m (Or.inl (Nat.zero_le _))
            replace o5 := o5.mid m (Or.inl (Nat.zero_le _))
            replace o11 := o11.mid m (Or.inl (Nat.zero_le _))
            replace hm := hm.trans m
            clear m
            go_wp2_with fail
            with_reducible refine (sameInts_any A11 t1 c11 A12 t1 c12 _ _ _ _ _ (OI.ri o11) (OI.ri o12) hl1 hl1 true (by simp)).mono ?_
            rintro e wa126 ⟨rfl, m⟩
            replace r0 := r0.mid m (Or.inl (Nat.zero_le _))
            replace o5 := o5.mid m (Or.inl (Nat.zero_le _))
            replace o11 := o11.mid m (Or.inl (Nat.zero_le _))
            replace o12 := o12.mid m (Or.inl (Nat.zero_le _))
            replace hm := hm.trans m
            clear m
            clear o11 o12
            go_wp2_with fail
            with_reducible refine (simpl_OrderOfPermutation A5 a c5 _ _ _ (OI.ri o5) hao hal t2 T2.out).mono ?_
            rintro e wa127 ⟨rfl, m⟩
            replace r0 := r0.mid m (Or.inl (Nat.zero_le _))
            replace o5 := o5.mid m (Or.inl (Nat.zero_le _))
            replace hm := hm.trans m
            clear m
            go_wp2_with fail
            with_reducible refine (sspec_OrderOfPermutation A5 a c5 _ _ _ (OI.ri o5) hao hal t2 T2.out).mono ?_
            rintro e wa128 ⟨rfl, m⟩
            replace r0 := r0.mid m (Or.inl (Nat.zero_le _))
            replace o5 := o5.mid m (Or.inl (Nat.zero_le _))
            replace hm := hm.trans m
            clear m
            go_wp2_with fail
            with_reducible refine (simpl_FixedPoints A5 a c5 _ _ _ (OI.ri o5)  hal t3 T3.out).mono ?_
            rintro e wa129 ⟨A15, c15, rfl, o15, m⟩
            replace r0 := r0.mid m (Or.inl (Nat.zero_le _))
            replace o5 := o5.mid m (Or.inl (Nat.zero_le _))
            replace hm := hm.trans m
            clear m
            go_wp2_with fail
            with_reducible refine (sspec_FixedPoints A5 a c5 _ _ _ (OI.ri o5)  hal t3 T3.out).mono ?_
            rintro e wa130 ⟨A16, c16, rfl, o16, m⟩
            replace r0 := r0.mid m (Or.inl (Nat.zero_le _))
            replace o5 := o5.mid m (Or.inl (Nat.zero_le _))
            replace o15 := o15.mid m (Or.inl (Nat.zero_le _))
            replace hm := hm.trans m
            clear m
            go_wp2_with fail
            with_reducible refine (sameInts_any A15 t3 c15 A16 t3 c16 _ _ _ _ _ (OI.ri o15) (OI.ri o16) hl3 hl3 true (by simp)).mono ?_
            rintro e wa131 ⟨rfl, m⟩
            replace r0 := r0.mid m (Or.inl (Nat.zero_le _))
            replace o5 := o5.mid m (Or.inl (Nat.zero_le _))
            replace o15 := o15.mid m (Or.inl (Nat.zero_le _))
            replace o16 := o16.mid m (Or.inl (Nat.zero_le _))
            replace hm := hm.trans m
            clear m
            clear o15 o16
            go_wp2_with fail
            with_reducible refine (simpl_SignOf A5 a c5 _ _ _ (OI.ri o5) hao hal t4 T4.out).mono ?_
            rintro e wa132 ⟨rfl, m⟩
            replace r0 := r0.mid m (Or.inl (Nat.zero_le _))
            replace o5 := o5.mid m (Or.inl (Nat.zero_le _))
            replace hm := hm.trans m
            clear m
            go_wp2_with fail
            with_reducible refine (sspec_SignOf A5 a c5 _ _ _ (OI.ri o5) hao hal t4 T4.out).mono ?_
            rintro e wa133 ⟨rfl, m⟩
            replace r0 := r0.mid m (Or.inl (Nat.zero_le _))
            replace o5 := o5.mid m (Or.inl (Nat.zero_le _))
            replace hm := hm.trans m
            clear m
            go_wp2_with fail
            with_reducible refine (simpl_InversePermutation A5 a c5 _ _ _ (OI.ri o5)  hal t5 T5.out).mono ?_
            rintro e wa134 ⟨A19, c19, rfl, o19, m⟩
            replace r0 := r0.mid m (Or.inl (Nat.zero_le _))
            replace o5 := o5.mid m (Or.inl (Nat.zero_le _))
            replace hm := hm.trans m
            clear m
            go_wp2_with fail
            with_reducible refine (sspec_InversePermutation A5 a c5 _ _ _ (OI.ri o5)  hal t5 T5.out).mono ?_
            rintro e wa135 ⟨A20, c20, rfl, o20, m⟩
            replace r0 := r0.mid m (Or.inl (Nat.zero_le _))
            replace o5 := o5.mid m (Or.inl (Nat.zero_le _))
            replace o19 := o19.mid m (Or.inl (Nat.zero_le _))
            replace hm := hm.trans m
            clear m
            go_wp2_with fail
            with_reducible refine (sameInts_any A19 t5 c19 A20 t5 c20 _ _ _ _ _ (OI.ri o19) (OI.ri o20) hl5 hl5 true (by simp)).mono ?_
            rintro e wa136 ⟨rfl, m⟩
            replace r0 := r0.mid m (Or.inl (Nat.zero_le _))
            replace o5 := o5.mid m (Or.inl (Nat.zero_le _))
            replace o19 := o19.mid m (Or.inl (Nat.zero_le _))
            replace o20 := o20.mid m (Or.inl (Nat.zero_le _))
            replace hm := hm.trans m
            clear m
            clear o19 o20
            go_wp2_with fail
            with_reducible refine (simpl_IdentityPermutation z _ hzw  t6 T6.out).mono ?_
            rintro e wa137 ⟨A21, c21, rfl, o21, m⟩
            replace r0 := r0.mid m (Or.inl (Nat.zero_le _))
            replace o5 := o5.mid m (Or.inl (Nat.zero_le _))
            replace hm := hm.trans m
            clear m
            go_wp2_with fail
            with_reducible refine (sspec_IdentityPermutation z _ hzw  t6 T6.out).mono ?_
            rintro e wa138 ⟨A22, c22, rfl, o22, m⟩
            replace r0 := r0.mid m (Or.inl (Nat.zero_le _))
            replace o5 := o5.mid m (Or.inl (Nat.zero_le _))
            replace o21 := o21.mid m (Or.inl (Nat.zero_le _))
            replace hm := hm.trans m
            clear m
            go_wp2_with fail
            with_reducible refine (sameInts_any A21 t6 c21 A22 t6 c22 _ _ _ _ _ (OI.ri o21) (OI.ri o22) hl6 hl6 true (by simp)).mono ?_
            rintro e wa139 ⟨rfl, m⟩
            replace r0 := r0.mid m (Or.inl (Nat.zero_le _))
            replace o5 := o5.mid m (Or.inl (Nat.zero_le _))
            replace o21 := o21.mid m (Or.inl (Nat.zero_le _))
            replace o22 := o22.mid m (Or.inl (Nat.zero_le _))
            replace hm := hm.trans m
            clear m
            clear o21 o22
            go_wp2_with fail
            go_ret
            subst hL0
            exact ⟨rfl, hm.bel⟩
      · have HRQ : Hid (IsPermutationIs q true) := Lib.hid (by simp [IsPermutationIs, hQ])
        have HQ := Lib.hid hQ
        clear hQ
        go_wp2_with fail
        with_reducible refine (sspec_IsPermutation A2 q c2 _ _ _ (OI.ri o2) hql true HRQ.out).mono ?_
        rintro e wa201 ⟨rfl, m⟩
        replace r0 := r0.mid m (Or.inl (Nat.zero_le _))
        replace o1 := o1.mid m (Or.inl (Nat.zero_le _))
        replace o2 := o2.mid m (Or.inl (Nat.zero_le _))
        replace o3 := o3.mid m (Or.inl (Nat.zero_le _))
        replace hm := hm.trans m
        clear m
        by_cases hlen : p.length = q.length
        rotate_left
        · have hlen2 : (((p.length : Int) == (q.length : Int)) : Bool) = false := by simp; omega
          clear hlen
          go_wp2_with fail
          with_reducible refine (simpl_CycleType A1 p c1 _ _ _ (OI.ri o1) hpo hpl kt HK.out).mono ?_
          rintro e wa202 ⟨A8, c8, rfl, o8, m⟩
          replace r0 := r0.mid m (Or.inl (Nat.zero_le _))
          replace o1 := o1.mid m (Or.inl (Nat.zero_le _))
          replace o2 := o2.mid m (Or.inl (Nat.zero_le _))
          replace o3 := o3.mid m (Or.inl (Nat.zero_le _))
          replace hm := hm.trans m
          clear m
          go_wp2_with fail
          generalize hwc : wa202 = wc at r0 o1 o2 o3 o8 hm ⊢
          clear hwc
          obtain ⟨K, hK⟩ : ∃ n, kt.length = n := ⟨_, rfl⟩
          have HKL := Lib.hid hK
          have HO8 := Lib.hid (OI.ri o8)
          have hPl2 : (p.length : Int) ≤ 60 := by omega
          rw [hK] at hktl ⊢
          clear hK o8
          go_loop [11, 12] (fun sv iv => ∃ (k : Nat) (s : Int), k ≤ K ∧ iv = .int .i64 k ∧ sv = .int .i64 s ∧ Hid (s = (kt.take k).sum) ∧ 0 ≤ s ∧ s ≤ p.length) (fun _ iv => K - (intOf iv).toNat)
          case atStart => exact ⟨0, 0, Nat.zero_le _, rfl, rfl, Lib.hid rfl, by omega, by omega⟩
          case round =>
            obtain ⟨k, s, hkK, rfl, rfl, HS, hs1, hs2⟩ := hrel
            by_cases hlt : k < K
            · obtain ⟨b, off, y, rfl, -, hy, hcy⟩ := HO8.out.rs.int (k := k) (by rw [HKL.out]; exact hlt)
              have hs3 : s + y = (kt.take (k + 1)).sum := by rw [take_succ_of kt hy, List.sum_append, HS.out]; simp
              have hy1 := HKP.out y (List.mem_of_getElem? hy)
              have hs4 := sum_take_le HKP.out (k + 1)
              rw [HKS.out, ← hs3] at hs4
              have HS3 := Lib.hid hs3
              have hs5 := hs4.1
              have hs6 := hs4.2
              clear hs3 hs4 hy
              go_wp2_with fail
              go_round
              case rel => exact ⟨k + 1, s + y, by omega, by go_num, rfl, HS3, hs5, hs6⟩
              case measure => simp [intOf]; omega
            · have hse : s = (p.length : Int) := by
                rw [HS.out, ← HKS.out, List.take_of_length_le (by rw [HKL.out]; omega)]
              subst hse
              clear HS hs1 hs2 hPl2 HKS HKP HO8
              clear o1 o2 o3
              go_wp2_with fail
              with_reducible refine (DrawCycleType_any A0 d0 c0 _ _ _o0 hl0 r0).mono ?_
              rintro e wa222 ⟨A5, c5, a, rfl, da, o5, m⟩
              replace r0 := r0.mid m (Or.inl (Nat.zero_le _))
              replace hm := hm.trans m
              clear m
              have hal := da.len
              have hao := da.ok
              go_wp2_with fail
              with_reducible refine (DrawIdentityPermutation_any A0 d0 c0 _ _ _o0 hl0 r0).mono ?_
              rintro e wa223 ⟨z, rfl, hz, m⟩
              replace r0 := r0.mid m (Or.inl (Nat.zero_le _))
              replace o5 := o5.mid m (Or.inl (Nat.zero_le _))
              replace hm := hm.trans m
              clear m
              obtain ⟨t1, ht1⟩ := CycleTypeIs_ex a hao hal
              have hl1 := CycleTypeIs_len ht1 hao hal
              have T1 := Lib.hid ht1
              obtain ⟨t2, ht2⟩ := OrderOfPermutationIs_ex a hao hal
              have T2 := Lib.hid ht2
              obtain ⟨t3, ht3⟩ := FixedPointsIs_ex a hal
              have hl3 := FixedPointsIs_len ht3 hal
              have T3 := Lib.hid ht3
              obtain ⟨t4, ht4⟩ := SignOfIs_ex a hao hal
              have T4 := Lib.hid ht4
              obtain ⟨t5, ht5⟩ := InversePermutationIs_ex a hal
              have hl5 := InversePermutationIs_len ht5 hal
              have T5 := Lib.hid ht5
              obtain ⟨t6, ht6⟩ := IdentityPermutationIs_ex z
              have hl6 := IdentityPermutationIs_len ht6
              have T6 := Lib.hid ht6
              have hzw := wf_small (x := z) (by omega)
              clear ht1 ht2 ht3 ht4 ht5 ht6 da
              go_wp2_with fail
              with_reducible refine (simpl_CycleType A5 a c5 _ _ _ (OI.ri o5) hao hal t1 T1.out).mono ?_
              rintro e wa224 ⟨A11, c11, rfl, o11, m⟩
              replace r0 := r0.mid m (Or.inl (Nat.zero_le _))
              replace o5 := o5.mid m (Or.inl (Nat.zero_le _))
              replace hm := hm.trans m
              clear m
              go_wp2_with fail
              with_reducible refine (sspec_CycleType A5 a c5 _ _ _ (OI.ri o5) hao hal t1 T1.out).mono ?_
              rintro e wa225 ⟨A12, c12, rfl, o12, m⟩
              replace r0 := r0.mid m (Or.inl (Nat.zero_le _))
              replace o5 := o5.mid m (Or.inl (Nat.zero_le _))
              replace o11 := o11.mid m (Or.inl (Nat.zero_le _))
              replace hm := hm.trans m
              clear m
              go_wp2_with fail
              with_reducible refine (sameInts_any A11 t1 c11 A12 t1 c12 _ _ _ _ _ (OI.ri o11) (OI.ri o12) hl1 hl1 true (by simp)).mono ?_
              rintro e wa226 ⟨rfl, m⟩
              replace r0 := r0.mid m (Or.inl (Nat.zero_le _))
              replace o5 := o5.mid m (Or.inl (Nat.zero_le _))
              replace o11 := o11.mid m (Or.inl (Nat.zero_le _))
              replace o12 := o12.mid m (Or.inl (Nat.zero_le _))
              replace hm := hm.trans m
              clear m
              clear o11 o12
              go_wp2_with fail
              with_reducible refine (simpl_OrderOfPermutation A5 a c5 _ _ _ (OI.ri o5) hao hal t2 T2.out).mono ?_
              rintro e wa227 ⟨rfl, m⟩
              replace r0 := r0.mid m (Or.inl (Nat.zero_le _))
              replace o5 := o5.mid m (Or.inl (Nat.zero_le _))
              replace hm := hm.trans m
              clear m
              go_wp2_with fail
              with_reducible refine (sspec_OrderOfPermutation A5 a c5 _ _ _ (OI.ri o5) hao hal t2 T2.out).mono ?_
              rintro e wa228 ⟨rfl, m⟩
              replace r0 := r0.mid m (Or.inl (Nat.zero_le _))
              replace o5 := o5.mid m (Or.inl (Nat.zero_le _))
              replace hm := hm.trans m
              clear m
              go_wp2_with fail
              with_reducible refine (simpl_FixedPoints A5 a c5 _ _ _ (OI.ri o5)  hal t3 T3.out).mono ?_
              rintro e wa229 ⟨A15, c15, rfl, o15, m⟩
              replace r0 := r0.mid m (Or.inl (Nat.zero_le _))
              replace o5 := o5.mid m (Or.inl (Nat.zero_le _))
              replace hm := hm.trans m
              clear m
              go_wp2_with fail
              with_reducible refine (sspec_FixedPoints A5 a c5 _ _ _ (OI.ri o5)  hal t3 T3.out).mono ?_
              rintro e wa230 ⟨A16, c16, rfl, o16, m⟩
              replace r0 := r0.mid m (Or.inl (Nat.zero_le _))
              replace o5 := o5.mid m (Or.inl (Nat.zero_le _))
              replace o15 := o15.mid m (Or.inl (Nat.zero_le _))
              replace hm := hm.trans m
              clear m
              go_wp2_with fail
              with_reducible refine (sameInts_any A15 t3 c15 A16 t3 c16 _ _ _ _ _ (OI.ri o15) (OI.ri o16) hl3 hl3 true (by simp)).mono ?_
              rintro e wa231 ⟨rfl, m⟩
              replace r0 := r0.mid m (Or.inl (Nat.zero_le _))
              replace o5 := o5.mid m (Or.inl (Nat.zero_le _))
              replace o15 := o15.mid m (Or.inl (Nat.zero_le _))
              replace o16 := o16.mid m (Or.inl (Nat.zero_le _))
              replace hm := hm.trans m
              clear m
              clear o15 o16
              go_wp2_with fail
              with_reducible refine (simpl_SignOf A5 a c5 _ _ _ (OI.ri o5) hao hal t4 T4.out).mono ?_
              rintro e wa232 ⟨rfl, m⟩
              replace r0 := r0.mid m (Or.inl (Nat.zero_le _))
              replace o5 := o5.mid m (Or.inl (Nat.zero_le _))
              replace hm := hm.trans m
              clear m
              go_wp2_with fail
              with_reducible refine (sspec_SignOf A5 a c5 _ _ _ (OI.ri o5) hao hal t4 T4.out).mono ?_
              rintro e wa233 ⟨rfl, m⟩
              replace r0 := r0.mid m (Or.inl (Nat.zero_le _))
              replace o5 := o5.mid m (Or.inl (Nat.zero_le _))
              replace hm := hm.trans m
              clear m
              go_wp2_with fail
              with_reducible refine (simpl_InversePermutation A5 a c5 _ _ _ (OI.ri o5)  hal t5 T5.out).mono ?_
              rintro e wa234 ⟨A19, c19, rfl, o19, m⟩
              replace r0 := r0.mid m (Or.inl (Nat.zero_le _))
              replace o5 := o5.mid m (Or.inl (Nat.zero_le _))
              replace hm := hm.trans m
              clear m
              go_wp2_with fail
              with_reducible refine (sspec_InversePermutation A5 a c5 _ _ _ (OI.ri o5)  hal t5 T5.out).mono ?_
              rintro e wa235 ⟨A20, c20, rfl, o20, m⟩
              replace r0 := r0.mid m (Or.inl (Nat.zero_le _))
              replace o5 := o5.mid m (Or.inl (Nat.zero_le _))
              replace o19 := o19.mid m (Or.inl (Nat.zero_le _))
              replace hm := hm.trans m
              clear m
              go_wp2_with fail
              with_reducible refine (sameInts_any A19 t5 c19 A20 t5 c20 _ _ _ _ _ (OI.ri o19) (OI.ri o20) hl5 hl5 true (by simp)).mono ?_
              rintro e wa236 ⟨rfl, m⟩
              replace r0 := r0.mid m (Or.inl (Nat.zero_le _))
              replace o5 := o5.mid m (Or.inl (Nat.zero_le _))
              replace o19 := o19.mid m (Or.inl (Nat.zero_le _))
              replace o20 := o20.mid m (Or.inl (Nat.zero_le _))
              replace hm := hm.trans m
              clear m
              clear o19 o20
              go_wp2_with fail
              with_reducible refine (simpl_IdentityPermutation z _ hzw  t6 T6.out).mono ?_
              rintro e wa237 ⟨A21, c21, rfl, o21, m⟩
              replace r0 := r0.mid m (Or.inl (Nat.zero_le _))
              replace o5 := o5.mid m (Or.inl (Nat.zero_le _))
              replace hm := hm.trans m
              clear m
              go_wp2_with fail
              with_reducible refine (sspec_IdentityPermutation z _ hzw  t6 T6.out).mono ?_
              rintro e wa238 ⟨A22, c22, rfl, o22, m⟩
              replace r0 := r0.mid m (Or.inl (Nat.zero_le _))
              replace o5 := o5.mid m (Or.inl (Nat.zero_le _))
              replace o21 := o21.mid m (Or.inl (Nat.zero_le _))
              replace hm := hm.trans m
              clear m
              go_wp2_with fail
              with_reducible refine (sameInts_any A21 t6 c21 A22 t6 c22 _ _ _ _ _ (OI.ri o21) (OI.ri o22) hl6 hl6 true (by simp)).mono ?_
              rintro e wa239 ⟨rfl, m⟩
              replace r0 := r0.mid m (Or.inl (Nat.zero_le _))
              replace o5 := o5.mid m (Or.inl (Nat.zero_le _))
              replace o21 := o21.mid m (Or.inl (Nat.zero_le _))
              replace o22 := o22.mid m (Or.inl (Nat.zero_le _))
              replace hm := hm.trans m
              clear m
              clear o21 o22
              go_wp2_with fail
              go_ret
              subst hL0
              exact ⟨rfl, hm.bel⟩
        · have hlen2 : (((p.length : Int) == (q.length : Int)) : Bool) = true := by simp; omega
          have hxe : x = composeP p q := HX.out.1 ⟨HP.out, HQ.out, hlen⟩
          have hxp : IsPerm x := by rw [hxe]; exact (compose_perm HP.out HQ.out hlen).1
          have hxo : OkI x := fun v hv => by have := hxp.2.1 v hv; have := hxp.1; omega
          obtain ⟨sx, hsx⟩ := SignOfIs_ex x hxo hxl
          obtain ⟨sp, hsp⟩ := SignOfIs_ex p hpo hpl
          obtain ⟨sq, hsq⟩ := SignOfIs_ex q hqo hql
          have e1 := sign_val hsx hxp
          have e2 := sign_val hsp HP.out
          have e3 := sign_val hsq HQ.out
          have emul : sx = sp * sq := by rw [e1, e2, e3, hxe]; exact sgn_comp HP.out HQ.out hlen
          have hsx1 : sx = 1 ∨ sx = -1 := by rw [e1]; exact sgn_cases x
          have ew : IntKind.i64.wrap (sp * sq) = sx := by rw [← emul]; exact IntWalk.i64_in _ (by omega)
          have ew2 : wrap64 (sp * sq) = sx := by rw [← emul]; unfold wrap64; omega
          have HSX := Lib.hid hsx
          have HSP := Lib.hid hsp
          have HSQ := Lib.hid hsq
          clear e1 e2 e3 emul hsx1 hxe hxp hsx hsp hsq hlen
          go_wp2_with fail
          with_reducible refine (simpl_SignOf A3 x c3 _ _ _ (OI.ri o3) hxo hxl sx HSX.out).mono ?_
          rintro e wa301 ⟨rfl, m⟩
          replace r0 := r0.mid m (Or.inl (Nat.zero_le _))
          replace o1 := o1.mid m (Or.inl (Nat.zero_le _))
          replace o2 := o2.mid m (Or.inl (Nat.zero_le _))
          replace o3 := o3.mid m (Or.inl (Nat.zero_le _))
          replace hm := hm.trans m
          clear m
          go_wp2_with fail
          with_reducible refine (simpl_SignOf A1 p c1 _ _ _ (OI.ri o1) hpo hpl sp HSP.out).mono ?_
          rintro e wa302 ⟨rfl, m⟩
          replace r0 := r0.mid m (Or.inl (Nat.zero_le _))
          replace o1 := o1.mid m (Or.inl (Nat.zero_le _))
          replace o2 := o2.mid m (Or.inl (Nat.zero_le _))
          replace o3 := o3.mid m (Or.inl (Nat.zero_le _))
          replace hm := hm.trans m
          clear m
          go_wp2_with fail
          with_reducible refine (simpl_SignOf A2 q c2 _ _ _ (OI.ri o2) hqo hql sq HSQ.out).mono ?_
          rintro e wa303 ⟨rfl, m⟩
          replace r0 := r0.mid m (Or.inl (Nat.zero_le _))
          replace o1 := o1.mid m (Or.inl (Nat.zero_le _))
          replace o2 := o2.mid m (Or.inl (Nat.zero_le _))
          replace o3 := o3.mid m (Or.inl (Nat.zero_le _))
          replace hm := hm.trans m
          clear m
          go_wp2_with fail
          with_reducible refine (simpl_CycleType A1 p c1 _ _ _ (OI.ri o1) hpo hpl kt HK.out).mono ?_
          rintro e wa304 ⟨A8, c8, rfl, o8, m⟩
          replace r0 := r0.mid m (Or.inl (Nat.zero_le _))
          replace o1 := o1.mid m (Or.inl (Nat.zero_le _))
          replace o2 := o2.mid m (Or.inl (Nat.zero_le _))
          replace o3 := o3.mid m (Or.inl (Nat.zero_le _))
          replace hm := hm.trans m
          clear m
          go_wp2_with fail
          generalize hwc : wa304 = wc at r0 o1 o2 o3 o8 hm ⊢
          clear hwc
          obtain ⟨K, hK⟩ : ∃ n, kt.length = n := ⟨_, rfl⟩
          have HKL := Lib.hid hK
          have HO8 := Lib.hid (OI.ri o8)
          have hPl2 : (p.length : Int) ≤ 60 := by omega
          rw [hK] at hktl ⊢
          clear hK o8
          go_loop [11, 12] (fun sv iv => ∃ (k : Nat) (s : Int), k ≤ K ∧ iv = .int .i64 k ∧ sv = .int .i64 s ∧ Hid (s = (kt.take k).sum) ∧ 0 ≤ s ∧ s ≤ p.length) (fun _ iv => K - (intOf iv).toNat)
          case atStart => exact ⟨0, 0, Nat.zero_le _, rfl, rfl, Lib.hid rfl, by omega, by omega⟩
          case round =>
            obtain ⟨k, s, hkK, rfl, rfl, HS, hs1, hs2⟩ := hrel
            by_cases hlt : k < K
            · obtain ⟨b, off, y, rfl, -, hy, hcy⟩ := HO8.out.rs.int (k := k) (by rw [HKL.out]; exact hlt)
              have hs3 : s + y = (kt.take (k + 1)).sum := by rw [take_succ_of kt hy, List.sum_append, HS.out]; simp
              have hy1 := HKP.out y (List.mem_of_getElem? hy)
              have hs4 := sum_take_le HKP.out (k + 1)
              rw [HKS.out, ← hs3] at hs4
              have HS3 := Lib.hid hs3
              have hs5 := hs4.1
              have hs6 := hs4.2
              clear hs3 hs4 hy
              go_wp2_with fail
              go_round
              case rel => exact ⟨k + 1, s + y, by omega, by go_num, rfl, HS3, hs5, hs6⟩
              case measure => simp [intOf]; omega
            · have hse : s = (p.length : Int) := by
                rw [HS.out, ← HKS.out, List.take_of_length_le (by rw [HKL.out]; omega)]
              subst hse
              clear HS hs1 hs2 hPl2 HKS HKP HO8
              clear o1 o2 o3
              go_wp2_with fail
              with_reducible refine (DrawCycleType_any A0 d0 c0 _ _ _o0 hl0 r0).mono ?_
              rintro e wa324 ⟨A5, c5, a, rfl, da, o5, m⟩
              replace r0 := r0.mid m (Or.inl (Nat.zero_le _))
              replace hm := hm.trans m
              clear m
              have hal := da.len
              have hao := da.ok
              go_wp2_with fail
              with_reducible refine (DrawIdentityPermutation_any A0 d0 c0 _ _ _o0 hl0 r0).mono ?_
              rintro e wa325 ⟨z, rfl, hz, m⟩
              replace r0 := r0.mid m (Or.inl (Nat.zero_le _))
              replace o5 := o5.mid m (Or.inl (Nat.zero_le _))
              replace hm := hm.trans m
              clear m
              obtain ⟨t1, ht1⟩ := CycleTypeIs_ex a hao hal
              have hl1 := CycleTypeIs_len ht1 hao hal
              have T1 := Lib.hid ht1
              obtain ⟨t2, ht2⟩ := OrderOfPermutationIs_ex a hao hal
              have T2 := Lib.hid ht2
              obtain ⟨t3, ht3⟩ := FixedPointsIs_ex a hal
              have hl3 := FixedPointsIs_len ht3 hal
              have T3 := Lib.hid ht3
              obtain ⟨t4, ht4⟩ := SignOfIs_ex a hao hal
              have T4 := Lib.hid ht4
              obtain ⟨t5, ht5⟩ := InversePermutationIs_ex a hal
              have hl5 := InversePermutationIs_len ht5 hal
              have T5 := Lib.hid ht5
              obtain ⟨t6, ht6⟩ := IdentityPermutationIs_ex z
              have hl6 := IdentityPermutationIs_len ht6
              have T6 := Lib.hid ht6
              have hzw := wf_small (x := z) (by omega)
              clear ht1 ht2 ht3 ht4 ht5 ht6 da
              go_wp2_with fail
              with_reducible refine (simpl_CycleType A5 a c5 _ _ _ (OI.ri o5) hao hal t1 T1.out).mono ?_
              rintro e wa326 ⟨A11, c11, rfl, o11, m⟩
              replace r0 := r0.mid m (Or.inl (Nat.zero_le _))
              replace o5 := o5.mid m (Or.inl (Nat.zero_le _))
              replace hm := hm.trans m
              clear m
              go_wp2_with fail
              with_reducible refine (sspec_CycleType A5 a c5 _ _ _ (OI.ri o5) hao hal t1 T1.out).mono ?_
              rintro e wa327 ⟨A12, c12, rfl, o12, m⟩
              replace r0 := r0.mid m (Or.inl (Nat.zero_le _))
              replace o5 := o5.mid m (Or.inl (Nat.zero_le _))
              replace o11 := o11.mid m (Or.inl (Nat.zero_le _))
              replace hm := hm.trans m
              clear m
              go_wp2_with fail
              with_reducible refine (sameInts_any A11 t1 c11 A12 t1 c12 _ _ _ _ _ (OI.ri o11) (OI.ri o12) hl1 hl1 true (by simp)).mono ?_
              rintro e wa328 ⟨rfl, m⟩
              replace r0 := r0.mid m (Or.inl (Nat.zero_le _))
              replace o5 := o5.mid m (Or.inl (Nat.zero_le _))
              replace o11 := o11.mid m (Or.inl (Nat.zero_le _))
              replace o12 := o12.mid m (Or.inl (Nat.zero_le _))
              replace hm := hm.trans m
              clear m
              clear o11 o12
              go_wp2_with fail
              with_reducible refine (simpl_OrderOfPermutation A5 a c5 _ _ _ (OI.ri o5) hao hal t2 T2.out).mono ?_
              rintro e wa329 ⟨rfl, m⟩
              replace r0 := r0.mid m (Or.inl (Nat.zero_le _))
              replace o5 := o5.mid m (Or.inl (Nat.zero_le _))
              replace hm := hm.trans m
              clear m
              go_wp2_with fail
              with_reducible refine (sspec_OrderOfPermutation A5 a c5 _ _ _ (OI.ri o5) hao hal t2 T2.out).mono ?_
              rintro e wa330 ⟨rfl, m⟩
              replace r0 := r0.mid m (Or.inl (Nat.zero_le _))
              replace o5 := o5.mid m (Or.inl (Nat.zero_le _))
              replace hm := hm.trans m
              clear m
              go_wp2_with fail
              with_reducible refine (simpl_FixedPoints A5 a c5 _ _ _ (OI.ri o5)  hal t3 T3.out).mono ?_
              rintro e wa331 ⟨A15, c15, rfl, o15, m⟩
              replace r0 := r0.mid m (Or.inl (Nat.zero_le _))
              replace o5 := o5.mid m (Or.inl (Nat.zero_le _))
              replace hm := hm.trans m
              clear m
              go_wp2_with fail
              with_reducible refine (sspec_FixedPoints A5 a c5 _ _ _ (OI.ri o5)  hal t3 T3.out).mono ?_
              rintro e wa332 ⟨A16, c16, rfl, o16, m⟩
              replace r0 := r0.mid m (Or.inl (Nat.zero_le _))
              replace o5 := o5.mid m (Or.inl (Nat.zero_le _))
              replace o15 := o15.mid m (Or.inl (Nat.zero_le _))
              replace hm := hm.trans m
              clear m
              go_wp2_with fail
              with_reducible refine (sameInts_any A15 t3 c15 A16 t3 c16 _ _ _ _ _ (OI.ri o15) (OI.ri o16) hl3 hl3 true (by simp)).mono ?_
              rintro e wa333 ⟨rfl, m⟩
              replace r0 := r0.mid m (Or.inl (Nat.zero_le _))
              replace o5 := o5.mid m (Or.inl (Nat.zero_le _))
              replace o15 := o15.mid m (Or.inl (Nat.zero_le _))
              replace o16 := o16.mid m (Or.inl (Nat.zero_le _))
              replace hm := hm.trans m
              clear m
              clear o15 o16
              go_wp2_with fail
              with_reducible refine (simpl_SignOf A5 a c5 _ _ _ (OI.ri o5) hao hal t4 T4.out).mono ?_
              rintro e wa334 ⟨rfl, m⟩
              replace r0 := r0.mid m (Or.inl (Nat.zero_le _))
              replace o5 := o5.mid m (Or.inl (Nat.zero_le _))
              replace hm := hm.trans m
              clear m
              go_wp2_with fail
              with_reducible refine (sspec_SignOf A5 a c5 _ _ _ (OI.ri o5) hao hal t4 T4.out).mono ?_
              rintro e wa335 ⟨rfl, m⟩
              replace r0 := r0.mid m (Or.inl (Nat.zero_le _))
              replace o5 := o5.mid m (Or.inl (Nat.zero_le _))
              replace hm := hm.trans m
              clear m
              go_wp2_with fail
              with_reducible refine (simpl_InversePermutation A5 a c5 _ _ _ (OI.ri o5)  hal t5 T5.out).mono ?_
              rintro e wa336 ⟨A19, c19, rfl, o19, m⟩
              replace r0 := r0.mid m (Or.inl (Nat.zero_le _))
              replace o5 := o5.mid m (Or.inl (Nat.zero_le _))
              replace hm := hm.trans m
              clear m
              go_wp2_with fail
              with_reducible refine (sspec_InversePermutation A5 a c5 _ _ _ (OI.ri o5)  hal t5 T5.out).mono ?_
              rintro e wa337 ⟨A20, c20, rfl, o20, m⟩
              replace r0 := r0.mid m (Or.inl (Nat.zero_le _))
              replace o5 := o5.mid m (Or.inl (Nat.zero_le _))
              replace o19 := o19.mid m (Or.inl (Nat.zero_le _))
              replace hm := hm.trans m
              clear m
              go_wp2_with fail
              with_reducible refine (sameInts_any A19 t5 c19 A20 t5 c20 _ _ _ _ _ (OI.ri o19) (OI.ri o20) hl5 hl5 true (by simp)).mono ?_
              rintro e wa338 ⟨rfl, m⟩
              replace r0 := r0.mid m (Or.inl (Nat.zero_le _))
              replace o5 := o5.mid m (Or.inl (Nat.zero_le _))
              replace o19 := o19.mid m (Or.inl (Nat.zero_le _))
              replace o20 := o20.mid m (Or.inl (Nat.zero_le _))
              replace hm := hm.trans m
              clear m
              clear o19 o20
              go_wp2_with fail
              with_reducible refine (simpl_IdentityPermutation z _ hzw  t6 T6.out).mono ?_
              rintro e wa339 ⟨A21, c21, rfl, o21, m⟩
              replace r0 := r0.mid m (Or.inl (Nat.zero_le _))
              replace o5 := o5.mid m (Or.inl (Nat.zero_le _))
              replace hm := hm.trans m
              clear m
              go_wp2_with fail
              with_reducible refine (sspec_IdentityPermutation z _ hzw  t6 T6.out).mono ?_
              rintro e wa340 ⟨A22, c22, rfl, o22, m⟩
              replace r0 := r0.mid m (Or.inl (Nat.zero_le _))
              replace o5 := o5.mid m (Or.inl (Nat.zero_le _))
              replace o21 := o21.mid m (Or.inl (Nat.zero_le _))
              replace hm := hm.trans m
              clear m
              go_wp2_with fail
              with_reducible refine (sameInts_any A21 t6 c21 A22 t6 c22 _ _ _ _ _ (OI.ri o21) (OI.ri o22) hl6 hl6 true (by simp)).mono ?_
              rintro e wa341 ⟨rfl, m⟩
              replace r0 := r0.mid m (Or.inl (Nat.zero_le _))
              replace o5 := o5.mid m (Or.inl (Nat.zero_le _))
              replace o21 := o21.mid m (Or.inl (Nat.zero_le _))
              replace o22 := o22.mid m (Or.inl (Nat.zero_le _))
              replace hm := hm.trans m
              clear m
              clear o21 o22
              go_wp2_with fail
              go_ret
              subst hL0
              exact ⟨rfl, hm.bel⟩
end Go.Proofs.Ytkaofcakelpnpaa
