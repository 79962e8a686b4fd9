/- The walk of the law FnExactOrderOfPermutation: it returns true at every input, and turns nothing that was there. -/
import Derived.Test.YtchgicdjdbjfgaaL46
import Derived.Test.YtchgicdjdbjfgaaK1
namespace Go.Proofs.Ytchgicdjdbjfgaa
open Go.RowKit
set_option linter.unusedVariables false
set_option linter.unusedSimpArgs false

theorem frz_OrderOfPermutation {w : World} {b : Nat} {cs : List Value} (h : Box w b cs) : ∀ i, w.frozen? ⟨b, i, none⟩ = false := h.2.2
set_option maxRecDepth 100000 in
set_option maxHeartbeats 8000000 in
theorem walk_OrderOfPermutation (A0 : Option Addr) (d0 : List Int) (c0 : Nat) (w : World) (r0 : RI w 0 w.heap.size A0 d0) (_o0 : OkI d0) (_l0 : d0.length ≤ 9223372036854775807) :
    Calls Try.prog 7 #[.slice A0 d0.length c0] w fun e w' => e = .returned (.bool true) ∧ Below w.heap.size w w' := by
  by_cases hbig0 : ¬ (d0.length ≤ 1048576)
  · skip
    have hh1 := r0
    go_enter Try.func7, Try.ntmps7
    go_wp2_with fail
    go_ret
    exact ⟨rfl, (Below.refl w.heap.size w)⟩
  have hl0 : d0.length ≤ 1048576 := by omega
  clear hbig0
  obtain ⟨res0, HRES⟩ : ∃ res0, OrderOfPermutationIs d0 res0 := OrderOfPermutationIs_ex d0 _o0 hl0
  have HRES := Lib.hid HRES
  have hh2 := r0
  go_enter Try.func7, Try.ntmps7
  go_wp2_with fail
  with_reducible refine (toI _ d0 _ _ _ _ hh2 hl0).mono ?_
  rintro e w1 ⟨AA3, cc4, rfl, h5, md6⟩
  have h7 := RI.mid hh2 md6 (Or.inl (Nat.zero_le _))
  clear hh2
  have b8 := below_mid (Below.refl w.heap.size w) (Nat.le_refl w.heap.size) md6 (Or.inr rfl)
  have z9 := b8.size
  have y10 := md6.size
  go_wp2_with fail
  with_reducible refine (sspec_OrderOfPermutation _ d0 _ _ _ _ (OI.ri h5) _o0 hl0 res0 HRES.out).mono ?_
  rintro e w2 ⟨rfl, md11⟩
  have h13 := RI.mid h7 md11 (Or.inl (Nat.zero_le _))
  clear h7
  have h14 := OI.mid h5 md11 (Or.inl (Nat.zero_le _))
  clear h5
  have b15 := below_mid b8 z9 md11 (Or.inr rfl)
  have z16 := b15.size
  have y17 := md11.size
  go_wp2_with fail
  with_reducible refine (toI _ d0 _ _ _ _ h13 hl0).mono ?_
  rintro e w3 ⟨AA18, cc19, rfl, h20, md21⟩
  have h22 := RI.mid h13 md21 (Or.inl (Nat.zero_le _))
  clear h13
  have b23 := below_mid b15 z16 md21 (Or.inr rfl)
  have z24 := b23.size
  have y25 := md21.size
  go_wp2_with fail
  with_reducible refine (simpl_OrderOfPermutation _ d0 _ _ _ _ (OI.ri h20) _o0 hl0 res0 HRES.out).mono ?_
  rintro e w4 ⟨rfl, md26⟩
  have h28 := RI.mid h22 md26 (Or.inl (Nat.zero_le _))
  clear h22
  have h29 := OI.mid h20 md26 (Or.inl (Nat.zero_le _))
  clear h20
  have b30 := below_mid b23 z24 md26 (Or.inr rfl)
  have z31 := b30.size
  have y32 := md26.size
  go_wp2_with fail
  with_reducible refine (toI _ d0 _ _ _ _ h28 hl0).mono ?_
  rintro e w5 ⟨AA33, cc34, rfl, h35, md36⟩
  have h37 := RI.mid h28 md36 (Or.inl (Nat.zero_le _))
  clear h28
  have h38 := OI.mid h29 md36 (Or.inl (Nat.zero_le _))
  clear h29
  have b39 := below_mid b30 z31 md36 (Or.inr rfl)
  have z40 := b39.size
  have y41 := md36.size
  go_wp2_with fail
  with_reducible refine (eqI _ _ d0 _ _ _ _ _ _ _ (OI.ri h38) (OI.ri h35) hl0).mono ?_
  rintro e w6 ⟨rfl, md42⟩
  have h43 := RI.mid h37 md42 (Or.inl (Nat.zero_le _))
  clear h37
  have h44 := OI.mid h38 md42 (Or.inl (Nat.zero_le _))
  clear h38
  have h45 := OI.mid h35 md42 (Or.inl (Nat.zero_le _))
  clear h35
  have b46 := below_mid b39 z40 md42 (Or.inr rfl)
  have z47 := b46.size
  have y48 := md42.size
  go_wp2_with fail
  go_ret
  exact ⟨rfl, b46⟩
end Go.Proofs.Ytchgicdjdbjfgaa
