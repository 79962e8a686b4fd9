/- The walk of the law FnExactIsNielsenReduced: it returns true at every input, and turns nothing that was there. -/
import Derived.Test.YtchgicdjdbjfgaaL38
namespace Go.Proofs.Ytchgicdjdbjfgaa
open Go.RowKit
set_option linter.unusedVariables false
set_option linter.unusedSimpArgs false

theorem frz_IsNielsenReduced {w : World} {b : Nat} {cs : List Value} (h : Box w b cs) : ∀ i, w.frozen? ⟨b, i, none⟩ = false := h.2.2
set_option maxRecDepth 100000 in
set_option maxHeartbeats 8000000 in
theorem walk_IsNielsenReduced (A0 : Option Addr) (d0 : List (List Int)) (c0 : Nat) (w : World) (r0 : RSS w 0 w.heap.size A0 d0) (_o0 : OkSS d0) :
    Calls Try.prog 3 #[.slice A0 d0.length c0] w fun e w' => e = .returned (.bool true) ∧ Below w.heap.size w w' := by
  obtain ⟨z0, hz0⟩ : ∃ z, z = szI 1048576 (d0.length + sumL d0) := ⟨_, rfl⟩
  have E0 := Lib.hid hz0.symm
  rcases szI_case 1048576 (d0.length + sumL d0) with hs0 | ⟨hs0, hs0'⟩
  · obtain rfl : z0 = -1 := hz0.trans hs0
    clear hs0 hz0
    have hh1 := r0
    go_enter Try.func3, Try.ntmps3
    go_wp2_with fail
    with_reducible refine (szIntSS_any _ d0 _ 1048576 _ _ _ hh1 (OkSS.len _o0) (by omega) (by omega) _ rfl).mono ?_
    rintro e _ ⟨rfl, rfl⟩
    rw [E0.out]
    go_wp2_with fail
    go_ret
    exact ⟨rfl, (Below.refl w.heap.size w)⟩
  rw [hs0'] at hz0
  have hp0 : 0 ≤ z0 := by omega
  have hq0 : z0 ≤ 1048576 := by omega
  have hl0 : d0.length + sumL d0 ≤ 1048576 := by omega
  clear hs0 hs0' hz0
  obtain ⟨res0, HRES⟩ : ∃ res0, IsNielsenReducedIs d0 res0 := IsNielsenReducedIs_ex d0 _o0 hl0
  have HRES := Lib.hid HRES
  have hh3 := r0
  go_enter Try.func3, Try.ntmps3
  go_wp2_with fail
  with_reducible refine (szIntSS_any _ d0 _ 1048576 _ _ _ hh3 (OkSS.len _o0) (by omega) (by omega) _ rfl).mono ?_
  rintro e _ ⟨rfl, rfl⟩
  rw [E0.out]
  go_wp2_with fail
  with_reducible refine (toSS _ d0 _ _ _ _ hh3 hl0).mono ?_
  rintro e w3 ⟨AA5, cc6, rfl, h7, md8⟩
  have h9 := RSS.mid hh3 md8 (Or.inl (Nat.zero_le _))
  clear hh3
  have b10 := below_mid (Below.refl w.heap.size w) (Nat.le_refl w.heap.size) md8 (Or.inr rfl)
  have z11 := b10.size
  have y12 := md8.size
  go_wp2_with fail
  with_reducible refine (sspec_IsNielsenReduced _ d0 _ _ _ _ h7 _o0 hl0 res0 HRES.out).mono ?_
  rintro e w4 ⟨rfl, md13⟩
  have h14 := RSS.mid h9 md13 (Or.inl (Nat.zero_le _))
  clear h9
  have h15 := OSS.mid h7 md13 (Or.inl (Nat.zero_le _))
  clear h7
  have b16 := below_mid b10 z11 md13 (Or.inr rfl)
  have z17 := b16.size
  have y18 := md13.size
  go_wp2_with fail
  with_reducible refine (toSS _ d0 _ _ _ _ h14 hl0).mono ?_
  rintro e w5 ⟨AA19, cc20, rfl, h21, md22⟩
  have h23 := RSS.mid h14 md22 (Or.inl (Nat.zero_le _))
  clear h14
  have b24 := below_mid b16 z17 md22 (Or.inr rfl)
  have z25 := b24.size
  have y26 := md22.size
  go_wp2_with fail
  with_reducible refine (simpl_IsNielsenReduced _ d0 _ _ _ _ h21 _o0 hl0 res0 HRES.out).mono ?_
  rintro e w6 ⟨rfl, md27⟩
  have h28 := RSS.mid h23 md27 (Or.inl (Nat.zero_le _))
  clear h23
  have h29 := OSS.mid h21 md27 (Or.inl (Nat.zero_le _))
  clear h21
  have b30 := below_mid b24 z25 md27 (Or.inr rfl)
  have z31 := b30.size
  have y32 := md27.size
  go_wp2_with fail
  with_reducible refine (toSS _ d0 _ _ _ _ h28 hl0).mono ?_
  rintro e w7 ⟨AA33, cc34, rfl, h35, md36⟩
  have h37 := RSS.mid h28 md36 (Or.inl (Nat.zero_le _))
  clear h28
  have h38 := OSS.mid h29 md36 (Or.inl (Nat.zero_le _))
  clear h29
  have b39 := below_mid b30 z31 md36 (Or.inr rfl)
  have z40 := b39.size
  have y41 := md36.size
  go_wp2_with fail
  with_reducible refine (eqSS _ _ d0 _ _ _ _ _ _ _ (OSS.rss h38) (OSS.rss h35) hl0).mono ?_
  rintro e w8 ⟨rfl, md42⟩
  have h43 := RSS.mid h37 md42 (Or.inl (Nat.zero_le _))
  clear h37
  have h44 := OSS.mid h38 md42 (Or.inl (Nat.zero_le _))
  clear h38
  have h45 := OSS.mid h35 md42 (Or.inl (Nat.zero_le _))
  clear h35
  have b46 := below_mid b39 z40 md42 (Or.inr rfl)
  have z47 := b46.size
  have y48 := md42.size
  go_wp2_with fail
  go_ret
  exact ⟨rfl, b46⟩
end Go.Proofs.Ytchgicdjdbjfgaa
