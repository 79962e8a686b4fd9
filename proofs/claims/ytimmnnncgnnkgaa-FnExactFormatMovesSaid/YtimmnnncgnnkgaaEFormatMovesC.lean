
import Derived.Test.YtimmnnncgnnkgaaFm2

/- The walk of the law FnExactFormatMoves: it returns true at every input, and turns nothing that was there. -/
namespace Go.Proofs.Ytimmnnncgnnkgaa
open Go.RowKit
set_option linter.unusedVariables false
set_option linter.unusedSimpArgs false

theorem frz_FormatMoves {w : World} {b : Nat} {cs : List Value} (h : Box w b cs) : ∀ i, w.frozen? ⟨b, i, none⟩ = false := h.2.2
set_option maxRecDepth 100000 in
set_option maxHeartbeats 8000000 in
theorem walk_FormatMoves (A0 : Option Addr) (d0 : List Mv) (c0 : Nat) (w : World) (r0 : RV w 0 w.heap.size A0 (ints (mvsI d0))) (_o0 : ∀ m ∈ d0, OkMv m) (_l0 : d0.length ≤ 9223372036854775807) :
    Calls Try.prog 6 #[.slice A0 d0.length c0] w fun e w' => e = .returned (.bool true) ∧ Below w.heap.size w w' := by
  obtain ⟨z0, hz0⟩ : ∃ z, z = szI 1048576 d0.length := ⟨_, rfl⟩
  have E0 := Lib.hid hz0.symm
  rcases szI_case 1048576 d0.length with hs0 | ⟨hs0, hs0'⟩
  · obtain rfl : z0 = -1 := hz0.trans hs0
    clear hs0 hz0
    have hh1 := r0
    go_enter Try.func6, Try.ntmps6
    go_wp2_with fail
    with_reducible refine (szMoveS_any _ d0.length _ 1048576 _ _l0 (by omega) (by omega)).mono ?_
    rintro e _ ⟨rfl, rfl⟩
    rw [E0.out]
    go_wp2_with fail
    go_ret
    exact ⟨rfl, (Below.refl w.heap.size w)⟩
  rw [hs0'] at hz0
  have hp0 : 0 ≤ z0 := by omega
  have hq0 : z0 ≤ 1048576 := by omega
  have hl0 : d0.length ≤ 1048576 := by omega
  clear hs0 hs0' hz0
  obtain ⟨res0, HRES⟩ : ∃ res0, FormatMovesIs d0 res0 := FormatMovesIs_ex d0 _o0 hl0
  have HRES := Lib.hid HRES
  have hh3 := r0
  go_enter Try.func6, Try.ntmps6
  go_wp2_with fail
  with_reducible refine (szMoveS_any _ d0.length _ 1048576 _ _l0 (by omega) (by omega)).mono ?_
  rintro e _ ⟨rfl, rfl⟩
  rw [E0.out]
  go_wp2_with fail
  with_reducible refine (toMoveS_any _ d0 _ _ _ _ hh3 hl0).mono ?_
  rintro e w3 ⟨AA5, cc6, rfl, h7, md8⟩
  have h9 := RV.mid hh3 md8 (Or.inl (Nat.zero_le _))
  clear hh3
  have b10 := below_mid (Below.refl w.heap.size w) (Nat.le_refl w.heap.size) md8 (Or.inr rfl)
  have z11 := b10.size
  have y12 := md8.size
  go_wp2_with fail
  with_reducible refine (sspec_FormatMoves _ d0 _ _ _ _ (OV.rv h7) _o0 hl0 res0 HRES.out).mono ?_
  rintro e w4 ⟨rfl, md13⟩
  have h15 := RV.mid h9 md13 (Or.inl (Nat.zero_le _))
  clear h9
  have h16 := OV.mid h7 md13 (Or.inl (Nat.zero_le _))
  clear h7
  have b17 := below_mid b10 z11 md13 (Or.inr rfl)
  have z18 := b17.size
  have y19 := md13.size
  go_wp2_with fail
  with_reducible refine (toMoveS_any _ d0 _ _ _ _ h15 hl0).mono ?_
  rintro e w5 ⟨AA20, cc21, rfl, h22, md23⟩
  have h24 := RV.mid h15 md23 (Or.inl (Nat.zero_le _))
  clear h15
  have b25 := below_mid b17 z18 md23 (Or.inr rfl)
  have z26 := b25.size
  have y27 := md23.size
  go_wp2_with fail
  with_reducible refine (simpl_FormatMoves _ d0 _ _ _ _ (OV.rv h22) _o0 hl0 res0 HRES.out).mono ?_
  rintro e w6 ⟨rfl, md28⟩
  have h30 := RV.mid h24 md28 (Or.inl (Nat.zero_le _))
  clear h24
  have h31 := OV.mid h22 md28 (Or.inl (Nat.zero_le _))
  clear h22
  have b32 := below_mid b25 z26 md28 (Or.inr rfl)
  have z33 := b32.size
  have y34 := md28.size
  go_wp2_with fail
  with_reducible refine (toMoveS_any _ d0 _ _ _ _ h30 hl0).mono ?_
  rintro e w7 ⟨AA35, cc36, rfl, h37, md38⟩
  have h39 := RV.mid h30 md38 (Or.inl (Nat.zero_le _))
  clear h30
  have h40 := OV.mid h31 md38 (Or.inl (Nat.zero_le _))
  clear h31
  have b41 := below_mid b32 z33 md38 (Or.inr rfl)
  have z42 := b41.size
  have y43 := md38.size
  go_wp2_with fail
  with_reducible refine (eqMvSL _ _ d0 _ _ _ _ _ _ _ (OV.rv h40) (OV.rv h37) hl0).mono ?_
  rintro e w8 ⟨rfl, md44⟩
  have h45 := RV.mid h39 md44 (Or.inl (Nat.zero_le _))
  clear h39
  have h46 := OV.mid h40 md44 (Or.inl (Nat.zero_le _))
  clear h40
  have h47 := OV.mid h37 md44 (Or.inl (Nat.zero_le _))
  clear h37
  have b48 := below_mid b41 z42 md44 (Or.inr rfl)
  have z49 := b48.size
  have y50 := md44.size
  go_wp2_with fail
  go_ret
  exact ⟨rfl, b48⟩
end Go.Proofs.Ytimmnnncgnnkgaa
