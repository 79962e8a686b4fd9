/- The walk of the law FnExactIdentityPermutation: it returns true at every input, and turns nothing that was there. -/
import Derived.Test.YtpgbpdnijpjfjaaL7
namespace Go.Proofs.Ytpgbpdnijpjfjaa
open Go.RowKit

set_option maxRecDepth 100000 in
set_option maxHeartbeats 4000000 in
theorem walk_IdentityPermutation (a0 : Int) (w : World) (_o0 : (Lit.int .i64 a0).wf = true) :
    Calls Try.prog 3 #[.int .i64 a0] w fun e w' => e = .returned (.bool true) ∧ Below w.heap.size w w' := by
  obtain ⟨res0, HRES⟩ : ∃ res0, IdentityPermutationIs a0 res0 := IdentityPermutationIs_ex a0
  have hlr0 := IdentityPermutationIs_len HRES
  have HRES := Lib.hid HRES
  go_enter Try.func3, Try.ntmps3
  go_wp2_with fail
  with_reducible refine (sspec_IdentityPermutation a0 _ _o0 res0 HRES.out).mono ?_
  rintro e w1 ⟨A2, c3, rfl, h4, md1⟩
  have b5 := below_mid (Below.refl w.heap.size w) (Nat.le_refl w.heap.size) md1 (by omega)
  have z6 := b5.size
  have y7 := md1.size
  go_wp2_with fail
  with_reducible refine (simpl_IdentityPermutation a0 _ _o0 res0 HRES.out).mono ?_
  rintro e w2 ⟨A9, c10, rfl, h11, md8⟩
  have h12 := OI.mid h4 md8 (by omega)
  clear h4
  have b13 := below_mid b5 z6 md8 (by omega)
  have z14 := b13.size
  have y15 := md8.size
  go_wp2_with fail
  with_reducible refine (eqI _ _ res0 _ _ _ _ _ _ _ (OI.ri h11) (OI.ri h12) hlr0).mono ?_
  rintro e w3 ⟨rfl, md16⟩
  have h17 := OI.mid h12 md16 (by omega)
  clear h12
  have h18 := OI.mid h11 md16 (by omega)
  clear h11
  have b19 := below_mid b13 z14 md16 (by omega)
  have z20 := b19.size
  have y21 := md16.size
  go_wp2_with fail
  with_reducible refine (markI _ res0 _ 1 _ _ _ h18 (by omega) (by omega) hlr0).mono ?_
  rintro e w4 ⟨rfl, h22, md23⟩
  have h24 := OI.mid h17 md23 (by omega)
  clear h17
  have b25 := below_mid b19 z20 md23 (by omega)
  have z26 := b25.size
  have y27 := md23.size
  go_wp2_with fail
  with_reducible refine (heldI _ res0.length _ 1 _ _ _ h22 (by omega) (by omega) hlr0).mono ?_
  rintro e w5 ⟨rfl, md28⟩
  have h29 := OI.mid h24 md28 (by omega)
  clear h24
  have h30 := OI.mid h22 md28 (by omega)
  clear h22
  have b31 := below_mid b25 z26 md28 (by omega)
  have z32 := b31.size
  have y33 := md28.size
  go_wp2_with fail
  with_reducible refine (simpl_IdentityPermutation a0 _ _o0 res0 HRES.out).mono ?_
  rintro e w6 ⟨A35, c36, rfl, h37, md34⟩
  have h38 := OI.mid h29 md34 (by omega)
  clear h29
  have h39 := OI.mid h30 md34 (by omega)
  clear h30
  have b40 := below_mid b31 z32 md34 (by omega)
  have z41 := b40.size
  have y42 := md34.size
  go_wp2_with fail
  with_reducible refine (eqI _ _ res0 _ _ _ _ _ _ _ (OI.ri h37) (OI.ri h38) hlr0).mono ?_
  rintro e w7 ⟨rfl, md43⟩
  have h44 := OI.mid h38 md43 (by omega)
  clear h38
  have h45 := OI.mid h39 md43 (by omega)
  clear h39
  have h46 := OI.mid h37 md43 (by omega)
  clear h37
  have b47 := below_mid b40 z41 md43 (by omega)
  have z48 := b47.size
  have y49 := md43.size
  go_wp2_with fail
  with_reducible refine (heldI _ res0.length _ 1 _ _ _ h45 (by omega) (by omega) hlr0).mono ?_
  rintro e w8 ⟨rfl, md50⟩
  have h51 := OI.mid h44 md50 (by omega)
  clear h44
  have h52 := OI.mid h45 md50 (by omega)
  clear h45
  have h53 := OI.mid h46 md50 (by omega)
  clear h46
  have b54 := below_mid b47 z48 md50 (by omega)
  have z55 := b54.size
  have y56 := md50.size
  go_wp2_with fail
  go_ret
  exact ⟨rfl, b54⟩
end Go.Proofs.Ytpgbpdnijpjfjaa
