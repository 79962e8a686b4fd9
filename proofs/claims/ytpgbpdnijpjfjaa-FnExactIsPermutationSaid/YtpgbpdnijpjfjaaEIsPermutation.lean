/- The walk of the law FnExactIsPermutation: it returns true at every input, and turns nothing that was there. -/
import Derived.Test.YtpgbpdnijpjfjaaL7
namespace Go.Proofs.Ytpgbpdnijpjfjaa
open Go.RowKit

set_option maxRecDepth 100000 in
set_option maxHeartbeats 4000000 in
theorem walk_IsPermutation (A0 : Option Addr) (d0 : List Int) (c0 : Nat) (w : World) (r0 : RI w 0 w.heap.size A0 d0) (_o0 : OkI d0) :
    Calls Try.prog 4 #[.slice A0 d0.length c0] w fun e w' => e = .returned (.bool true) ∧ Below w.heap.size w w' := by
  by_cases hbig0 : ¬ (d0.length ≤ 1048576)
  · go_enter Try.func4, Try.ntmps4
    go_wp2_with fail
    go_ret
    exact ⟨rfl, Below.refl _ _⟩
  have hl0 : d0.length ≤ 1048576 := by omega
  clear hbig0
  obtain ⟨res0, HRES⟩ : ∃ res0, IsPermutationIs d0 res0 := IsPermutationIs_ex d0 hl0
  have HRES := Lib.hid HRES
  go_enter Try.func4, Try.ntmps4
  go_wp2_with fail
  with_reducible refine (toI A0 d0 c0 _ _ _ r0 hl0).mono ?_
  rintro e w1 ⟨A1, c2, rfl, h3, md4⟩
  have h5 := RI.mid r0 md4 (by omega)
  clear r0
  have b6 := below_mid (Below.refl w.heap.size w) (Nat.le_refl w.heap.size) md4 (by omega)
  have z7 := b6.size
  have y8 := md4.size
  go_wp2_with fail
  with_reducible refine (sspec_IsPermutation _ d0 _ _ _ _ (OI.ri h3) hl0 res0 HRES.out).mono ?_
  rintro e w2 ⟨rfl, md9⟩
  have h10 := RI.mid h5 md9 (by omega)
  clear h5
  have h11 := OI.mid h3 md9 (by omega)
  clear h3
  have b12 := below_mid b6 z7 md9 (by omega)
  have z13 := b12.size
  have y14 := md9.size
  go_wp2_with fail
  with_reducible refine (toI A0 d0 c0 _ _ _ h10 hl0).mono ?_
  rintro e w3 ⟨A15, c16, rfl, h17, md18⟩
  have h19 := RI.mid h10 md18 (by omega)
  clear h10
  have b20 := below_mid b12 z13 md18 (by omega)
  have z21 := b20.size
  have y22 := md18.size
  go_wp2_with fail
  with_reducible refine (simpl_IsPermutation _ d0 _ _ _ _ (OI.ri h17) hl0 res0 HRES.out).mono ?_
  rintro e w4 ⟨rfl, md23⟩
  have h24 := RI.mid h19 md23 (by omega)
  clear h19
  have h25 := OI.mid h17 md23 (by omega)
  clear h17
  have b26 := below_mid b20 z21 md23 (by omega)
  have z27 := b26.size
  have y28 := md23.size
  go_wp2_with fail
  with_reducible refine (toI A0 d0 c0 _ _ _ h24 hl0).mono ?_
  rintro e w5 ⟨A29, c30, rfl, h31, md32⟩
  have h33 := RI.mid h24 md32 (by omega)
  clear h24
  have h34 := OI.mid h25 md32 (by omega)
  clear h25
  have b35 := below_mid b26 z27 md32 (by omega)
  have z36 := b35.size
  have y37 := md32.size
  go_wp2_with fail
  with_reducible refine (eqI _ _ d0 _ _ _ _ _ _ _ (OI.ri h34) (OI.ri h31) hl0).mono ?_
  rintro e w6 ⟨rfl, md38⟩
  have h39 := RI.mid h33 md38 (by omega)
  clear h33
  have h40 := OI.mid h34 md38 (by omega)
  clear h34
  have h41 := OI.mid h31 md38 (by omega)
  clear h31
  have b42 := below_mid b35 z36 md38 (by omega)
  have z43 := b42.size
  have y44 := md38.size
  go_wp2_with fail
  go_ret
  exact ⟨rfl, b42⟩
end Go.Proofs.Ytpgbpdnijpjfjaa
