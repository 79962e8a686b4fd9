/- The walk of the law FnExactInversePermutation: it returns true at every input, and turns nothing that was there. -/
import Derived.Test.YtpgbpdnijpjfjaaL7
namespace Go.Proofs.Ytpgbpdnijpjfjaa
open Go.RowKit

set_option maxRecDepth 100000 in
set_option maxHeartbeats 4000000 in
theorem walk_InversePermutation (A0 : Option Addr) (d0 : List Int) (c0 : Nat) (w : World) (r0 : RI w 0 w.heap.size A0 d0) (_o0 : OkI d0) :
    Calls Try.prog 6 #[.slice A0 d0.length c0] w fun e w' => e = .returned (.bool true) ∧ Below w.heap.size w w' := by
  by_cases hbig0 : ¬ (d0.length ≤ 1048576)
  · go_enter Try.func6, Try.ntmps6
    go_wp2_with fail
    go_ret
    exact ⟨rfl, Below.refl _ _⟩
  have hl0 : d0.length ≤ 1048576 := by omega
  clear hbig0
  obtain ⟨res0, HRES⟩ : ∃ res0, InversePermutationIs d0 res0 := InversePermutationIs_ex d0 hl0
  have hlr0 := InversePermutationIs_len HRES hl0
  have HRES := Lib.hid HRES
  go_enter Try.func6, Try.ntmps6
  go_wp2_with fail
  with_reducible refine (toI A0 d0 c0 _ _ _ r0 hl0).mono ?_
  rintro e w1 ⟨A1, c2, rfl, h3, md4⟩
  have h5 := RI.mid r0 md4 (by omega)
  clear r0
  have b6 := below_mid (Below.refl w.heap.size w) (Nat.le_refl w.heap.size) md4 (by omega)
  have z7 := b6.size
  have y8 := md4.size
  go_wp2_with fail
  with_reducible refine (sspec_InversePermutation _ d0 _ _ _ _ (OI.ri h3) hl0 res0 HRES.out).mono ?_
  rintro e w2 ⟨A10, c11, rfl, h12, md9⟩
  have h13 := RI.mid h5 md9 (by omega)
  clear h5
  have h14 := OI.mid h3 md9 (by omega)
  clear h3
  have b15 := below_mid b6 z7 md9 (by omega)
  have z16 := b15.size
  have y17 := md9.size
  go_wp2_with fail
  with_reducible refine (toI A0 d0 c0 _ _ _ h13 hl0).mono ?_
  rintro e w3 ⟨A18, c19, rfl, h20, md21⟩
  have h22 := RI.mid h13 md21 (by omega)
  clear h13
  have h23 := OI.mid h12 md21 (by omega)
  clear h12
  have b24 := below_mid b15 z16 md21 (by omega)
  have z25 := b24.size
  have y26 := md21.size
  go_wp2_with fail
  with_reducible refine (simpl_InversePermutation _ d0 _ _ _ _ (OI.ri h20) hl0 res0 HRES.out).mono ?_
  rintro e w4 ⟨A28, c29, rfl, h30, md27⟩
  have h31 := RI.mid h22 md27 (by omega)
  clear h22
  have h32 := OI.mid h23 md27 (by omega)
  clear h23
  have h33 := OI.mid h20 md27 (by omega)
  clear h20
  have b34 := below_mid b24 z25 md27 (by omega)
  have z35 := b34.size
  have y36 := md27.size
  go_wp2_with fail
  with_reducible refine (eqI _ _ res0 _ _ _ _ _ _ _ (OI.ri h30) (OI.ri h32) hlr0).mono ?_
  rintro e w5 ⟨rfl, md37⟩
  have h38 := RI.mid h31 md37 (by omega)
  clear h31
  have h39 := OI.mid h32 md37 (by omega)
  clear h32
  have h40 := OI.mid h33 md37 (by omega)
  clear h33
  have h41 := OI.mid h30 md37 (by omega)
  clear h30
  have b42 := below_mid b34 z35 md37 (by omega)
  have z43 := b42.size
  have y44 := md37.size
  go_wp2_with fail
  with_reducible refine (toI A0 d0 c0 _ _ _ h38 hl0).mono ?_
  rintro e w6 ⟨A45, c46, rfl, h47, md48⟩
  have h49 := RI.mid h38 md48 (by omega)
  clear h38
  have h50 := OI.mid h39 md48 (by omega)
  clear h39
  have h51 := OI.mid h40 md48 (by omega)
  clear h40
  have h52 := OI.mid h41 md48 (by omega)
  clear h41
  have b53 := below_mid b42 z43 md48 (by omega)
  have z54 := b53.size
  have y55 := md48.size
  go_wp2_with fail
  with_reducible refine (eqI _ _ d0 _ _ _ _ _ _ _ (OI.ri h51) (OI.ri h47) hl0).mono ?_
  rintro e w7 ⟨rfl, md56⟩
  have h57 := RI.mid h49 md56 (by omega)
  clear h49
  have h58 := OI.mid h50 md56 (by omega)
  clear h50
  have h59 := OI.mid h51 md56 (by omega)
  clear h51
  have h60 := OI.mid h52 md56 (by omega)
  clear h52
  have h61 := OI.mid h47 md56 (by omega)
  clear h47
  have b62 := below_mid b53 z54 md56 (by omega)
  have z63 := b62.size
  have y64 := md56.size
  go_wp2_with fail
  with_reducible refine (markI _ d0 _ 1 _ _ _ h59 (by omega) (by omega) hl0).mono ?_
  rintro e w8 ⟨rfl, h65, md66⟩
  have h67 := RI.mid h57 md66 (by omega)
  clear h57
  have h68 := OI.mid h58 md66 (by omega)
  clear h58
  have h69 := OI.mid h60 md66 (by omega)
  clear h60
  have b70 := below_mid b62 z63 md66 (by omega)
  have z71 := b70.size
  have y72 := md66.size
  go_wp2_with fail
  with_reducible refine (eqI _ _ res0 _ _ _ _ _ _ _ (OI.ri h69) (OI.ri h68) hlr0).mono ?_
  rintro e w9 ⟨rfl, md73⟩
  have h74 := RI.mid h67 md73 (by omega)
  clear h67
  have h75 := OI.mid h68 md73 (by omega)
  clear h68
  have h76 := OI.mid h69 md73 (by omega)
  clear h69
  have b77 := below_mid b70 z71 md73 (by omega)
  have z78 := b77.size
  have y79 := md73.size
  go_wp2_with fail
  with_reducible refine (markI _ res0 _ 1 _ _ _ h76 (by omega) (by omega) hlr0).mono ?_
  rintro e w10 ⟨rfl, h80, md81⟩
  have h82 := RI.mid h74 md81 (by omega)
  clear h74
  have h83 := OI.mid h75 md81 (by omega)
  clear h75
  have b84 := below_mid b77 z78 md81 (by omega)
  have z85 := b84.size
  have y86 := md81.size
  go_wp2_with fail
  with_reducible refine (heldI _ res0.length _ 1 _ _ _ h80 (by omega) (by omega) hlr0).mono ?_
  rintro e w11 ⟨rfl, md87⟩
  have h88 := RI.mid h82 md87 (by omega)
  clear h82
  have h89 := OI.mid h83 md87 (by omega)
  clear h83
  have h90 := OI.mid h80 md87 (by omega)
  clear h80
  have b91 := below_mid b84 z85 md87 (by omega)
  have z92 := b91.size
  have y93 := md87.size
  go_wp2_with fail
  with_reducible refine (toI A0 d0 c0 _ _ _ h88 hl0).mono ?_
  rintro e w12 ⟨A94, c95, rfl, h96, md97⟩
  have h98 := RI.mid h88 md97 (by omega)
  clear h88
  have h99 := OI.mid h89 md97 (by omega)
  clear h89
  have h100 := OI.mid h90 md97 (by omega)
  clear h90
  have b101 := below_mid b91 z92 md97 (by omega)
  have z102 := b101.size
  have y103 := md97.size
  go_wp2_with fail
  with_reducible refine (simpl_InversePermutation _ d0 _ _ _ _ (OI.ri h96) hl0 res0 HRES.out).mono ?_
  rintro e w13 ⟨A105, c106, rfl, h107, md104⟩
  have h108 := RI.mid h98 md104 (by omega)
  clear h98
  have h109 := OI.mid h99 md104 (by omega)
  clear h99
  have h110 := OI.mid h100 md104 (by omega)
  clear h100
  have h111 := OI.mid h96 md104 (by omega)
  clear h96
  have b112 := below_mid b101 z102 md104 (by omega)
  have z113 := b112.size
  have y114 := md104.size
  go_wp2_with fail
  with_reducible refine (eqI _ _ res0 _ _ _ _ _ _ _ (OI.ri h107) (OI.ri h109) hlr0).mono ?_
  rintro e w14 ⟨rfl, md115⟩
  have h116 := RI.mid h108 md115 (by omega)
  clear h108
  have h117 := OI.mid h109 md115 (by omega)
  clear h109
  have h118 := OI.mid h110 md115 (by omega)
  clear h110
  have h119 := OI.mid h107 md115 (by omega)
  clear h107
  have b120 := below_mid b112 z113 md115 (by omega)
  have z121 := b120.size
  have y122 := md115.size
  go_wp2_with fail
  with_reducible refine (heldI _ res0.length _ 1 _ _ _ h118 (by omega) (by omega) hlr0).mono ?_
  rintro e w15 ⟨rfl, md123⟩
  have h124 := RI.mid h116 md123 (by omega)
  clear h116
  have h125 := OI.mid h117 md123 (by omega)
  clear h117
  have h126 := OI.mid h118 md123 (by omega)
  clear h118
  have h127 := OI.mid h119 md123 (by omega)
  clear h119
  have b128 := below_mid b120 z121 md123 (by omega)
  have z129 := b128.size
  have y130 := md123.size
  go_wp2_with fail
  go_ret
  exact ⟨rfl, b128⟩
end Go.Proofs.Ytpgbpdnijpjfjaa
