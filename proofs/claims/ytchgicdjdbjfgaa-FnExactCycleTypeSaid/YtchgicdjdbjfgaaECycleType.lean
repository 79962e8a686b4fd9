/- The walk of the law FnExactCycleType: it returns true at every input, and turns nothing that was there. -/
import Derived.Test.YtchgicdjdbjfgaaL45
import Derived.Test.YtchgicdjdbjfgaaK1
namespace Go.Proofs.Ytchgicdjdbjfgaa
open Go.RowKit
set_option linter.unusedVariables false
set_option linter.unusedSimpArgs false

theorem frz_CycleType {w : World} {b : Nat} {cs : List Value} (h : Box w b cs) : ∀ i, w.frozen? ⟨b, i, none⟩ = false := h.2.2
set_option maxRecDepth 100000 in
set_option maxHeartbeats 8000000 in
theorem walk_CycleType (A0 : Option Addr) (d0 : List Int) (c0 : Nat) (w : World) (r0 : RI w 0 w.heap.size A0 d0) (_o0 : OkI d0) (_l0 : d0.length ≤ 9223372036854775807) :
    Calls Try.prog 4 #[.slice A0 d0.length c0] w fun e w' => e = .returned (.bool true) ∧ Below w.heap.size w w' := by
  by_cases hbig0 : ¬ (d0.length ≤ 1048576)
  · skip
    have hh1 := r0
    go_enter Try.func4, Try.ntmps4
    go_wp2_with fail
    go_ret
    exact ⟨rfl, (Below.refl w.heap.size w)⟩
  have hl0 : d0.length ≤ 1048576 := by omega
  clear hbig0
  obtain ⟨res0, HRES⟩ : ∃ res0, CycleTypeIs d0 res0 := CycleTypeIs_ex d0 _o0 hl0
  have hlr0 := CycleTypeIs_len HRES _o0 hl0
  have HRES := Lib.hid HRES
  have hh2 := r0
  go_enter Try.func4, Try.ntmps4
  go_wp2_with fail
  with_reducible refine (toI _ d0 _ _ _ _ hh2 hl0).mono ?_
  rintro e w1 ⟨AA3, cc4, rfl, h5, md6⟩
  have h7 := RI.mid hh2 md6 (Or.inl (Nat.zero_le _))
  clear hh2
  have b8 := below_mid (Below.refl w.heap.size w) (Nat.le_refl w.heap.size) md6 (Or.inr rfl)
  have z9 := b8.size
  have y10 := md6.size
  go_wp2_with fail
  with_reducible refine (sspec_CycleType _ d0 _ _ _ _ (OI.ri h5) _o0 hl0 res0 HRES.out).mono ?_
  rintro e w2 ⟨AA12, cc13, rfl, h14, md11⟩
  have h16 := RI.mid h7 md11 (Or.inl (Nat.zero_le _))
  clear h7
  have h17 := OI.mid h5 md11 (Or.inl (Nat.zero_le _))
  clear h5
  have b18 := below_mid b8 z9 md11 (Or.inr rfl)
  have z19 := b18.size
  have y20 := md11.size
  go_wp2_with fail
  with_reducible refine (toI _ d0 _ _ _ _ h16 hl0).mono ?_
  rintro e w3 ⟨AA21, cc22, rfl, h23, md24⟩
  have h25 := RI.mid h16 md24 (Or.inl (Nat.zero_le _))
  clear h16
  have h26 := OI.mid h14 md24 (Or.inl (Nat.zero_le _))
  clear h14
  have b27 := below_mid b18 z19 md24 (Or.inr rfl)
  have z28 := b27.size
  have y29 := md24.size
  go_wp2_with fail
  with_reducible refine (simpl_CycleType _ d0 _ _ _ _ (OI.ri h23) _o0 hl0 res0 HRES.out).mono ?_
  rintro e w4 ⟨AA31, cc32, rfl, h33, md30⟩
  have h35 := RI.mid h25 md30 (Or.inl (Nat.zero_le _))
  clear h25
  have h36 := OI.mid h26 md30 (Or.inl (Nat.zero_le _))
  clear h26
  have h37 := OI.mid h23 md30 (Or.inl (Nat.zero_le _))
  clear h23
  have b38 := below_mid b27 z28 md30 (Or.inr rfl)
  have z39 := b38.size
  have y40 := md30.size
  go_wp2_with fail
  with_reducible refine (eqI _ _ res0 _ _ _ _ _ _ _ (OI.ri h33) (OI.ri h36) hlr0).mono ?_
  rintro e w5 ⟨rfl, md41⟩
  have h42 := RI.mid h35 md41 (Or.inl (Nat.zero_le _))
  clear h35
  have h43 := OI.mid h36 md41 (Or.inl (Nat.zero_le _))
  clear h36
  have h44 := OI.mid h37 md41 (Or.inl (Nat.zero_le _))
  clear h37
  have h45 := OI.mid h33 md41 (Or.inl (Nat.zero_le _))
  clear h33
  have b46 := below_mid b38 z39 md41 (Or.inr rfl)
  have z47 := b46.size
  have y48 := md41.size
  go_wp2_with fail
  with_reducible refine (toI _ d0 _ _ _ _ h42 hl0).mono ?_
  rintro e w6 ⟨AA49, cc50, rfl, h51, md52⟩
  have h53 := RI.mid h42 md52 (Or.inl (Nat.zero_le _))
  clear h42
  have h54 := OI.mid h43 md52 (Or.inl (Nat.zero_le _))
  clear h43
  have h55 := OI.mid h44 md52 (Or.inl (Nat.zero_le _))
  clear h44
  have h56 := OI.mid h45 md52 (Or.inl (Nat.zero_le _))
  clear h45
  have b57 := below_mid b46 z47 md52 (Or.inr rfl)
  have z58 := b57.size
  have y59 := md52.size
  go_wp2_with fail
  with_reducible refine (eqI _ _ d0 _ _ _ _ _ _ _ (OI.ri h55) (OI.ri h51) hl0).mono ?_
  rintro e w7 ⟨rfl, md60⟩
  have h61 := RI.mid h53 md60 (Or.inl (Nat.zero_le _))
  clear h53
  have h62 := OI.mid h54 md60 (Or.inl (Nat.zero_le _))
  clear h54
  have h63 := OI.mid h55 md60 (Or.inl (Nat.zero_le _))
  clear h55
  have h64 := OI.mid h56 md60 (Or.inl (Nat.zero_le _))
  clear h56
  have h65 := OI.mid h51 md60 (Or.inl (Nat.zero_le _))
  clear h51
  have b66 := below_mid b57 z58 md60 (Or.inr rfl)
  have z67 := b66.size
  have y68 := md60.size
  go_wp2_with fail
  with_reducible refine (markI _ d0 _ 1 _ _ _ h63 (by omega) (by omega) hl0).mono ?_
  rintro e w8 ⟨rfl, h69, md70⟩
  have h71 := RI.mid h61 md70 (by omega)
  clear h61
  have h72 := OI.mid h62 md70 (by omega)
  clear h62
  have h73 := OI.mid h64 md70 (by omega)
  clear h64
  have b74 := below_mid b66 z67 md70 (by omega)
  have z75 := b74.size
  have y76 := md70.size
  clear h63
  go_wp2_with fail
  with_reducible refine (eqI _ _ res0 _ _ _ _ _ _ _ (OI.ri h73) (OI.ri h72) hlr0).mono ?_
  rintro e w9 ⟨rfl, md77⟩
  have h78 := RI.mid h71 md77 (Or.inl (Nat.zero_le _))
  clear h71
  have h79 := OI.mid h72 md77 (Or.inl (Nat.zero_le _))
  clear h72
  have h80 := OI.mid h73 md77 (Or.inl (Nat.zero_le _))
  clear h73
  have b81 := below_mid b74 z75 md77 (Or.inr rfl)
  have z82 := b81.size
  have y83 := md77.size
  go_wp2_with fail
  with_reducible refine (markI _ res0 _ 1 _ _ _ h80 (by omega) (by omega) hlr0).mono ?_
  rintro e w10 ⟨rfl, h84, md85⟩
  have h86 := RI.mid h78 md85 (by omega)
  clear h78
  have h87 := OI.mid h79 md85 (by omega)
  clear h79
  have b88 := below_mid b81 z82 md85 (by omega)
  have z89 := b88.size
  have y90 := md85.size
  clear h80
  go_wp2_with fail
  with_reducible refine (heldI _ res0.length _ 1 _ _ _ h84 (by omega) (by omega) hlr0).mono ?_
  rintro e w11 ⟨rfl, md91⟩
  have h92 := RI.mid h86 md91 (Or.inl (Nat.zero_le _))
  clear h86
  have h93 := OI.mid h87 md91 (Or.inl (Nat.zero_le _))
  clear h87
  have h94 := OI.mid h84 md91 (Or.inl (Nat.zero_le _))
  clear h84
  have b95 := below_mid b88 z89 md91 (Or.inr rfl)
  have z96 := b95.size
  have y97 := md91.size
  go_wp2_with fail
  with_reducible refine (toI _ d0 _ _ _ _ h92 hl0).mono ?_
  rintro e w12 ⟨AA98, cc99, rfl, h100, md101⟩
  have h102 := RI.mid h92 md101 (Or.inl (Nat.zero_le _))
  clear h92
  have h103 := OI.mid h93 md101 (Or.inl (Nat.zero_le _))
  clear h93
  have h104 := OI.mid h94 md101 (Or.inl (Nat.zero_le _))
  clear h94
  have b105 := below_mid b95 z96 md101 (Or.inr rfl)
  have z106 := b105.size
  have y107 := md101.size
  go_wp2_with fail
  with_reducible refine (simpl_CycleType _ d0 _ _ _ _ (OI.ri h100) _o0 hl0 res0 HRES.out).mono ?_
  rintro e w13 ⟨AA109, cc110, rfl, h111, md108⟩
  have h113 := RI.mid h102 md108 (Or.inl (Nat.zero_le _))
  clear h102
  have h114 := OI.mid h103 md108 (Or.inl (Nat.zero_le _))
  clear h103
  have h115 := OI.mid h104 md108 (Or.inl (Nat.zero_le _))
  clear h104
  have h116 := OI.mid h100 md108 (Or.inl (Nat.zero_le _))
  clear h100
  have b117 := below_mid b105 z106 md108 (Or.inr rfl)
  have z118 := b117.size
  have y119 := md108.size
  go_wp2_with fail
  with_reducible refine (eqI _ _ res0 _ _ _ _ _ _ _ (OI.ri h111) (OI.ri h114) hlr0).mono ?_
  rintro e w14 ⟨rfl, md120⟩
  have h121 := RI.mid h113 md120 (Or.inl (Nat.zero_le _))
  clear h113
  have h122 := OI.mid h114 md120 (Or.inl (Nat.zero_le _))
  clear h114
  have h123 := OI.mid h115 md120 (Or.inl (Nat.zero_le _))
  clear h115
  have h124 := OI.mid h111 md120 (Or.inl (Nat.zero_le _))
  clear h111
  have b125 := below_mid b117 z118 md120 (Or.inr rfl)
  have z126 := b125.size
  have y127 := md120.size
  go_wp2_with fail
  with_reducible refine (heldI _ res0.length _ 1 _ _ _ h123 (by omega) (by omega) hlr0).mono ?_
  rintro e w15 ⟨rfl, md128⟩
  have h129 := RI.mid h121 md128 (Or.inl (Nat.zero_le _))
  clear h121
  have h130 := OI.mid h122 md128 (Or.inl (Nat.zero_le _))
  clear h122
  have h131 := OI.mid h123 md128 (Or.inl (Nat.zero_le _))
  clear h123
  have h132 := OI.mid h124 md128 (Or.inl (Nat.zero_le _))
  clear h124
  have b133 := below_mid b125 z126 md128 (Or.inr rfl)
  have z134 := b133.size
  have y135 := md128.size
  go_wp2_with fail
  go_ret
  exact ⟨rfl, b133⟩
end Go.Proofs.Ytchgicdjdbjfgaa
