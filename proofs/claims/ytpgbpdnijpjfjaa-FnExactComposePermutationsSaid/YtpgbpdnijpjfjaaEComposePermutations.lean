/- The walk of the law FnExactComposePermutations: it returns true at every input, and turns nothing that was there. -/
import Derived.Test.YtpgbpdnijpjfjaaL7
namespace Go.Proofs.Ytpgbpdnijpjfjaa
open Go.RowKit

set_option maxRecDepth 100000 in
set_option maxHeartbeats 4000000 in
theorem walk_ComposePermutations (A0 : Option Addr) (d0 : List Int) (c0 : Nat) (A1 : Option Addr) (d1 : List Int) (c1 : Nat) (w : World) (r0 : RI w 0 w.heap.size A0 d0) (_o0 : OkI d0) (r1 : RI w 0 w.heap.size A1 d1) (_o1 : OkI d1) :
    Calls Try.prog 5 #[.slice A0 d0.length c0, .slice A1 d1.length c1] w fun e w' => e = .returned (.bool true) ∧ Below w.heap.size w w' := by
  by_cases hbig0 : ¬ (d0.length ≤ 1048576)
  · go_enter Try.func5, Try.ntmps5
    go_wp2_with fail
    go_ret
    exact ⟨rfl, Below.refl _ _⟩
  have hl0 : d0.length ≤ 1048576 := by omega
  clear hbig0
  by_cases hbig1 : ¬ (d1.length ≤ 1048576)
  · go_enter Try.func5, Try.ntmps5
    go_wp2_with fail
    go_ret
    exact ⟨rfl, Below.refl _ _⟩
  have hl1 : d1.length ≤ 1048576 := by omega
  clear hbig1
  obtain ⟨res0, HRES⟩ : ∃ res0, ComposePermutationsIs d0 d1 res0 := ComposePermutationsIs_ex d0 d1 hl0 hl1
  have hlr0 := ComposePermutationsIs_len HRES hl0 hl1
  have HRES := Lib.hid HRES
  go_enter Try.func5, Try.ntmps5
  go_wp2_with fail
  with_reducible refine (toI A0 d0 c0 _ _ _ r0 hl0).mono ?_
  rintro e w1 ⟨AA1, cc2, rfl, h3, md4⟩
  have h5 := RI.mid r0 md4 (by omega)
  clear r0
  have h6 := RI.mid r1 md4 (by omega)
  clear r1
  have b7 := below_mid (Below.refl w.heap.size w) (Nat.le_refl w.heap.size) md4 (by omega)
  have z8 := b7.size
  have y9 := md4.size
  go_wp2_with fail
  with_reducible refine (toI A1 d1 c1 _ _ _ h6 hl1).mono ?_
  rintro e w2 ⟨AA10, cc11, rfl, h12, md13⟩
  have h14 := RI.mid h5 md13 (by omega)
  clear h5
  have h15 := RI.mid h6 md13 (by omega)
  clear h6
  have h16 := OI.mid h3 md13 (by omega)
  clear h3
  have b17 := below_mid b7 z8 md13 (by omega)
  have z18 := b17.size
  have y19 := md13.size
  go_wp2_with fail
  with_reducible refine (sspec_ComposePermutations _ d0 _ _ d1 _ _ _ _ (OI.ri h16) hl0 _ _ (OI.ri h12) hl1 res0 HRES.out).mono ?_
  rintro e w3 ⟨AA21, cc22, rfl, h23, md20⟩
  have h24 := RI.mid h14 md20 (by omega)
  clear h14
  have h25 := RI.mid h15 md20 (by omega)
  clear h15
  have h26 := OI.mid h16 md20 (by omega)
  clear h16
  have h27 := OI.mid h12 md20 (by omega)
  clear h12
  have b28 := below_mid b17 z18 md20 (by omega)
  have z29 := b28.size
  have y30 := md20.size
  go_wp2_with fail
  with_reducible refine (toI A0 d0 c0 _ _ _ h24 hl0).mono ?_
  rintro e w4 ⟨AA31, cc32, rfl, h33, md34⟩
  have h35 := RI.mid h24 md34 (by omega)
  clear h24
  have h36 := RI.mid h25 md34 (by omega)
  clear h25
  have h37 := OI.mid h23 md34 (by omega)
  clear h23
  have b38 := below_mid b28 z29 md34 (by omega)
  have z39 := b38.size
  have y40 := md34.size
  go_wp2_with fail
  with_reducible refine (toI A1 d1 c1 _ _ _ h36 hl1).mono ?_
  rintro e w5 ⟨AA41, cc42, rfl, h43, md44⟩
  have h45 := RI.mid h35 md44 (by omega)
  clear h35
  have h46 := RI.mid h36 md44 (by omega)
  clear h36
  have h47 := OI.mid h37 md44 (by omega)
  clear h37
  have h48 := OI.mid h33 md44 (by omega)
  clear h33
  have b49 := below_mid b38 z39 md44 (by omega)
  have z50 := b49.size
  have y51 := md44.size
  go_wp2_with fail
  with_reducible refine (simpl_ComposePermutations _ d0 _ _ d1 _ _ _ _ (OI.ri h48) hl0 _ _ (OI.ri h43) hl1 res0 HRES.out).mono ?_
  rintro e w6 ⟨AA53, cc54, rfl, h55, md52⟩
  have h56 := RI.mid h45 md52 (by omega)
  clear h45
  have h57 := RI.mid h46 md52 (by omega)
  clear h46
  have h58 := OI.mid h47 md52 (by omega)
  clear h47
  have h59 := OI.mid h48 md52 (by omega)
  clear h48
  have h60 := OI.mid h43 md52 (by omega)
  clear h43
  have b61 := below_mid b49 z50 md52 (by omega)
  have z62 := b61.size
  have y63 := md52.size
  go_wp2_with fail
  with_reducible refine (eqI _ _ res0 _ _ _ _ _ _ _ (OI.ri h55) (OI.ri h58) hlr0).mono ?_
  rintro e w7 ⟨rfl, md64⟩
  have h65 := RI.mid h56 md64 (by omega)
  clear h56
  have h66 := RI.mid h57 md64 (by omega)
  clear h57
  have h67 := OI.mid h58 md64 (by omega)
  clear h58
  have h68 := OI.mid h59 md64 (by omega)
  clear h59
  have h69 := OI.mid h60 md64 (by omega)
  clear h60
  have h70 := OI.mid h55 md64 (by omega)
  clear h55
  have b71 := below_mid b61 z62 md64 (by omega)
  have z72 := b71.size
  have y73 := md64.size
  go_wp2_with fail
  with_reducible refine (toI A0 d0 c0 _ _ _ h65 hl0).mono ?_
  rintro e w8 ⟨AA74, cc75, rfl, h76, md77⟩
  have h78 := RI.mid h65 md77 (by omega)
  clear h65
  have h79 := RI.mid h66 md77 (by omega)
  clear h66
  have h80 := OI.mid h67 md77 (by omega)
  clear h67
  have h81 := OI.mid h68 md77 (by omega)
  clear h68
  have h82 := OI.mid h69 md77 (by omega)
  clear h69
  have h83 := OI.mid h70 md77 (by omega)
  clear h70
  have b84 := below_mid b71 z72 md77 (by omega)
  have z85 := b84.size
  have y86 := md77.size
  go_wp2_with fail
  with_reducible refine (eqI _ _ d0 _ _ _ _ _ _ _ (OI.ri h81) (OI.ri h76) hl0).mono ?_
  rintro e w9 ⟨rfl, md87⟩
  have h88 := RI.mid h78 md87 (by omega)
  clear h78
  have h89 := RI.mid h79 md87 (by omega)
  clear h79
  have h90 := OI.mid h80 md87 (by omega)
  clear h80
  have h91 := OI.mid h81 md87 (by omega)
  clear h81
  have h92 := OI.mid h82 md87 (by omega)
  clear h82
  have h93 := OI.mid h83 md87 (by omega)
  clear h83
  have h94 := OI.mid h76 md87 (by omega)
  clear h76
  have b95 := below_mid b84 z85 md87 (by omega)
  have z96 := b95.size
  have y97 := md87.size
  go_wp2_with fail
  with_reducible refine (toI A1 d1 c1 _ _ _ h89 hl1).mono ?_
  rintro e w10 ⟨AA98, cc99, rfl, h100, md101⟩
  have h102 := RI.mid h88 md101 (by omega)
  clear h88
  have h103 := RI.mid h89 md101 (by omega)
  clear h89
  have h104 := OI.mid h90 md101 (by omega)
  clear h90
  have h105 := OI.mid h91 md101 (by omega)
  clear h91
  have h106 := OI.mid h92 md101 (by omega)
  clear h92
  have h107 := OI.mid h93 md101 (by omega)
  clear h93
  have b108 := below_mid b95 z96 md101 (by omega)
  have z109 := b108.size
  have y110 := md101.size
  go_wp2_with fail
  with_reducible refine (eqI _ _ d1 _ _ _ _ _ _ _ (OI.ri h106) (OI.ri h100) hl1).mono ?_
  rintro e w11 ⟨rfl, md111⟩
  have h112 := RI.mid h102 md111 (by omega)
  clear h102
  have h113 := RI.mid h103 md111 (by omega)
  clear h103
  have h114 := OI.mid h104 md111 (by omega)
  clear h104
  have h115 := OI.mid h105 md111 (by omega)
  clear h105
  have h116 := OI.mid h106 md111 (by omega)
  clear h106
  have h117 := OI.mid h107 md111 (by omega)
  clear h107
  have h118 := OI.mid h100 md111 (by omega)
  clear h100
  have b119 := below_mid b108 z109 md111 (by omega)
  have z120 := b119.size
  have y121 := md111.size
  go_wp2_with fail
  with_reducible refine (markI _ d0 _ 1 _ _ _ h115 (by omega) (by omega) hl0).mono ?_
  rintro e w12 ⟨rfl, h122, md123⟩
  have h124 := RI.mid h112 md123 (by omega)
  clear h112
  have h125 := RI.mid h113 md123 (by omega)
  clear h113
  have h126 := OI.mid h114 md123 (by omega)
  clear h114
  have h127 := OI.mid h116 md123 (by omega)
  clear h116
  have h128 := OI.mid h117 md123 (by omega)
  clear h117
  have b129 := below_mid b119 z120 md123 (by omega)
  have z130 := b129.size
  have y131 := md123.size
  go_wp2_with fail
  with_reducible refine (markI _ d1 _ (1 + (d0.length : Int)) _ _ _ h127 (by omega) (by omega) hl1).mono ?_
  rintro e w13 ⟨rfl, h132, md133⟩
  have h134 := RI.mid h124 md133 (by omega)
  clear h124
  have h135 := RI.mid h125 md133 (by omega)
  clear h125
  have h136 := OI.mid h126 md133 (by omega)
  clear h126
  have h137 := OI.mid h122 md133 (by omega)
  clear h122
  have h138 := OI.mid h128 md133 (by omega)
  clear h128
  have b139 := below_mid b129 z130 md133 (by omega)
  have z140 := b139.size
  have y141 := md133.size
  go_wp2_with fail
  with_reducible refine (eqI _ _ res0 _ _ _ _ _ _ _ (OI.ri h138) (OI.ri h136) hlr0).mono ?_
  rintro e w14 ⟨rfl, md142⟩
  have h143 := RI.mid h134 md142 (by omega)
  clear h134
  have h144 := RI.mid h135 md142 (by omega)
  clear h135
  have h145 := OI.mid h136 md142 (by omega)
  clear h136
  have h146 := OI.mid h138 md142 (by omega)
  clear h138
  have b147 := below_mid b139 z140 md142 (by omega)
  have z148 := b147.size
  have y149 := md142.size
  go_wp2_with fail
  with_reducible refine (markI _ res0 _ 1 _ _ _ h146 (by omega) (by omega) hlr0).mono ?_
  rintro e w15 ⟨rfl, h150, md151⟩
  have h152 := RI.mid h143 md151 (by omega)
  clear h143
  have h153 := RI.mid h144 md151 (by omega)
  clear h144
  have h154 := OI.mid h145 md151 (by omega)
  clear h145
  have b155 := below_mid b147 z148 md151 (by omega)
  have z156 := b155.size
  have y157 := md151.size
  go_wp2_with fail
  with_reducible refine (heldI _ res0.length _ 1 _ _ _ h150 (by omega) (by omega) hlr0).mono ?_
  rintro e w16 ⟨rfl, md158⟩
  have h159 := RI.mid h152 md158 (by omega)
  clear h152
  have h160 := RI.mid h153 md158 (by omega)
  clear h153
  have h161 := OI.mid h154 md158 (by omega)
  clear h154
  have h162 := OI.mid h150 md158 (by omega)
  clear h150
  have b163 := below_mid b155 z156 md158 (by omega)
  have z164 := b163.size
  have y165 := md158.size
  go_wp2_with fail
  with_reducible refine (toI A0 d0 c0 _ _ _ h159 hl0).mono ?_
  rintro e w17 ⟨AA166, cc167, rfl, h168, md169⟩
  have h170 := RI.mid h159 md169 (by omega)
  clear h159
  have h171 := RI.mid h160 md169 (by omega)
  clear h160
  have h172 := OI.mid h161 md169 (by omega)
  clear h161
  have h173 := OI.mid h162 md169 (by omega)
  clear h162
  have b174 := below_mid b163 z164 md169 (by omega)
  have z175 := b174.size
  have y176 := md169.size
  go_wp2_with fail
  with_reducible refine (toI A1 d1 c1 _ _ _ h171 hl1).mono ?_
  rintro e w18 ⟨AA177, cc178, rfl, h179, md180⟩
  have h181 := RI.mid h170 md180 (by omega)
  clear h170
  have h182 := RI.mid h171 md180 (by omega)
  clear h171
  have h183 := OI.mid h172 md180 (by omega)
  clear h172
  have h184 := OI.mid h173 md180 (by omega)
  clear h173
  have h185 := OI.mid h168 md180 (by omega)
  clear h168
  have b186 := below_mid b174 z175 md180 (by omega)
  have z187 := b186.size
  have y188 := md180.size
  go_wp2_with fail
  with_reducible refine (simpl_ComposePermutations _ d0 _ _ d1 _ _ _ _ (OI.ri h185) hl0 _ _ (OI.ri h179) hl1 res0 HRES.out).mono ?_
  rintro e w19 ⟨AA190, cc191, rfl, h192, md189⟩
  have h193 := RI.mid h181 md189 (by omega)
  clear h181
  have h194 := RI.mid h182 md189 (by omega)
  clear h182
  have h195 := OI.mid h183 md189 (by omega)
  clear h183
  have h196 := OI.mid h184 md189 (by omega)
  clear h184
  have h197 := OI.mid h185 md189 (by omega)
  clear h185
  have h198 := OI.mid h179 md189 (by omega)
  clear h179
  have b199 := below_mid b186 z187 md189 (by omega)
  have z200 := b199.size
  have y201 := md189.size
  go_wp2_with fail
  with_reducible refine (eqI _ _ res0 _ _ _ _ _ _ _ (OI.ri h192) (OI.ri h195) hlr0).mono ?_
  rintro e w20 ⟨rfl, md202⟩
  have h203 := RI.mid h193 md202 (by omega)
  clear h193
  have h204 := RI.mid h194 md202 (by omega)
  clear h194
  have h205 := OI.mid h195 md202 (by omega)
  clear h195
  have h206 := OI.mid h196 md202 (by omega)
  clear h196
  have h207 := OI.mid h192 md202 (by omega)
  clear h192
  have b208 := below_mid b199 z200 md202 (by omega)
  have z209 := b208.size
  have y210 := md202.size
  go_wp2_with fail
  with_reducible refine (heldI _ res0.length _ 1 _ _ _ h206 (by omega) (by omega) hlr0).mono ?_
  rintro e w21 ⟨rfl, md211⟩
  have h212 := RI.mid h203 md211 (by omega)
  clear h203
  have h213 := RI.mid h204 md211 (by omega)
  clear h204
  have h214 := OI.mid h205 md211 (by omega)
  clear h205
  have h215 := OI.mid h206 md211 (by omega)
  clear h206
  have h216 := OI.mid h207 md211 (by omega)
  clear h207
  have b217 := below_mid b208 z209 md211 (by omega)
  have z218 := b217.size
  have y219 := md211.size
  go_wp2_with fail
  go_ret
  exact ⟨rfl, b217⟩
end Go.Proofs.Ytpgbpdnijpjfjaa
