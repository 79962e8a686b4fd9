/- The walk of the law FnExactReduceNielsen: it returns true at every input, and turns nothing that was there. -/
import Derived.Test.YtchgicdjdbjfgaaL41
namespace Go.Proofs.Ytchgicdjdbjfgaa
open Go.RowKit
set_option linter.unusedVariables false
set_option linter.unusedSimpArgs false

theorem frz_ReduceNielsen {w : World} {b : Nat} {cs : List Value} (h : Box w b cs) : ∀ i, w.frozen? ⟨b, i, none⟩ = false := h.2.2
set_option maxRecDepth 100000 in
set_option maxHeartbeats 8000000 in
theorem walk_ReduceNielsen (A0 : Option Addr) (d0 : List (List Int)) (c0 : Nat) (w : World) (r0 : RSS w 0 w.heap.size A0 d0) (_o0 : OkSS d0) :
    Calls Try.prog 8 #[.slice A0 d0.length c0] w fun e w' => e = .returned (.bool true) ∧ Below w.heap.size w w' := by
  obtain ⟨z0, hz0⟩ : ∃ z, z = szI 1048576 (d0.length + sumL d0) := ⟨_, rfl⟩
  have E0 := Lib.hid hz0.symm
  rcases szI_case 1048576 (d0.length + sumL d0) with hs0 | ⟨hs0, hs0'⟩
  · obtain rfl : z0 = -1 := hz0.trans hs0
    clear hs0 hz0
    have hh1 := r0
    go_enter Try.func8, Try.ntmps8
    go_wp2_with fail
    with_reducible refine (szIntSS_any _ d0 _ 1048576 _ _ _ hh1 (OkSS.len _o0) (by omega) (by omega) _ rfl).mono ?_
    rintro e _ ⟨rfl, rfl⟩
    rw [E0.out]
    go_wp2_with fail
    go_ret
    exact ⟨rfl, (Below.refl w.heap.size w)⟩
  rw [hs0'] at hz0
  have hp0 : 0 ≤ z0 := by omega
  have hq0 : z0 ≤ 1048576 := by omega
  have hl0 : d0.length + sumL d0 ≤ 1048576 := by omega
  clear hs0 hs0' hz0
  obtain ⟨res0, res1, HRES⟩ : ∃ res0 res1, ReduceNielsenIs d0 res0 res1 := ReduceNielsenIs_ex d0 _o0 hl0
  have hlr0 := ReduceNielsenIs_len0 HRES _o0 hl0
  have hlr1 := ReduceNielsenIs_len1 HRES _o0 hl0
  have HRES := Lib.hid HRES
  have hh3 := r0
  go_enter Try.func8, Try.ntmps8
  go_wp2_with fail
  with_reducible refine (szIntSS_any _ d0 _ 1048576 _ _ _ hh3 (OkSS.len _o0) (by omega) (by omega) _ rfl).mono ?_
  rintro e _ ⟨rfl, rfl⟩
  rw [E0.out]
  go_wp2_with fail
  with_reducible refine (toSS _ d0 _ _ _ _ hh3 hl0).mono ?_
  rintro e w3 ⟨AA5, cc6, rfl, h7, md8⟩
  have h9 := RSS.mid hh3 md8 (Or.inl (Nat.zero_le _))
  clear hh3
  have b10 := below_mid (Below.refl w.heap.size w) (Nat.le_refl w.heap.size) md8 (Or.inr rfl)
  have z11 := b10.size
  have y12 := md8.size
  go_wp2_with fail
  with_reducible refine (sspec_ReduceNielsen _ d0 _ _ _ _ (OSS.rss h7) _o0 hl0 res0 res1 HRES.out).mono ?_
  rintro e w4 ⟨AA14, cc15, AA17, cc18, lh21, lh22, lh23, lh24, rfl, h16, h19, di20, md13⟩
  have h25 := RSS.mid h9 md13 (Or.inl (Nat.zero_le _))
  clear h9
  have h26 := OSS.mid h7 md13 (Or.inl (Nat.zero_le _))
  clear h7
  have b27 := below_mid b10 z11 md13 (Or.inr rfl)
  have z28 := b27.size
  have y29 := md13.size
  obtain ⟨dd1, dd2, dd3, dd4, dd5⟩ := di20
  go_wp2_with fail
  with_reducible refine (toSS _ d0 _ _ _ _ h25 hl0).mono ?_
  rintro e w5 ⟨AA30, cc31, rfl, h32, md33⟩
  have h34 := RSS.mid h25 md33 (Or.inl (Nat.zero_le _))
  clear h25
  have h35 := OSS.mid h16 md33 (Or.inl (Nat.zero_le _))
  clear h16
  have h36 := OV.mid h19 md33 (Or.inl (Nat.zero_le _))
  clear h19
  have b37 := below_mid b27 z28 md33 (Or.inr rfl)
  have z38 := b37.size
  have y39 := md33.size
  go_wp2_with fail
  with_reducible refine (simpl_ReduceNielsen _ d0 _ _ _ _ (OSS.rss h32) _o0 hl0 res0 res1 HRES.out).mono ?_
  rintro e w6 ⟨AA41, cc42, AA44, cc45, lh48, lh49, lh50, lh51, rfl, h43, h46, di47, md40⟩
  have h52 := RSS.mid h34 md40 (Or.inl (Nat.zero_le _))
  clear h34
  have h53 := OSS.mid h35 md40 (Or.inl (Nat.zero_le _))
  clear h35
  have h54 := OV.mid h36 md40 (Or.inl (Nat.zero_le _))
  clear h36
  have h55 := OSS.mid h32 md40 (Or.inl (Nat.zero_le _))
  clear h32
  have b56 := below_mid b37 z38 md40 (Or.inr rfl)
  have z57 := b56.size
  have y58 := md40.size
  obtain ⟨dd1, dd2, dd3, dd4, dd5⟩ := di47
  go_wp2_with fail
  with_reducible refine (eqSS _ _ res0 _ _ _ _ _ _ _ (OSS.rss h43) (OSS.rss h53) hlr0).mono ?_
  rintro e w7 ⟨rfl, md59⟩
  have h60 := RSS.mid h52 md59 (Or.inl (Nat.zero_le _))
  clear h52
  have h61 := OSS.mid h53 md59 (Or.inl (Nat.zero_le _))
  clear h53
  have h62 := OV.mid h54 md59 (Or.inl (Nat.zero_le _))
  clear h54
  have h63 := OSS.mid h55 md59 (Or.inl (Nat.zero_le _))
  clear h55
  have h64 := OSS.mid h43 md59 (Or.inl (Nat.zero_le _))
  clear h43
  have h65 := OV.mid h46 md59 (Or.inl (Nat.zero_le _))
  clear h46
  have b66 := below_mid b56 z57 md59 (Or.inr rfl)
  have z67 := b66.size
  have y68 := md59.size
  go_wp2_with fail
  with_reducible refine (eqMvS _ _ res1 _ _ _ _ _ _ _ (OV.rv h65) (OV.rv h62) hlr1).mono ?_
  rintro e w8 ⟨rfl, md69⟩
  have h70 := RSS.mid h60 md69 (Or.inl (Nat.zero_le _))
  clear h60
  have h71 := OSS.mid h61 md69 (Or.inl (Nat.zero_le _))
  clear h61
  have h72 := OV.mid h62 md69 (Or.inl (Nat.zero_le _))
  clear h62
  have h73 := OSS.mid h63 md69 (Or.inl (Nat.zero_le _))
  clear h63
  have h74 := OSS.mid h64 md69 (Or.inl (Nat.zero_le _))
  clear h64
  have h75 := OV.mid h65 md69 (Or.inl (Nat.zero_le _))
  clear h65
  have b76 := below_mid b66 z67 md69 (Or.inr rfl)
  have z77 := b76.size
  have y78 := md69.size
  go_wp2_with fail
  with_reducible refine (toSS _ d0 _ _ _ _ h70 hl0).mono ?_
  rintro e w9 ⟨AA79, cc80, rfl, h81, md82⟩
  have h83 := RSS.mid h70 md82 (Or.inl (Nat.zero_le _))
  clear h70
  have h84 := OSS.mid h71 md82 (Or.inl (Nat.zero_le _))
  clear h71
  have h85 := OV.mid h72 md82 (Or.inl (Nat.zero_le _))
  clear h72
  have h86 := OSS.mid h73 md82 (Or.inl (Nat.zero_le _))
  clear h73
  have h87 := OSS.mid h74 md82 (Or.inl (Nat.zero_le _))
  clear h74
  have h88 := OV.mid h75 md82 (Or.inl (Nat.zero_le _))
  clear h75
  have b89 := below_mid b76 z77 md82 (Or.inr rfl)
  have z90 := b89.size
  have y91 := md82.size
  go_wp2_with fail
  with_reducible refine (eqSS _ _ d0 _ _ _ _ _ _ _ (OSS.rss h86) (OSS.rss h81) hl0).mono ?_
  rintro e w10 ⟨rfl, md92⟩
  have h93 := RSS.mid h83 md92 (Or.inl (Nat.zero_le _))
  clear h83
  have h94 := OSS.mid h84 md92 (Or.inl (Nat.zero_le _))
  clear h84
  have h95 := OV.mid h85 md92 (Or.inl (Nat.zero_le _))
  clear h85
  have h96 := OSS.mid h86 md92 (Or.inl (Nat.zero_le _))
  clear h86
  have h97 := OSS.mid h87 md92 (Or.inl (Nat.zero_le _))
  clear h87
  have h98 := OV.mid h88 md92 (Or.inl (Nat.zero_le _))
  clear h88
  have h99 := OSS.mid h81 md92 (Or.inl (Nat.zero_le _))
  clear h81
  have b100 := below_mid b89 z90 md92 (Or.inr rfl)
  have z101 := b100.size
  have y102 := md92.size
  go_wp2_with fail
  with_reducible refine (markIntSS_any _ d0 _ 1 _ _ _ h96 (by omega) (by omega) hl0).mono ?_
  rintro e w11 ⟨rfl, h103, md104⟩
  have h105 := RSS.mid h93 md104 (by omega)
  clear h93
  have h106 := OSS.mid h94 md104 (by omega)
  clear h94
  have h107 := OV.mid h95 md104 (by omega)
  clear h95
  have h108 := OSS.mid h97 md104 (by omega)
  clear h97
  have h109 := OV.mid h98 md104 (by omega)
  clear h98
  have b110 := below_mid b100 z101 md104 (by omega)
  have z111 := b110.size
  have y112 := md104.size
  clear h96
  go_wp2_with fail
  with_reducible refine (eqSS _ _ res0 _ _ _ _ _ _ _ (OSS.rss h108) (OSS.rss h106) hlr0).mono ?_
  rintro e w12 ⟨rfl, md113⟩
  have h114 := RSS.mid h105 md113 (Or.inl (Nat.zero_le _))
  clear h105
  have h115 := OSS.mid h106 md113 (Or.inl (Nat.zero_le _))
  clear h106
  have h116 := OV.mid h107 md113 (Or.inl (Nat.zero_le _))
  clear h107
  have h117 := OSS.mid h108 md113 (Or.inl (Nat.zero_le _))
  clear h108
  have h118 := OV.mid h109 md113 (Or.inl (Nat.zero_le _))
  clear h109
  have b119 := below_mid b110 z111 md113 (Or.inr rfl)
  have z120 := b119.size
  have y121 := md113.size
  go_wp2_with fail
  with_reducible refine (eqMvS _ _ res1 _ _ _ _ _ _ _ (OV.rv h118) (OV.rv h116) hlr1).mono ?_
  rintro e w13 ⟨rfl, md122⟩
  have h123 := RSS.mid h114 md122 (Or.inl (Nat.zero_le _))
  clear h114
  have h124 := OSS.mid h115 md122 (Or.inl (Nat.zero_le _))
  clear h115
  have h125 := OV.mid h116 md122 (Or.inl (Nat.zero_le _))
  clear h116
  have h126 := OSS.mid h117 md122 (Or.inl (Nat.zero_le _))
  clear h117
  have h127 := OV.mid h118 md122 (Or.inl (Nat.zero_le _))
  clear h118
  have b128 := below_mid b119 z120 md122 (Or.inr rfl)
  have z129 := b128.size
  have y130 := md122.size
  go_wp2_with fail
  with_reducible refine (markIntSS_any _ res0 _ 1 _ _ _ h126 (by omega) (by omega) hlr0).mono ?_
  rintro e w14 ⟨rfl, h131, md132⟩
  have h133 := RSS.mid h123 md132 (by omega)
  clear h123
  have h134 := OSS.mid h124 md132 (by omega)
  clear h124
  have h135 := OV.mid h125 md132 (by omega)
  clear h125
  have h136 := OV.mid h127 md132 (by omega)
  clear h127
  have b137 := below_mid b128 z129 md132 (by omega)
  have z138 := b137.size
  have y139 := md132.size
  clear h126
  go_wp2_with fail
  with_reducible refine (markMvS _ res1 _ (1 + (sumL res0 : Int)) _ _ _ h136 (by omega) (by omega) hlr1).mono ?_
  rintro e w15 ⟨rfl, h140, md141⟩
  have h142 := RSS.mid h133 md141 (by omega)
  clear h133
  have h143 := OSS.mid h134 md141 (by omega)
  clear h134
  have h144 := OV.mid h135 md141 (by omega)
  clear h135
  have h145 := OSS.mid h131 md141 (by omega)
  clear h131
  have b146 := below_mid b137 z138 md141 (by omega)
  have z147 := b146.size
  have y148 := md141.size
  clear h136
  go_wp2_with fail
  with_reducible refine (heldSS _ res0 _ 1 _ _ _ (OSS.rss h145) (by omega) (by omega) hlr0).mono ?_
  rintro e w16 ⟨rfl, md149⟩
  have h150 := RSS.mid h142 md149 (Or.inl (Nat.zero_le _))
  clear h142
  have h151 := OSS.mid h143 md149 (Or.inl (Nat.zero_le _))
  clear h143
  have h152 := OV.mid h144 md149 (Or.inl (Nat.zero_le _))
  clear h144
  have h153 := OSS.mid h145 md149 (Or.inl (Nat.zero_le _))
  clear h145
  have h154 := OV.mid h140 md149 (Or.inl (Nat.zero_le _))
  clear h140
  have b155 := below_mid b146 z147 md149 (Or.inr rfl)
  have z156 := b155.size
  have y157 := md149.size
  go_wp2_with fail
  with_reducible refine (heldMvS _ res1 _ (1 + (sumL res0 : Int)) _ _ _ (OV.rv h154) (by omega) (by omega) hlr1).mono ?_
  rintro e w17 ⟨rfl, md158⟩
  have h159 := RSS.mid h150 md158 (Or.inl (Nat.zero_le _))
  clear h150
  have h160 := OSS.mid h151 md158 (Or.inl (Nat.zero_le _))
  clear h151
  have h161 := OV.mid h152 md158 (Or.inl (Nat.zero_le _))
  clear h152
  have h162 := OSS.mid h153 md158 (Or.inl (Nat.zero_le _))
  clear h153
  have h163 := OV.mid h154 md158 (Or.inl (Nat.zero_le _))
  clear h154
  have b164 := below_mid b155 z156 md158 (Or.inr rfl)
  have z165 := b164.size
  have y166 := md158.size
  go_wp2_with fail
  with_reducible refine (toSS _ d0 _ _ _ _ h159 hl0).mono ?_
  rintro e w18 ⟨AA167, cc168, rfl, h169, md170⟩
  have h171 := RSS.mid h159 md170 (Or.inl (Nat.zero_le _))
  clear h159
  have h172 := OSS.mid h160 md170 (Or.inl (Nat.zero_le _))
  clear h160
  have h173 := OV.mid h161 md170 (Or.inl (Nat.zero_le _))
  clear h161
  have h174 := OSS.mid h162 md170 (Or.inl (Nat.zero_le _))
  clear h162
  have h175 := OV.mid h163 md170 (Or.inl (Nat.zero_le _))
  clear h163
  have b176 := below_mid b164 z165 md170 (Or.inr rfl)
  have z177 := b176.size
  have y178 := md170.size
  go_wp2_with fail
  with_reducible refine (simpl_ReduceNielsen _ d0 _ _ _ _ (OSS.rss h169) _o0 hl0 res0 res1 HRES.out).mono ?_
  rintro e w19 ⟨AA180, cc181, AA183, cc184, lh187, lh188, lh189, lh190, rfl, h182, h185, di186, md179⟩
  have h191 := RSS.mid h171 md179 (Or.inl (Nat.zero_le _))
  clear h171
  have h192 := OSS.mid h172 md179 (Or.inl (Nat.zero_le _))
  clear h172
  have h193 := OV.mid h173 md179 (Or.inl (Nat.zero_le _))
  clear h173
  have h194 := OSS.mid h174 md179 (Or.inl (Nat.zero_le _))
  clear h174
  have h195 := OV.mid h175 md179 (Or.inl (Nat.zero_le _))
  clear h175
  have h196 := OSS.mid h169 md179 (Or.inl (Nat.zero_le _))
  clear h169
  have b197 := below_mid b176 z177 md179 (Or.inr rfl)
  have z198 := b197.size
  have y199 := md179.size
  obtain ⟨dd1, dd2, dd3, dd4, dd5⟩ := di186
  go_wp2_with fail
  with_reducible refine (eqSS _ _ res0 _ _ _ _ _ _ _ (OSS.rss h182) (OSS.rss h192) hlr0).mono ?_
  rintro e w20 ⟨rfl, md200⟩
  have h201 := RSS.mid h191 md200 (Or.inl (Nat.zero_le _))
  clear h191
  have h202 := OSS.mid h192 md200 (Or.inl (Nat.zero_le _))
  clear h192
  have h203 := OV.mid h193 md200 (Or.inl (Nat.zero_le _))
  clear h193
  have h204 := OSS.mid h194 md200 (Or.inl (Nat.zero_le _))
  clear h194
  have h205 := OV.mid h195 md200 (Or.inl (Nat.zero_le _))
  clear h195
  have h206 := OSS.mid h182 md200 (Or.inl (Nat.zero_le _))
  clear h182
  have h207 := OV.mid h185 md200 (Or.inl (Nat.zero_le _))
  clear h185
  have b208 := below_mid b197 z198 md200 (Or.inr rfl)
  have z209 := b208.size
  have y210 := md200.size
  go_wp2_with fail
  with_reducible refine (eqMvS _ _ res1 _ _ _ _ _ _ _ (OV.rv h207) (OV.rv h203) hlr1).mono ?_
  rintro e w21 ⟨rfl, md211⟩
  have h212 := RSS.mid h201 md211 (Or.inl (Nat.zero_le _))
  clear h201
  have h213 := OSS.mid h202 md211 (Or.inl (Nat.zero_le _))
  clear h202
  have h214 := OV.mid h203 md211 (Or.inl (Nat.zero_le _))
  clear h203
  have h215 := OSS.mid h204 md211 (Or.inl (Nat.zero_le _))
  clear h204
  have h216 := OV.mid h205 md211 (Or.inl (Nat.zero_le _))
  clear h205
  have h217 := OSS.mid h206 md211 (Or.inl (Nat.zero_le _))
  clear h206
  have h218 := OV.mid h207 md211 (Or.inl (Nat.zero_le _))
  clear h207
  have b219 := below_mid b208 z209 md211 (Or.inr rfl)
  have z220 := b219.size
  have y221 := md211.size
  go_wp2_with fail
  with_reducible refine (heldSS _ res0 _ 1 _ _ _ (OSS.rss h215) (by omega) (by omega) hlr0).mono ?_
  rintro e w22 ⟨rfl, md222⟩
  have h223 := RSS.mid h212 md222 (Or.inl (Nat.zero_le _))
  clear h212
  have h224 := OSS.mid h213 md222 (Or.inl (Nat.zero_le _))
  clear h213
  have h225 := OV.mid h214 md222 (Or.inl (Nat.zero_le _))
  clear h214
  have h226 := OSS.mid h215 md222 (Or.inl (Nat.zero_le _))
  clear h215
  have h227 := OV.mid h216 md222 (Or.inl (Nat.zero_le _))
  clear h216
  have h228 := OSS.mid h217 md222 (Or.inl (Nat.zero_le _))
  clear h217
  have h229 := OV.mid h218 md222 (Or.inl (Nat.zero_le _))
  clear h218
  have b230 := below_mid b219 z220 md222 (Or.inr rfl)
  have z231 := b230.size
  have y232 := md222.size
  go_wp2_with fail
  with_reducible refine (heldMvS _ res1 _ (1 + (sumL res0 : Int)) _ _ _ (OV.rv h227) (by omega) (by omega) hlr1).mono ?_
  rintro e w23 ⟨rfl, md233⟩
  have h234 := RSS.mid h223 md233 (Or.inl (Nat.zero_le _))
  clear h223
  have h235 := OSS.mid h224 md233 (Or.inl (Nat.zero_le _))
  clear h224
  have h236 := OV.mid h225 md233 (Or.inl (Nat.zero_le _))
  clear h225
  have h237 := OSS.mid h226 md233 (Or.inl (Nat.zero_le _))
  clear h226
  have h238 := OV.mid h227 md233 (Or.inl (Nat.zero_le _))
  clear h227
  have h239 := OSS.mid h228 md233 (Or.inl (Nat.zero_le _))
  clear h228
  have h240 := OV.mid h229 md233 (Or.inl (Nat.zero_le _))
  clear h229
  have b241 := below_mid b230 z231 md233 (Or.inr rfl)
  have z242 := b241.size
  have y243 := md233.size
  go_wp2_with fail
  go_ret
  exact ⟨rfl, b241⟩
end Go.Proofs.Ytchgicdjdbjfgaa
