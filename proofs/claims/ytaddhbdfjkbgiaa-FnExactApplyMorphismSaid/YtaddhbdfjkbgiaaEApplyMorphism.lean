/- The walk of the law FnExactApplyMorphism: it returns true at every input, and turns nothing that was there. -/
import Derived.Test.YtaddhbdfjkbgiaaL26
import Derived.Deep.RegionHeld3
namespace Go.Proofs.Ytaddhbdfjkbgiaa
open Go.RowKit
set_option linter.unusedVariables false
set_option linter.unusedSimpArgs false

set_option maxRecDepth 100000 in
set_option maxHeartbeats 8000000 in
theorem walk_ApplyMorphism (r0 : Int) (A0 : Option Addr) (d0 : List (List Int)) (c0 : Nat) (A1 : Option Addr) (d1 : List Int) (c1 : Nat) (w : World) (_b0 : (Lit.int .i64 r0).wf = true) (m0 : RSS w 0 w.heap.size A0 d0) (_o0 : OkSS d0) (r1 : RI w 0 w.heap.size A1 d1) (_o1 : OkI d1) (_l1 : d1.length ≤ 9223372036854775807) :
    Calls Try.prog 11 #[.agg #[.int .i64 r0, .slice A0 d0.length c0], .slice A1 d1.length c1] w fun e w' => e = .returned (.bool true) ∧ Below w.heap.size w w' := by
  by_cases hbig1 : ¬ (d1.length ≤ 1048576)
  · skip
    have hh1 := m0
    have hh2 := r1
    go_enter Try.func11, Try.ntmps11
    have md3 : Mid 0 0 w (w.alloc (.cells #[.int .i64 r0, .slice A0 d0.length c0] 30)) := Mid.alloc _ _
    have h4 := RSS.mid hh1 md3 (by omega)
    clear hh1
    have h5 := RI.mid hh2 md3 (by omega)
    clear hh2
    have b6 := below_mid (Below.refl w.heap.size w) (Nat.le_refl w.heap.size) md3 (by omega)
    have z7 := b6.size
    have y8 := md3.size
    have bx9 := Box.new w #[.int .i64 r0, .slice A0 d0.length c0] 30
    have y10 : w.heap.size + 1 ≤ (w.alloc (.cells #[.int .i64 r0, .slice A0 d0.length c0] 30)).heap.size := by simp
    have k11 := bx9.cell 0 rfl
    have k12 := bx9.cell 1 rfl
    go_wp2_with fail
    go_ret
    exact ⟨rfl, b6⟩
  have hl1 : d1.length ≤ 1048576 := by omega
  clear hbig1
  obtain ⟨z0, hz0⟩ : ∃ z, z = szI 1048576 (d0.length + sumL d0) := ⟨_, rfl⟩
  have E0 := Lib.hid hz0.symm
  rcases szI_case 1048576 (d0.length + sumL d0) with hs0 | ⟨hs0, hs0'⟩
  · obtain rfl : z0 = -1 := hz0.trans hs0
    clear hs0 hz0
    have hh13 := m0
    have hh14 := r1
    go_enter Try.func11, Try.ntmps11
    have md15 : Mid 0 0 w (w.alloc (.cells #[.int .i64 r0, .slice A0 d0.length c0] 30)) := Mid.alloc _ _
    have h16 := RSS.mid hh13 md15 (by omega)
    clear hh13
    have h17 := RI.mid hh14 md15 (by omega)
    clear hh14
    have b18 := below_mid (Below.refl w.heap.size w) (Nat.le_refl w.heap.size) md15 (by omega)
    have z19 := b18.size
    have y20 := md15.size
    have bx21 := Box.new w #[.int .i64 r0, .slice A0 d0.length c0] 30
    have y22 : w.heap.size + 1 ≤ (w.alloc (.cells #[.int .i64 r0, .slice A0 d0.length c0] 30)).heap.size := by simp
    have k23 := bx21.cell 0 rfl
    have k24 := bx21.cell 1 rfl
    go_wp2_with fail
    with_reducible refine (szMorphism_any _ _ d0 _ 1048576 _ _ _ h16 (OkSS.len _o0) (by omega) (by omega)).mono ?_
    rintro e w1 ⟨rfl, md25⟩
    rw [E0.out]
    have bx26 := bx21.mid md25 (by omega)
    clear bx21
    have h27 := RSS.mid h16 md25 (by omega)
    clear h16
    have h28 := RI.mid h17 md25 (by omega)
    clear h17
    have b29 := below_mid b18 z19 md25 (by omega)
    have z30 := b29.size
    have y31 := md25.size
    clear k23
    clear k24
    have k32 := bx26.cell 0 rfl
    have k33 := bx26.cell 1 rfl
    go_wp2_with fail
    go_ret
    exact ⟨rfl, b29⟩
  rw [hs0'] at hz0
  have hp0 : 0 ≤ z0 := by omega
  have hq0 : z0 ≤ 1048576 := by omega
  have hl0 : d0.length + sumL d0 ≤ 1048576 := by omega
  clear hs0 hs0' hz0
  obtain ⟨res0, res1, HRES⟩ : ∃ res0 res1, ApplyMorphismIs r0 d0 d1 res0 res1 := ApplyMorphismIs_ex r0 d0 d1 _b0 _o0 hl0 _o1 hl1
  have hlr0 := ApplyMorphismIs_len HRES _b0 _o0 hl0 _o1 hl1
  have HRES := Lib.hid HRES
  have hh34 := m0
  have hh35 := r1
  go_enter Try.func11, Try.ntmps11
  have md36 : Mid 0 0 w (w.alloc (.cells #[.int .i64 r0, .slice A0 d0.length c0] 30)) := Mid.alloc _ _
  have h37 := RSS.mid hh34 md36 (by omega)
  clear hh34
  have h38 := RI.mid hh35 md36 (by omega)
  clear hh35
  have b39 := below_mid (Below.refl w.heap.size w) (Nat.le_refl w.heap.size) md36 (by omega)
  have z40 := b39.size
  have y41 := md36.size
  have bx42 := Box.new w #[.int .i64 r0, .slice A0 d0.length c0] 30
  have y43 : w.heap.size + 1 ≤ (w.alloc (.cells #[.int .i64 r0, .slice A0 d0.length c0] 30)).heap.size := by simp
  have k44 := bx42.cell 0 rfl
  have k45 := bx42.cell 1 rfl
  go_wp2_with fail
  with_reducible refine (szMorphism_any _ _ d0 _ 1048576 _ _ _ h37 (OkSS.len _o0) (by omega) (by omega)).mono ?_
  rintro e w2 ⟨rfl, md46⟩
  rw [E0.out]
  have bx47 := bx42.mid md46 (by omega)
  clear bx42
  have h48 := RSS.mid h37 md46 (by omega)
  clear h37
  have h49 := RI.mid h38 md46 (by omega)
  clear h38
  have b50 := below_mid b39 z40 md46 (by omega)
  have z51 := b50.size
  have y52 := md46.size
  clear k44
  clear k45
  have k53 := bx47.cell 0 rfl
  have k54 := bx47.cell 1 rfl
  go_wp2_with fail
  with_reducible refine (toMorphism_any r0 _ d0 _ _ _ _ h48 hl0).mono ?_
  rintro e w3 ⟨AA55, cc56, rfl, h57, md58⟩
  have bx59 := bx47.mid md58 (by omega)
  clear bx47
  have h60 := RSS.mid h48 md58 (by omega)
  clear h48
  have h61 := RI.mid h49 md58 (by omega)
  clear h49
  have b62 := below_mid b50 z51 md58 (by omega)
  have z63 := b62.size
  have y64 := md58.size
  clear k53
  clear k54
  have k65 := bx59.cell 0 rfl
  have k66 := bx59.cell 1 rfl
  go_wp2_with fail
  with_reducible refine (toI _ d1 _ _ _ _ h61 hl1).mono ?_
  rintro e w4 ⟨AA67, cc68, rfl, h69, md70⟩
  have bx71 := bx59.mid md70 (by omega)
  clear bx59
  have h72 := RSS.mid h60 md70 (by omega)
  clear h60
  have h73 := RI.mid h61 md70 (by omega)
  clear h61
  have h74 := OSS.mid h57 md70 (by omega)
  clear h57
  have b75 := below_mid b62 z63 md70 (by omega)
  have z76 := b75.size
  have y77 := md70.size
  clear k65
  clear k66
  have k78 := bx71.cell 0 rfl
  have k79 := bx71.cell 1 rfl
  go_wp2_with fail
  with_reducible refine (sspec_ApplyMorphism r0 _ d0 _ _ d1 _ _ _ _ h74 _b0 _o0 hl0 _ _ h69 _o1 hl1 res0 res1 HRES.out).mono ?_
  rintro e w5 ⟨AA81, cc82, rfl, h83, md80⟩
  have bx84 := bx71.mid md80 (by omega)
  clear bx71
  have h85 := RSS.mid h72 md80 (by omega)
  clear h72
  have h86 := RI.mid h73 md80 (by omega)
  clear h73
  have h87 := OSS.mid h74 md80 (by omega)
  clear h74
  have h88 := OI.mid h69 md80 (by omega)
  clear h69
  have b89 := below_mid b75 z76 md80 (by omega)
  have z90 := b89.size
  have y91 := md80.size
  clear k78
  clear k79
  have k92 := bx84.cell 0 rfl
  have k93 := bx84.cell 1 rfl
  go_wp2_with fail
  with_reducible refine (toMorphism_any r0 _ d0 _ _ _ _ h85 hl0).mono ?_
  rintro e w6 ⟨AA94, cc95, rfl, h96, md97⟩
  have bx98 := bx84.mid md97 (by omega)
  clear bx84
  have h99 := RSS.mid h85 md97 (by omega)
  clear h85
  have h100 := RI.mid h86 md97 (by omega)
  clear h86
  have h101 := OI.mid h83 md97 (by omega)
  clear h83
  have b102 := below_mid b89 z90 md97 (by omega)
  have z103 := b102.size
  have y104 := md97.size
  clear k92
  clear k93
  have k105 := bx98.cell 0 rfl
  have k106 := bx98.cell 1 rfl
  have md107 : Mid 0 0 w6 (w6.alloc (.cells #[.int .i64 r0, .slice AA94 d0.length cc95] 24)) := Mid.alloc _ _
  have bx108 := bx98.mid md107 (by omega)
  clear bx98
  have h109 := RSS.mid h99 md107 (by omega)
  clear h99
  have h110 := RI.mid h100 md107 (by omega)
  clear h100
  have h111 := OI.mid h101 md107 (by omega)
  clear h101
  have h112 := OSS.mid h96 md107 (by omega)
  clear h96
  have b113 := below_mid b102 z103 md107 (by omega)
  have z114 := b113.size
  have y115 := md107.size
  have bx116 := Box.new w6 #[.int .i64 r0, .slice AA94 d0.length cc95] 24
  have y117 : w6.heap.size + 1 ≤ (w6.alloc (.cells #[.int .i64 r0, .slice AA94 d0.length cc95] 24)).heap.size := by simp
  clear k105
  clear k106
  have k118 := bx108.cell 0 rfl
  have k119 := bx108.cell 1 rfl
  have k120 := bx116.cell 0 rfl
  have k121 := bx116.cell 1 rfl
  go_wp2_with fail
  with_reducible refine (toI _ d1 _ _ _ _ h110 hl1).mono ?_
  rintro e w7 ⟨AA122, cc123, rfl, h124, md125⟩
  have bx126 := bx108.mid md125 (by omega)
  clear bx108
  have h127 := RSS.mid h109 md125 (by omega)
  clear h109
  have h128 := RI.mid h110 md125 (by omega)
  clear h110
  have h129 := OI.mid h111 md125 (by omega)
  clear h111
  have bx130 := bx116.mid md125 (by omega)
  clear bx116
  have h131 := OSS.mid h112 md125 (by omega)
  clear h112
  have b132 := below_mid b113 z114 md125 (by omega)
  have z133 := b132.size
  have y134 := md125.size
  clear k118
  clear k119
  have k135 := bx126.cell 0 rfl
  have k136 := bx126.cell 1 rfl
  clear k120
  clear k121
  have k137 := bx130.cell 0 rfl
  have k138 := bx130.cell 1 rfl
  go_wp2_with fail
  with_reducible refine (simpl_ApplyMorphism r0 _ d0 _ _ d1 _ _ _ _ h131 _b0 _o0 hl0 _ _ h124 _o1 hl1 res0 res1 HRES.out).mono ?_
  rintro e w8 ⟨AA140, cc141, rfl, h142, md139⟩
  have bx143 := bx126.mid md139 (by omega)
  clear bx126
  have h144 := RSS.mid h127 md139 (by omega)
  clear h127
  have h145 := RI.mid h128 md139 (by omega)
  clear h128
  have h146 := OI.mid h129 md139 (by omega)
  clear h129
  have bx147 := bx130.mid md139 (by omega)
  clear bx130
  have h148 := OSS.mid h131 md139 (by omega)
  clear h131
  have h149 := OI.mid h124 md139 (by omega)
  clear h124
  have b150 := below_mid b132 z133 md139 (by omega)
  have z151 := b150.size
  have y152 := md139.size
  clear k135
  clear k136
  have k153 := bx143.cell 0 rfl
  have k154 := bx143.cell 1 rfl
  clear k137
  clear k138
  have k155 := bx147.cell 0 rfl
  have k156 := bx147.cell 1 rfl
  go_wp2_with fail
  with_reducible refine (eqI _ _ res0 _ _ _ _ _ _ _ (OI.ri h142) (OI.ri h146) hlr0).mono ?_
  rintro e w9 ⟨rfl, md157⟩
  have bx158 := bx143.mid md157 (by omega)
  clear bx143
  have h159 := RSS.mid h144 md157 (by omega)
  clear h144
  have h160 := RI.mid h145 md157 (by omega)
  clear h145
  have h161 := OI.mid h146 md157 (by omega)
  clear h146
  have bx162 := bx147.mid md157 (by omega)
  clear bx147
  have h163 := OSS.mid h148 md157 (by omega)
  clear h148
  have h164 := OI.mid h149 md157 (by omega)
  clear h149
  have h165 := OI.mid h142 md157 (by omega)
  clear h142
  have b166 := below_mid b150 z151 md157 (by omega)
  have z167 := b166.size
  have y168 := md157.size
  clear k153
  clear k154
  have k169 := bx158.cell 0 rfl
  have k170 := bx158.cell 1 rfl
  clear k155
  clear k156
  have k171 := bx162.cell 0 rfl
  have k172 := bx162.cell 1 rfl
  go_wp2_with fail
  have md173 : Mid 0 0 w9 w9.drew := Mid.drew1 _
  have bx174 := bx158.mid md173 (by omega)
  have h175 := RSS.mid h159 md173 (by omega)
  have h176 := RI.mid h160 md173 (by omega)
  have h177 := OI.mid h161 md173 (by omega)
  have bx178 := bx162.mid md173 (by omega)
  have h179 := OSS.mid h163 md173 (by omega)
  have h180 := OI.mid h164 md173 (by omega)
  have h181 := OI.mid h165 md173 (by omega)
  have b182 := below_mid b166 z167 md173 (by omega)
  have z183 := b182.size
  have y184 := md173.size
  have k185 := bx174.cell 0 rfl
  have k186 := bx174.cell 1 rfl
  have k187 := bx178.cell 0 rfl
  have k188 := bx178.cell 1 rfl
  go_region_held3 (fun w' => w'.cell? ⟨w6.heap.size, 0, none⟩ = some (.int .i64 r0) ∧ w'.cell? ⟨w6.heap.size, 1, none⟩ = some (.slice AA94 d0.length cc95) ∧ w'.cell? ⟨w.heap.size, 0, none⟩ = some (.int .i64 r0) ∧ w'.cell? ⟨w.heap.size, 1, none⟩ = some (.slice A0 d0.length c0)) (first | exact ⟨k171, k172, k169, k170⟩ | exact ⟨k187, k188, k185, k186⟩ | exact ⟨k206, k207, k204, k205⟩ | exact ⟨k223, k224, k221, k222⟩) (first | (go_at_call 22; with_reducible refine (toMorphism_any r0 _ d0 _ _ _ _ h175 hl0).mono ?_; rintro e w10 ⟨AA189, cc190, rfl, h191, md192⟩; have bx193 := bx174.mid md192 (by omega); have h194 := RSS.mid h175 md192 (by omega); have h195 := RI.mid h176 md192 (by omega); have h196 := OI.mid h177 md192 (by omega); have bx197 := bx178.mid md192 (by omega); have h198 := OSS.mid h179 md192 (by omega); have h199 := OI.mid h180 md192 (by omega); have h200 := OI.mid h181 md192 (by omega); have b201 := below_mid b182 z183 md192 (by omega); have z202 := b201.size; have y203 := md192.size; have k204 := bx193.cell 0 rfl; have k205 := bx193.cell 1 rfl; have k206 := bx197.cell 0 rfl; have k207 := bx197.cell 1 rfl) | (go_at_call 17; with_reducible refine (eqMorphism_same _ _ _ d0 _ _ _ _ _ _ _ (OSS.rss h198) (OSS.rss h191) hl0).mono ?_; rintro e w11 ⟨rfl, md208⟩; have bx209 := bx193.mid md208 (by omega); have h210 := RSS.mid h194 md208 (by omega); have h211 := RI.mid h195 md208 (by omega); have h212 := OI.mid h196 md208 (by omega); have bx213 := bx197.mid md208 (by omega); have h214 := OSS.mid h198 md208 (by omega); have h215 := OI.mid h199 md208 (by omega); have h216 := OI.mid h200 md208 (by omega); have h217 := OSS.mid h191 md208 (by omega); have b218 := below_mid b201 z202 md208 (by omega); have z219 := b218.size; have y220 := md208.size; have k221 := bx209.cell 0 rfl; have k222 := bx209.cell 1 rfl; have k223 := bx213.cell 0 rfl; have k224 := bx213.cell 1 rfl))
  go_wp2_with fail
  with_reducible refine (toI _ d1 _ _ _ _ h211 hl1).mono ?_
  rintro e w12 ⟨AA225, cc226, rfl, h227, md228⟩
  have bx229 := bx209.mid md228 (by omega)
  clear bx209
  have h230 := RSS.mid h210 md228 (by omega)
  clear h210
  have h231 := RI.mid h211 md228 (by omega)
  clear h211
  have h232 := OI.mid h212 md228 (by omega)
  clear h212
  have bx233 := bx213.mid md228 (by omega)
  clear bx213
  have h234 := OSS.mid h214 md228 (by omega)
  clear h214
  have h235 := OI.mid h215 md228 (by omega)
  clear h215
  have h236 := OI.mid h216 md228 (by omega)
  clear h216
  have b237 := below_mid b218 z219 md228 (by omega)
  have z238 := b237.size
  have y239 := md228.size
  clear k221
  clear k222
  have k240 := bx229.cell 0 rfl
  have k241 := bx229.cell 1 rfl
  clear k223
  clear k224
  have k242 := bx233.cell 0 rfl
  have k243 := bx233.cell 1 rfl
  go_wp2_with fail
  with_reducible refine (eqI _ _ d1 _ _ _ _ _ _ _ (OI.ri h235) (OI.ri h227) hl1).mono ?_
  rintro e w13 ⟨rfl, md244⟩
  have bx245 := bx229.mid md244 (by omega)
  clear bx229
  have h246 := RSS.mid h230 md244 (by omega)
  clear h230
  have h247 := RI.mid h231 md244 (by omega)
  clear h231
  have h248 := OI.mid h232 md244 (by omega)
  clear h232
  have bx249 := bx233.mid md244 (by omega)
  clear bx233
  have h250 := OSS.mid h234 md244 (by omega)
  clear h234
  have h251 := OI.mid h235 md244 (by omega)
  clear h235
  have h252 := OI.mid h236 md244 (by omega)
  clear h236
  have h253 := OI.mid h227 md244 (by omega)
  clear h227
  have b254 := below_mid b237 z238 md244 (by omega)
  have z255 := b254.size
  have y256 := md244.size
  clear k240
  clear k241
  have k257 := bx245.cell 0 rfl
  have k258 := bx245.cell 1 rfl
  clear k242
  clear k243
  have k259 := bx249.cell 0 rfl
  have k260 := bx249.cell 1 rfl
  go_wp2_with fail
  with_reducible refine (markMorphism_any _ _ d0 _ 1 _ _ _ h250 (by omega) (by omega) hl0).mono ?_
  rintro e w14 ⟨rfl, h261, md262⟩
  have bx263 := bx245.mid md262 (by omega)
  clear bx245
  have h264 := RSS.mid h246 md262 (by omega)
  clear h246
  have h265 := RI.mid h247 md262 (by omega)
  clear h247
  have h266 := OI.mid h248 md262 (by omega)
  clear h248
  have bx267 := bx249.mid md262 (by omega)
  clear bx249
  have h268 := OI.mid h251 md262 (by omega)
  clear h251
  have h269 := OI.mid h252 md262 (by omega)
  clear h252
  have b270 := below_mid b254 z255 md262 (by omega)
  have z271 := b270.size
  have y272 := md262.size
  clear h250
  clear k257
  clear k258
  have k273 := bx263.cell 0 rfl
  have k274 := bx263.cell 1 rfl
  clear k259
  clear k260
  have k275 := bx267.cell 0 rfl
  have k276 := bx267.cell 1 rfl
  go_wp2_with fail
  with_reducible refine (markI _ d1 _ (1 + (sumL d0 : Int)) _ _ _ h268 (by omega) (by omega) hl1).mono ?_
  rintro e w15 ⟨rfl, h277, md278⟩
  have bx279 := bx263.mid md278 (by omega)
  clear bx263
  have h280 := RSS.mid h264 md278 (by omega)
  clear h264
  have h281 := RI.mid h265 md278 (by omega)
  clear h265
  have h282 := OI.mid h266 md278 (by omega)
  clear h266
  have bx283 := bx267.mid md278 (by omega)
  clear bx267
  have h284 := OSS.mid h261 md278 (by omega)
  clear h261
  have h285 := OI.mid h269 md278 (by omega)
  clear h269
  have b286 := below_mid b270 z271 md278 (by omega)
  have z287 := b286.size
  have y288 := md278.size
  clear h268
  clear k273
  clear k274
  have k289 := bx279.cell 0 rfl
  have k290 := bx279.cell 1 rfl
  clear k275
  clear k276
  have k291 := bx283.cell 0 rfl
  have k292 := bx283.cell 1 rfl
  go_wp2_with fail
  with_reducible refine (eqI _ _ res0 _ _ _ _ _ _ _ (OI.ri h285) (OI.ri h282) hlr0).mono ?_
  rintro e w16 ⟨rfl, md293⟩
  have bx294 := bx279.mid md293 (by omega)
  clear bx279
  have h295 := RSS.mid h280 md293 (by omega)
  clear h280
  have h296 := RI.mid h281 md293 (by omega)
  clear h281
  have h297 := OI.mid h282 md293 (by omega)
  clear h282
  have h298 := OI.mid h285 md293 (by omega)
  clear h285
  have b299 := below_mid b286 z287 md293 (by omega)
  have z300 := b299.size
  have y301 := md293.size
  clear k289
  clear k290
  have k302 := bx294.cell 0 rfl
  have k303 := bx294.cell 1 rfl
  go_wp2_with fail
  with_reducible refine (markI _ res0 _ 1 _ _ _ h298 (by omega) (by omega) hlr0).mono ?_
  rintro e w17 ⟨rfl, h304, md305⟩
  have bx306 := bx294.mid md305 (by omega)
  clear bx294
  have h307 := RSS.mid h295 md305 (by omega)
  clear h295
  have h308 := RI.mid h296 md305 (by omega)
  clear h296
  have h309 := OI.mid h297 md305 (by omega)
  clear h297
  have b310 := below_mid b299 z300 md305 (by omega)
  have z311 := b310.size
  have y312 := md305.size
  clear h298
  clear k302
  clear k303
  have k313 := bx306.cell 0 rfl
  have k314 := bx306.cell 1 rfl
  go_wp2_with fail
  with_reducible refine (heldI _ res0.length _ 1 _ _ _ h304 (by omega) (by omega) hlr0).mono ?_
  rintro e w18 ⟨rfl, md315⟩
  have bx316 := bx306.mid md315 (by omega)
  clear bx306
  have h317 := RSS.mid h307 md315 (by omega)
  clear h307
  have h318 := RI.mid h308 md315 (by omega)
  clear h308
  have h319 := OI.mid h309 md315 (by omega)
  clear h309
  have h320 := OI.mid h304 md315 (by omega)
  clear h304
  have b321 := below_mid b310 z311 md315 (by omega)
  have z322 := b321.size
  have y323 := md315.size
  clear k313
  clear k314
  have k324 := bx316.cell 0 rfl
  have k325 := bx316.cell 1 rfl
  go_wp2_with fail
  with_reducible refine (toMorphism_any r0 _ d0 _ _ _ _ h317 hl0).mono ?_
  rintro e w19 ⟨AA326, cc327, rfl, h328, md329⟩
  have bx330 := bx316.mid md329 (by omega)
  clear bx316
  have h331 := RSS.mid h317 md329 (by omega)
  clear h317
  have h332 := RI.mid h318 md329 (by omega)
  clear h318
  have h333 := OI.mid h319 md329 (by omega)
  clear h319
  have h334 := OI.mid h320 md329 (by omega)
  clear h320
  have b335 := below_mid b321 z322 md329 (by omega)
  have z336 := b335.size
  have y337 := md329.size
  clear k324
  clear k325
  have k338 := bx330.cell 0 rfl
  have k339 := bx330.cell 1 rfl
  go_wp2_with fail
  with_reducible refine (toI _ d1 _ _ _ _ h332 hl1).mono ?_
  rintro e w20 ⟨AA340, cc341, rfl, h342, md343⟩
  have bx344 := bx330.mid md343 (by omega)
  clear bx330
  have h345 := RSS.mid h331 md343 (by omega)
  clear h331
  have h346 := RI.mid h332 md343 (by omega)
  clear h332
  have h347 := OI.mid h333 md343 (by omega)
  clear h333
  have h348 := OI.mid h334 md343 (by omega)
  clear h334
  have h349 := OSS.mid h328 md343 (by omega)
  clear h328
  have b350 := below_mid b335 z336 md343 (by omega)
  have z351 := b350.size
  have y352 := md343.size
  clear k338
  clear k339
  have k353 := bx344.cell 0 rfl
  have k354 := bx344.cell 1 rfl
  go_wp2_with fail
  with_reducible refine (simpl_ApplyMorphism r0 _ d0 _ _ d1 _ _ _ _ h349 _b0 _o0 hl0 _ _ h342 _o1 hl1 res0 res1 HRES.out).mono ?_
  rintro e w21 ⟨AA356, cc357, rfl, h358, md355⟩
  have bx359 := bx344.mid md355 (by omega)
  clear bx344
  have h360 := RSS.mid h345 md355 (by omega)
  clear h345
  have h361 := RI.mid h346 md355 (by omega)
  clear h346
  have h362 := OI.mid h347 md355 (by omega)
  clear h347
  have h363 := OI.mid h348 md355 (by omega)
  clear h348
  have h364 := OSS.mid h349 md355 (by omega)
  clear h349
  have h365 := OI.mid h342 md355 (by omega)
  clear h342
  have b366 := below_mid b350 z351 md355 (by omega)
  have z367 := b366.size
  have y368 := md355.size
  clear k353
  clear k354
  have k369 := bx359.cell 0 rfl
  have k370 := bx359.cell 1 rfl
  go_wp2_with fail
  with_reducible refine (eqI _ _ res0 _ _ _ _ _ _ _ (OI.ri h358) (OI.ri h362) hlr0).mono ?_
  rintro e w22 ⟨rfl, md371⟩
  have bx372 := bx359.mid md371 (by omega)
  clear bx359
  have h373 := RSS.mid h360 md371 (by omega)
  clear h360
  have h374 := RI.mid h361 md371 (by omega)
  clear h361
  have h375 := OI.mid h362 md371 (by omega)
  clear h362
  have h376 := OI.mid h363 md371 (by omega)
  clear h363
  have h377 := OI.mid h358 md371 (by omega)
  clear h358
  have b378 := below_mid b366 z367 md371 (by omega)
  have z379 := b378.size
  have y380 := md371.size
  clear k369
  clear k370
  have k381 := bx372.cell 0 rfl
  have k382 := bx372.cell 1 rfl
  go_wp2_with fail
  with_reducible refine (heldI _ res0.length _ 1 _ _ _ h376 (by omega) (by omega) hlr0).mono ?_
  rintro e w23 ⟨rfl, md383⟩
  have bx384 := bx372.mid md383 (by omega)
  clear bx372
  have h385 := RSS.mid h373 md383 (by omega)
  clear h373
  have h386 := RI.mid h374 md383 (by omega)
  clear h374
  have h387 := OI.mid h375 md383 (by omega)
  clear h375
  have h388 := OI.mid h376 md383 (by omega)
  clear h376
  have h389 := OI.mid h377 md383 (by omega)
  clear h377
  have b390 := below_mid b378 z379 md383 (by omega)
  have z391 := b390.size
  have y392 := md383.size
  clear k381
  clear k382
  have k393 := bx384.cell 0 rfl
  have k394 := bx384.cell 1 rfl
  go_wp2_with fail
  go_ret
  exact ⟨rfl, b390⟩
end Go.Proofs.Ytaddhbdfjkbgiaa
