/- The walk of the law FnExactEqualMorphisms: it returns true at every input, and turns nothing that was there. -/
import Derived.Test.YtaddhbdfjkbgiaaL16
import Derived.Deep.RegionHeld3
namespace Go.Proofs.Ytaddhbdfjkbgiaa
open Go.RowKit
set_option linter.unusedVariables false
set_option linter.unusedSimpArgs false

set_option maxRecDepth 100000 in
set_option maxHeartbeats 8000000 in
theorem walk_EqualMorphisms (r0 : Int) (A0 : Option Addr) (d0 : List (List Int)) (c0 : Nat) (r1 : Int) (A1 : Option Addr) (d1 : List (List Int)) (c1 : Nat) (w : World) (_b0 : (Lit.int .i64 r0).wf = true) (m0 : RSS w 0 w.heap.size A0 d0) (_o0 : OkSS d0) (_b1 : (Lit.int .i64 r1).wf = true) (m1 : RSS w 0 w.heap.size A1 d1) (_o1 : OkSS d1) :
    Calls Try.prog 5 #[.agg #[.int .i64 r0, .slice A0 d0.length c0], .agg #[.int .i64 r1, .slice A1 d1.length c1]] w fun e w' => e = .returned (.bool true) ∧ Below w.heap.size w w' := by
  obtain ⟨z0, hz0⟩ : ∃ z, z = szI 1048576 (d0.length + sumL d0) := ⟨_, rfl⟩
  have E0 := Lib.hid hz0.symm
  rcases szI_case 1048576 (d0.length + sumL d0) with hs0 | ⟨hs0, hs0'⟩
  · obtain rfl : z0 = -1 := hz0.trans hs0
    clear hs0 hz0
    have hh1 := m0
    have hh2 := m1
    go_enter Try.func5, Try.ntmps5
    have md3 : Mid 0 0 w (w.alloc (.cells #[.int .i64 r0, .slice A0 d0.length c0] 30)) := Mid.alloc _ _
    have h4 := RSS.mid hh1 md3 (by omega)
    clear hh1
    have h5 := RSS.mid hh2 md3 (by omega)
    clear hh2
    have b6 := below_mid (Below.refl w.heap.size w) (Nat.le_refl w.heap.size) md3 (by omega)
    have z7 := b6.size
    have y8 := md3.size
    have bx9 := Box.new w #[.int .i64 r0, .slice A0 d0.length c0] 30
    have y10 : w.heap.size + 1 ≤ (w.alloc (.cells #[.int .i64 r0, .slice A0 d0.length c0] 30)).heap.size := by simp
    have md11 : Mid 0 0 (w.alloc (.cells #[.int .i64 r0, .slice A0 d0.length c0] 30)) ((w.alloc (.cells #[.int .i64 r0, .slice A0 d0.length c0] 30)).alloc (.cells #[.int .i64 r1, .slice A1 d1.length c1] 30)) := Mid.alloc _ _
    have bx12 := bx9.mid md11 (by omega)
    clear bx9
    have h13 := RSS.mid h4 md11 (by omega)
    clear h4
    have h14 := RSS.mid h5 md11 (by omega)
    clear h5
    have b15 := below_mid b6 z7 md11 (by omega)
    have z16 := b15.size
    have y17 := md11.size
    have bx18 := Box.new (w.alloc (.cells #[.int .i64 r0, .slice A0 d0.length c0] 30)) #[.int .i64 r1, .slice A1 d1.length c1] 30
    have y19 : (w.alloc (.cells #[.int .i64 r0, .slice A0 d0.length c0] 30)).heap.size + 1 ≤ ((w.alloc (.cells #[.int .i64 r0, .slice A0 d0.length c0] 30)).alloc (.cells #[.int .i64 r1, .slice A1 d1.length c1] 30)).heap.size := by simp
    simp only [World.size_alloc, Nat.add_assoc, Nat.reduceAdd] at bx18
    have k20 := bx12.cell 0 rfl
    have k21 := bx12.cell 1 rfl
    have k22 := bx18.cell 0 rfl
    have k23 := bx18.cell 1 rfl
    go_wp2_with fail
    with_reducible refine (szMorphism_any _ _ d0 _ 1048576 _ _ _ h13 (OkSS.len _o0) (by omega) (by omega)).mono ?_
    rintro e w1 ⟨rfl, md24⟩
    rw [E0.out]
    have bx25 := bx12.mid md24 (by omega)
    clear bx12
    have h26 := RSS.mid h13 md24 (by omega)
    clear h13
    have bx27 := bx18.mid md24 (by omega)
    clear bx18
    have h28 := RSS.mid h14 md24 (by omega)
    clear h14
    have b29 := below_mid b15 z16 md24 (by omega)
    have z30 := b29.size
    have y31 := md24.size
    clear k20
    clear k21
    have k32 := bx25.cell 0 rfl
    have k33 := bx25.cell 1 rfl
    clear k22
    clear k23
    have k34 := bx27.cell 0 rfl
    have k35 := bx27.cell 1 rfl
    go_wp2_with fail
    go_ret
    exact ⟨rfl, b29⟩
  rw [hs0'] at hz0
  have hp0 : 0 ≤ z0 := by omega
  have hq0 : z0 ≤ 1048576 := by omega
  have hl0 : d0.length + sumL d0 ≤ 1048576 := by omega
  clear hs0 hs0' hz0
  obtain ⟨z1, hz1⟩ : ∃ z, z = szI z0 (d1.length + sumL d1) := ⟨_, rfl⟩
  have E1 := Lib.hid hz1.symm
  rcases szI_case z0 (d1.length + sumL d1) with hs1 | ⟨hs1, hs1'⟩
  · obtain rfl : z1 = -1 := hz1.trans hs1
    clear hs1 hz1
    have hh36 := m0
    have hh37 := m1
    go_enter Try.func5, Try.ntmps5
    have md38 : Mid 0 0 w (w.alloc (.cells #[.int .i64 r0, .slice A0 d0.length c0] 30)) := Mid.alloc _ _
    have h39 := RSS.mid hh36 md38 (by omega)
    clear hh36
    have h40 := RSS.mid hh37 md38 (by omega)
    clear hh37
    have b41 := below_mid (Below.refl w.heap.size w) (Nat.le_refl w.heap.size) md38 (by omega)
    have z42 := b41.size
    have y43 := md38.size
    have bx44 := Box.new w #[.int .i64 r0, .slice A0 d0.length c0] 30
    have y45 : w.heap.size + 1 ≤ (w.alloc (.cells #[.int .i64 r0, .slice A0 d0.length c0] 30)).heap.size := by simp
    have md46 : Mid 0 0 (w.alloc (.cells #[.int .i64 r0, .slice A0 d0.length c0] 30)) ((w.alloc (.cells #[.int .i64 r0, .slice A0 d0.length c0] 30)).alloc (.cells #[.int .i64 r1, .slice A1 d1.length c1] 30)) := Mid.alloc _ _
    have bx47 := bx44.mid md46 (by omega)
    clear bx44
    have h48 := RSS.mid h39 md46 (by omega)
    clear h39
    have h49 := RSS.mid h40 md46 (by omega)
    clear h40
    have b50 := below_mid b41 z42 md46 (by omega)
    have z51 := b50.size
    have y52 := md46.size
    have bx53 := Box.new (w.alloc (.cells #[.int .i64 r0, .slice A0 d0.length c0] 30)) #[.int .i64 r1, .slice A1 d1.length c1] 30
    have y54 : (w.alloc (.cells #[.int .i64 r0, .slice A0 d0.length c0] 30)).heap.size + 1 ≤ ((w.alloc (.cells #[.int .i64 r0, .slice A0 d0.length c0] 30)).alloc (.cells #[.int .i64 r1, .slice A1 d1.length c1] 30)).heap.size := by simp
    simp only [World.size_alloc, Nat.add_assoc, Nat.reduceAdd] at bx53
    have k55 := bx47.cell 0 rfl
    have k56 := bx47.cell 1 rfl
    have k57 := bx53.cell 0 rfl
    have k58 := bx53.cell 1 rfl
    go_wp2_with fail
    with_reducible refine (szMorphism_any _ _ d0 _ 1048576 _ _ _ h48 (OkSS.len _o0) (by omega) (by omega)).mono ?_
    rintro e w2 ⟨rfl, md59⟩
    rw [E0.out]
    have bx60 := bx47.mid md59 (by omega)
    clear bx47
    have h61 := RSS.mid h48 md59 (by omega)
    clear h48
    have bx62 := bx53.mid md59 (by omega)
    clear bx53
    have h63 := RSS.mid h49 md59 (by omega)
    clear h49
    have b64 := below_mid b50 z51 md59 (by omega)
    have z65 := b64.size
    have y66 := md59.size
    clear k55
    clear k56
    have k67 := bx60.cell 0 rfl
    have k68 := bx60.cell 1 rfl
    clear k57
    clear k58
    have k69 := bx62.cell 0 rfl
    have k70 := bx62.cell 1 rfl
    go_wp2_with fail
    with_reducible refine (szMorphism_any _ _ d1 _ z0 _ _ _ h63 (OkSS.len _o1) (by omega) (by omega)).mono ?_
    rintro e w3 ⟨rfl, md71⟩
    rw [E1.out]
    have bx72 := bx60.mid md71 (by omega)
    clear bx60
    have h73 := RSS.mid h61 md71 (by omega)
    clear h61
    have bx74 := bx62.mid md71 (by omega)
    clear bx62
    have h75 := RSS.mid h63 md71 (by omega)
    clear h63
    have b76 := below_mid b64 z65 md71 (by omega)
    have z77 := b76.size
    have y78 := md71.size
    clear k67
    clear k68
    have k79 := bx72.cell 0 rfl
    have k80 := bx72.cell 1 rfl
    clear k69
    clear k70
    have k81 := bx74.cell 0 rfl
    have k82 := bx74.cell 1 rfl
    go_wp2_with fail
    go_ret
    exact ⟨rfl, b76⟩
  rw [hs1'] at hz1
  have hp1 : 0 ≤ z1 := by omega
  have hq1 : z1 ≤ 1048576 := by omega
  have hl1 : d1.length + sumL d1 ≤ 1048576 := by omega
  clear hs1 hs1' hz1
  obtain ⟨res0, HRES⟩ : ∃ res0, EqualMorphismsIs r0 d0 r1 d1 res0 := EqualMorphismsIs_ex r0 d0 r1 d1 _b0 _o0 hl0 _b1 _o1 hl1
  have HRES := Lib.hid HRES
  have hh83 := m0
  have hh84 := m1
  go_enter Try.func5, Try.ntmps5
  have md85 : Mid 0 0 w (w.alloc (.cells #[.int .i64 r0, .slice A0 d0.length c0] 30)) := Mid.alloc _ _
  have h86 := RSS.mid hh83 md85 (by omega)
  clear hh83
  have h87 := RSS.mid hh84 md85 (by omega)
  clear hh84
  have b88 := below_mid (Below.refl w.heap.size w) (Nat.le_refl w.heap.size) md85 (by omega)
  have z89 := b88.size
  have y90 := md85.size
  have bx91 := Box.new w #[.int .i64 r0, .slice A0 d0.length c0] 30
  have y92 : w.heap.size + 1 ≤ (w.alloc (.cells #[.int .i64 r0, .slice A0 d0.length c0] 30)).heap.size := by simp
  have md93 : Mid 0 0 (w.alloc (.cells #[.int .i64 r0, .slice A0 d0.length c0] 30)) ((w.alloc (.cells #[.int .i64 r0, .slice A0 d0.length c0] 30)).alloc (.cells #[.int .i64 r1, .slice A1 d1.length c1] 30)) := Mid.alloc _ _
  have bx94 := bx91.mid md93 (by omega)
  clear bx91
  have h95 := RSS.mid h86 md93 (by omega)
  clear h86
  have h96 := RSS.mid h87 md93 (by omega)
  clear h87
  have b97 := below_mid b88 z89 md93 (by omega)
  have z98 := b97.size
  have y99 := md93.size
  have bx100 := Box.new (w.alloc (.cells #[.int .i64 r0, .slice A0 d0.length c0] 30)) #[.int .i64 r1, .slice A1 d1.length c1] 30
  have y101 : (w.alloc (.cells #[.int .i64 r0, .slice A0 d0.length c0] 30)).heap.size + 1 ≤ ((w.alloc (.cells #[.int .i64 r0, .slice A0 d0.length c0] 30)).alloc (.cells #[.int .i64 r1, .slice A1 d1.length c1] 30)).heap.size := by simp
  simp only [World.size_alloc, Nat.add_assoc, Nat.reduceAdd] at bx100
  have k102 := bx94.cell 0 rfl
  have k103 := bx94.cell 1 rfl
  have k104 := bx100.cell 0 rfl
  have k105 := bx100.cell 1 rfl
  go_wp2_with fail
  with_reducible refine (szMorphism_any _ _ d0 _ 1048576 _ _ _ h95 (OkSS.len _o0) (by omega) (by omega)).mono ?_
  rintro e w4 ⟨rfl, md106⟩
  rw [E0.out]
  have bx107 := bx94.mid md106 (by omega)
  clear bx94
  have h108 := RSS.mid h95 md106 (by omega)
  clear h95
  have bx109 := bx100.mid md106 (by omega)
  clear bx100
  have h110 := RSS.mid h96 md106 (by omega)
  clear h96
  have b111 := below_mid b97 z98 md106 (by omega)
  have z112 := b111.size
  have y113 := md106.size
  clear k102
  clear k103
  have k114 := bx107.cell 0 rfl
  have k115 := bx107.cell 1 rfl
  clear k104
  clear k105
  have k116 := bx109.cell 0 rfl
  have k117 := bx109.cell 1 rfl
  go_wp2_with fail
  with_reducible refine (szMorphism_any _ _ d1 _ z0 _ _ _ h110 (OkSS.len _o1) (by omega) (by omega)).mono ?_
  rintro e w5 ⟨rfl, md118⟩
  rw [E1.out]
  have bx119 := bx107.mid md118 (by omega)
  clear bx107
  have h120 := RSS.mid h108 md118 (by omega)
  clear h108
  have bx121 := bx109.mid md118 (by omega)
  clear bx109
  have h122 := RSS.mid h110 md118 (by omega)
  clear h110
  have b123 := below_mid b111 z112 md118 (by omega)
  have z124 := b123.size
  have y125 := md118.size
  clear k114
  clear k115
  have k126 := bx119.cell 0 rfl
  have k127 := bx119.cell 1 rfl
  clear k116
  clear k117
  have k128 := bx121.cell 0 rfl
  have k129 := bx121.cell 1 rfl
  go_wp2_with fail
  have md130 : Mid 0 0 w5 w5.drew := Mid.drew1 _
  have bx131 := bx119.mid md130 (by omega)
  have h132 := RSS.mid h120 md130 (by omega)
  have bx133 := bx121.mid md130 (by omega)
  have h134 := RSS.mid h122 md130 (by omega)
  have b135 := below_mid b123 z124 md130 (by omega)
  have z136 := b135.size
  have y137 := md130.size
  have k138 := bx131.cell 0 rfl
  have k139 := bx131.cell 1 rfl
  have k140 := bx133.cell 0 rfl
  have k141 := bx133.cell 1 rfl
  go_region_held3 (fun w' => w'.cell? ⟨w.heap.size, 0, none⟩ = some (.int .i64 r0) ∧ w'.cell? ⟨w.heap.size, 1, none⟩ = some (.slice A0 d0.length c0) ∧ w'.cell? ⟨w.heap.size + 1, 0, none⟩ = some (.int .i64 r1) ∧ w'.cell? ⟨w.heap.size + 1, 1, none⟩ = some (.slice A1 d1.length c1)) (first | exact ⟨k126, k127, k128, k129⟩ | exact ⟨k138, k139, k140, k141⟩ | exact ⟨k153, k154, k155, k156⟩ | exact ⟨k169, k170, k171, k172⟩ | exact ⟨k183, k184, k185, k186⟩) (first | (go_at_call 22; with_reducible refine (toMorphism_any r0 _ d0 _ _ _ _ h132 hl0).mono ?_; rintro e w6 ⟨AA142, cc143, rfl, h144, md145⟩; have bx146 := bx131.mid md145 (by omega); have h147 := RSS.mid h132 md145 (by omega); have bx148 := bx133.mid md145 (by omega); have h149 := RSS.mid h134 md145 (by omega); have b150 := below_mid b135 z136 md145 (by omega); have z151 := b150.size; have y152 := md145.size; have k153 := bx146.cell 0 rfl; have k154 := bx146.cell 1 rfl; have k155 := bx148.cell 0 rfl; have k156 := bx148.cell 1 rfl) | (go_at_call 22; with_reducible refine (toMorphism_any r1 _ d1 _ _ _ _ h149 hl1).mono ?_; rintro e w7 ⟨AA157, cc158, rfl, h159, md160⟩; have bx161 := bx146.mid md160 (by omega); have h162 := RSS.mid h147 md160 (by omega); have bx163 := bx148.mid md160 (by omega); have h164 := RSS.mid h149 md160 (by omega); have h165 := OSS.mid h144 md160 (by omega); have b166 := below_mid b150 z151 md160 (by omega); have z167 := b166.size; have y168 := md160.size; have k169 := bx161.cell 0 rfl; have k170 := bx161.cell 1 rfl; have k171 := bx163.cell 0 rfl; have k172 := bx163.cell 1 rfl) | (go_at_call 24; with_reducible refine (sspec_EqualMorphisms r0 _ d0 _ r1 _ d1 _ _ _ _ (OSS.rss h165) _b0 _o0 hl0 _ _ (OSS.rss h159) _b1 _o1 hl1 res0 HRES.out).mono ?_; rintro e w8 ⟨rfl, md173⟩; have bx174 := bx161.mid md173 (by omega); have h175 := RSS.mid h162 md173 (by omega); have bx176 := bx163.mid md173 (by omega); have h177 := RSS.mid h164 md173 (by omega); have h178 := OSS.mid h165 md173 (by omega); have h179 := OSS.mid h159 md173 (by omega); have b180 := below_mid b166 z167 md173 (by omega); have z181 := b180.size; have y182 := md173.size; have k183 := bx174.cell 0 rfl; have k184 := bx174.cell 1 rfl; have k185 := bx176.cell 0 rfl; have k186 := bx176.cell 1 rfl))
  go_wp2_with fail
  with_reducible refine (toMorphism_any r0 _ d0 _ _ _ _ h175 hl0).mono ?_
  rintro e w9 ⟨AA187, cc188, rfl, h189, md190⟩
  have bx191 := bx174.mid md190 (by omega)
  clear bx174
  have h192 := RSS.mid h175 md190 (by omega)
  clear h175
  have bx193 := bx176.mid md190 (by omega)
  clear bx176
  have h194 := RSS.mid h177 md190 (by omega)
  clear h177
  have b195 := below_mid b180 z181 md190 (by omega)
  have z196 := b195.size
  have y197 := md190.size
  clear k183
  clear k184
  have k198 := bx191.cell 0 rfl
  have k199 := bx191.cell 1 rfl
  clear k185
  clear k186
  have k200 := bx193.cell 0 rfl
  have k201 := bx193.cell 1 rfl
  have md202 : Mid 0 0 w9 (w9.alloc (.cells #[.int .i64 r0, .slice AA187 d0.length cc188] 24)) := Mid.alloc _ _
  have bx203 := bx191.mid md202 (by omega)
  clear bx191
  have h204 := RSS.mid h192 md202 (by omega)
  clear h192
  have bx205 := bx193.mid md202 (by omega)
  clear bx193
  have h206 := RSS.mid h194 md202 (by omega)
  clear h194
  have h207 := OSS.mid h189 md202 (by omega)
  clear h189
  have b208 := below_mid b195 z196 md202 (by omega)
  have z209 := b208.size
  have y210 := md202.size
  have bx211 := Box.new w9 #[.int .i64 r0, .slice AA187 d0.length cc188] 24
  have y212 : w9.heap.size + 1 ≤ (w9.alloc (.cells #[.int .i64 r0, .slice AA187 d0.length cc188] 24)).heap.size := by simp
  clear k198
  clear k199
  have k213 := bx203.cell 0 rfl
  have k214 := bx203.cell 1 rfl
  clear k200
  clear k201
  have k215 := bx205.cell 0 rfl
  have k216 := bx205.cell 1 rfl
  have k217 := bx211.cell 0 rfl
  have k218 := bx211.cell 1 rfl
  go_wp2_with fail
  with_reducible refine (toMorphism_any r1 _ d1 _ _ _ _ h206 hl1).mono ?_
  rintro e w10 ⟨AA219, cc220, rfl, h221, md222⟩
  have bx223 := bx203.mid md222 (by omega)
  clear bx203
  have h224 := RSS.mid h204 md222 (by omega)
  clear h204
  have bx225 := bx205.mid md222 (by omega)
  clear bx205
  have h226 := RSS.mid h206 md222 (by omega)
  clear h206
  have bx227 := bx211.mid md222 (by omega)
  clear bx211
  have h228 := OSS.mid h207 md222 (by omega)
  clear h207
  have b229 := below_mid b208 z209 md222 (by omega)
  have z230 := b229.size
  have y231 := md222.size
  clear k213
  clear k214
  have k232 := bx223.cell 0 rfl
  have k233 := bx223.cell 1 rfl
  clear k215
  clear k216
  have k234 := bx225.cell 0 rfl
  have k235 := bx225.cell 1 rfl
  clear k217
  clear k218
  have k236 := bx227.cell 0 rfl
  have k237 := bx227.cell 1 rfl
  have md238 : Mid 0 0 w10 (w10.alloc (.cells #[.int .i64 r1, .slice AA219 d1.length cc220] 24)) := Mid.alloc _ _
  have bx239 := bx223.mid md238 (by omega)
  clear bx223
  have h240 := RSS.mid h224 md238 (by omega)
  clear h224
  have bx241 := bx225.mid md238 (by omega)
  clear bx225
  have h242 := RSS.mid h226 md238 (by omega)
  clear h226
  have bx243 := bx227.mid md238 (by omega)
  clear bx227
  have h244 := OSS.mid h228 md238 (by omega)
  clear h228
  have h245 := OSS.mid h221 md238 (by omega)
  clear h221
  have b246 := below_mid b229 z230 md238 (by omega)
  have z247 := b246.size
  have y248 := md238.size
  have bx249 := Box.new w10 #[.int .i64 r1, .slice AA219 d1.length cc220] 24
  have y250 : w10.heap.size + 1 ≤ (w10.alloc (.cells #[.int .i64 r1, .slice AA219 d1.length cc220] 24)).heap.size := by simp
  clear k232
  clear k233
  have k251 := bx239.cell 0 rfl
  have k252 := bx239.cell 1 rfl
  clear k234
  clear k235
  have k253 := bx241.cell 0 rfl
  have k254 := bx241.cell 1 rfl
  clear k236
  clear k237
  have k255 := bx243.cell 0 rfl
  have k256 := bx243.cell 1 rfl
  have k257 := bx249.cell 0 rfl
  have k258 := bx249.cell 1 rfl
  go_wp2_with fail
  with_reducible refine (simpl_EqualMorphisms r0 _ d0 _ r1 _ d1 _ _ _ _ (OSS.rss h244) _b0 _o0 hl0 _ _ (OSS.rss h245) _b1 _o1 hl1 res0 HRES.out).mono ?_
  rintro e w11 ⟨rfl, md259⟩
  have bx260 := bx239.mid md259 (by omega)
  clear bx239
  have h261 := RSS.mid h240 md259 (by omega)
  clear h240
  have bx262 := bx241.mid md259 (by omega)
  clear bx241
  have h263 := RSS.mid h242 md259 (by omega)
  clear h242
  have bx264 := bx243.mid md259 (by omega)
  clear bx243
  have h265 := OSS.mid h244 md259 (by omega)
  clear h244
  have bx266 := bx249.mid md259 (by omega)
  clear bx249
  have h267 := OSS.mid h245 md259 (by omega)
  clear h245
  have b268 := below_mid b246 z247 md259 (by omega)
  have z269 := b268.size
  have y270 := md259.size
  clear k251
  clear k252
  have k271 := bx260.cell 0 rfl
  have k272 := bx260.cell 1 rfl
  clear k253
  clear k254
  have k273 := bx262.cell 0 rfl
  have k274 := bx262.cell 1 rfl
  clear k255
  clear k256
  have k275 := bx264.cell 0 rfl
  have k276 := bx264.cell 1 rfl
  clear k257
  clear k258
  have k277 := bx266.cell 0 rfl
  have k278 := bx266.cell 1 rfl
  go_wp2_with fail
  have md279 : Mid 0 0 w11 w11.drew := Mid.drew1 _
  have bx280 := bx260.mid md279 (by omega)
  have h281 := RSS.mid h261 md279 (by omega)
  have bx282 := bx262.mid md279 (by omega)
  have h283 := RSS.mid h263 md279 (by omega)
  have bx284 := bx264.mid md279 (by omega)
  have h285 := OSS.mid h265 md279 (by omega)
  have bx286 := bx266.mid md279 (by omega)
  have h287 := OSS.mid h267 md279 (by omega)
  have b288 := below_mid b268 z269 md279 (by omega)
  have z289 := b288.size
  have y290 := md279.size
  have k291 := bx280.cell 0 rfl
  have k292 := bx280.cell 1 rfl
  have k293 := bx282.cell 0 rfl
  have k294 := bx282.cell 1 rfl
  have k295 := bx284.cell 0 rfl
  have k296 := bx284.cell 1 rfl
  have k297 := bx286.cell 0 rfl
  have k298 := bx286.cell 1 rfl
  go_region_held3 (fun w' => w'.cell? ⟨w9.heap.size, 0, none⟩ = some (.int .i64 r0) ∧ w'.cell? ⟨w9.heap.size, 1, none⟩ = some (.slice AA187 d0.length cc188) ∧ w'.cell? ⟨w.heap.size, 0, none⟩ = some (.int .i64 r0) ∧ w'.cell? ⟨w.heap.size, 1, none⟩ = some (.slice A0 d0.length c0)) (first | exact ⟨k275, k276, k271, k272⟩ | exact ⟨k295, k296, k291, k292⟩ | exact ⟨k318, k319, k314, k315⟩ | exact ⟨k339, k340, k335, k336⟩) (first | (go_at_call 22; with_reducible refine (toMorphism_any r0 _ d0 _ _ _ _ h281 hl0).mono ?_; rintro e w12 ⟨AA299, cc300, rfl, h301, md302⟩; have bx303 := bx280.mid md302 (by omega); have h304 := RSS.mid h281 md302 (by omega); have bx305 := bx282.mid md302 (by omega); have h306 := RSS.mid h283 md302 (by omega); have bx307 := bx284.mid md302 (by omega); have h308 := OSS.mid h285 md302 (by omega); have bx309 := bx286.mid md302 (by omega); have h310 := OSS.mid h287 md302 (by omega); have b311 := below_mid b288 z289 md302 (by omega); have z312 := b311.size; have y313 := md302.size; have k314 := bx303.cell 0 rfl; have k315 := bx303.cell 1 rfl; have k316 := bx305.cell 0 rfl; have k317 := bx305.cell 1 rfl; have k318 := bx307.cell 0 rfl; have k319 := bx307.cell 1 rfl; have k320 := bx309.cell 0 rfl; have k321 := bx309.cell 1 rfl) | (go_at_call 17; with_reducible refine (eqMorphism_same _ _ _ d0 _ _ _ _ _ _ _ (OSS.rss h308) (OSS.rss h301) hl0).mono ?_; rintro e w13 ⟨rfl, md322⟩; have bx323 := bx303.mid md322 (by omega); have h324 := RSS.mid h304 md322 (by omega); have bx325 := bx305.mid md322 (by omega); have h326 := RSS.mid h306 md322 (by omega); have bx327 := bx307.mid md322 (by omega); have h328 := OSS.mid h308 md322 (by omega); have bx329 := bx309.mid md322 (by omega); have h330 := OSS.mid h310 md322 (by omega); have h331 := OSS.mid h301 md322 (by omega); have b332 := below_mid b311 z312 md322 (by omega); have z333 := b332.size; have y334 := md322.size; have k335 := bx323.cell 0 rfl; have k336 := bx323.cell 1 rfl; have k337 := bx325.cell 0 rfl; have k338 := bx325.cell 1 rfl; have k339 := bx327.cell 0 rfl; have k340 := bx327.cell 1 rfl; have k341 := bx329.cell 0 rfl; have k342 := bx329.cell 1 rfl))
  go_wp2_with fail
  have md343 : Mid 0 0 w13 w13.drew := Mid.drew1 _
  have bx344 := bx323.mid md343 (by omega)
  have h345 := RSS.mid h324 md343 (by omega)
  have bx346 := bx325.mid md343 (by omega)
  have h347 := RSS.mid h326 md343 (by omega)
  have bx348 := bx327.mid md343 (by omega)
  have h349 := OSS.mid h328 md343 (by omega)
  have bx350 := bx329.mid md343 (by omega)
  have h351 := OSS.mid h330 md343 (by omega)
  have b352 := below_mid b332 z333 md343 (by omega)
  have z353 := b352.size
  have y354 := md343.size
  have k355 := bx344.cell 0 rfl
  have k356 := bx344.cell 1 rfl
  have k357 := bx346.cell 0 rfl
  have k358 := bx346.cell 1 rfl
  have k359 := bx348.cell 0 rfl
  have k360 := bx348.cell 1 rfl
  have k361 := bx350.cell 0 rfl
  have k362 := bx350.cell 1 rfl
  go_region_held3 (fun w' => w'.cell? ⟨w10.heap.size, 0, none⟩ = some (.int .i64 r1) ∧ w'.cell? ⟨w10.heap.size, 1, none⟩ = some (.slice AA219 d1.length cc220) ∧ w'.cell? ⟨w.heap.size + 1, 0, none⟩ = some (.int .i64 r1) ∧ w'.cell? ⟨w.heap.size + 1, 1, none⟩ = some (.slice A1 d1.length c1)) (first | exact ⟨k341, k342, k337, k338⟩ | exact ⟨k361, k362, k357, k358⟩ | exact ⟨k384, k385, k380, k381⟩ | exact ⟨k405, k406, k401, k402⟩) (first | (go_at_call 22; with_reducible refine (toMorphism_any r1 _ d1 _ _ _ _ h347 hl1).mono ?_; rintro e w14 ⟨AA363, cc364, rfl, h365, md366⟩; have bx367 := bx344.mid md366 (by omega); have h368 := RSS.mid h345 md366 (by omega); have bx369 := bx346.mid md366 (by omega); have h370 := RSS.mid h347 md366 (by omega); have bx371 := bx348.mid md366 (by omega); have h372 := OSS.mid h349 md366 (by omega); have bx373 := bx350.mid md366 (by omega); have h374 := OSS.mid h351 md366 (by omega); have b375 := below_mid b352 z353 md366 (by omega); have z376 := b375.size; have y377 := md366.size; have k378 := bx367.cell 0 rfl; have k379 := bx367.cell 1 rfl; have k380 := bx369.cell 0 rfl; have k381 := bx369.cell 1 rfl; have k382 := bx371.cell 0 rfl; have k383 := bx371.cell 1 rfl; have k384 := bx373.cell 0 rfl; have k385 := bx373.cell 1 rfl) | (go_at_call 17; with_reducible refine (eqMorphism_same _ _ _ d1 _ _ _ _ _ _ _ (OSS.rss h374) (OSS.rss h365) hl1).mono ?_; rintro e w15 ⟨rfl, md386⟩; have bx387 := bx367.mid md386 (by omega); have h388 := RSS.mid h368 md386 (by omega); have bx389 := bx369.mid md386 (by omega); have h390 := RSS.mid h370 md386 (by omega); have bx391 := bx371.mid md386 (by omega); have h392 := OSS.mid h372 md386 (by omega); have bx393 := bx373.mid md386 (by omega); have h394 := OSS.mid h374 md386 (by omega); have h395 := OSS.mid h365 md386 (by omega); have b396 := below_mid b375 z376 md386 (by omega); have z397 := b396.size; have y398 := md386.size; have k399 := bx387.cell 0 rfl; have k400 := bx387.cell 1 rfl; have k401 := bx389.cell 0 rfl; have k402 := bx389.cell 1 rfl; have k403 := bx391.cell 0 rfl; have k404 := bx391.cell 1 rfl; have k405 := bx393.cell 0 rfl; have k406 := bx393.cell 1 rfl))
  go_wp2_with fail
  go_ret
  exact ⟨rfl, b396⟩
end Go.Proofs.Ytaddhbdfjkbgiaa
