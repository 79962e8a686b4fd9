
import Derived.Test.YtkdmffjnkciecaaGreatPk4
import Derived.Deep.RegionHeld3
import Derived.Deep.DeepCutAuto

/- The walk of the law FnExactGroupElements: it returns true at every input, and turns nothing that was there. -/
namespace Go.Proofs.YtkdmffjnkciecaaGreat
open Go.RowKit
set_option linter.unusedVariables false
set_option linter.unusedSimpArgs false

theorem frz_GroupElements {w : World} {b : Nat} {cs : List Value} (h : Box w b cs) : ∀ i, w.frozen? ⟨b, i, none⟩ = false := h.2.2
set_option maxRecDepth 100000 in
set_option maxHeartbeats 8000000 in
theorem walk_GroupElements (r0 s0 : Int) (A0 : Option Addr) (d0 : List Ed) (c0 : Nat) (w : World) (_b0 : (Lit.int .i64 r0).wf = true) (_e0 : (Lit.int .i64 s0).wf = true) (m0 : RG w 0 w.heap.size A0 d0) (_o0 : OkI (edI d0)) (_l0 : d0.length ≤ 9223372036854775807) :
    Calls Tryz.prog 3 #[.agg #[.int .i64 r0, .int .i64 s0, .slice A0 d0.length c0]] w fun e w' => e = .returned (.bool true) ∧ Below w.heap.size w w' := by
  obtain ⟨z0, hz0⟩ : ∃ z, z = szI 1048576 d0.length := ⟨_, rfl⟩
  have E0 := Lib.hid hz0.symm
  rcases szI_case 1048576 d0.length with hs0 | ⟨hs0, hs0'⟩
  · obtain rfl : z0 = -1 := hz0.trans hs0
    clear hs0 hz0
    have hh1 := m0
    go_enter Tryz.func3, Tryz.ntmps3
    have md2 : Mid 0 0 w (w.alloc (.cells #[.int .i64 r0, .int .i64 s0, .slice A0 d0.length c0] 24)) := Mid.alloc _ _
    have h3 := RG.mid hh1 md2 (Or.inl (Nat.zero_le _))
    clear hh1
    have b4 := below_mid (Below.refl w.heap.size w) (Nat.le_refl w.heap.size) md2 (Or.inr rfl)
    have z5 := b4.size
    have y6 := md2.size
    have bx7 := Box.new w #[.int .i64 r0, .int .i64 s0, .slice A0 d0.length c0] 24
    have y8 : w.heap.size + 1 ≤ (w.alloc (.cells #[.int .i64 r0, .int .i64 s0, .slice A0 d0.length c0] 24)).heap.size := (by simp)
    have k9 := bx7.cell 0 rfl
    have k10 := bx7.cell 1 rfl
    have k11 := bx7.cell 2 rfl
    go_wp2_with fail
    with_reducible refine (szGraph_any _ _ _ d0 _ 1048576 _ _l0 (by omega) (by omega)).mono ?_
    rintro e w1 ⟨rfl, md12⟩
    rw [E0.out]
    have bx13 := bx7.mid md12 (Or.inr (Nat.zero_le _))
    clear bx7
    have h14 := RG.mid h3 md12 (Or.inl (Nat.zero_le _))
    clear h3
    have b15 := below_mid b4 z5 md12 (Or.inr rfl)
    have z16 := b15.size
    have y17 := md12.size
    clear k9
    clear k10
    clear k11
    have k18 := bx13.cell 0 rfl
    have k19 := bx13.cell 1 rfl
    have k20 := bx13.cell 2 rfl
    go_wp2_with fail
    go_ret
    exact ⟨rfl, b15⟩
  rw [hs0'] at hz0
  have hp0 : 0 ≤ z0 := by omega
  have hq0 : z0 ≤ 1048576 := by omega
  have hl0 : d0.length ≤ 1048576 := by omega
  clear hs0 hs0' hz0
  obtain ⟨res0, HRES⟩ : ∃ res0, GroupElementsIs r0 s0 d0 res0 := GroupElementsIs_ex r0 s0 d0 hl0
  have hlr0 := GroupElementsIs_len HRES hl0
  have HRES := Lib.hid HRES
  have hh21 := m0
  go_enter Tryz.func3, Tryz.ntmps3
  have md22 : Mid 0 0 w (w.alloc (.cells #[.int .i64 r0, .int .i64 s0, .slice A0 d0.length c0] 24)) := Mid.alloc _ _
  have h23 := RG.mid hh21 md22 (Or.inl (Nat.zero_le _))
  clear hh21
  have b24 := below_mid (Below.refl w.heap.size w) (Nat.le_refl w.heap.size) md22 (Or.inr rfl)
  have z25 := b24.size
  have y26 := md22.size
  have bx27 := Box.new w #[.int .i64 r0, .int .i64 s0, .slice A0 d0.length c0] 24
  have y28 : w.heap.size + 1 ≤ (w.alloc (.cells #[.int .i64 r0, .int .i64 s0, .slice A0 d0.length c0] 24)).heap.size := (by simp)
  have k29 := bx27.cell 0 rfl
  have k30 := bx27.cell 1 rfl
  have k31 := bx27.cell 2 rfl
  go_wp2_with fail
  with_reducible refine (szGraph_any _ _ _ d0 _ 1048576 _ _l0 (by omega) (by omega)).mono ?_
  rintro e w2 ⟨rfl, md32⟩
  rw [E0.out]
  have bx33 := bx27.mid md32 (Or.inr (Nat.zero_le _))
  clear bx27
  have h34 := RG.mid h23 md32 (Or.inl (Nat.zero_le _))
  clear h23
  have b35 := below_mid b24 z25 md32 (Or.inr rfl)
  have z36 := b35.size
  have y37 := md32.size
  clear k29
  clear k30
  clear k31
  have k38 := bx33.cell 0 rfl
  have k39 := bx33.cell 1 rfl
  have k40 := bx33.cell 2 rfl
  go_wp2_with fail
  with_reducible refine (toGraph_any r0 s0 _ d0 _ _ _ _ h34 hl0).mono ?_
  rintro e w3 ⟨AA41, cc42, rfl, h43, md44⟩
  have bx45 := bx33.mid md44 (Or.inr (Nat.zero_le _))
  clear bx33
  have h46 := RG.mid h34 md44 (Or.inl (Nat.zero_le _))
  clear h34
  have b47 := below_mid b35 z36 md44 (Or.inr rfl)
  have z48 := b47.size
  have y49 := md44.size
  clear k38
  clear k39
  clear k40
  have k50 := bx45.cell 0 rfl
  have k51 := bx45.cell 1 rfl
  have k52 := bx45.cell 2 rfl
  go_wp2_with fail
  with_reducible refine (sspec_GroupElements r0 s0 _ d0 _ _ _ _ h43  hl0 res0 HRES.out).mono ?_
  rintro e w4 ⟨AA54, cc55, rfl, h56, md53⟩
  have bx58 := bx45.mid md53 (Or.inr (Nat.zero_le _))
  clear bx45
  have h59 := RG.mid h46 md53 (Or.inl (Nat.zero_le _))
  clear h46
  have h60 := OG.mid h43 md53 (Or.inl (Nat.zero_le _))
  clear h43
  have b61 := below_mid b47 z48 md53 (Or.inr rfl)
  have z62 := b61.size
  have y63 := md53.size
  clear k50
  clear k51
  clear k52
  have k64 := bx58.cell 0 rfl
  have k65 := bx58.cell 1 rfl
  have k66 := bx58.cell 2 rfl
  go_wp2_with fail
  with_reducible refine (toGraph_any r0 s0 _ d0 _ _ _ _ h59 hl0).mono ?_
  rintro e w5 ⟨AA67, cc68, rfl, h69, md70⟩
  have bx71 := bx58.mid md70 (Or.inr (Nat.zero_le _))
  clear bx58
  have h72 := RG.mid h59 md70 (Or.inl (Nat.zero_le _))
  clear h59
  have h73 := OSS.mid h56 md70 (Or.inl (Nat.zero_le _))
  clear h56
  have b74 := below_mid b61 z62 md70 (Or.inr rfl)
  have z75 := b74.size
  have y76 := md70.size
  clear k64
  clear k65
  clear k66
  have k77 := bx71.cell 0 rfl
  have k78 := bx71.cell 1 rfl
  have k79 := bx71.cell 2 rfl
  have md80 : Mid 0 0 w5 (w5.alloc (.cells #[.int .i64 r0, .int .i64 s0, .slice AA67 d0.length cc68] 30)) := Mid.alloc _ _
  have bx81 := bx71.mid md80 (Or.inr (Nat.zero_le _))
  clear bx71
  have h82 := RG.mid h72 md80 (Or.inl (Nat.zero_le _))
  clear h72
  have h83 := OSS.mid h73 md80 (Or.inl (Nat.zero_le _))
  clear h73
  have h84 := OG.mid h69 md80 (Or.inl (Nat.zero_le _))
  clear h69
  have b85 := below_mid b74 z75 md80 (Or.inr rfl)
  have z86 := b85.size
  have y87 := md80.size
  have bx88 := Box.new w5 #[.int .i64 r0, .int .i64 s0, .slice AA67 d0.length cc68] 30
  have y89 : w5.heap.size + 1 ≤ (w5.alloc (.cells #[.int .i64 r0, .int .i64 s0, .slice AA67 d0.length cc68] 30)).heap.size := (by simp)
  clear k77
  clear k78
  clear k79
  have k90 := bx81.cell 0 rfl
  have k91 := bx81.cell 1 rfl
  have k92 := bx81.cell 2 rfl
  have k93 := bx88.cell 0 rfl
  have k94 := bx88.cell 1 rfl
  have k95 := bx88.cell 2 rfl
  go_wp2_with fail
  with_reducible refine (simpl_GroupElements r0 s0 _ d0 _ _ _ _ h84  hl0 res0 HRES.out).mono ?_
  rintro e w6 ⟨AA97, cc98, rfl, h99, md96⟩
  have bx101 := bx81.mid md96 (Or.inr (Nat.zero_le _))
  clear bx81
  have h102 := RG.mid h82 md96 (Or.inl (Nat.zero_le _))
  clear h82
  have h103 := OSS.mid h83 md96 (Or.inl (Nat.zero_le _))
  clear h83
  have bx104 := bx88.mid md96 (Or.inr (Nat.zero_le _))
  clear bx88
  have h105 := OG.mid h84 md96 (Or.inl (Nat.zero_le _))
  clear h84
  have b106 := below_mid b85 z86 md96 (Or.inr rfl)
  have z107 := b106.size
  have y108 := md96.size
  clear k90
  clear k91
  clear k92
  have k109 := bx101.cell 0 rfl
  have k110 := bx101.cell 1 rfl
  have k111 := bx101.cell 2 rfl
  clear k93
  clear k94
  clear k95
  have k112 := bx104.cell 0 rfl
  have k113 := bx104.cell 1 rfl
  have k114 := bx104.cell 2 rfl
  go_wp2_with fail
  with_reducible refine (eqSS _ _ res0 _ _ _ _ _ _ _ (OSS.rss h99) (OSS.rss h103) hlr0).mono ?_
  rintro e w7 ⟨rfl, md115⟩
  have bx116 := bx101.mid md115 (Or.inr (Nat.zero_le _))
  clear bx101
  have h117 := RG.mid h102 md115 (Or.inl (Nat.zero_le _))
  clear h102
  have h118 := OSS.mid h103 md115 (Or.inl (Nat.zero_le _))
  clear h103
  have bx119 := bx104.mid md115 (Or.inr (Nat.zero_le _))
  clear bx104
  have h120 := OG.mid h105 md115 (Or.inl (Nat.zero_le _))
  clear h105
  have h121 := OSS.mid h99 md115 (Or.inl (Nat.zero_le _))
  clear h99
  have b122 := below_mid b106 z107 md115 (Or.inr rfl)
  have z123 := b122.size
  have y124 := md115.size
  clear k109
  clear k110
  clear k111
  have k125 := bx116.cell 0 rfl
  have k126 := bx116.cell 1 rfl
  have k127 := bx116.cell 2 rfl
  clear k112
  clear k113
  clear k114
  have k128 := bx119.cell 0 rfl
  have k129 := bx119.cell 1 rfl
  have k130 := bx119.cell 2 rfl
  go_wp2_with fail
  have md131 : Mid 0 0 w7 w7.drew := Mid.drew1 _
  have bx132 := bx116.mid md131 (Or.inr (Nat.zero_le _))
  have h133 := RG.mid h117 md131 (Or.inl (Nat.zero_le _))
  have h134 := OSS.mid h118 md131 (Or.inl (Nat.zero_le _))
  have bx135 := bx119.mid md131 (Or.inr (Nat.zero_le _))
  have h136 := OG.mid h120 md131 (Or.inl (Nat.zero_le _))
  have h137 := OSS.mid h121 md131 (Or.inl (Nat.zero_le _))
  have b138 := below_mid b122 z123 md131 (Or.inr rfl)
  have z139 := b138.size
  have y140 := md131.size
  have k141 := bx132.cell 0 rfl
  have k142 := bx132.cell 1 rfl
  have k143 := bx132.cell 2 rfl
  have k144 := bx135.cell 0 rfl
  have k145 := bx135.cell 1 rfl
  have k146 := bx135.cell 2 rfl
  go_region_held3 (fun w' => w'.cell? ⟨w5.heap.size, 0, none⟩ = some (.int .i64 r0) ∧ w'.cell? ⟨w5.heap.size, 1, none⟩ = some (.int .i64 s0) ∧ w'.cell? ⟨w5.heap.size, 2, none⟩ = some (.slice AA67 d0.length cc68) ∧ w'.cell? ⟨w.heap.size, 0, none⟩ = some (.int .i64 r0) ∧ w'.cell? ⟨w.heap.size, 1, none⟩ = some (.int .i64 s0) ∧ w'.cell? ⟨w.heap.size, 2, none⟩ = some (.slice A0 d0.length c0)) (first | exact ⟨k128, k129, k130, k125, k126, k127⟩ | exact ⟨k144, k145, k146, k141, k142, k143⟩ | exact ⟨k163, k164, k165, k160, k161, k162⟩ | exact ⟨k180, k181, k182, k177, k178, k179⟩) (first | (go_at_call 11; with_reducible refine (toGraph_any r0 s0 _ d0 _ _ _ _ h133 hl0).mono ?_; rintro e w8 ⟨AA147, cc148, rfl, h149, md150⟩; have bx151 := bx132.mid md150 (Or.inr (Nat.zero_le _)); have h152 := RG.mid h133 md150 (Or.inl (Nat.zero_le _)); have h153 := OSS.mid h134 md150 (Or.inl (Nat.zero_le _)); have bx154 := bx135.mid md150 (Or.inr (Nat.zero_le _)); have h155 := OG.mid h136 md150 (Or.inl (Nat.zero_le _)); have h156 := OSS.mid h137 md150 (Or.inl (Nat.zero_le _)); have b157 := below_mid b138 z139 md150 (Or.inr rfl); have z158 := b157.size; have y159 := md150.size; have k160 := bx151.cell 0 rfl; have k161 := bx151.cell 1 rfl; have k162 := bx151.cell 2 rfl; have k163 := bx154.cell 0 rfl; have k164 := bx154.cell 1 rfl; have k165 := bx154.cell 2 rfl) | (go_at_call 14; with_reducible refine (eqGraph_same _ _ _ _ d0 _ _ _ _ _ _ _ (OG.rg h155) (OG.rg h149) hl0).mono ?_; rintro e w9 ⟨rfl, md166⟩; have bx167 := bx151.mid md166 (Or.inr (Nat.zero_le _)); have h168 := RG.mid h152 md166 (Or.inl (Nat.zero_le _)); have h169 := OSS.mid h153 md166 (Or.inl (Nat.zero_le _)); have bx170 := bx154.mid md166 (Or.inr (Nat.zero_le _)); have h171 := OG.mid h155 md166 (Or.inl (Nat.zero_le _)); have h172 := OSS.mid h156 md166 (Or.inl (Nat.zero_le _)); have h173 := OG.mid h149 md166 (Or.inl (Nat.zero_le _)); have b174 := below_mid b157 z158 md166 (Or.inr rfl); have z175 := b174.size; have y176 := md166.size; have k177 := bx167.cell 0 rfl; have k178 := bx167.cell 1 rfl; have k179 := bx167.cell 2 rfl; have k180 := bx170.cell 0 rfl; have k181 := bx170.cell 1 rfl; have k182 := bx170.cell 2 rfl))
  go_wp2_with fail
  with_reducible refine (markGraph_any _ _ _ d0 _ 1 _ _ _ h171 (by omega) (by omega) hl0).mono ?_
  rintro e w10 ⟨rfl, h183, md184⟩
  have bx185 := bx167.mid md184 (by omega)
  clear bx167
  have h186 := RG.mid h168 md184 (by omega)
  clear h168
  have h187 := OSS.mid h169 md184 (by omega)
  clear h169
  have bx188 := bx170.mid md184 (by omega)
  clear bx170
  have h189 := OSS.mid h172 md184 (by omega)
  clear h172
  have b190 := below_mid b174 z175 md184 (by omega)
  have z191 := b190.size
  have y192 := md184.size
  clear h171
  clear k177
  clear k178
  clear k179
  have k193 := bx185.cell 0 rfl
  have k194 := bx185.cell 1 rfl
  have k195 := bx185.cell 2 rfl
  clear k180
  clear k181
  clear k182
  have k196 := bx188.cell 0 rfl
  have k197 := bx188.cell 1 rfl
  have k198 := bx188.cell 2 rfl
  go_wp2_with fail
  with_reducible refine (eqSS _ _ res0 _ _ _ _ _ _ _ (OSS.rss h189) (OSS.rss h187) hlr0).mono ?_
  rintro e w11 ⟨rfl, md199⟩
  have bx200 := bx185.mid md199 (Or.inr (Nat.zero_le _))
  clear bx185
  have h201 := RG.mid h186 md199 (Or.inl (Nat.zero_le _))
  clear h186
  have h202 := OSS.mid h187 md199 (Or.inl (Nat.zero_le _))
  clear h187
  have h203 := OSS.mid h189 md199 (Or.inl (Nat.zero_le _))
  clear h189
  have b204 := below_mid b190 z191 md199 (Or.inr rfl)
  have z205 := b204.size
  have y206 := md199.size
  clear k193
  clear k194
  clear k195
  have k207 := bx200.cell 0 rfl
  have k208 := bx200.cell 1 rfl
  have k209 := bx200.cell 2 rfl
  go_wp2_with fail
  with_reducible refine (markIntSS_any _ res0 _ 1 _ _ _ h203 (by omega) (by omega) hlr0).mono ?_
  rintro e w12 ⟨rfl, h210, md211⟩
  have bx212 := bx200.mid md211 (by omega)
  clear bx200
  have h213 := RG.mid h201 md211 (by omega)
  clear h201
  have h214 := OSS.mid h202 md211 (by omega)
  clear h202
  have b215 := below_mid b204 z205 md211 (by omega)
  have z216 := b215.size
  have y217 := md211.size
  clear h203
  clear k207
  clear k208
  clear k209
  have k218 := bx212.cell 0 rfl
  have k219 := bx212.cell 1 rfl
  have k220 := bx212.cell 2 rfl
  go_wp2_with fail
  with_reducible refine (heldSS _ res0 _ 1 _ _ _ (OSS.rss h210) (by omega) (by omega) hlr0).mono ?_
  rintro e w13 ⟨rfl, md221⟩
  have bx222 := bx212.mid md221 (Or.inr (Nat.zero_le _))
  clear bx212
  have h223 := RG.mid h213 md221 (Or.inl (Nat.zero_le _))
  clear h213
  have h224 := OSS.mid h214 md221 (Or.inl (Nat.zero_le _))
  clear h214
  have h225 := OSS.mid h210 md221 (Or.inl (Nat.zero_le _))
  clear h210
  have b226 := below_mid b215 z216 md221 (Or.inr rfl)
  have z227 := b226.size
  have y228 := md221.size
  clear k218
  clear k219
  clear k220
  have k229 := bx222.cell 0 rfl
  have k230 := bx222.cell 1 rfl
  have k231 := bx222.cell 2 rfl
  go_wp2_with fail
  with_reducible refine (toGraph_any r0 s0 _ d0 _ _ _ _ h223 hl0).mono ?_
  rintro e w14 ⟨AA232, cc233, rfl, h234, md235⟩
  have bx236 := bx222.mid md235 (Or.inr (Nat.zero_le _))
  clear bx222
  have h237 := RG.mid h223 md235 (Or.inl (Nat.zero_le _))
  clear h223
  have h238 := OSS.mid h224 md235 (Or.inl (Nat.zero_le _))
  clear h224
  have h239 := OSS.mid h225 md235 (Or.inl (Nat.zero_le _))
  clear h225
  have b240 := below_mid b226 z227 md235 (Or.inr rfl)
  have z241 := b240.size
  have y242 := md235.size
  clear k229
  clear k230
  clear k231
  have k243 := bx236.cell 0 rfl
  have k244 := bx236.cell 1 rfl
  have k245 := bx236.cell 2 rfl
  go_wp2_with fail
  with_reducible refine (simpl_GroupElements r0 s0 _ d0 _ _ _ _ h234  hl0 res0 HRES.out).mono ?_
  rintro e w15 ⟨AA247, cc248, rfl, h249, md246⟩
  have bx251 := bx236.mid md246 (Or.inr (Nat.zero_le _))
  clear bx236
  have h252 := RG.mid h237 md246 (Or.inl (Nat.zero_le _))
  clear h237
  have h253 := OSS.mid h238 md246 (Or.inl (Nat.zero_le _))
  clear h238
  have h254 := OSS.mid h239 md246 (Or.inl (Nat.zero_le _))
  clear h239
  have h255 := OG.mid h234 md246 (Or.inl (Nat.zero_le _))
  clear h234
  have b256 := below_mid b240 z241 md246 (Or.inr rfl)
  have z257 := b256.size
  have y258 := md246.size
  clear k243
  clear k244
  clear k245
  have k259 := bx251.cell 0 rfl
  have k260 := bx251.cell 1 rfl
  have k261 := bx251.cell 2 rfl
  go_wp2_with fail
  with_reducible refine (eqSS _ _ res0 _ _ _ _ _ _ _ (OSS.rss h249) (OSS.rss h253) hlr0).mono ?_
  rintro e w16 ⟨rfl, md262⟩
  have bx263 := bx251.mid md262 (Or.inr (Nat.zero_le _))
  clear bx251
  have h264 := RG.mid h252 md262 (Or.inl (Nat.zero_le _))
  clear h252
  have h265 := OSS.mid h253 md262 (Or.inl (Nat.zero_le _))
  clear h253
  have h266 := OSS.mid h254 md262 (Or.inl (Nat.zero_le _))
  clear h254
  have h267 := OSS.mid h249 md262 (Or.inl (Nat.zero_le _))
  clear h249
  have b268 := below_mid b256 z257 md262 (Or.inr rfl)
  have z269 := b268.size
  have y270 := md262.size
  clear k259
  clear k260
  clear k261
  have k271 := bx263.cell 0 rfl
  have k272 := bx263.cell 1 rfl
  have k273 := bx263.cell 2 rfl
  go_wp2_with fail
  with_reducible refine (heldSS _ res0 _ 1 _ _ _ (OSS.rss h266) (by omega) (by omega) hlr0).mono ?_
  rintro e w17 ⟨rfl, md274⟩
  have bx275 := bx263.mid md274 (Or.inr (Nat.zero_le _))
  clear bx263
  have h276 := RG.mid h264 md274 (Or.inl (Nat.zero_le _))
  clear h264
  have h277 := OSS.mid h265 md274 (Or.inl (Nat.zero_le _))
  clear h265
  have h278 := OSS.mid h266 md274 (Or.inl (Nat.zero_le _))
  clear h266
  have h279 := OSS.mid h267 md274 (Or.inl (Nat.zero_le _))
  clear h267
  have b280 := below_mid b268 z269 md274 (Or.inr rfl)
  have z281 := b280.size
  have y282 := md274.size
  clear k271
  clear k272
  clear k273
  have k283 := bx275.cell 0 rfl
  have k284 := bx275.cell 1 rfl
  have k285 := bx275.cell 2 rfl
  go_wp2_with fail
  go_ret
  exact ⟨rfl, b280⟩
end Go.Proofs.YtkdmffjnkciecaaGreat
