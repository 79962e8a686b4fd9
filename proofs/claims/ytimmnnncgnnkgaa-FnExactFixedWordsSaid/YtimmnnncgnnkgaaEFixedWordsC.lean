
import Derived.Test.YtimmnnncgnnkgaaFw5
import Derived.Deep.RegionHeld3
import Derived.Deep.DeepCutAuto

/- The walk of the law FnExactFixedWords: it returns true at every input, and turns nothing that was there. -/
namespace Go.Proofs.Ytimmnnncgnnkgaa
open Go.RowKit
set_option linter.unusedVariables false
set_option linter.unusedSimpArgs false

theorem frz_FixedWords {w : World} {b : Nat} {cs : List Value} (h : Box w b cs) : ∀ i, w.frozen? ⟨b, i, none⟩ = false := h.2.2
set_option maxRecDepth 100000 in
set_option maxHeartbeats 8000000 in
theorem walk_FixedWords (r0 : Int) (A0 : Option Addr) (d0 : List (List Int)) (c0 : Nat) (a1 : Int) (w : World) (_b0 : (Lit.int .i64 r0).wf = true) (m0 : RSS w 0 w.heap.size A0 d0) (_o0 : OkSS d0) (_o1 : (Lit.int .i64 a1).wf = true) :
    Calls Try.prog 8 #[.agg #[.int .i64 r0, .slice A0 d0.length c0], .int .i64 a1] w fun e w' => e = .returned (.bool true) ∧ Below w.heap.size w w' := by
  obtain ⟨z0, hz0⟩ : ∃ z, z = szI 1048576 (d0.length + sumL d0) := ⟨_, rfl⟩
  have E0 := Lib.hid hz0.symm
  rcases szI_case 1048576 (d0.length + sumL d0) with hs0 | ⟨hs0, hs0'⟩
  · obtain rfl : z0 = -1 := hz0.trans hs0
    clear hs0 hz0
    have hh1 := m0
    go_enter Try.func8, Try.ntmps8
    have md2 : Mid 0 0 w (w.alloc (.cells #[.int .i64 r0, .slice A0 d0.length c0] 50)) := Mid.alloc _ _
    have h3 := RSS.mid hh1 md2 (Or.inl (Nat.zero_le _))
    clear hh1
    have b4 := below_mid (Below.refl w.heap.size w) (Nat.le_refl w.heap.size) md2 (Or.inr rfl)
    have z5 := b4.size
    have y6 := md2.size
    have bx7 := Box.new w #[.int .i64 r0, .slice A0 d0.length c0] 50
    have y8 : w.heap.size + 1 ≤ (w.alloc (.cells #[.int .i64 r0, .slice A0 d0.length c0] 50)).heap.size := (by simp)
    have k9 := bx7.cell 0 rfl
    have k10 := bx7.cell 1 rfl
    go_wp2_with fail
    with_reducible refine (szMorphism_any _ _ d0 _ 1048576 _ _ _ h3 (OkSS.len _o0) (by omega) (by omega)).mono ?_
    rintro e w1 ⟨rfl, md11⟩
    rw [E0.out]
    have bx12 := bx7.mid md11 (Or.inr (Nat.zero_le _))
    clear bx7
    have h13 := RSS.mid h3 md11 (Or.inl (Nat.zero_le _))
    clear h3
    have b14 := below_mid b4 z5 md11 (Or.inr rfl)
    have z15 := b14.size
    have y16 := md11.size
    clear k9
    clear k10
    have k17 := bx12.cell 0 rfl
    have k18 := bx12.cell 1 rfl
    go_wp2_with fail
    go_ret
    exact ⟨rfl, b14⟩
  rw [hs0'] at hz0
  have hp0 : 0 ≤ z0 := by omega
  have hq0 : z0 ≤ 1048576 := by omega
  have hl0 : d0.length + sumL d0 ≤ 1048576 := by omega
  clear hs0 hs0' hz0
  obtain ⟨res0, HRES⟩ : ∃ res0, FixedWordsIs r0 d0 a1 res0 := FixedWordsIs_ex r0 d0 a1 _b0 _o0 hl0
  have hlr0 := FixedWordsIs_len HRES _b0 _o0 hl0
  have HRES := Lib.hid HRES
  have hh19 := m0
  go_enter Try.func8, Try.ntmps8
  have md20 : Mid 0 0 w (w.alloc (.cells #[.int .i64 r0, .slice A0 d0.length c0] 50)) := Mid.alloc _ _
  have h21 := RSS.mid hh19 md20 (Or.inl (Nat.zero_le _))
  clear hh19
  have b22 := below_mid (Below.refl w.heap.size w) (Nat.le_refl w.heap.size) md20 (Or.inr rfl)
  have z23 := b22.size
  have y24 := md20.size
  have bx25 := Box.new w #[.int .i64 r0, .slice A0 d0.length c0] 50
  have y26 : w.heap.size + 1 ≤ (w.alloc (.cells #[.int .i64 r0, .slice A0 d0.length c0] 50)).heap.size := (by simp)
  have k27 := bx25.cell 0 rfl
  have k28 := bx25.cell 1 rfl
  go_wp2_with fail
  with_reducible refine (szMorphism_any _ _ d0 _ 1048576 _ _ _ h21 (OkSS.len _o0) (by omega) (by omega)).mono ?_
  rintro e w2 ⟨rfl, md29⟩
  rw [E0.out]
  have bx30 := bx25.mid md29 (Or.inr (Nat.zero_le _))
  clear bx25
  have h31 := RSS.mid h21 md29 (Or.inl (Nat.zero_le _))
  clear h21
  have b32 := below_mid b22 z23 md29 (Or.inr rfl)
  have z33 := b32.size
  have y34 := md29.size
  clear k27
  clear k28
  have k35 := bx30.cell 0 rfl
  have k36 := bx30.cell 1 rfl
  go_wp2_with fail
  with_reducible refine (toMorphism_any r0 _ d0 _ _ _ _ h31 hl0).mono ?_
  rintro e w3 ⟨AA37, cc38, rfl, h39, md40⟩
  have bx41 := bx30.mid md40 (Or.inr (Nat.zero_le _))
  clear bx30
  have h42 := RSS.mid h31 md40 (Or.inl (Nat.zero_le _))
  clear h31
  have b43 := below_mid b32 z33 md40 (Or.inr rfl)
  have z44 := b43.size
  have y45 := md40.size
  clear k35
  clear k36
  have k46 := bx41.cell 0 rfl
  have k47 := bx41.cell 1 rfl
  go_wp2_with fail
  with_reducible refine (sspec_FixedWords r0 _ d0 _ a1 _ _ _ h39 _b0 _o0 hl0 _o1 res0 HRES.out).mono ?_
  rintro e w4 ⟨AA49, cc50, rfl, h51, md48⟩
  have bx53 := bx41.mid md48 (Or.inr (Nat.zero_le _))
  clear bx41
  have h54 := RSS.mid h42 md48 (Or.inl (Nat.zero_le _))
  clear h42
  have h55 := OSS.mid h39 md48 (Or.inl (Nat.zero_le _))
  clear h39
  have b56 := below_mid b43 z44 md48 (Or.inr rfl)
  have z57 := b56.size
  have y58 := md48.size
  clear k46
  clear k47
  have k59 := bx53.cell 0 rfl
  have k60 := bx53.cell 1 rfl
  go_wp2_with fail
  with_reducible refine (toMorphism_any r0 _ d0 _ _ _ _ h54 hl0).mono ?_
  rintro e w5 ⟨AA61, cc62, rfl, h63, md64⟩
  have bx65 := bx53.mid md64 (Or.inr (Nat.zero_le _))
  clear bx53
  have h66 := RSS.mid h54 md64 (Or.inl (Nat.zero_le _))
  clear h54
  have h67 := OSS.mid h51 md64 (Or.inl (Nat.zero_le _))
  clear h51
  have b68 := below_mid b56 z57 md64 (Or.inr rfl)
  have z69 := b68.size
  have y70 := md64.size
  clear k59
  clear k60
  have k71 := bx65.cell 0 rfl
  have k72 := bx65.cell 1 rfl
  have md73 : Mid 0 0 w5 (w5.alloc (.cells #[.int .i64 r0, .slice AA61 d0.length cc62] 53)) := Mid.alloc _ _
  have bx74 := bx65.mid md73 (Or.inr (Nat.zero_le _))
  clear bx65
  have h75 := RSS.mid h66 md73 (Or.inl (Nat.zero_le _))
  clear h66
  have h76 := OSS.mid h67 md73 (Or.inl (Nat.zero_le _))
  clear h67
  have h77 := OSS.mid h63 md73 (Or.inl (Nat.zero_le _))
  clear h63
  have b78 := below_mid b68 z69 md73 (Or.inr rfl)
  have z79 := b78.size
  have y80 := md73.size
  have bx81 := Box.new w5 #[.int .i64 r0, .slice AA61 d0.length cc62] 53
  have y82 : w5.heap.size + 1 ≤ (w5.alloc (.cells #[.int .i64 r0, .slice AA61 d0.length cc62] 53)).heap.size := (by simp)
  clear k71
  clear k72
  have k83 := bx74.cell 0 rfl
  have k84 := bx74.cell 1 rfl
  have k85 := bx81.cell 0 rfl
  have k86 := bx81.cell 1 rfl
  go_wp2_with fail
  with_reducible refine (simpl_FixedWords r0 _ d0 _ a1 _ _ _ h77 _b0 _o0 hl0 _o1 res0 HRES.out).mono ?_
  rintro e w6 ⟨AA88, cc89, rfl, h90, md87⟩
  have bx92 := bx74.mid md87 (Or.inr (Nat.zero_le _))
  clear bx74
  have h93 := RSS.mid h75 md87 (Or.inl (Nat.zero_le _))
  clear h75
  have h94 := OSS.mid h76 md87 (Or.inl (Nat.zero_le _))
  clear h76
  have bx95 := bx81.mid md87 (Or.inr (Nat.zero_le _))
  clear bx81
  have h96 := OSS.mid h77 md87 (Or.inl (Nat.zero_le _))
  clear h77
  have b97 := below_mid b78 z79 md87 (Or.inr rfl)
  have z98 := b97.size
  have y99 := md87.size
  clear k83
  clear k84
  have k100 := bx92.cell 0 rfl
  have k101 := bx92.cell 1 rfl
  clear k85
  clear k86
  have k102 := bx95.cell 0 rfl
  have k103 := bx95.cell 1 rfl
  go_wp2_with fail
  with_reducible refine (eqSS _ _ res0 _ _ _ _ _ _ _ (OSS.rss h90) (OSS.rss h94) hlr0).mono ?_
  rintro e w7 ⟨rfl, md104⟩
  have bx105 := bx92.mid md104 (Or.inr (Nat.zero_le _))
  clear bx92
  have h106 := RSS.mid h93 md104 (Or.inl (Nat.zero_le _))
  clear h93
  have h107 := OSS.mid h94 md104 (Or.inl (Nat.zero_le _))
  clear h94
  have bx108 := bx95.mid md104 (Or.inr (Nat.zero_le _))
  clear bx95
  have h109 := OSS.mid h96 md104 (Or.inl (Nat.zero_le _))
  clear h96
  have h110 := OSS.mid h90 md104 (Or.inl (Nat.zero_le _))
  clear h90
  have b111 := below_mid b97 z98 md104 (Or.inr rfl)
  have z112 := b111.size
  have y113 := md104.size
  clear k100
  clear k101
  have k114 := bx105.cell 0 rfl
  have k115 := bx105.cell 1 rfl
  clear k102
  clear k103
  have k116 := bx108.cell 0 rfl
  have k117 := bx108.cell 1 rfl
  go_wp2_with fail
  have md118 : Mid 0 0 w7 w7.drew := Mid.drew1 _
  have bx119 := bx105.mid md118 (Or.inr (Nat.zero_le _))
  have h120 := RSS.mid h106 md118 (Or.inl (Nat.zero_le _))
  have h121 := OSS.mid h107 md118 (Or.inl (Nat.zero_le _))
  have bx122 := bx108.mid md118 (Or.inr (Nat.zero_le _))
  have h123 := OSS.mid h109 md118 (Or.inl (Nat.zero_le _))
  have h124 := OSS.mid h110 md118 (Or.inl (Nat.zero_le _))
  have b125 := below_mid b111 z112 md118 (Or.inr rfl)
  have z126 := b125.size
  have y127 := md118.size
  have k128 := bx119.cell 0 rfl
  have k129 := bx119.cell 1 rfl
  have k130 := bx122.cell 0 rfl
  have k131 := bx122.cell 1 rfl
  go_region_held3 (fun w' => w'.cell? ⟨w5.heap.size, 0, none⟩ = some (.int .i64 r0) ∧ w'.cell? ⟨w5.heap.size, 1, none⟩ = some (.slice AA61 d0.length cc62) ∧ w'.cell? ⟨w.heap.size, 0, none⟩ = some (.int .i64 r0) ∧ w'.cell? ⟨w.heap.size, 1, none⟩ = some (.slice A0 d0.length c0)) (first | exact ⟨k116, k117, k114, k115⟩ | exact ⟨k130, k131, k128, k129⟩ | exact ⟨k147, k148, k145, k146⟩ | exact ⟨k162, k163, k160, k161⟩) (first | (go_at_call 30; with_reducible refine (toMorphism_any r0 _ d0 _ _ _ _ h120 hl0).mono ?_; rintro e w8 ⟨AA132, cc133, rfl, h134, md135⟩; have bx136 := bx119.mid md135 (Or.inr (Nat.zero_le _)); have h137 := RSS.mid h120 md135 (Or.inl (Nat.zero_le _)); have h138 := OSS.mid h121 md135 (Or.inl (Nat.zero_le _)); have bx139 := bx122.mid md135 (Or.inr (Nat.zero_le _)); have h140 := OSS.mid h123 md135 (Or.inl (Nat.zero_le _)); have h141 := OSS.mid h124 md135 (Or.inl (Nat.zero_le _)); have b142 := below_mid b125 z126 md135 (Or.inr rfl); have z143 := b142.size; have y144 := md135.size; have k145 := bx136.cell 0 rfl; have k146 := bx136.cell 1 rfl; have k147 := bx139.cell 0 rfl; have k148 := bx139.cell 1 rfl) | (go_at_call 32; with_reducible refine (eqMorphism_same _ _ _ d0 _ _ _ _ _ _ _ (OSS.rss h140) (OSS.rss h134) hl0).mono ?_; rintro e w9 ⟨rfl, md149⟩; have bx150 := bx136.mid md149 (Or.inr (Nat.zero_le _)); have h151 := RSS.mid h137 md149 (Or.inl (Nat.zero_le _)); have h152 := OSS.mid h138 md149 (Or.inl (Nat.zero_le _)); have bx153 := bx139.mid md149 (Or.inr (Nat.zero_le _)); have h154 := OSS.mid h140 md149 (Or.inl (Nat.zero_le _)); have h155 := OSS.mid h141 md149 (Or.inl (Nat.zero_le _)); have h156 := OSS.mid h134 md149 (Or.inl (Nat.zero_le _)); have b157 := below_mid b142 z143 md149 (Or.inr rfl); have z158 := b157.size; have y159 := md149.size; have k160 := bx150.cell 0 rfl; have k161 := bx150.cell 1 rfl; have k162 := bx153.cell 0 rfl; have k163 := bx153.cell 1 rfl))
  go_wp2_with fail
  with_reducible refine (markMorphism_any _ _ d0 _ 1 _ _ _ h154 (by omega) (by omega) hl0).mono ?_
  rintro e w10 ⟨rfl, h164, md165⟩
  have bx166 := bx150.mid md165 (by omega)
  clear bx150
  have h167 := RSS.mid h151 md165 (by omega)
  clear h151
  have h168 := OSS.mid h152 md165 (by omega)
  clear h152
  have bx169 := bx153.mid md165 (by omega)
  clear bx153
  have h170 := OSS.mid h155 md165 (by omega)
  clear h155
  have b171 := below_mid b157 z158 md165 (by omega)
  have z172 := b171.size
  have y173 := md165.size
  clear h154
  clear k160
  clear k161
  have k174 := bx166.cell 0 rfl
  have k175 := bx166.cell 1 rfl
  clear k162
  clear k163
  have k176 := bx169.cell 0 rfl
  have k177 := bx169.cell 1 rfl
  go_wp2_with fail
  with_reducible refine (eqSS _ _ res0 _ _ _ _ _ _ _ (OSS.rss h170) (OSS.rss h168) hlr0).mono ?_
  rintro e w11 ⟨rfl, md178⟩
  have bx179 := bx166.mid md178 (Or.inr (Nat.zero_le _))
  clear bx166
  have h180 := RSS.mid h167 md178 (Or.inl (Nat.zero_le _))
  clear h167
  have h181 := OSS.mid h168 md178 (Or.inl (Nat.zero_le _))
  clear h168
  have h182 := OSS.mid h170 md178 (Or.inl (Nat.zero_le _))
  clear h170
  have b183 := below_mid b171 z172 md178 (Or.inr rfl)
  have z184 := b183.size
  have y185 := md178.size
  clear k174
  clear k175
  have k186 := bx179.cell 0 rfl
  have k187 := bx179.cell 1 rfl
  go_wp2_with fail
  with_reducible refine (markIntSS_any _ res0 _ 1 _ _ _ h182 (by omega) (by omega) hlr0).mono ?_
  rintro e w12 ⟨rfl, h188, md189⟩
  have bx190 := bx179.mid md189 (by omega)
  clear bx179
  have h191 := RSS.mid h180 md189 (by omega)
  clear h180
  have h192 := OSS.mid h181 md189 (by omega)
  clear h181
  have b193 := below_mid b183 z184 md189 (by omega)
  have z194 := b193.size
  have y195 := md189.size
  clear h182
  clear k186
  clear k187
  have k196 := bx190.cell 0 rfl
  have k197 := bx190.cell 1 rfl
  go_wp2_with fail
  with_reducible refine (heldSS _ res0 _ 1 _ _ _ (OSS.rss h188) (by omega) (by omega) hlr0).mono ?_
  rintro e w13 ⟨rfl, md198⟩
  have bx199 := bx190.mid md198 (Or.inr (Nat.zero_le _))
  clear bx190
  have h200 := RSS.mid h191 md198 (Or.inl (Nat.zero_le _))
  clear h191
  have h201 := OSS.mid h192 md198 (Or.inl (Nat.zero_le _))
  clear h192
  have h202 := OSS.mid h188 md198 (Or.inl (Nat.zero_le _))
  clear h188
  have b203 := below_mid b193 z194 md198 (Or.inr rfl)
  have z204 := b203.size
  have y205 := md198.size
  clear k196
  clear k197
  have k206 := bx199.cell 0 rfl
  have k207 := bx199.cell 1 rfl
  go_wp2_with fail
  with_reducible refine (toMorphism_any r0 _ d0 _ _ _ _ h200 hl0).mono ?_
  rintro e w14 ⟨AA208, cc209, rfl, h210, md211⟩
  have bx212 := bx199.mid md211 (Or.inr (Nat.zero_le _))
  clear bx199
  have h213 := RSS.mid h200 md211 (Or.inl (Nat.zero_le _))
  clear h200
  have h214 := OSS.mid h201 md211 (Or.inl (Nat.zero_le _))
  clear h201
  have h215 := OSS.mid h202 md211 (Or.inl (Nat.zero_le _))
  clear h202
  have b216 := below_mid b203 z204 md211 (Or.inr rfl)
  have z217 := b216.size
  have y218 := md211.size
  clear k206
  clear k207
  have k219 := bx212.cell 0 rfl
  have k220 := bx212.cell 1 rfl
  go_wp2_with fail
  with_reducible refine (simpl_FixedWords r0 _ d0 _ a1 _ _ _ h210 _b0 _o0 hl0 _o1 res0 HRES.out).mono ?_
  rintro e w15 ⟨AA222, cc223, rfl, h224, md221⟩
  have bx226 := bx212.mid md221 (Or.inr (Nat.zero_le _))
  clear bx212
  have h227 := RSS.mid h213 md221 (Or.inl (Nat.zero_le _))
  clear h213
  have h228 := OSS.mid h214 md221 (Or.inl (Nat.zero_le _))
  clear h214
  have h229 := OSS.mid h215 md221 (Or.inl (Nat.zero_le _))
  clear h215
  have h230 := OSS.mid h210 md221 (Or.inl (Nat.zero_le _))
  clear h210
  have b231 := below_mid b216 z217 md221 (Or.inr rfl)
  have z232 := b231.size
  have y233 := md221.size
  clear k219
  clear k220
  have k234 := bx226.cell 0 rfl
  have k235 := bx226.cell 1 rfl
  go_wp2_with fail
  with_reducible refine (eqSS _ _ res0 _ _ _ _ _ _ _ (OSS.rss h224) (OSS.rss h228) hlr0).mono ?_
  rintro e w16 ⟨rfl, md236⟩
  have bx237 := bx226.mid md236 (Or.inr (Nat.zero_le _))
  clear bx226
  have h238 := RSS.mid h227 md236 (Or.inl (Nat.zero_le _))
  clear h227
  have h239 := OSS.mid h228 md236 (Or.inl (Nat.zero_le _))
  clear h228
  have h240 := OSS.mid h229 md236 (Or.inl (Nat.zero_le _))
  clear h229
  have h241 := OSS.mid h224 md236 (Or.inl (Nat.zero_le _))
  clear h224
  have b242 := below_mid b231 z232 md236 (Or.inr rfl)
  have z243 := b242.size
  have y244 := md236.size
  clear k234
  clear k235
  have k245 := bx237.cell 0 rfl
  have k246 := bx237.cell 1 rfl
  go_wp2_with fail
  with_reducible refine (heldSS _ res0 _ 1 _ _ _ (OSS.rss h240) (by omega) (by omega) hlr0).mono ?_
  rintro e w17 ⟨rfl, md247⟩
  have bx248 := bx237.mid md247 (Or.inr (Nat.zero_le _))
  clear bx237
  have h249 := RSS.mid h238 md247 (Or.inl (Nat.zero_le _))
  clear h238
  have h250 := OSS.mid h239 md247 (Or.inl (Nat.zero_le _))
  clear h239
  have h251 := OSS.mid h240 md247 (Or.inl (Nat.zero_le _))
  clear h240
  have h252 := OSS.mid h241 md247 (Or.inl (Nat.zero_le _))
  clear h241
  have b253 := below_mid b242 z243 md247 (Or.inr rfl)
  have z254 := b253.size
  have y255 := md247.size
  clear k245
  clear k246
  have k256 := bx248.cell 0 rfl
  have k257 := bx248.cell 1 rfl
  go_wp2_with fail
  go_ret
  exact ⟨rfl, b253⟩
end Go.Proofs.Ytimmnnncgnnkgaa
