
import Derived.Test.YtgpljoplnecioaaGreatPk7

/- The walk of the law FnExactGraphOfAction: it returns true at every input, and turns nothing that was there. -/
namespace Go.Proofs.YtgpljoplnecioaaGreat
open Go.RowKit
set_option linter.unusedVariables false
set_option linter.unusedSimpArgs false

theorem frz_GraphOfAction {w : World} {b : Nat} {cs : List Value} (h : Box w b cs) : ∀ i, w.frozen? ⟨b, i, none⟩ = false := h.2.2
set_option maxRecDepth 100000 in
set_option maxHeartbeats 8000000 in
theorem walk_GraphOfAction (a0 : Int) (A1 : Option Addr) (d1 : List (List Int)) (c1 : Nat) (w : World) (_o0 : (Lit.int .i64 a0).wf = true) (r1 : RSS w 0 w.heap.size A1 d1) (_o1 : OkSS d1) :
    Calls Tryz.prog 7 #[.int .i64 a0, .slice A1 d1.length c1] w fun e w' => e = .returned (.bool true) ∧ Below w.heap.size w w' := by
  obtain ⟨z1, hz1⟩ : ∃ z, z = szI 1048576 (d1.length + sumL d1) := ⟨_, rfl⟩
  have E1 := Lib.hid hz1.symm
  rcases szI_case 1048576 (d1.length + sumL d1) with hs1 | ⟨hs1, hs1'⟩
  · obtain rfl : z1 = -1 := hz1.trans hs1
    clear hs1 hz1
    have hh1 := r1
    go_enter Tryz.func7, Tryz.ntmps7
    go_wp2_with fail
    with_reducible refine (szIntSS_any _ d1 _ 1048576 _ _ _ hh1 (OkSS.len _o1) (by omega) (by omega) _ rfl).mono ?_
    rintro e _ ⟨rfl, rfl⟩
    rw [E1.out]
    go_wp2_with fail
    go_ret
    exact ⟨rfl, (Below.refl w.heap.size w)⟩
  rw [hs1'] at hz1
  have hp1 : 0 ≤ z1 := by omega
  have hq1 : z1 ≤ 1048576 := by omega
  have hl1 : d1.length + sumL d1 ≤ 1048576 := by omega
  clear hs1 hs1' hz1
  obtain ⟨rr0, rs0, res0, res1, HRES⟩ : ∃ rr0 rs0 res0 res1, GraphOfActionIs a0 d1 rr0 rs0 res0 res1 := GraphOfActionIs_ex a0 d1 _o1 hl1
  have hlr0 := GraphOfActionIs_len HRES _o1 hl1
  have HRES := Lib.hid HRES
  have hh3 := r1
  go_enter Tryz.func7, Tryz.ntmps7
  go_wp2_with fail
  with_reducible refine (szIntSS_any _ d1 _ 1048576 _ _ _ hh3 (OkSS.len _o1) (by omega) (by omega) _ rfl).mono ?_
  rintro e _ ⟨rfl, rfl⟩
  rw [E1.out]
  go_wp2_with fail
  with_reducible refine (toSS _ d1 _ _ _ _ hh3 hl1).mono ?_
  rintro e w3 ⟨AA5, cc6, rfl, h7, md8⟩
  have h9 := RSS.mid hh3 md8 (Or.inl (Nat.zero_le _))
  clear hh3
  have b10 := below_mid (Below.refl w.heap.size w) (Nat.le_refl w.heap.size) md8 (Or.inr rfl)
  have z11 := b10.size
  have y12 := md8.size
  go_wp2_with fail
  with_reducible refine (sspec_GraphOfAction a0 _ d1 _ _ _o0 _ _ h7 _o1 hl1 rr0 rs0 res0 res1 HRES.out).mono ?_
  rintro e w4 ⟨AA14, cc15, rfl, h16, md13⟩
  have h18 := RSS.mid h9 md13 (Or.inl (Nat.zero_le _))
  clear h9
  have h19 := OSS.mid h7 md13 (Or.inl (Nat.zero_le _))
  clear h7
  have b20 := below_mid b10 z11 md13 (Or.inr rfl)
  have z21 := b20.size
  have y22 := md13.size
  have md23 : Mid 0 0 w4 (w4.alloc (.cells #[.int .i64 rr0, .int .i64 rs0, .slice AA14 res0.length cc15] 29)) := Mid.alloc _ _
  have h24 := RSS.mid h18 md23 (Or.inl (Nat.zero_le _))
  clear h18
  have h25 := OSS.mid h19 md23 (Or.inl (Nat.zero_le _))
  clear h19
  have h26 := OG.mid h16 md23 (Or.inl (Nat.zero_le _))
  clear h16
  have b27 := below_mid b20 z21 md23 (Or.inr rfl)
  have z28 := b27.size
  have y29 := md23.size
  have bx30 := Box.new w4 #[.int .i64 rr0, .int .i64 rs0, .slice AA14 res0.length cc15] 29
  have y31 : w4.heap.size + 1 ≤ (w4.alloc (.cells #[.int .i64 rr0, .int .i64 rs0, .slice AA14 res0.length cc15] 29)).heap.size := (by simp)
  have k32 := bx30.cell 0 rfl
  have k33 := bx30.cell 1 rfl
  have k34 := bx30.cell 2 rfl
  go_wp2_with fail
  with_reducible refine (toSS _ d1 _ _ _ _ h24 hl1).mono ?_
  rintro e w5 ⟨AA35, cc36, rfl, h37, md38⟩
  have h39 := RSS.mid h24 md38 (Or.inl (Nat.zero_le _))
  clear h24
  have bx40 := bx30.mid md38 (Or.inr (Nat.zero_le _))
  clear bx30
  have h41 := OG.mid h26 md38 (Or.inl (Nat.zero_le _))
  clear h26
  have b42 := below_mid b27 z28 md38 (Or.inr rfl)
  have z43 := b42.size
  have y44 := md38.size
  clear k32
  clear k33
  clear k34
  have k45 := bx40.cell 0 rfl
  have k46 := bx40.cell 1 rfl
  have k47 := bx40.cell 2 rfl
  go_wp2_with fail
  with_reducible refine (simpl_GraphOfAction a0 _ d1 _ _ _o0 _ _ h37 _o1 hl1 rr0 rs0 res0 res1 HRES.out).mono ?_
  rintro e w6 ⟨AA49, cc50, rfl, h51, md48⟩
  have h53 := RSS.mid h39 md48 (Or.inl (Nat.zero_le _))
  clear h39
  have bx54 := bx40.mid md48 (Or.inr (Nat.zero_le _))
  clear bx40
  have h55 := OG.mid h41 md48 (Or.inl (Nat.zero_le _))
  clear h41
  have h56 := OSS.mid h37 md48 (Or.inl (Nat.zero_le _))
  clear h37
  have b57 := below_mid b42 z43 md48 (Or.inr rfl)
  have z58 := b57.size
  have y59 := md48.size
  clear k45
  clear k46
  clear k47
  have k60 := bx54.cell 0 rfl
  have k61 := bx54.cell 1 rfl
  have k62 := bx54.cell 2 rfl
  have md63 : Mid 0 0 w6 (w6.alloc (.cells #[.int .i64 rr0, .int .i64 rs0, .slice AA49 res0.length cc50] 29)) := Mid.alloc _ _
  have h64 := RSS.mid h53 md63 (Or.inl (Nat.zero_le _))
  clear h53
  have bx65 := bx54.mid md63 (Or.inr (Nat.zero_le _))
  clear bx54
  have h66 := OG.mid h55 md63 (Or.inl (Nat.zero_le _))
  clear h55
  have h67 := OSS.mid h56 md63 (Or.inl (Nat.zero_le _))
  clear h56
  have h68 := OG.mid h51 md63 (Or.inl (Nat.zero_le _))
  clear h51
  have b69 := below_mid b57 z58 md63 (Or.inr rfl)
  have z70 := b69.size
  have y71 := md63.size
  have bx72 := Box.new w6 #[.int .i64 rr0, .int .i64 rs0, .slice AA49 res0.length cc50] 29
  have y73 : w6.heap.size + 1 ≤ (w6.alloc (.cells #[.int .i64 rr0, .int .i64 rs0, .slice AA49 res0.length cc50] 29)).heap.size := (by simp)
  clear k60
  clear k61
  clear k62
  have k74 := bx65.cell 0 rfl
  have k75 := bx65.cell 1 rfl
  have k76 := bx65.cell 2 rfl
  have k77 := bx72.cell 0 rfl
  have k78 := bx72.cell 1 rfl
  have k79 := bx72.cell 2 rfl
  go_wp2_with fail
  with_reducible refine (eqGraph_same _ _ _ _ res0 _ _ _ _ _ _ _ (OG.rg h68) (OG.rg h66) hlr0).mono ?_
  rintro e w7 ⟨rfl, md80⟩
  have h81 := RSS.mid h64 md80 (Or.inl (Nat.zero_le _))
  clear h64
  have bx82 := bx65.mid md80 (Or.inr (Nat.zero_le _))
  clear bx65
  have h83 := OG.mid h66 md80 (Or.inl (Nat.zero_le _))
  clear h66
  have h84 := OSS.mid h67 md80 (Or.inl (Nat.zero_le _))
  clear h67
  have bx85 := bx72.mid md80 (Or.inr (Nat.zero_le _))
  clear bx72
  have h86 := OG.mid h68 md80 (Or.inl (Nat.zero_le _))
  clear h68
  have b87 := below_mid b69 z70 md80 (Or.inr rfl)
  have z88 := b87.size
  have y89 := md80.size
  clear k74
  clear k75
  clear k76
  have k90 := bx82.cell 0 rfl
  have k91 := bx82.cell 1 rfl
  have k92 := bx82.cell 2 rfl
  clear k77
  clear k78
  clear k79
  have k93 := bx85.cell 0 rfl
  have k94 := bx85.cell 1 rfl
  have k95 := bx85.cell 2 rfl
  go_wp2_with fail
  with_reducible refine (toSS _ d1 _ _ _ _ h81 hl1).mono ?_
  rintro e w8 ⟨AA96, cc97, rfl, h98, md99⟩
  have h100 := RSS.mid h81 md99 (Or.inl (Nat.zero_le _))
  clear h81
  have bx101 := bx82.mid md99 (Or.inr (Nat.zero_le _))
  clear bx82
  have h102 := OG.mid h83 md99 (Or.inl (Nat.zero_le _))
  clear h83
  have h103 := OSS.mid h84 md99 (Or.inl (Nat.zero_le _))
  clear h84
  have bx104 := bx85.mid md99 (Or.inr (Nat.zero_le _))
  clear bx85
  have h105 := OG.mid h86 md99 (Or.inl (Nat.zero_le _))
  clear h86
  have b106 := below_mid b87 z88 md99 (Or.inr rfl)
  have z107 := b106.size
  have y108 := md99.size
  clear k90
  clear k91
  clear k92
  have k109 := bx101.cell 0 rfl
  have k110 := bx101.cell 1 rfl
  have k111 := bx101.cell 2 rfl
  clear k93
  clear k94
  clear k95
  have k112 := bx104.cell 0 rfl
  have k113 := bx104.cell 1 rfl
  have k114 := bx104.cell 2 rfl
  go_wp2_with fail
  with_reducible refine (eqSS _ _ d1 _ _ _ _ _ _ _ (OSS.rss h103) (OSS.rss h98) hl1).mono ?_
  rintro e w9 ⟨rfl, md115⟩
  have h116 := RSS.mid h100 md115 (Or.inl (Nat.zero_le _))
  clear h100
  have bx117 := bx101.mid md115 (Or.inr (Nat.zero_le _))
  clear bx101
  have h118 := OG.mid h102 md115 (Or.inl (Nat.zero_le _))
  clear h102
  have h119 := OSS.mid h103 md115 (Or.inl (Nat.zero_le _))
  clear h103
  have bx120 := bx104.mid md115 (Or.inr (Nat.zero_le _))
  clear bx104
  have h121 := OG.mid h105 md115 (Or.inl (Nat.zero_le _))
  clear h105
  have h122 := OSS.mid h98 md115 (Or.inl (Nat.zero_le _))
  clear h98
  have b123 := below_mid b106 z107 md115 (Or.inr rfl)
  have z124 := b123.size
  have y125 := md115.size
  clear k109
  clear k110
  clear k111
  have k126 := bx117.cell 0 rfl
  have k127 := bx117.cell 1 rfl
  have k128 := bx117.cell 2 rfl
  clear k112
  clear k113
  clear k114
  have k129 := bx120.cell 0 rfl
  have k130 := bx120.cell 1 rfl
  have k131 := bx120.cell 2 rfl
  go_wp2_with fail
  with_reducible refine (markIntSS_any _ d1 _ 1 _ _ _ h119 (by omega) (by omega) hl1).mono ?_
  rintro e w10 ⟨rfl, h132, md133⟩
  have h134 := RSS.mid h116 md133 (by omega)
  clear h116
  have bx135 := bx117.mid md133 (by omega)
  clear bx117
  have h136 := OG.mid h118 md133 (by omega)
  clear h118
  have bx137 := bx120.mid md133 (by omega)
  clear bx120
  have h138 := OG.mid h121 md133 (by omega)
  clear h121
  have b139 := below_mid b123 z124 md133 (by omega)
  have z140 := b139.size
  have y141 := md133.size
  clear h119
  clear k126
  clear k127
  clear k128
  have k142 := bx135.cell 0 rfl
  have k143 := bx135.cell 1 rfl
  have k144 := bx135.cell 2 rfl
  clear k129
  clear k130
  clear k131
  have k145 := bx137.cell 0 rfl
  have k146 := bx137.cell 1 rfl
  have k147 := bx137.cell 2 rfl
  go_wp2_with fail
  with_reducible refine (eqGraph_same _ _ _ _ res0 _ _ _ _ _ _ _ (OG.rg h138) (OG.rg h136) hlr0).mono ?_
  rintro e w11 ⟨rfl, md148⟩
  have h149 := RSS.mid h134 md148 (Or.inl (Nat.zero_le _))
  clear h134
  have bx150 := bx135.mid md148 (Or.inr (Nat.zero_le _))
  clear bx135
  have h151 := OG.mid h136 md148 (Or.inl (Nat.zero_le _))
  clear h136
  have bx152 := bx137.mid md148 (Or.inr (Nat.zero_le _))
  clear bx137
  have h153 := OG.mid h138 md148 (Or.inl (Nat.zero_le _))
  clear h138
  have b154 := below_mid b139 z140 md148 (Or.inr rfl)
  have z155 := b154.size
  have y156 := md148.size
  clear k142
  clear k143
  clear k144
  have k157 := bx150.cell 0 rfl
  have k158 := bx150.cell 1 rfl
  have k159 := bx150.cell 2 rfl
  clear k145
  clear k146
  clear k147
  have k160 := bx152.cell 0 rfl
  have k161 := bx152.cell 1 rfl
  have k162 := bx152.cell 2 rfl
  go_wp2_with fail
  with_reducible refine (markGraph_any _ _ _ res0 _ 1 _ _ _ h153 (by omega) (by omega) hlr0).mono ?_
  rintro e w12 ⟨rfl, h163, md164⟩
  have h165 := RSS.mid h149 md164 (by omega)
  clear h149
  have bx166 := bx150.mid md164 (by omega)
  clear bx150
  have h167 := OG.mid h151 md164 (by omega)
  clear h151
  have bx168 := bx152.mid md164 (by omega)
  clear bx152
  have b169 := below_mid b154 z155 md164 (by omega)
  have z170 := b169.size
  have y171 := md164.size
  clear h153
  clear k157
  clear k158
  clear k159
  have k172 := bx166.cell 0 rfl
  have k173 := bx166.cell 1 rfl
  have k174 := bx166.cell 2 rfl
  clear k160
  clear k161
  clear k162
  have k175 := bx168.cell 0 rfl
  have k176 := bx168.cell 1 rfl
  have k177 := bx168.cell 2 rfl
  go_wp2_with fail
  with_reducible refine (heldGraph_any _ _ _ res0.length _ 1 _ _ _ h163 (by omega) (by omega) hlr0).mono ?_
  rintro e w13 ⟨rfl, md178⟩
  have h179 := RSS.mid h165 md178 (Or.inl (Nat.zero_le _))
  clear h165
  have bx180 := bx166.mid md178 (Or.inr (Nat.zero_le _))
  clear bx166
  have h181 := OG.mid h167 md178 (Or.inl (Nat.zero_le _))
  clear h167
  have bx182 := bx168.mid md178 (Or.inr (Nat.zero_le _))
  clear bx168
  have h183 := OG.mid h163 md178 (Or.inl (Nat.zero_le _))
  clear h163
  have b184 := below_mid b169 z170 md178 (Or.inr rfl)
  have z185 := b184.size
  have y186 := md178.size
  clear k172
  clear k173
  clear k174
  have k187 := bx180.cell 0 rfl
  have k188 := bx180.cell 1 rfl
  have k189 := bx180.cell 2 rfl
  clear k175
  clear k176
  clear k177
  have k190 := bx182.cell 0 rfl
  have k191 := bx182.cell 1 rfl
  have k192 := bx182.cell 2 rfl
  go_wp2_with fail
  with_reducible refine (toSS _ d1 _ _ _ _ h179 hl1).mono ?_
  rintro e w14 ⟨AA193, cc194, rfl, h195, md196⟩
  have h197 := RSS.mid h179 md196 (Or.inl (Nat.zero_le _))
  clear h179
  have bx198 := bx180.mid md196 (Or.inr (Nat.zero_le _))
  clear bx180
  have h199 := OG.mid h181 md196 (Or.inl (Nat.zero_le _))
  clear h181
  have bx200 := bx182.mid md196 (Or.inr (Nat.zero_le _))
  clear bx182
  have h201 := OG.mid h183 md196 (Or.inl (Nat.zero_le _))
  clear h183
  have b202 := below_mid b184 z185 md196 (Or.inr rfl)
  have z203 := b202.size
  have y204 := md196.size
  clear k187
  clear k188
  clear k189
  have k205 := bx198.cell 0 rfl
  have k206 := bx198.cell 1 rfl
  have k207 := bx198.cell 2 rfl
  clear k190
  clear k191
  clear k192
  have k208 := bx200.cell 0 rfl
  have k209 := bx200.cell 1 rfl
  have k210 := bx200.cell 2 rfl
  go_wp2_with fail
  with_reducible refine (simpl_GraphOfAction a0 _ d1 _ _ _o0 _ _ h195 _o1 hl1 rr0 rs0 res0 res1 HRES.out).mono ?_
  rintro e w15 ⟨AA212, cc213, rfl, h214, md211⟩
  have h216 := RSS.mid h197 md211 (Or.inl (Nat.zero_le _))
  clear h197
  have bx217 := bx198.mid md211 (Or.inr (Nat.zero_le _))
  clear bx198
  have h218 := OG.mid h199 md211 (Or.inl (Nat.zero_le _))
  clear h199
  have bx219 := bx200.mid md211 (Or.inr (Nat.zero_le _))
  clear bx200
  have h220 := OG.mid h201 md211 (Or.inl (Nat.zero_le _))
  clear h201
  have h221 := OSS.mid h195 md211 (Or.inl (Nat.zero_le _))
  clear h195
  have b222 := below_mid b202 z203 md211 (Or.inr rfl)
  have z223 := b222.size
  have y224 := md211.size
  clear k205
  clear k206
  clear k207
  have k225 := bx217.cell 0 rfl
  have k226 := bx217.cell 1 rfl
  have k227 := bx217.cell 2 rfl
  clear k208
  clear k209
  clear k210
  have k228 := bx219.cell 0 rfl
  have k229 := bx219.cell 1 rfl
  have k230 := bx219.cell 2 rfl
  have md231 : Mid 0 0 w15 (w15.alloc (.cells #[.int .i64 rr0, .int .i64 rs0, .slice AA212 res0.length cc213] 29)) := Mid.alloc _ _
  have h232 := RSS.mid h216 md231 (Or.inl (Nat.zero_le _))
  clear h216
  have bx233 := bx217.mid md231 (Or.inr (Nat.zero_le _))
  clear bx217
  have h234 := OG.mid h218 md231 (Or.inl (Nat.zero_le _))
  clear h218
  have bx235 := bx219.mid md231 (Or.inr (Nat.zero_le _))
  clear bx219
  have h236 := OG.mid h220 md231 (Or.inl (Nat.zero_le _))
  clear h220
  have h237 := OSS.mid h221 md231 (Or.inl (Nat.zero_le _))
  clear h221
  have h238 := OG.mid h214 md231 (Or.inl (Nat.zero_le _))
  clear h214
  have b239 := below_mid b222 z223 md231 (Or.inr rfl)
  have z240 := b239.size
  have y241 := md231.size
  have bx242 := Box.new w15 #[.int .i64 rr0, .int .i64 rs0, .slice AA212 res0.length cc213] 29
  have y243 : w15.heap.size + 1 ≤ (w15.alloc (.cells #[.int .i64 rr0, .int .i64 rs0, .slice AA212 res0.length cc213] 29)).heap.size := (by simp)
  clear k225
  clear k226
  clear k227
  have k244 := bx233.cell 0 rfl
  have k245 := bx233.cell 1 rfl
  have k246 := bx233.cell 2 rfl
  clear k228
  clear k229
  clear k230
  have k247 := bx235.cell 0 rfl
  have k248 := bx235.cell 1 rfl
  have k249 := bx235.cell 2 rfl
  have k250 := bx242.cell 0 rfl
  have k251 := bx242.cell 1 rfl
  have k252 := bx242.cell 2 rfl
  go_wp2_with fail
  with_reducible refine (eqGraph_same _ _ _ _ res0 _ _ _ _ _ _ _ (OG.rg h238) (OG.rg h234) hlr0).mono ?_
  rintro e w16 ⟨rfl, md253⟩
  have h254 := RSS.mid h232 md253 (Or.inl (Nat.zero_le _))
  clear h232
  have bx255 := bx233.mid md253 (Or.inr (Nat.zero_le _))
  clear bx233
  have h256 := OG.mid h234 md253 (Or.inl (Nat.zero_le _))
  clear h234
  have bx257 := bx235.mid md253 (Or.inr (Nat.zero_le _))
  clear bx235
  have h258 := OG.mid h236 md253 (Or.inl (Nat.zero_le _))
  clear h236
  have bx259 := bx242.mid md253 (Or.inr (Nat.zero_le _))
  clear bx242
  have h260 := OG.mid h238 md253 (Or.inl (Nat.zero_le _))
  clear h238
  have b261 := below_mid b239 z240 md253 (Or.inr rfl)
  have z262 := b261.size
  have y263 := md253.size
  clear k244
  clear k245
  clear k246
  have k264 := bx255.cell 0 rfl
  have k265 := bx255.cell 1 rfl
  have k266 := bx255.cell 2 rfl
  clear k247
  clear k248
  clear k249
  have k267 := bx257.cell 0 rfl
  have k268 := bx257.cell 1 rfl
  have k269 := bx257.cell 2 rfl
  clear k250
  clear k251
  clear k252
  have k270 := bx259.cell 0 rfl
  have k271 := bx259.cell 1 rfl
  have k272 := bx259.cell 2 rfl
  go_wp2_with fail
  with_reducible refine (heldGraph_any _ _ _ res0.length _ 1 _ _ _ h258 (by omega) (by omega) hlr0).mono ?_
  rintro e w17 ⟨rfl, md273⟩
  have h274 := RSS.mid h254 md273 (Or.inl (Nat.zero_le _))
  clear h254
  have bx275 := bx255.mid md273 (Or.inr (Nat.zero_le _))
  clear bx255
  have h276 := OG.mid h256 md273 (Or.inl (Nat.zero_le _))
  clear h256
  have bx277 := bx257.mid md273 (Or.inr (Nat.zero_le _))
  clear bx257
  have h278 := OG.mid h258 md273 (Or.inl (Nat.zero_le _))
  clear h258
  have bx279 := bx259.mid md273 (Or.inr (Nat.zero_le _))
  clear bx259
  have h280 := OG.mid h260 md273 (Or.inl (Nat.zero_le _))
  clear h260
  have b281 := below_mid b261 z262 md273 (Or.inr rfl)
  have z282 := b281.size
  have y283 := md273.size
  clear k264
  clear k265
  clear k266
  have k284 := bx275.cell 0 rfl
  have k285 := bx275.cell 1 rfl
  have k286 := bx275.cell 2 rfl
  clear k267
  clear k268
  clear k269
  have k287 := bx277.cell 0 rfl
  have k288 := bx277.cell 1 rfl
  have k289 := bx277.cell 2 rfl
  clear k270
  clear k271
  clear k272
  have k290 := bx279.cell 0 rfl
  have k291 := bx279.cell 1 rfl
  have k292 := bx279.cell 2 rfl
  go_wp2_with fail
  go_ret
  exact ⟨rfl, b281⟩
end Go.Proofs.YtgpljoplnecioaaGreat
