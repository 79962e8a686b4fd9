/- The walk of the law FnExactApplyMove: it returns true at every input, and turns nothing that was there. -/
import Derived.Test.YtaddhbdfjkbgiaaL31
import Derived.Test.YtaddhbdfjkbgiaaL32
import Derived.Deep.RegionHeld3
import Derived.Deep.DeepCutAuto
namespace Go.Proofs.Ytaddhbdfjkbgiaa
open Go.RowKit
set_option linter.unusedVariables false
set_option linter.unusedSimpArgs false

theorem frz_ApplyMove {w : World} {b : Nat} {cs : List Value} (h : Box w b cs) : ∀ i, w.frozen? ⟨b, i, none⟩ = false := h.2.2
set_option maxRecDepth 100000 in
set_option maxHeartbeats 8000000 in
theorem walk_ApplyMove (A0 : Option Addr) (d0 : List (List Int)) (c0 : Nat) (m1 : Mv) (w : World) (r0 : RSS w 0 w.heap.size A0 d0) (_o0 : OkSS d0) (_o1 : True) :
    Calls Try.prog 10 #[.slice A0 d0.length c0, .agg #[.int .i64 m1.kind, .int .i64 m1.i, .int .i64 m1.j, .int .i64 m1.sign]] w fun e w' => e = .returned (.bool true) ∧ Below w.heap.size w w' := by
  obtain ⟨z0, hz0⟩ : ∃ z, z = szI 1048576 (d0.length + sumL d0) := ⟨_, rfl⟩
  have E0 := Lib.hid hz0.symm
  rcases szI_case 1048576 (d0.length + sumL d0) with hs0 | ⟨hs0, hs0'⟩
  · obtain rfl : z0 = -1 := hz0.trans hs0
    clear hs0 hz0
    have hh1 := r0
    go_enter Try.func10, Try.ntmps10
    have md2 : Mid 0 0 w (w.alloc (.cells #[.int .i64 m1.kind, .int .i64 m1.i, .int .i64 m1.j, .int .i64 m1.sign] 59)) := Mid.alloc _ _
    have h3 := RSS.mid hh1 md2 (Or.inl (Nat.zero_le _))
    clear hh1
    have b4 := below_mid (Below.refl w.heap.size w) (Nat.le_refl w.heap.size) md2 (Or.inr rfl)
    have z5 := b4.size
    have y6 := md2.size
    have bx7 := Box.new w #[.int .i64 m1.kind, .int .i64 m1.i, .int .i64 m1.j, .int .i64 m1.sign] 59
    have y8 : w.heap.size + 1 ≤ (w.alloc (.cells #[.int .i64 m1.kind, .int .i64 m1.i, .int .i64 m1.j, .int .i64 m1.sign] 59)).heap.size := (by simp)
    have k9 := bx7.cell 0 rfl
    have k10 := bx7.cell 1 rfl
    have k11 := bx7.cell 2 rfl
    have k12 := bx7.cell 3 rfl
    go_wp2_with fail
    with_reducible refine (szIntSS_any _ d0 _ 1048576 _ _ _ h3 (OkSS.len _o0) (by omega) (by omega) _ rfl).mono ?_
    rintro e _ ⟨rfl, rfl⟩
    rw [E0.out]
    go_wp2_with fail
    go_ret
    exact ⟨rfl, b4⟩
  rw [hs0'] at hz0
  have hp0 : 0 ≤ z0 := by omega
  have hq0 : z0 ≤ 1048576 := by omega
  have hl0 : d0.length + sumL d0 ≤ 1048576 := by omega
  clear hs0 hs0' hz0
  obtain ⟨res0, res1, HRES⟩ : ∃ res0 res1, ApplyMoveIs d0 m1 res0 res1 := ApplyMoveIs_ex d0 m1 _o0 hl0
  have hlr0 := ApplyMoveIs_len HRES _o0 hl0
  have HRES := Lib.hid HRES
  have hh14 := r0
  go_enter Try.func10, Try.ntmps10
  have md15 : Mid 0 0 w (w.alloc (.cells #[.int .i64 m1.kind, .int .i64 m1.i, .int .i64 m1.j, .int .i64 m1.sign] 59)) := Mid.alloc _ _
  have h16 := RSS.mid hh14 md15 (Or.inl (Nat.zero_le _))
  clear hh14
  have b17 := below_mid (Below.refl w.heap.size w) (Nat.le_refl w.heap.size) md15 (Or.inr rfl)
  have z18 := b17.size
  have y19 := md15.size
  have bx20 := Box.new w #[.int .i64 m1.kind, .int .i64 m1.i, .int .i64 m1.j, .int .i64 m1.sign] 59
  have y21 : w.heap.size + 1 ≤ (w.alloc (.cells #[.int .i64 m1.kind, .int .i64 m1.i, .int .i64 m1.j, .int .i64 m1.sign] 59)).heap.size := (by simp)
  have k22 := bx20.cell 0 rfl
  have k23 := bx20.cell 1 rfl
  have k24 := bx20.cell 2 rfl
  have k25 := bx20.cell 3 rfl
  go_wp2_with fail
  with_reducible refine (szIntSS_any _ d0 _ 1048576 _ _ _ h16 (OkSS.len _o0) (by omega) (by omega) _ rfl).mono ?_
  rintro e _ ⟨rfl, rfl⟩
  rw [E0.out]
  go_wp2_with fail
  have md27 : Mid 0 0 (w.alloc (.cells #[.int .i64 m1.kind, .int .i64 m1.i, .int .i64 m1.j, .int .i64 m1.sign] 59)) (w.alloc (.cells #[.int .i64 m1.kind, .int .i64 m1.i, .int .i64 m1.j, .int .i64 m1.sign] 59)).drew := Mid.drew1 _
  have h28 := RSS.mid h16 md27 (Or.inl (Nat.zero_le _))
  have bx29 := bx20.mid md27 (Or.inr (Nat.zero_le _))
  have b30 := below_mid b17 z18 md27 (Or.inr rfl)
  have z31 := b30.size
  have y32 := md27.size
  have k33 := bx29.cell 0 rfl
  have k34 := bx29.cell 1 rfl
  have k35 := bx29.cell 2 rfl
  have k36 := bx29.cell 3 rfl
  go_region_held3 (fun w' => w'.cell? ⟨w.heap.size, 0, none⟩ = some (.int .i64 m1.kind) ∧ w'.cell? ⟨w.heap.size, 1, none⟩ = some (.int .i64 m1.i) ∧ w'.cell? ⟨w.heap.size, 2, none⟩ = some (.int .i64 m1.j) ∧ w'.cell? ⟨w.heap.size, 3, none⟩ = some (.int .i64 m1.sign)) (first | exact ⟨k22, k23, k24, k25⟩ | exact ⟨k33, k34, k35, k36⟩ | exact ⟨k46, k47, k48, k49⟩ | exact ⟨k57, k58, k59, k60⟩ | exact ⟨k71, k72, k73, k74⟩) (first | (go_at_call 44; with_reducible refine (toSS _ d0 _ _ _ _ h28 hl0).mono ?_; rintro e w3 ⟨AA37, cc38, rfl, h39, md40⟩; have h41 := RSS.mid h28 md40 (Or.inl (Nat.zero_le _)); have bx42 := bx29.mid md40 (Or.inr (Nat.zero_le _)); have b43 := below_mid b30 z31 md40 (Or.inr rfl); have z44 := b43.size; have y45 := md40.size; have k46 := bx42.cell 0 rfl; have k47 := bx42.cell 1 rfl; have k48 := bx42.cell 2 rfl; have k49 := bx42.cell 3 rfl) | (go_at_call 45; with_reducible refine (toMove_any m1 _).mono ?_; rintro e w4 ⟨rfl, md50⟩; have h51 := RSS.mid h41 md50 (Or.inl (Nat.zero_le _)); have bx52 := bx42.mid md50 (Or.inr (Nat.zero_le _)); have h53 := OSS.mid h39 md50 (Or.inl (Nat.zero_le _)); have b54 := below_mid b43 z44 md50 (Or.inr rfl); have z55 := b54.size; have y56 := md50.size; have k57 := bx52.cell 0 rfl; have k58 := bx52.cell 1 rfl; have k59 := bx52.cell 2 rfl; have k60 := bx52.cell 3 rfl) | (go_at_call 43; with_reducible refine (sspec_ApplyMove _ d0 _ m1 _ _ _ (OSS.rss h53) _o0 hl0 _o1 res0 res1 HRES.out).mono ?_; rintro e w5 ⟨AA62, cc63, rfl, h64, md61⟩; have h65 := RSS.mid h51 md61 (Or.inl (Nat.zero_le _)); have bx66 := bx52.mid md61 (Or.inr (Nat.zero_le _)); have h67 := OSS.mid h53 md61 (Or.inl (Nat.zero_le _)); have b68 := below_mid b54 z55 md61 (Or.inr rfl); have z69 := b68.size; have y70 := md61.size; have k71 := bx66.cell 0 rfl; have k72 := bx66.cell 1 rfl; have k73 := bx66.cell 2 rfl; have k74 := bx66.cell 3 rfl))
  go_wp2_with fail
  with_reducible refine (toSS _ d0 _ _ _ _ h65 hl0).mono ?_
  rintro e w6 ⟨AA75, cc76, rfl, h77, md78⟩
  have h79 := RSS.mid h65 md78 (Or.inl (Nat.zero_le _))
  clear h65
  have bx80 := bx66.mid md78 (Or.inr (Nat.zero_le _))
  clear bx66
  have h81 := OSS.mid h64 md78 (Or.inl (Nat.zero_le _))
  clear h64
  have b82 := below_mid b68 z69 md78 (Or.inr rfl)
  have z83 := b82.size
  have y84 := md78.size
  clear k71
  clear k72
  clear k73
  clear k74
  have k85 := bx80.cell 0 rfl
  have k86 := bx80.cell 1 rfl
  have k87 := bx80.cell 2 rfl
  have k88 := bx80.cell 3 rfl
  go_wp2_with fail
  with_reducible refine (toMove_any m1 _).mono ?_
  rintro e w7 ⟨rfl, md89⟩
  have h90 := RSS.mid h79 md89 (Or.inl (Nat.zero_le _))
  clear h79
  have bx91 := bx80.mid md89 (Or.inr (Nat.zero_le _))
  clear bx80
  have h92 := OSS.mid h81 md89 (Or.inl (Nat.zero_le _))
  clear h81
  have h93 := OSS.mid h77 md89 (Or.inl (Nat.zero_le _))
  clear h77
  have b94 := below_mid b82 z83 md89 (Or.inr rfl)
  have z95 := b94.size
  have y96 := md89.size
  clear k85
  clear k86
  clear k87
  clear k88
  have k97 := bx91.cell 0 rfl
  have k98 := bx91.cell 1 rfl
  have k99 := bx91.cell 2 rfl
  have k100 := bx91.cell 3 rfl
  go_wp2_with fail
  with_reducible refine (simpl_ApplyMove _ d0 _ m1 _ _ _ (OSS.rss h93) _o0 hl0 _o1 res0 res1 HRES.out).mono ?_
  rintro e w8 ⟨AA102, cc103, rfl, h104, md101⟩
  have h105 := RSS.mid h90 md101 (Or.inl (Nat.zero_le _))
  clear h90
  have bx106 := bx91.mid md101 (Or.inr (Nat.zero_le _))
  clear bx91
  have h107 := OSS.mid h92 md101 (Or.inl (Nat.zero_le _))
  clear h92
  have h108 := OSS.mid h93 md101 (Or.inl (Nat.zero_le _))
  clear h93
  have b109 := below_mid b94 z95 md101 (Or.inr rfl)
  have z110 := b109.size
  have y111 := md101.size
  clear k97
  clear k98
  clear k99
  clear k100
  have k112 := bx106.cell 0 rfl
  have k113 := bx106.cell 1 rfl
  have k114 := bx106.cell 2 rfl
  have k115 := bx106.cell 3 rfl
  go_wp2_with fail
  with_reducible refine (eqSSB _ _ res0 _ _ _ _ _ _ _ (OSS.rss h104) (OSS.rss h107) hlr0).mono ?_
  rintro e w9 ⟨rfl, md116⟩
  have h117 := RSS.mid h105 md116 (Or.inl (Nat.zero_le _))
  clear h105
  have bx118 := bx106.mid md116 (Or.inr (Nat.zero_le _))
  clear bx106
  have h119 := OSS.mid h107 md116 (Or.inl (Nat.zero_le _))
  clear h107
  have h120 := OSS.mid h108 md116 (Or.inl (Nat.zero_le _))
  clear h108
  have h121 := OSS.mid h104 md116 (Or.inl (Nat.zero_le _))
  clear h104
  have b122 := below_mid b109 z110 md116 (Or.inr rfl)
  have z123 := b122.size
  have y124 := md116.size
  clear k112
  clear k113
  clear k114
  clear k115
  have k125 := bx118.cell 0 rfl
  have k126 := bx118.cell 1 rfl
  have k127 := bx118.cell 2 rfl
  have k128 := bx118.cell 3 rfl
  go_wp2_with fail
  with_reducible refine (toSS _ d0 _ _ _ _ h117 hl0).mono ?_
  rintro e w10 ⟨AA129, cc130, rfl, h131, md132⟩
  have h133 := RSS.mid h117 md132 (Or.inl (Nat.zero_le _))
  clear h117
  have bx134 := bx118.mid md132 (Or.inr (Nat.zero_le _))
  clear bx118
  have h135 := OSS.mid h119 md132 (Or.inl (Nat.zero_le _))
  clear h119
  have h136 := OSS.mid h120 md132 (Or.inl (Nat.zero_le _))
  clear h120
  have h137 := OSS.mid h121 md132 (Or.inl (Nat.zero_le _))
  clear h121
  have b138 := below_mid b122 z123 md132 (Or.inr rfl)
  have z139 := b138.size
  have y140 := md132.size
  clear k125
  clear k126
  clear k127
  clear k128
  have k141 := bx134.cell 0 rfl
  have k142 := bx134.cell 1 rfl
  have k143 := bx134.cell 2 rfl
  have k144 := bx134.cell 3 rfl
  go_wp2_with fail
  with_reducible refine (eqSS _ _ d0 _ _ _ _ _ _ _ (OSS.rss h136) (OSS.rss h131) hl0).mono ?_
  rintro e w11 ⟨rfl, md145⟩
  have h146 := RSS.mid h133 md145 (Or.inl (Nat.zero_le _))
  clear h133
  have bx147 := bx134.mid md145 (Or.inr (Nat.zero_le _))
  clear bx134
  have h148 := OSS.mid h135 md145 (Or.inl (Nat.zero_le _))
  clear h135
  have h149 := OSS.mid h136 md145 (Or.inl (Nat.zero_le _))
  clear h136
  have h150 := OSS.mid h137 md145 (Or.inl (Nat.zero_le _))
  clear h137
  have h151 := OSS.mid h131 md145 (Or.inl (Nat.zero_le _))
  clear h131
  have b152 := below_mid b138 z139 md145 (Or.inr rfl)
  have z153 := b152.size
  have y154 := md145.size
  clear k141
  clear k142
  clear k143
  clear k144
  have k155 := bx147.cell 0 rfl
  have k156 := bx147.cell 1 rfl
  have k157 := bx147.cell 2 rfl
  have k158 := bx147.cell 3 rfl
  go_wp2_with fail
  with_reducible refine (markIntSS_any _ d0 _ 1 _ _ _ h149 (by omega) (by omega) hl0).mono ?_
  rintro e w12 ⟨rfl, h159, md160⟩
  have h161 := RSS.mid h146 md160 (by omega)
  clear h146
  have bx162 := bx147.mid md160 (by omega)
  clear bx147
  have h163 := OSS.mid h148 md160 (by omega)
  clear h148
  have h164 := OSS.mid h150 md160 (by omega)
  clear h150
  have b165 := below_mid b152 z153 md160 (by omega)
  have z166 := b165.size
  have y167 := md160.size
  clear h149
  clear k155
  clear k156
  clear k157
  clear k158
  have k168 := bx162.cell 0 rfl
  have k169 := bx162.cell 1 rfl
  have k170 := bx162.cell 2 rfl
  have k171 := bx162.cell 3 rfl
  go_wp2_with fail
  with_reducible refine (eqSSB _ _ res0 _ _ _ _ _ _ _ (OSS.rss h164) (OSS.rss h163) hlr0).mono ?_
  rintro e w13 ⟨rfl, md172⟩
  have h173 := RSS.mid h161 md172 (Or.inl (Nat.zero_le _))
  clear h161
  have bx174 := bx162.mid md172 (Or.inr (Nat.zero_le _))
  clear bx162
  have h175 := OSS.mid h163 md172 (Or.inl (Nat.zero_le _))
  clear h163
  have h176 := OSS.mid h164 md172 (Or.inl (Nat.zero_le _))
  clear h164
  have b177 := below_mid b165 z166 md172 (Or.inr rfl)
  have z178 := b177.size
  have y179 := md172.size
  clear k168
  clear k169
  clear k170
  clear k171
  have k180 := bx174.cell 0 rfl
  have k181 := bx174.cell 1 rfl
  have k182 := bx174.cell 2 rfl
  have k183 := bx174.cell 3 rfl
  go_wp2_with fail
  with_reducible refine (markIntSS_anyB _ res0 _ 1 _ _ _ h176 (by omega) (by omega) hlr0).mono ?_
  rintro e w14 ⟨rfl, h184, md185⟩
  have h186 := RSS.mid h173 md185 (by omega)
  clear h173
  have bx187 := bx174.mid md185 (by omega)
  clear bx174
  have h188 := OSS.mid h175 md185 (by omega)
  clear h175
  have b189 := below_mid b177 z178 md185 (by omega)
  have z190 := b189.size
  have y191 := md185.size
  clear h176
  clear k180
  clear k181
  clear k182
  clear k183
  have k192 := bx187.cell 0 rfl
  have k193 := bx187.cell 1 rfl
  have k194 := bx187.cell 2 rfl
  have k195 := bx187.cell 3 rfl
  go_wp2_with fail
  with_reducible refine (heldSSB _ res0 _ 1 _ _ _ (OSS.rss h184) (by omega) (by omega) hlr0).mono ?_
  rintro e w15 ⟨rfl, md196⟩
  have h197 := RSS.mid h186 md196 (Or.inl (Nat.zero_le _))
  clear h186
  have bx198 := bx187.mid md196 (Or.inr (Nat.zero_le _))
  clear bx187
  have h199 := OSS.mid h188 md196 (Or.inl (Nat.zero_le _))
  clear h188
  have h200 := OSS.mid h184 md196 (Or.inl (Nat.zero_le _))
  clear h184
  have b201 := below_mid b189 z190 md196 (Or.inr rfl)
  have z202 := b201.size
  have y203 := md196.size
  clear k192
  clear k193
  clear k194
  clear k195
  have k204 := bx198.cell 0 rfl
  have k205 := bx198.cell 1 rfl
  have k206 := bx198.cell 2 rfl
  have k207 := bx198.cell 3 rfl
  go_wp2_with fail
  have md208 : Mid 0 0 w15 w15.drew := Mid.drew1 _
  have h209 := RSS.mid h197 md208 (Or.inl (Nat.zero_le _))
  have bx210 := bx198.mid md208 (Or.inr (Nat.zero_le _))
  have h211 := OSS.mid h199 md208 (Or.inl (Nat.zero_le _))
  have h212 := OSS.mid h200 md208 (Or.inl (Nat.zero_le _))
  have b213 := below_mid b201 z202 md208 (Or.inr rfl)
  have z214 := b213.size
  have y215 := md208.size
  have k216 := bx210.cell 0 rfl
  have k217 := bx210.cell 1 rfl
  have k218 := bx210.cell 2 rfl
  have k219 := bx210.cell 3 rfl
  go_region_held3 (fun w' => w'.cell? ⟨w.heap.size, 0, none⟩ = some (.int .i64 m1.kind) ∧ w'.cell? ⟨w.heap.size, 1, none⟩ = some (.int .i64 m1.i) ∧ w'.cell? ⟨w.heap.size, 2, none⟩ = some (.int .i64 m1.j) ∧ w'.cell? ⟨w.heap.size, 3, none⟩ = some (.int .i64 m1.sign)) (first | exact ⟨k204, k205, k206, k207⟩ | exact ⟨k216, k217, k218, k219⟩ | exact ⟨k231, k232, k233, k234⟩ | exact ⟨k244, k245, k246, k247⟩ | exact ⟨k260, k261, k262, k263⟩) (first | (go_at_call 44; with_reducible refine (toSS _ d0 _ _ _ _ h209 hl0).mono ?_; rintro e w16 ⟨AA220, cc221, rfl, h222, md223⟩; have h224 := RSS.mid h209 md223 (Or.inl (Nat.zero_le _)); have bx225 := bx210.mid md223 (Or.inr (Nat.zero_le _)); have h226 := OSS.mid h211 md223 (Or.inl (Nat.zero_le _)); have h227 := OSS.mid h212 md223 (Or.inl (Nat.zero_le _)); have b228 := below_mid b213 z214 md223 (Or.inr rfl); have z229 := b228.size; have y230 := md223.size; have k231 := bx225.cell 0 rfl; have k232 := bx225.cell 1 rfl; have k233 := bx225.cell 2 rfl; have k234 := bx225.cell 3 rfl) | (go_at_call 45; with_reducible refine (toMove_any m1 _).mono ?_; rintro e w17 ⟨rfl, md235⟩; have h236 := RSS.mid h224 md235 (Or.inl (Nat.zero_le _)); have bx237 := bx225.mid md235 (Or.inr (Nat.zero_le _)); have h238 := OSS.mid h226 md235 (Or.inl (Nat.zero_le _)); have h239 := OSS.mid h227 md235 (Or.inl (Nat.zero_le _)); have h240 := OSS.mid h222 md235 (Or.inl (Nat.zero_le _)); have b241 := below_mid b228 z229 md235 (Or.inr rfl); have z242 := b241.size; have y243 := md235.size; have k244 := bx237.cell 0 rfl; have k245 := bx237.cell 1 rfl; have k246 := bx237.cell 2 rfl; have k247 := bx237.cell 3 rfl) | (go_at_call 46; with_reducible refine (simpl_ApplyMove _ d0 _ m1 _ _ _ (OSS.rss h240) _o0 hl0 _o1 res0 res1 HRES.out).mono ?_; rintro e w18 ⟨AA249, cc250, rfl, h251, md248⟩; have h252 := RSS.mid h236 md248 (Or.inl (Nat.zero_le _)); have bx253 := bx237.mid md248 (Or.inr (Nat.zero_le _)); have h254 := OSS.mid h238 md248 (Or.inl (Nat.zero_le _)); have h255 := OSS.mid h239 md248 (Or.inl (Nat.zero_le _)); have h256 := OSS.mid h240 md248 (Or.inl (Nat.zero_le _)); have b257 := below_mid b241 z242 md248 (Or.inr rfl); have z258 := b257.size; have y259 := md248.size; have k260 := bx253.cell 0 rfl; have k261 := bx253.cell 1 rfl; have k262 := bx253.cell 2 rfl; have k263 := bx253.cell 3 rfl))
  go_wp2_with fail
  with_reducible refine (eqSSB _ _ res0 _ _ _ _ _ _ _ (OSS.rss h251) (OSS.rss h254) hlr0).mono ?_
  rintro e w19 ⟨rfl, md264⟩
  have h265 := RSS.mid h252 md264 (Or.inl (Nat.zero_le _))
  clear h252
  have bx266 := bx253.mid md264 (Or.inr (Nat.zero_le _))
  clear bx253
  have h267 := OSS.mid h254 md264 (Or.inl (Nat.zero_le _))
  clear h254
  have h268 := OSS.mid h255 md264 (Or.inl (Nat.zero_le _))
  clear h255
  have h269 := OSS.mid h251 md264 (Or.inl (Nat.zero_le _))
  clear h251
  have b270 := below_mid b257 z258 md264 (Or.inr rfl)
  have z271 := b270.size
  have y272 := md264.size
  clear k260
  clear k261
  clear k262
  clear k263
  have k273 := bx266.cell 0 rfl
  have k274 := bx266.cell 1 rfl
  have k275 := bx266.cell 2 rfl
  have k276 := bx266.cell 3 rfl
  go_wp2_with fail
  with_reducible refine (heldSSB _ res0 _ 1 _ _ _ (OSS.rss h268) (by omega) (by omega) hlr0).mono ?_
  rintro e w20 ⟨rfl, md277⟩
  have h278 := RSS.mid h265 md277 (Or.inl (Nat.zero_le _))
  clear h265
  have bx279 := bx266.mid md277 (Or.inr (Nat.zero_le _))
  clear bx266
  have h280 := OSS.mid h267 md277 (Or.inl (Nat.zero_le _))
  clear h267
  have h281 := OSS.mid h268 md277 (Or.inl (Nat.zero_le _))
  clear h268
  have h282 := OSS.mid h269 md277 (Or.inl (Nat.zero_le _))
  clear h269
  have b283 := below_mid b270 z271 md277 (Or.inr rfl)
  have z284 := b283.size
  have y285 := md277.size
  clear k273
  clear k274
  clear k275
  clear k276
  have k286 := bx279.cell 0 rfl
  have k287 := bx279.cell 1 rfl
  have k288 := bx279.cell 2 rfl
  have k289 := bx279.cell 3 rfl
  go_wp2_with fail
  go_ret
  exact ⟨rfl, b283⟩
end Go.Proofs.Ytaddhbdfjkbgiaa
