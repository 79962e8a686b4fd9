
import Derived.Test.YtkdmffjnkciecaaGreatPk5
import Derived.Deep.RegionHeld3
import Derived.Deep.DeepCutAuto

/- The walk of the law FnExactOrderModulo: it returns true at every input, and turns nothing that was there. -/
namespace Go.Proofs.YtkdmffjnkciecaaGreat
open Go.RowKit
set_option linter.unusedVariables false
set_option linter.unusedSimpArgs false

theorem frz_OrderModulo {w : World} {b : Nat} {cs : List Value} (h : Box w b cs) : ∀ i, w.frozen? ⟨b, i, none⟩ = false := h.2.2
set_option maxRecDepth 100000 in
set_option maxHeartbeats 8000000 in
theorem walk_OrderModulo (r0 s0 : Int) (A0 : Option Addr) (d0 : List Ed) (c0 : Nat) (A1 : Option Addr) (d1 : List Int) (c1 : Nat) (w : World) (_b0 : (Lit.int .i64 r0).wf = true) (_e0 : (Lit.int .i64 s0).wf = true) (m0 : RG w 0 w.heap.size A0 d0) (_o0 : OkI (edI d0)) (_l0 : d0.length ≤ 9223372036854775807) (r1 : RI w 0 w.heap.size A1 d1) (_o1 : OkI d1) (_l1 : d1.length ≤ 9223372036854775807) :
    Calls Tryz.prog 5 #[.agg #[.int .i64 r0, .int .i64 s0, .slice A0 d0.length c0], .slice A1 d1.length c1] w fun e w' => e = .returned (.bool true) ∧ Below w.heap.size w w' := by
  by_cases hbig1 : ¬ (d1.length ≤ 1048576)
  · skip
    have hh1 := m0
    have hh2 := r1
    go_enter Tryz.func5, Tryz.ntmps5
    have md3 : Mid 0 0 w (w.alloc (.cells #[.int .i64 r0, .int .i64 s0, .slice A0 d0.length c0] 24)) := Mid.alloc _ _
    have h4 := RG.mid hh1 md3 (Or.inl (Nat.zero_le _))
    clear hh1
    have h5 := RI.mid hh2 md3 (Or.inl (Nat.zero_le _))
    clear hh2
    have b6 := below_mid (Below.refl w.heap.size w) (Nat.le_refl w.heap.size) md3 (Or.inr rfl)
    have z7 := b6.size
    have y8 := md3.size
    have bx9 := Box.new w #[.int .i64 r0, .int .i64 s0, .slice A0 d0.length c0] 24
    have y10 : w.heap.size + 1 ≤ (w.alloc (.cells #[.int .i64 r0, .int .i64 s0, .slice A0 d0.length c0] 24)).heap.size := (by simp)
    have k11 := bx9.cell 0 rfl
    have k12 := bx9.cell 1 rfl
    have k13 := bx9.cell 2 rfl
    go_wp2_with fail
    go_ret
    exact ⟨rfl, b6⟩
  have hl1 : d1.length ≤ 1048576 := by omega
  clear hbig1
  obtain ⟨z0, hz0⟩ : ∃ z, z = szI 1048576 d0.length := ⟨_, rfl⟩
  have E0 := Lib.hid hz0.symm
  rcases szI_case 1048576 d0.length with hs0 | ⟨hs0, hs0'⟩
  · obtain rfl : z0 = -1 := hz0.trans hs0
    clear hs0 hz0
    have hh14 := m0
    have hh15 := r1
    go_enter Tryz.func5, Tryz.ntmps5
    have md16 : Mid 0 0 w (w.alloc (.cells #[.int .i64 r0, .int .i64 s0, .slice A0 d0.length c0] 24)) := Mid.alloc _ _
    have h17 := RG.mid hh14 md16 (Or.inl (Nat.zero_le _))
    clear hh14
    have h18 := RI.mid hh15 md16 (Or.inl (Nat.zero_le _))
    clear hh15
    have b19 := below_mid (Below.refl w.heap.size w) (Nat.le_refl w.heap.size) md16 (Or.inr rfl)
    have z20 := b19.size
    have y21 := md16.size
    have bx22 := Box.new w #[.int .i64 r0, .int .i64 s0, .slice A0 d0.length c0] 24
    have y23 : w.heap.size + 1 ≤ (w.alloc (.cells #[.int .i64 r0, .int .i64 s0, .slice A0 d0.length c0] 24)).heap.size := (by simp)
    have k24 := bx22.cell 0 rfl
    have k25 := bx22.cell 1 rfl
    have k26 := bx22.cell 2 rfl
    go_wp2_with fail
    with_reducible refine (szGraph_any _ _ _ d0 _ 1048576 _ _l0 (by omega) (by omega)).mono ?_
    rintro e w1 ⟨rfl, md27⟩
    rw [E0.out]
    have bx28 := bx22.mid md27 (Or.inr (Nat.zero_le _))
    clear bx22
    have h29 := RG.mid h17 md27 (Or.inl (Nat.zero_le _))
    clear h17
    have h30 := RI.mid h18 md27 (Or.inl (Nat.zero_le _))
    clear h18
    have b31 := below_mid b19 z20 md27 (Or.inr rfl)
    have z32 := b31.size
    have y33 := md27.size
    clear k24
    clear k25
    clear k26
    have k34 := bx28.cell 0 rfl
    have k35 := bx28.cell 1 rfl
    have k36 := bx28.cell 2 rfl
    go_wp2_with fail
    go_ret
    exact ⟨rfl, b31⟩
  rw [hs0'] at hz0
  have hp0 : 0 ≤ z0 := by omega
  have hq0 : z0 ≤ 1048576 := by omega
  have hl0 : d0.length ≤ 1048576 := by omega
  clear hs0 hs0' hz0
  obtain ⟨res0, HRES⟩ : ∃ res0, OrderModuloIs r0 s0 d0 d1 res0 := OrderModuloIs_ex r0 s0 d0 d1 hl0 _o1 hl1
  have HRES := Lib.hid HRES
  have hh37 := m0
  have hh38 := r1
  go_enter Tryz.func5, Tryz.ntmps5
  have md39 : Mid 0 0 w (w.alloc (.cells #[.int .i64 r0, .int .i64 s0, .slice A0 d0.length c0] 24)) := Mid.alloc _ _
  have h40 := RG.mid hh37 md39 (Or.inl (Nat.zero_le _))
  clear hh37
  have h41 := RI.mid hh38 md39 (Or.inl (Nat.zero_le _))
  clear hh38
  have b42 := below_mid (Below.refl w.heap.size w) (Nat.le_refl w.heap.size) md39 (Or.inr rfl)
  have z43 := b42.size
  have y44 := md39.size
  have bx45 := Box.new w #[.int .i64 r0, .int .i64 s0, .slice A0 d0.length c0] 24
  have y46 : w.heap.size + 1 ≤ (w.alloc (.cells #[.int .i64 r0, .int .i64 s0, .slice A0 d0.length c0] 24)).heap.size := (by simp)
  have k47 := bx45.cell 0 rfl
  have k48 := bx45.cell 1 rfl
  have k49 := bx45.cell 2 rfl
  go_wp2_with fail
  with_reducible refine (szGraph_any _ _ _ d0 _ 1048576 _ _l0 (by omega) (by omega)).mono ?_
  rintro e w2 ⟨rfl, md50⟩
  rw [E0.out]
  have bx51 := bx45.mid md50 (Or.inr (Nat.zero_le _))
  clear bx45
  have h52 := RG.mid h40 md50 (Or.inl (Nat.zero_le _))
  clear h40
  have h53 := RI.mid h41 md50 (Or.inl (Nat.zero_le _))
  clear h41
  have b54 := below_mid b42 z43 md50 (Or.inr rfl)
  have z55 := b54.size
  have y56 := md50.size
  clear k47
  clear k48
  clear k49
  have k57 := bx51.cell 0 rfl
  have k58 := bx51.cell 1 rfl
  have k59 := bx51.cell 2 rfl
  go_wp2_with fail
  with_reducible refine (toGraph_any r0 s0 _ d0 _ _ _ _ h52 hl0).mono ?_
  rintro e w3 ⟨AA60, cc61, rfl, h62, md63⟩
  have bx64 := bx51.mid md63 (Or.inr (Nat.zero_le _))
  clear bx51
  have h65 := RG.mid h52 md63 (Or.inl (Nat.zero_le _))
  clear h52
  have h66 := RI.mid h53 md63 (Or.inl (Nat.zero_le _))
  clear h53
  have b67 := below_mid b54 z55 md63 (Or.inr rfl)
  have z68 := b67.size
  have y69 := md63.size
  clear k57
  clear k58
  clear k59
  have k70 := bx64.cell 0 rfl
  have k71 := bx64.cell 1 rfl
  have k72 := bx64.cell 2 rfl
  go_wp2_with fail
  with_reducible refine (toI _ d1 _ _ _ _ h66 hl1).mono ?_
  rintro e w4 ⟨AA73, cc74, rfl, h75, md76⟩
  have bx77 := bx64.mid md76 (Or.inr (Nat.zero_le _))
  clear bx64
  have h78 := RG.mid h65 md76 (Or.inl (Nat.zero_le _))
  clear h65
  have h79 := RI.mid h66 md76 (Or.inl (Nat.zero_le _))
  clear h66
  have h80 := OG.mid h62 md76 (Or.inl (Nat.zero_le _))
  clear h62
  have b81 := below_mid b67 z68 md76 (Or.inr rfl)
  have z82 := b81.size
  have y83 := md76.size
  clear k70
  clear k71
  clear k72
  have k84 := bx77.cell 0 rfl
  have k85 := bx77.cell 1 rfl
  have k86 := bx77.cell 2 rfl
  go_wp2_with fail
  with_reducible refine (sspec_OrderModulo r0 s0 _ d0 _ _ d1 _ _ _ _ h80  hl0 _ _ h75 _o1 hl1 res0 HRES.out).mono ?_
  rintro e w5 ⟨rfl, md87⟩
  have bx89 := bx77.mid md87 (Or.inr (Nat.zero_le _))
  clear bx77
  have h90 := RG.mid h78 md87 (Or.inl (Nat.zero_le _))
  clear h78
  have h91 := RI.mid h79 md87 (Or.inl (Nat.zero_le _))
  clear h79
  have h92 := OG.mid h80 md87 (Or.inl (Nat.zero_le _))
  clear h80
  have h93 := OI.mid h75 md87 (Or.inl (Nat.zero_le _))
  clear h75
  have b94 := below_mid b81 z82 md87 (Or.inr rfl)
  have z95 := b94.size
  have y96 := md87.size
  clear k84
  clear k85
  clear k86
  have k97 := bx89.cell 0 rfl
  have k98 := bx89.cell 1 rfl
  have k99 := bx89.cell 2 rfl
  go_wp2_with fail
  with_reducible refine (toGraph_any r0 s0 _ d0 _ _ _ _ h90 hl0).mono ?_
  rintro e w6 ⟨AA100, cc101, rfl, h102, md103⟩
  have bx104 := bx89.mid md103 (Or.inr (Nat.zero_le _))
  clear bx89
  have h105 := RG.mid h90 md103 (Or.inl (Nat.zero_le _))
  clear h90
  have h106 := RI.mid h91 md103 (Or.inl (Nat.zero_le _))
  clear h91
  have b107 := below_mid b94 z95 md103 (Or.inr rfl)
  have z108 := b107.size
  have y109 := md103.size
  clear k97
  clear k98
  clear k99
  have k110 := bx104.cell 0 rfl
  have k111 := bx104.cell 1 rfl
  have k112 := bx104.cell 2 rfl
  have md113 : Mid 0 0 w6 (w6.alloc (.cells #[.int .i64 r0, .int .i64 s0, .slice AA100 d0.length cc101] 30)) := Mid.alloc _ _
  have bx114 := bx104.mid md113 (Or.inr (Nat.zero_le _))
  clear bx104
  have h115 := RG.mid h105 md113 (Or.inl (Nat.zero_le _))
  clear h105
  have h116 := RI.mid h106 md113 (Or.inl (Nat.zero_le _))
  clear h106
  have h117 := OG.mid h102 md113 (Or.inl (Nat.zero_le _))
  clear h102
  have b118 := below_mid b107 z108 md113 (Or.inr rfl)
  have z119 := b118.size
  have y120 := md113.size
  have bx121 := Box.new w6 #[.int .i64 r0, .int .i64 s0, .slice AA100 d0.length cc101] 30
  have y122 : w6.heap.size + 1 ≤ (w6.alloc (.cells #[.int .i64 r0, .int .i64 s0, .slice AA100 d0.length cc101] 30)).heap.size := (by simp)
  clear k110
  clear k111
  clear k112
  have k123 := bx114.cell 0 rfl
  have k124 := bx114.cell 1 rfl
  have k125 := bx114.cell 2 rfl
  have k126 := bx121.cell 0 rfl
  have k127 := bx121.cell 1 rfl
  have k128 := bx121.cell 2 rfl
  go_wp2_with fail
  with_reducible refine (toI _ d1 _ _ _ _ h116 hl1).mono ?_
  rintro e w7 ⟨AA129, cc130, rfl, h131, md132⟩
  have bx133 := bx114.mid md132 (Or.inr (Nat.zero_le _))
  clear bx114
  have h134 := RG.mid h115 md132 (Or.inl (Nat.zero_le _))
  clear h115
  have h135 := RI.mid h116 md132 (Or.inl (Nat.zero_le _))
  clear h116
  have bx136 := bx121.mid md132 (Or.inr (Nat.zero_le _))
  clear bx121
  have h137 := OG.mid h117 md132 (Or.inl (Nat.zero_le _))
  clear h117
  have b138 := below_mid b118 z119 md132 (Or.inr rfl)
  have z139 := b138.size
  have y140 := md132.size
  clear k123
  clear k124
  clear k125
  have k141 := bx133.cell 0 rfl
  have k142 := bx133.cell 1 rfl
  have k143 := bx133.cell 2 rfl
  clear k126
  clear k127
  clear k128
  have k144 := bx136.cell 0 rfl
  have k145 := bx136.cell 1 rfl
  have k146 := bx136.cell 2 rfl
  go_wp2_with fail
  with_reducible refine (simpl_OrderModulo r0 s0 _ d0 _ _ d1 _ _ _ _ h137  hl0 _ _ h131 _o1 hl1 res0 HRES.out).mono ?_
  rintro e w8 ⟨rfl, md147⟩
  have bx149 := bx133.mid md147 (Or.inr (Nat.zero_le _))
  clear bx133
  have h150 := RG.mid h134 md147 (Or.inl (Nat.zero_le _))
  clear h134
  have h151 := RI.mid h135 md147 (Or.inl (Nat.zero_le _))
  clear h135
  have bx152 := bx136.mid md147 (Or.inr (Nat.zero_le _))
  clear bx136
  have h153 := OG.mid h137 md147 (Or.inl (Nat.zero_le _))
  clear h137
  have h154 := OI.mid h131 md147 (Or.inl (Nat.zero_le _))
  clear h131
  have b155 := below_mid b138 z139 md147 (Or.inr rfl)
  have z156 := b155.size
  have y157 := md147.size
  clear k141
  clear k142
  clear k143
  have k158 := bx149.cell 0 rfl
  have k159 := bx149.cell 1 rfl
  have k160 := bx149.cell 2 rfl
  clear k144
  clear k145
  clear k146
  have k161 := bx152.cell 0 rfl
  have k162 := bx152.cell 1 rfl
  have k163 := bx152.cell 2 rfl
  go_wp2_with fail
  have md164 : Mid 0 0 w8 w8.drew := Mid.drew1 _
  have bx165 := bx149.mid md164 (Or.inr (Nat.zero_le _))
  have h166 := RG.mid h150 md164 (Or.inl (Nat.zero_le _))
  have h167 := RI.mid h151 md164 (Or.inl (Nat.zero_le _))
  have bx168 := bx152.mid md164 (Or.inr (Nat.zero_le _))
  have h169 := OG.mid h153 md164 (Or.inl (Nat.zero_le _))
  have h170 := OI.mid h154 md164 (Or.inl (Nat.zero_le _))
  have b171 := below_mid b155 z156 md164 (Or.inr rfl)
  have z172 := b171.size
  have y173 := md164.size
  have k174 := bx165.cell 0 rfl
  have k175 := bx165.cell 1 rfl
  have k176 := bx165.cell 2 rfl
  have k177 := bx168.cell 0 rfl
  have k178 := bx168.cell 1 rfl
  have k179 := bx168.cell 2 rfl
  go_region_held3 (fun w' => w'.cell? ⟨w6.heap.size, 0, none⟩ = some (.int .i64 r0) ∧ w'.cell? ⟨w6.heap.size, 1, none⟩ = some (.int .i64 s0) ∧ w'.cell? ⟨w6.heap.size, 2, none⟩ = some (.slice AA100 d0.length cc101) ∧ w'.cell? ⟨w.heap.size, 0, none⟩ = some (.int .i64 r0) ∧ w'.cell? ⟨w.heap.size, 1, none⟩ = some (.int .i64 s0) ∧ w'.cell? ⟨w.heap.size, 2, none⟩ = some (.slice A0 d0.length c0)) (first | exact ⟨k161, k162, k163, k158, k159, k160⟩ | exact ⟨k177, k178, k179, k174, k175, k176⟩ | exact ⟨k196, k197, k198, k193, k194, k195⟩ | exact ⟨k213, k214, k215, k210, k211, k212⟩) (first | (go_at_call 11; with_reducible refine (toGraph_any r0 s0 _ d0 _ _ _ _ h166 hl0).mono ?_; rintro e w9 ⟨AA180, cc181, rfl, h182, md183⟩; have bx184 := bx165.mid md183 (Or.inr (Nat.zero_le _)); have h185 := RG.mid h166 md183 (Or.inl (Nat.zero_le _)); have h186 := RI.mid h167 md183 (Or.inl (Nat.zero_le _)); have bx187 := bx168.mid md183 (Or.inr (Nat.zero_le _)); have h188 := OG.mid h169 md183 (Or.inl (Nat.zero_le _)); have h189 := OI.mid h170 md183 (Or.inl (Nat.zero_le _)); have b190 := below_mid b171 z172 md183 (Or.inr rfl); have z191 := b190.size; have y192 := md183.size; have k193 := bx184.cell 0 rfl; have k194 := bx184.cell 1 rfl; have k195 := bx184.cell 2 rfl; have k196 := bx187.cell 0 rfl; have k197 := bx187.cell 1 rfl; have k198 := bx187.cell 2 rfl) | (go_at_call 14; with_reducible refine (eqGraph_same _ _ _ _ d0 _ _ _ _ _ _ _ (OG.rg h188) (OG.rg h182) hl0).mono ?_; rintro e w10 ⟨rfl, md199⟩; have bx200 := bx184.mid md199 (Or.inr (Nat.zero_le _)); have h201 := RG.mid h185 md199 (Or.inl (Nat.zero_le _)); have h202 := RI.mid h186 md199 (Or.inl (Nat.zero_le _)); have bx203 := bx187.mid md199 (Or.inr (Nat.zero_le _)); have h204 := OG.mid h188 md199 (Or.inl (Nat.zero_le _)); have h205 := OI.mid h189 md199 (Or.inl (Nat.zero_le _)); have h206 := OG.mid h182 md199 (Or.inl (Nat.zero_le _)); have b207 := below_mid b190 z191 md199 (Or.inr rfl); have z208 := b207.size; have y209 := md199.size; have k210 := bx200.cell 0 rfl; have k211 := bx200.cell 1 rfl; have k212 := bx200.cell 2 rfl; have k213 := bx203.cell 0 rfl; have k214 := bx203.cell 1 rfl; have k215 := bx203.cell 2 rfl))
  go_wp2_with fail
  with_reducible refine (toI _ d1 _ _ _ _ h202 hl1).mono ?_
  rintro e w11 ⟨AA216, cc217, rfl, h218, md219⟩
  have bx220 := bx200.mid md219 (Or.inr (Nat.zero_le _))
  clear bx200
  have h221 := RG.mid h201 md219 (Or.inl (Nat.zero_le _))
  clear h201
  have h222 := RI.mid h202 md219 (Or.inl (Nat.zero_le _))
  clear h202
  have bx223 := bx203.mid md219 (Or.inr (Nat.zero_le _))
  clear bx203
  have h224 := OG.mid h204 md219 (Or.inl (Nat.zero_le _))
  clear h204
  have h225 := OI.mid h205 md219 (Or.inl (Nat.zero_le _))
  clear h205
  have b226 := below_mid b207 z208 md219 (Or.inr rfl)
  have z227 := b226.size
  have y228 := md219.size
  clear k210
  clear k211
  clear k212
  have k229 := bx220.cell 0 rfl
  have k230 := bx220.cell 1 rfl
  have k231 := bx220.cell 2 rfl
  clear k213
  clear k214
  clear k215
  have k232 := bx223.cell 0 rfl
  have k233 := bx223.cell 1 rfl
  have k234 := bx223.cell 2 rfl
  go_wp2_with fail
  with_reducible refine (eqI _ _ d1 _ _ _ _ _ _ _ (OI.ri h225) (OI.ri h218) hl1).mono ?_
  rintro e w12 ⟨rfl, md235⟩
  have bx236 := bx220.mid md235 (Or.inr (Nat.zero_le _))
  clear bx220
  have h237 := RG.mid h221 md235 (Or.inl (Nat.zero_le _))
  clear h221
  have h238 := RI.mid h222 md235 (Or.inl (Nat.zero_le _))
  clear h222
  have bx239 := bx223.mid md235 (Or.inr (Nat.zero_le _))
  clear bx223
  have h240 := OG.mid h224 md235 (Or.inl (Nat.zero_le _))
  clear h224
  have h241 := OI.mid h225 md235 (Or.inl (Nat.zero_le _))
  clear h225
  have h242 := OI.mid h218 md235 (Or.inl (Nat.zero_le _))
  clear h218
  have b243 := below_mid b226 z227 md235 (Or.inr rfl)
  have z244 := b243.size
  have y245 := md235.size
  clear k229
  clear k230
  clear k231
  have k246 := bx236.cell 0 rfl
  have k247 := bx236.cell 1 rfl
  have k248 := bx236.cell 2 rfl
  clear k232
  clear k233
  clear k234
  have k249 := bx239.cell 0 rfl
  have k250 := bx239.cell 1 rfl
  have k251 := bx239.cell 2 rfl
  go_wp2_with fail
  go_ret
  exact ⟨rfl, b243⟩
end Go.Proofs.YtkdmffjnkciecaaGreat
