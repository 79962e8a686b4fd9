
import Derived.Test.YtimmnnncgnnkgaaGreatSw7
import Derived.Deep.RegionHeld3
import Derived.Deep.DeepCutAuto

/- The walk of the law FnExactSeparateWord: it returns true at every input, and turns nothing that was there. -/
namespace Go.Proofs.YtimmnnncgnnkgaaGreat
open Go.RowKit
set_option linter.unusedVariables false
set_option linter.unusedSimpArgs false

theorem frz_SeparateWord {w : World} {b : Nat} {cs : List Value} (h : Box w b cs) : ∀ i, w.frozen? ⟨b, i, none⟩ = false := h.2.2
set_option maxRecDepth 100000 in
set_option maxHeartbeats 8000000 in
theorem walk_SeparateWord (r0 s0 : Int) (A0 : Option Addr) (d0 : List Ed) (c0 : Nat) (A1 : Option Addr) (d1 : List Int) (c1 : Nat) (w : World) (_b0 : (Lit.int .i64 r0).wf = true) (_e0 : (Lit.int .i64 s0).wf = true) (m0 : RG w 0 w.heap.size A0 d0) (_o0 : OkI (edI d0)) (_l0 : d0.length ≤ 9223372036854775807) (r1 : RI w 0 w.heap.size A1 d1) (_o1 : OkI d1) (_l1 : d1.length ≤ 9223372036854775807) :
    Calls Tryz.prog 3 #[.agg #[.int .i64 r0, .int .i64 s0, .slice A0 d0.length c0], .slice A1 d1.length c1] w fun e w' => e = .returned (.bool true) ∧ Below w.heap.size w w' := by
  by_cases hbig1 : ¬ (d1.length ≤ 1048576)
  · skip
    have hh1 := m0
    have hh2 := r1
    go_enter Tryz.func3, Tryz.ntmps3
    have md3 : Mid 0 0 w (w.alloc (.cells #[.int .i64 r0, .int .i64 s0, .slice A0 d0.length c0] 24)) := Mid.alloc _ _
    have h4 := RG.mid hh1 md3 (Or.inl (Nat.zero_le _))
    clear hh1
    have h5 := RI.mid hh2 md3 (Or.inl (Nat.zero_le _))
    clear hh2
    have b6 := below_mid (Below.refl w.heap.size w) (Nat.le_refl w.heap.size) md3 (Or.inr rfl)
    have z7 := b6.size
    have y8 := md3.size
    have bx9 := Box.new w #[.int .i64 r0, .int .i64 s0, .slice A0 d0.length c0] 24
    have y10 : w.heap.size + 1 ≤ (w.alloc (.cells #[.int .i64 r0, .int .i64 s0, .slice A0 d0.length c0] 24)).heap.size := (by simp)
    have k11 := bx9.cell 0 rfl
    have k12 := bx9.cell 1 rfl
    have k13 := bx9.cell 2 rfl
    go_wp2_with fail
    go_ret
    exact ⟨rfl, b6⟩
  have hl1 : d1.length ≤ 1048576 := by omega
  clear hbig1
  obtain ⟨z0, hz0⟩ : ∃ z, z = szI 1048576 d0.length := ⟨_, rfl⟩
  have E0 := Lib.hid hz0.symm
  rcases szI_case 1048576 d0.length with hs0 | ⟨hs0, hs0'⟩
  · obtain rfl : z0 = -1 := hz0.trans hs0
    clear hs0 hz0
    have hh14 := m0
    have hh15 := r1
    go_enter Tryz.func3, Tryz.ntmps3
    have md16 : Mid 0 0 w (w.alloc (.cells #[.int .i64 r0, .int .i64 s0, .slice A0 d0.length c0] 24)) := Mid.alloc _ _
    have h17 := RG.mid hh14 md16 (Or.inl (Nat.zero_le _))
    clear hh14
    have h18 := RI.mid hh15 md16 (Or.inl (Nat.zero_le _))
    clear hh15
    have b19 := below_mid (Below.refl w.heap.size w) (Nat.le_refl w.heap.size) md16 (Or.inr rfl)
    have z20 := b19.size
    have y21 := md16.size
    have bx22 := Box.new w #[.int .i64 r0, .int .i64 s0, .slice A0 d0.length c0] 24
    have y23 : w.heap.size + 1 ≤ (w.alloc (.cells #[.int .i64 r0, .int .i64 s0, .slice A0 d0.length c0] 24)).heap.size := (by simp)
    have k24 := bx22.cell 0 rfl
    have k25 := bx22.cell 1 rfl
    have k26 := bx22.cell 2 rfl
    go_wp2_with fail
    with_reducible refine (szGraph_any _ _ _ d0 _ 1048576 _ _l0 (by omega) (by omega)).mono ?_
    rintro e w1 ⟨rfl, md27⟩
    rw [E0.out]
    have bx28 := bx22.mid md27 (Or.inr (Nat.zero_le _))
    clear bx22
    have h29 := RG.mid h17 md27 (Or.inl (Nat.zero_le _))
    clear h17
    have h30 := RI.mid h18 md27 (Or.inl (Nat.zero_le _))
    clear h18
    have b31 := below_mid b19 z20 md27 (Or.inr rfl)
    have z32 := b31.size
    have y33 := md27.size
    clear k24
    clear k25
    clear k26
    have k34 := bx28.cell 0 rfl
    have k35 := bx28.cell 1 rfl
    have k36 := bx28.cell 2 rfl
    go_wp2_with fail
    go_ret
    exact ⟨rfl, b31⟩
  rw [hs0'] at hz0
  have hp0 : 0 ≤ z0 := by omega
  have hq0 : z0 ≤ 1048576 := by omega
  have hl0 : d0.length ≤ 1048576 := by omega
  clear hs0 hs0' hz0
  obtain ⟨rr0, rs0, res0, res1, HRES⟩ : ∃ rr0 rs0 res0 res1, SeparateWordIs r0 s0 d0 d1 rr0 rs0 res0 res1 := SeparateWordIs_ex r0 s0 d0 d1 hl0 _o1 hl1
  have hlr0 := SeparateWordIs_len HRES hl0 _o1 hl1
  have HRES := Lib.hid HRES
  have hh37 := m0
  have hh38 := r1
  go_enter Tryz.func3, Tryz.ntmps3
  have md39 : Mid 0 0 w (w.alloc (.cells #[.int .i64 r0, .int .i64 s0, .slice A0 d0.length c0] 24)) := Mid.alloc _ _
  have h40 := RG.mid hh37 md39 (Or.inl (Nat.zero_le _))
  clear hh37
  have h41 := RI.mid hh38 md39 (Or.inl (Nat.zero_le _))
  clear hh38
  have b42 := below_mid (Below.refl w.heap.size w) (Nat.le_refl w.heap.size) md39 (Or.inr rfl)
  have z43 := b42.size
  have y44 := md39.size
  have bx45 := Box.new w #[.int .i64 r0, .int .i64 s0, .slice A0 d0.length c0] 24
  have y46 : w.heap.size + 1 ≤ (w.alloc (.cells #[.int .i64 r0, .int .i64 s0, .slice A0 d0.length c0] 24)).heap.size := (by simp)
  have k47 := bx45.cell 0 rfl
  have k48 := bx45.cell 1 rfl
  have k49 := bx45.cell 2 rfl
  go_wp2_with fail
  with_reducible refine (szGraph_any _ _ _ d0 _ 1048576 _ _l0 (by omega) (by omega)).mono ?_
  rintro e w2 ⟨rfl, md50⟩
  rw [E0.out]
  have bx51 := bx45.mid md50 (Or.inr (Nat.zero_le _))
  clear bx45
  have h52 := RG.mid h40 md50 (Or.inl (Nat.zero_le _))
  clear h40
  have h53 := RI.mid h41 md50 (Or.inl (Nat.zero_le _))
  clear h41
  have b54 := below_mid b42 z43 md50 (Or.inr rfl)
  have z55 := b54.size
  have y56 := md50.size
  clear k47
  clear k48
  clear k49
  have k57 := bx51.cell 0 rfl
  have k58 := bx51.cell 1 rfl
  have k59 := bx51.cell 2 rfl
  go_wp2_with fail
  with_reducible refine (toGraph_any r0 s0 _ d0 _ _ _ _ h52 hl0).mono ?_
  rintro e w3 ⟨AA60, cc61, rfl, h62, md63⟩
  have bx64 := bx51.mid md63 (Or.inr (Nat.zero_le _))
  clear bx51
  have h65 := RG.mid h52 md63 (Or.inl (Nat.zero_le _))
  clear h52
  have h66 := RI.mid h53 md63 (Or.inl (Nat.zero_le _))
  clear h53
  have b67 := below_mid b54 z55 md63 (Or.inr rfl)
  have z68 := b67.size
  have y69 := md63.size
  clear k57
  clear k58
  clear k59
  have k70 := bx64.cell 0 rfl
  have k71 := bx64.cell 1 rfl
  have k72 := bx64.cell 2 rfl
  go_wp2_with fail
  with_reducible refine (toI _ d1 _ _ _ _ h66 hl1).mono ?_
  rintro e w4 ⟨AA73, cc74, rfl, h75, md76⟩
  have bx77 := bx64.mid md76 (Or.inr (Nat.zero_le _))
  clear bx64
  have h78 := RG.mid h65 md76 (Or.inl (Nat.zero_le _))
  clear h65
  have h79 := RI.mid h66 md76 (Or.inl (Nat.zero_le _))
  clear h66
  have h80 := OG.mid h62 md76 (Or.inl (Nat.zero_le _))
  clear h62
  have b81 := below_mid b67 z68 md76 (Or.inr rfl)
  have z82 := b81.size
  have y83 := md76.size
  clear k70
  clear k71
  clear k72
  have k84 := bx77.cell 0 rfl
  have k85 := bx77.cell 1 rfl
  have k86 := bx77.cell 2 rfl
  go_wp2_with fail
  with_reducible refine (sspec_SeparateWord r0 s0 _ d0 _ _ d1 _ _ _ _ h80  hl0 _ _ h75 _o1 hl1 rr0 rs0 res0 res1 HRES.out).mono ?_
  rintro e w5 ⟨AA88, cc89, rfl, h90, md87⟩
  have bx92 := bx77.mid md87 (Or.inr (Nat.zero_le _))
  clear bx77
  have h93 := RG.mid h78 md87 (Or.inl (Nat.zero_le _))
  clear h78
  have h94 := RI.mid h79 md87 (Or.inl (Nat.zero_le _))
  clear h79
  have h95 := OG.mid h80 md87 (Or.inl (Nat.zero_le _))
  clear h80
  have h96 := OI.mid h75 md87 (Or.inl (Nat.zero_le _))
  clear h75
  have b97 := below_mid b81 z82 md87 (Or.inr rfl)
  have z98 := b97.size
  have y99 := md87.size
  clear k84
  clear k85
  clear k86
  have k100 := bx92.cell 0 rfl
  have k101 := bx92.cell 1 rfl
  have k102 := bx92.cell 2 rfl
  have md103 : Mid 0 0 w5 (w5.alloc (.cells #[.int .i64 rr0, .int .i64 rs0, .slice AA88 res0.length cc89] 29)) := Mid.alloc _ _
  have bx104 := bx92.mid md103 (Or.inr (Nat.zero_le _))
  clear bx92
  have h105 := RG.mid h93 md103 (Or.inl (Nat.zero_le _))
  clear h93
  have h106 := RI.mid h94 md103 (Or.inl (Nat.zero_le _))
  clear h94
  have h107 := OG.mid h95 md103 (Or.inl (Nat.zero_le _))
  clear h95
  have h108 := OI.mid h96 md103 (Or.inl (Nat.zero_le _))
  clear h96
  have h109 := OG.mid h90 md103 (Or.inl (Nat.zero_le _))
  clear h90
  have b110 := below_mid b97 z98 md103 (Or.inr rfl)
  have z111 := b110.size
  have y112 := md103.size
  have bx113 := Box.new w5 #[.int .i64 rr0, .int .i64 rs0, .slice AA88 res0.length cc89] 29
  have y114 : w5.heap.size + 1 ≤ (w5.alloc (.cells #[.int .i64 rr0, .int .i64 rs0, .slice AA88 res0.length cc89] 29)).heap.size := (by simp)
  clear k100
  clear k101
  clear k102
  have k115 := bx104.cell 0 rfl
  have k116 := bx104.cell 1 rfl
  have k117 := bx104.cell 2 rfl
  have k118 := bx113.cell 0 rfl
  have k119 := bx113.cell 1 rfl
  have k120 := bx113.cell 2 rfl
  go_wp2_with fail
  with_reducible refine (toGraph_any r0 s0 _ d0 _ _ _ _ h105 hl0).mono ?_
  rintro e w6 ⟨AA121, cc122, rfl, h123, md124⟩
  have bx125 := bx104.mid md124 (Or.inr (Nat.zero_le _))
  clear bx104
  have h126 := RG.mid h105 md124 (Or.inl (Nat.zero_le _))
  clear h105
  have h127 := RI.mid h106 md124 (Or.inl (Nat.zero_le _))
  clear h106
  have bx128 := bx113.mid md124 (Or.inr (Nat.zero_le _))
  clear bx113
  have h129 := OG.mid h109 md124 (Or.inl (Nat.zero_le _))
  clear h109
  have b130 := below_mid b110 z111 md124 (Or.inr rfl)
  have z131 := b130.size
  have y132 := md124.size
  clear k115
  clear k116
  clear k117
  have k133 := bx125.cell 0 rfl
  have k134 := bx125.cell 1 rfl
  have k135 := bx125.cell 2 rfl
  clear k118
  clear k119
  clear k120
  have k136 := bx128.cell 0 rfl
  have k137 := bx128.cell 1 rfl
  have k138 := bx128.cell 2 rfl
  have md139 : Mid 0 0 w6 (w6.alloc (.cells #[.int .i64 r0, .int .i64 s0, .slice AA121 d0.length cc122] 29)) := Mid.alloc _ _
  have bx140 := bx125.mid md139 (Or.inr (Nat.zero_le _))
  clear bx125
  have h141 := RG.mid h126 md139 (Or.inl (Nat.zero_le _))
  clear h126
  have h142 := RI.mid h127 md139 (Or.inl (Nat.zero_le _))
  clear h127
  have bx143 := bx128.mid md139 (Or.inr (Nat.zero_le _))
  clear bx128
  have h144 := OG.mid h129 md139 (Or.inl (Nat.zero_le _))
  clear h129
  have h145 := OG.mid h123 md139 (Or.inl (Nat.zero_le _))
  clear h123
  have b146 := below_mid b130 z131 md139 (Or.inr rfl)
  have z147 := b146.size
  have y148 := md139.size
  have bx149 := Box.new w6 #[.int .i64 r0, .int .i64 s0, .slice AA121 d0.length cc122] 29
  have y150 : w6.heap.size + 1 ≤ (w6.alloc (.cells #[.int .i64 r0, .int .i64 s0, .slice AA121 d0.length cc122] 29)).heap.size := (by simp)
  clear k133
  clear k134
  clear k135
  have k151 := bx140.cell 0 rfl
  have k152 := bx140.cell 1 rfl
  have k153 := bx140.cell 2 rfl
  clear k136
  clear k137
  clear k138
  have k154 := bx143.cell 0 rfl
  have k155 := bx143.cell 1 rfl
  have k156 := bx143.cell 2 rfl
  have k157 := bx149.cell 0 rfl
  have k158 := bx149.cell 1 rfl
  have k159 := bx149.cell 2 rfl
  go_wp2_with fail
  with_reducible refine (toI _ d1 _ _ _ _ h142 hl1).mono ?_
  rintro e w7 ⟨AA160, cc161, rfl, h162, md163⟩
  have bx164 := bx140.mid md163 (Or.inr (Nat.zero_le _))
  clear bx140
  have h165 := RG.mid h141 md163 (Or.inl (Nat.zero_le _))
  clear h141
  have h166 := RI.mid h142 md163 (Or.inl (Nat.zero_le _))
  clear h142
  have bx167 := bx143.mid md163 (Or.inr (Nat.zero_le _))
  clear bx143
  have h168 := OG.mid h144 md163 (Or.inl (Nat.zero_le _))
  clear h144
  have bx169 := bx149.mid md163 (Or.inr (Nat.zero_le _))
  clear bx149
  have h170 := OG.mid h145 md163 (Or.inl (Nat.zero_le _))
  clear h145
  have b171 := below_mid b146 z147 md163 (Or.inr rfl)
  have z172 := b171.size
  have y173 := md163.size
  clear k151
  clear k152
  clear k153
  have k174 := bx164.cell 0 rfl
  have k175 := bx164.cell 1 rfl
  have k176 := bx164.cell 2 rfl
  clear k154
  clear k155
  clear k156
  have k177 := bx167.cell 0 rfl
  have k178 := bx167.cell 1 rfl
  have k179 := bx167.cell 2 rfl
  clear k157
  clear k158
  clear k159
  have k180 := bx169.cell 0 rfl
  have k181 := bx169.cell 1 rfl
  have k182 := bx169.cell 2 rfl
  go_wp2_with fail
  with_reducible refine (simpl_SeparateWord r0 s0 _ d0 _ _ d1 _ _ _ _ h170  hl0 _ _ h162 _o1 hl1 rr0 rs0 res0 res1 HRES.out).mono ?_
  rintro e w8 ⟨AA184, cc185, rfl, h186, md183⟩
  have bx188 := bx164.mid md183 (Or.inr (Nat.zero_le _))
  clear bx164
  have h189 := RG.mid h165 md183 (Or.inl (Nat.zero_le _))
  clear h165
  have h190 := RI.mid h166 md183 (Or.inl (Nat.zero_le _))
  clear h166
  have bx191 := bx167.mid md183 (Or.inr (Nat.zero_le _))
  clear bx167
  have h192 := OG.mid h168 md183 (Or.inl (Nat.zero_le _))
  clear h168
  have bx193 := bx169.mid md183 (Or.inr (Nat.zero_le _))
  clear bx169
  have h194 := OG.mid h170 md183 (Or.inl (Nat.zero_le _))
  clear h170
  have h195 := OI.mid h162 md183 (Or.inl (Nat.zero_le _))
  clear h162
  have b196 := below_mid b171 z172 md183 (Or.inr rfl)
  have z197 := b196.size
  have y198 := md183.size
  clear k174
  clear k175
  clear k176
  have k199 := bx188.cell 0 rfl
  have k200 := bx188.cell 1 rfl
  have k201 := bx188.cell 2 rfl
  clear k177
  clear k178
  clear k179
  have k202 := bx191.cell 0 rfl
  have k203 := bx191.cell 1 rfl
  have k204 := bx191.cell 2 rfl
  clear k180
  clear k181
  clear k182
  have k205 := bx193.cell 0 rfl
  have k206 := bx193.cell 1 rfl
  have k207 := bx193.cell 2 rfl
  have md208 : Mid 0 0 w8 (w8.alloc (.cells #[.int .i64 rr0, .int .i64 rs0, .slice AA184 res0.length cc185] 29)) := Mid.alloc _ _
  have bx209 := bx188.mid md208 (Or.inr (Nat.zero_le _))
  clear bx188
  have h210 := RG.mid h189 md208 (Or.inl (Nat.zero_le _))
  clear h189
  have h211 := RI.mid h190 md208 (Or.inl (Nat.zero_le _))
  clear h190
  have bx212 := bx191.mid md208 (Or.inr (Nat.zero_le _))
  clear bx191
  have h213 := OG.mid h192 md208 (Or.inl (Nat.zero_le _))
  clear h192
  have bx214 := bx193.mid md208 (Or.inr (Nat.zero_le _))
  clear bx193
  have h215 := OG.mid h194 md208 (Or.inl (Nat.zero_le _))
  clear h194
  have h216 := OI.mid h195 md208 (Or.inl (Nat.zero_le _))
  clear h195
  have h217 := OG.mid h186 md208 (Or.inl (Nat.zero_le _))
  clear h186
  have b218 := below_mid b196 z197 md208 (Or.inr rfl)
  have z219 := b218.size
  have y220 := md208.size
  have bx221 := Box.new w8 #[.int .i64 rr0, .int .i64 rs0, .slice AA184 res0.length cc185] 29
  have y222 : w8.heap.size + 1 ≤ (w8.alloc (.cells #[.int .i64 rr0, .int .i64 rs0, .slice AA184 res0.length cc185] 29)).heap.size := (by simp)
  clear k199
  clear k200
  clear k201
  have k223 := bx209.cell 0 rfl
  have k224 := bx209.cell 1 rfl
  have k225 := bx209.cell 2 rfl
  clear k202
  clear k203
  clear k204
  have k226 := bx212.cell 0 rfl
  have k227 := bx212.cell 1 rfl
  have k228 := bx212.cell 2 rfl
  clear k205
  clear k206
  clear k207
  have k229 := bx214.cell 0 rfl
  have k230 := bx214.cell 1 rfl
  have k231 := bx214.cell 2 rfl
  have k232 := bx221.cell 0 rfl
  have k233 := bx221.cell 1 rfl
  have k234 := bx221.cell 2 rfl
  go_wp2_with fail
  with_reducible refine (eqGraph_same _ _ _ _ res0 _ _ _ _ _ _ _ (OG.rg h217) (OG.rg h213) hlr0).mono ?_
  rintro e w9 ⟨rfl, md235⟩
  have bx236 := bx209.mid md235 (Or.inr (Nat.zero_le _))
  clear bx209
  have h237 := RG.mid h210 md235 (Or.inl (Nat.zero_le _))
  clear h210
  have h238 := RI.mid h211 md235 (Or.inl (Nat.zero_le _))
  clear h211
  have bx239 := bx212.mid md235 (Or.inr (Nat.zero_le _))
  clear bx212
  have h240 := OG.mid h213 md235 (Or.inl (Nat.zero_le _))
  clear h213
  have bx241 := bx214.mid md235 (Or.inr (Nat.zero_le _))
  clear bx214
  have h242 := OG.mid h215 md235 (Or.inl (Nat.zero_le _))
  clear h215
  have h243 := OI.mid h216 md235 (Or.inl (Nat.zero_le _))
  clear h216
  have bx244 := bx221.mid md235 (Or.inr (Nat.zero_le _))
  clear bx221
  have h245 := OG.mid h217 md235 (Or.inl (Nat.zero_le _))
  clear h217
  have b246 := below_mid b218 z219 md235 (Or.inr rfl)
  have z247 := b246.size
  have y248 := md235.size
  clear k223
  clear k224
  clear k225
  have k249 := bx236.cell 0 rfl
  have k250 := bx236.cell 1 rfl
  have k251 := bx236.cell 2 rfl
  clear k226
  clear k227
  clear k228
  have k252 := bx239.cell 0 rfl
  have k253 := bx239.cell 1 rfl
  have k254 := bx239.cell 2 rfl
  clear k229
  clear k230
  clear k231
  have k255 := bx241.cell 0 rfl
  have k256 := bx241.cell 1 rfl
  have k257 := bx241.cell 2 rfl
  clear k232
  clear k233
  clear k234
  have k258 := bx244.cell 0 rfl
  have k259 := bx244.cell 1 rfl
  have k260 := bx244.cell 2 rfl
  go_wp2_with fail
  have md261 : Mid 0 0 w9 w9.drew := Mid.drew1 _
  have bx262 := bx236.mid md261 (Or.inr (Nat.zero_le _))
  have h263 := RG.mid h237 md261 (Or.inl (Nat.zero_le _))
  have h264 := RI.mid h238 md261 (Or.inl (Nat.zero_le _))
  have bx265 := bx239.mid md261 (Or.inr (Nat.zero_le _))
  have h266 := OG.mid h240 md261 (Or.inl (Nat.zero_le _))
  have bx267 := bx241.mid md261 (Or.inr (Nat.zero_le _))
  have h268 := OG.mid h242 md261 (Or.inl (Nat.zero_le _))
  have h269 := OI.mid h243 md261 (Or.inl (Nat.zero_le _))
  have bx270 := bx244.mid md261 (Or.inr (Nat.zero_le _))
  have h271 := OG.mid h245 md261 (Or.inl (Nat.zero_le _))
  have b272 := below_mid b246 z247 md261 (Or.inr rfl)
  have z273 := b272.size
  have y274 := md261.size
  have k275 := bx262.cell 0 rfl
  have k276 := bx262.cell 1 rfl
  have k277 := bx262.cell 2 rfl
  have k278 := bx265.cell 0 rfl
  have k279 := bx265.cell 1 rfl
  have k280 := bx265.cell 2 rfl
  have k281 := bx267.cell 0 rfl
  have k282 := bx267.cell 1 rfl
  have k283 := bx267.cell 2 rfl
  have k284 := bx270.cell 0 rfl
  have k285 := bx270.cell 1 rfl
  have k286 := bx270.cell 2 rfl
  go_region_held3 (fun w' => w'.cell? ⟨w6.heap.size, 0, none⟩ = some (.int .i64 r0) ∧ w'.cell? ⟨w6.heap.size, 1, none⟩ = some (.int .i64 s0) ∧ w'.cell? ⟨w6.heap.size, 2, none⟩ = some (.slice AA121 d0.length cc122) ∧ w'.cell? ⟨w.heap.size, 0, none⟩ = some (.int .i64 r0) ∧ w'.cell? ⟨w.heap.size, 1, none⟩ = some (.int .i64 s0) ∧ w'.cell? ⟨w.heap.size, 2, none⟩ = some (.slice A0 d0.length c0)) (first | exact ⟨k255, k256, k257, k249, k250, k251⟩ | exact ⟨k281, k282, k283, k275, k276, k277⟩ | exact ⟨k310, k311, k312, k304, k305, k306⟩ | exact ⟨k337, k338, k339, k331, k332, k333⟩) (first | (go_at_call 11; with_reducible refine (toGraph_any r0 s0 _ d0 _ _ _ _ h263 hl0).mono ?_; rintro e w10 ⟨AA287, cc288, rfl, h289, md290⟩; have bx291 := bx262.mid md290 (Or.inr (Nat.zero_le _)); have h292 := RG.mid h263 md290 (Or.inl (Nat.zero_le _)); have h293 := RI.mid h264 md290 (Or.inl (Nat.zero_le _)); have bx294 := bx265.mid md290 (Or.inr (Nat.zero_le _)); have h295 := OG.mid h266 md290 (Or.inl (Nat.zero_le _)); have bx296 := bx267.mid md290 (Or.inr (Nat.zero_le _)); have h297 := OG.mid h268 md290 (Or.inl (Nat.zero_le _)); have h298 := OI.mid h269 md290 (Or.inl (Nat.zero_le _)); have bx299 := bx270.mid md290 (Or.inr (Nat.zero_le _)); have h300 := OG.mid h271 md290 (Or.inl (Nat.zero_le _)); have b301 := below_mid b272 z273 md290 (Or.inr rfl); have z302 := b301.size; have y303 := md290.size; have k304 := bx291.cell 0 rfl; have k305 := bx291.cell 1 rfl; have k306 := bx291.cell 2 rfl; have k307 := bx294.cell 0 rfl; have k308 := bx294.cell 1 rfl; have k309 := bx294.cell 2 rfl; have k310 := bx296.cell 0 rfl; have k311 := bx296.cell 1 rfl; have k312 := bx296.cell 2 rfl; have k313 := bx299.cell 0 rfl; have k314 := bx299.cell 1 rfl; have k315 := bx299.cell 2 rfl) | (go_at_call 14; with_reducible refine (eqGraph_same _ _ _ _ d0 _ _ _ _ _ _ _ (OG.rg h297) (OG.rg h289) hl0).mono ?_; rintro e w11 ⟨rfl, md316⟩; have bx317 := bx291.mid md316 (Or.inr (Nat.zero_le _)); have h318 := RG.mid h292 md316 (Or.inl (Nat.zero_le _)); have h319 := RI.mid h293 md316 (Or.inl (Nat.zero_le _)); have bx320 := bx294.mid md316 (Or.inr (Nat.zero_le _)); have h321 := OG.mid h295 md316 (Or.inl (Nat.zero_le _)); have bx322 := bx296.mid md316 (Or.inr (Nat.zero_le _)); have h323 := OG.mid h297 md316 (Or.inl (Nat.zero_le _)); have h324 := OI.mid h298 md316 (Or.inl (Nat.zero_le _)); have bx325 := bx299.mid md316 (Or.inr (Nat.zero_le _)); have h326 := OG.mid h300 md316 (Or.inl (Nat.zero_le _)); have h327 := OG.mid h289 md316 (Or.inl (Nat.zero_le _)); have b328 := below_mid b301 z302 md316 (Or.inr rfl); have z329 := b328.size; have y330 := md316.size; have k331 := bx317.cell 0 rfl; have k332 := bx317.cell 1 rfl; have k333 := bx317.cell 2 rfl; have k334 := bx320.cell 0 rfl; have k335 := bx320.cell 1 rfl; have k336 := bx320.cell 2 rfl; have k337 := bx322.cell 0 rfl; have k338 := bx322.cell 1 rfl; have k339 := bx322.cell 2 rfl; have k340 := bx325.cell 0 rfl; have k341 := bx325.cell 1 rfl; have k342 := bx325.cell 2 rfl))
  go_wp2_with fail
  with_reducible refine (toI _ d1 _ _ _ _ h319 hl1).mono ?_
  rintro e w12 ⟨AA343, cc344, rfl, h345, md346⟩
  have bx347 := bx317.mid md346 (Or.inr (Nat.zero_le _))
  clear bx317
  have h348 := RG.mid h318 md346 (Or.inl (Nat.zero_le _))
  clear h318
  have h349 := RI.mid h319 md346 (Or.inl (Nat.zero_le _))
  clear h319
  have bx350 := bx320.mid md346 (Or.inr (Nat.zero_le _))
  clear bx320
  have h351 := OG.mid h321 md346 (Or.inl (Nat.zero_le _))
  clear h321
  have bx352 := bx322.mid md346 (Or.inr (Nat.zero_le _))
  clear bx322
  have h353 := OG.mid h323 md346 (Or.inl (Nat.zero_le _))
  clear h323
  have h354 := OI.mid h324 md346 (Or.inl (Nat.zero_le _))
  clear h324
  have bx355 := bx325.mid md346 (Or.inr (Nat.zero_le _))
  clear bx325
  have h356 := OG.mid h326 md346 (Or.inl (Nat.zero_le _))
  clear h326
  have b357 := below_mid b328 z329 md346 (Or.inr rfl)
  have z358 := b357.size
  have y359 := md346.size
  clear k331
  clear k332
  clear k333
  have k360 := bx347.cell 0 rfl
  have k361 := bx347.cell 1 rfl
  have k362 := bx347.cell 2 rfl
  clear k334
  clear k335
  clear k336
  have k363 := bx350.cell 0 rfl
  have k364 := bx350.cell 1 rfl
  have k365 := bx350.cell 2 rfl
  clear k337
  clear k338
  clear k339
  have k366 := bx352.cell 0 rfl
  have k367 := bx352.cell 1 rfl
  have k368 := bx352.cell 2 rfl
  clear k340
  clear k341
  clear k342
  have k369 := bx355.cell 0 rfl
  have k370 := bx355.cell 1 rfl
  have k371 := bx355.cell 2 rfl
  go_wp2_with fail
  with_reducible refine (eqI _ _ d1 _ _ _ _ _ _ _ (OI.ri h354) (OI.ri h345) hl1).mono ?_
  rintro e w13 ⟨rfl, md372⟩
  have bx373 := bx347.mid md372 (Or.inr (Nat.zero_le _))
  clear bx347
  have h374 := RG.mid h348 md372 (Or.inl (Nat.zero_le _))
  clear h348
  have h375 := RI.mid h349 md372 (Or.inl (Nat.zero_le _))
  clear h349
  have bx376 := bx350.mid md372 (Or.inr (Nat.zero_le _))
  clear bx350
  have h377 := OG.mid h351 md372 (Or.inl (Nat.zero_le _))
  clear h351
  have bx378 := bx352.mid md372 (Or.inr (Nat.zero_le _))
  clear bx352
  have h379 := OG.mid h353 md372 (Or.inl (Nat.zero_le _))
  clear h353
  have h380 := OI.mid h354 md372 (Or.inl (Nat.zero_le _))
  clear h354
  have bx381 := bx355.mid md372 (Or.inr (Nat.zero_le _))
  clear bx355
  have h382 := OG.mid h356 md372 (Or.inl (Nat.zero_le _))
  clear h356
  have h383 := OI.mid h345 md372 (Or.inl (Nat.zero_le _))
  clear h345
  have b384 := below_mid b357 z358 md372 (Or.inr rfl)
  have z385 := b384.size
  have y386 := md372.size
  clear k360
  clear k361
  clear k362
  have k387 := bx373.cell 0 rfl
  have k388 := bx373.cell 1 rfl
  have k389 := bx373.cell 2 rfl
  clear k363
  clear k364
  clear k365
  have k390 := bx376.cell 0 rfl
  have k391 := bx376.cell 1 rfl
  have k392 := bx376.cell 2 rfl
  clear k366
  clear k367
  clear k368
  have k393 := bx378.cell 0 rfl
  have k394 := bx378.cell 1 rfl
  have k395 := bx378.cell 2 rfl
  clear k369
  clear k370
  clear k371
  have k396 := bx381.cell 0 rfl
  have k397 := bx381.cell 1 rfl
  have k398 := bx381.cell 2 rfl
  go_wp2_with fail
  with_reducible refine (markGraph_any _ _ _ d0 _ 1 _ _ _ h379 (by omega) (by omega) hl0).mono ?_
  rintro e w14 ⟨rfl, h399, md400⟩
  have bx401 := bx373.mid md400 (by omega)
  clear bx373
  have h402 := RG.mid h374 md400 (by omega)
  clear h374
  have h403 := RI.mid h375 md400 (by omega)
  clear h375
  have bx404 := bx376.mid md400 (by omega)
  clear bx376
  have h405 := OG.mid h377 md400 (by omega)
  clear h377
  have bx406 := bx378.mid md400 (by omega)
  clear bx378
  have h407 := OI.mid h380 md400 (by omega)
  clear h380
  have bx408 := bx381.mid md400 (by omega)
  clear bx381
  have h409 := OG.mid h382 md400 (by omega)
  clear h382
  have b410 := below_mid b384 z385 md400 (by omega)
  have z411 := b410.size
  have y412 := md400.size
  clear h379
  clear k387
  clear k388
  clear k389
  have k413 := bx401.cell 0 rfl
  have k414 := bx401.cell 1 rfl
  have k415 := bx401.cell 2 rfl
  clear k390
  clear k391
  clear k392
  have k416 := bx404.cell 0 rfl
  have k417 := bx404.cell 1 rfl
  have k418 := bx404.cell 2 rfl
  clear k393
  clear k394
  clear k395
  have k419 := bx406.cell 0 rfl
  have k420 := bx406.cell 1 rfl
  have k421 := bx406.cell 2 rfl
  clear k396
  clear k397
  clear k398
  have k422 := bx408.cell 0 rfl
  have k423 := bx408.cell 1 rfl
  have k424 := bx408.cell 2 rfl
  go_wp2_with fail
  with_reducible refine (markI _ d1 _ (1 + 3 * (d0.length : Int)) _ _ _ h407 (by omega) (by omega) hl1).mono ?_
  rintro e w15 ⟨rfl, h425, md426⟩
  have bx427 := bx401.mid md426 (by omega)
  clear bx401
  have h428 := RG.mid h402 md426 (by omega)
  clear h402
  have h429 := RI.mid h403 md426 (by omega)
  clear h403
  have bx430 := bx404.mid md426 (by omega)
  clear bx404
  have h431 := OG.mid h405 md426 (by omega)
  clear h405
  have bx432 := bx406.mid md426 (by omega)
  clear bx406
  have h433 := OG.mid h399 md426 (by omega)
  clear h399
  have bx434 := bx408.mid md426 (by omega)
  clear bx408
  have h435 := OG.mid h409 md426 (by omega)
  clear h409
  have b436 := below_mid b410 z411 md426 (by omega)
  have z437 := b436.size
  have y438 := md426.size
  clear h407
  clear k413
  clear k414
  clear k415
  have k439 := bx427.cell 0 rfl
  have k440 := bx427.cell 1 rfl
  have k441 := bx427.cell 2 rfl
  clear k416
  clear k417
  clear k418
  have k442 := bx430.cell 0 rfl
  have k443 := bx430.cell 1 rfl
  have k444 := bx430.cell 2 rfl
  clear k419
  clear k420
  clear k421
  have k445 := bx432.cell 0 rfl
  have k446 := bx432.cell 1 rfl
  have k447 := bx432.cell 2 rfl
  clear k422
  clear k423
  clear k424
  have k448 := bx434.cell 0 rfl
  have k449 := bx434.cell 1 rfl
  have k450 := bx434.cell 2 rfl
  go_wp2_with fail
  with_reducible refine (eqGraph_same _ _ _ _ res0 _ _ _ _ _ _ _ (OG.rg h435) (OG.rg h431) hlr0).mono ?_
  rintro e w16 ⟨rfl, md451⟩
  have bx452 := bx427.mid md451 (Or.inr (Nat.zero_le _))
  clear bx427
  have h453 := RG.mid h428 md451 (Or.inl (Nat.zero_le _))
  clear h428
  have h454 := RI.mid h429 md451 (Or.inl (Nat.zero_le _))
  clear h429
  have bx455 := bx430.mid md451 (Or.inr (Nat.zero_le _))
  clear bx430
  have h456 := OG.mid h431 md451 (Or.inl (Nat.zero_le _))
  clear h431
  have bx457 := bx434.mid md451 (Or.inr (Nat.zero_le _))
  clear bx434
  have h458 := OG.mid h435 md451 (Or.inl (Nat.zero_le _))
  clear h435
  have b459 := below_mid b436 z437 md451 (Or.inr rfl)
  have z460 := b459.size
  have y461 := md451.size
  clear k439
  clear k440
  clear k441
  have k462 := bx452.cell 0 rfl
  have k463 := bx452.cell 1 rfl
  have k464 := bx452.cell 2 rfl
  clear k442
  clear k443
  clear k444
  have k465 := bx455.cell 0 rfl
  have k466 := bx455.cell 1 rfl
  have k467 := bx455.cell 2 rfl
  clear k448
  clear k449
  clear k450
  have k468 := bx457.cell 0 rfl
  have k469 := bx457.cell 1 rfl
  have k470 := bx457.cell 2 rfl
  go_wp2_with fail
  with_reducible refine (markGraph_any _ _ _ res0 _ 1 _ _ _ h458 (by omega) (by omega) hlr0).mono ?_
  rintro e w17 ⟨rfl, h471, md472⟩
  have bx473 := bx452.mid md472 (by omega)
  clear bx452
  have h474 := RG.mid h453 md472 (by omega)
  clear h453
  have h475 := RI.mid h454 md472 (by omega)
  clear h454
  have bx476 := bx455.mid md472 (by omega)
  clear bx455
  have h477 := OG.mid h456 md472 (by omega)
  clear h456
  have bx478 := bx457.mid md472 (by omega)
  clear bx457
  have b479 := below_mid b459 z460 md472 (by omega)
  have z480 := b479.size
  have y481 := md472.size
  clear h458
  clear k462
  clear k463
  clear k464
  have k482 := bx473.cell 0 rfl
  have k483 := bx473.cell 1 rfl
  have k484 := bx473.cell 2 rfl
  clear k465
  clear k466
  clear k467
  have k485 := bx476.cell 0 rfl
  have k486 := bx476.cell 1 rfl
  have k487 := bx476.cell 2 rfl
  clear k468
  clear k469
  clear k470
  have k488 := bx478.cell 0 rfl
  have k489 := bx478.cell 1 rfl
  have k490 := bx478.cell 2 rfl
  go_wp2_with fail
  with_reducible refine (heldGraph_any _ _ _ res0.length _ 1 _ _ _ h471 (by omega) (by omega) hlr0).mono ?_
  rintro e w18 ⟨rfl, md491⟩
  have bx492 := bx473.mid md491 (Or.inr (Nat.zero_le _))
  clear bx473
  have h493 := RG.mid h474 md491 (Or.inl (Nat.zero_le _))
  clear h474
  have h494 := RI.mid h475 md491 (Or.inl (Nat.zero_le _))
  clear h475
  have bx495 := bx476.mid md491 (Or.inr (Nat.zero_le _))
  clear bx476
  have h496 := OG.mid h477 md491 (Or.inl (Nat.zero_le _))
  clear h477
  have bx497 := bx478.mid md491 (Or.inr (Nat.zero_le _))
  clear bx478
  have h498 := OG.mid h471 md491 (Or.inl (Nat.zero_le _))
  clear h471
  have b499 := below_mid b479 z480 md491 (Or.inr rfl)
  have z500 := b499.size
  have y501 := md491.size
  clear k482
  clear k483
  clear k484
  have k502 := bx492.cell 0 rfl
  have k503 := bx492.cell 1 rfl
  have k504 := bx492.cell 2 rfl
  clear k485
  clear k486
  clear k487
  have k505 := bx495.cell 0 rfl
  have k506 := bx495.cell 1 rfl
  have k507 := bx495.cell 2 rfl
  clear k488
  clear k489
  clear k490
  have k508 := bx497.cell 0 rfl
  have k509 := bx497.cell 1 rfl
  have k510 := bx497.cell 2 rfl
  go_wp2_with fail
  with_reducible refine (toGraph_any r0 s0 _ d0 _ _ _ _ h493 hl0).mono ?_
  rintro e w19 ⟨AA511, cc512, rfl, h513, md514⟩
  have bx515 := bx492.mid md514 (Or.inr (Nat.zero_le _))
  clear bx492
  have h516 := RG.mid h493 md514 (Or.inl (Nat.zero_le _))
  clear h493
  have h517 := RI.mid h494 md514 (Or.inl (Nat.zero_le _))
  clear h494
  have bx518 := bx495.mid md514 (Or.inr (Nat.zero_le _))
  clear bx495
  have h519 := OG.mid h496 md514 (Or.inl (Nat.zero_le _))
  clear h496
  have bx520 := bx497.mid md514 (Or.inr (Nat.zero_le _))
  clear bx497
  have h521 := OG.mid h498 md514 (Or.inl (Nat.zero_le _))
  clear h498
  have b522 := below_mid b499 z500 md514 (Or.inr rfl)
  have z523 := b522.size
  have y524 := md514.size
  clear k502
  clear k503
  clear k504
  have k525 := bx515.cell 0 rfl
  have k526 := bx515.cell 1 rfl
  have k527 := bx515.cell 2 rfl
  clear k505
  clear k506
  clear k507
  have k528 := bx518.cell 0 rfl
  have k529 := bx518.cell 1 rfl
  have k530 := bx518.cell 2 rfl
  clear k508
  clear k509
  clear k510
  have k531 := bx520.cell 0 rfl
  have k532 := bx520.cell 1 rfl
  have k533 := bx520.cell 2 rfl
  go_wp2_with fail
  with_reducible refine (toI _ d1 _ _ _ _ h517 hl1).mono ?_
  rintro e w20 ⟨AA534, cc535, rfl, h536, md537⟩
  have bx538 := bx515.mid md537 (Or.inr (Nat.zero_le _))
  clear bx515
  have h539 := RG.mid h516 md537 (Or.inl (Nat.zero_le _))
  clear h516
  have h540 := RI.mid h517 md537 (Or.inl (Nat.zero_le _))
  clear h517
  have bx541 := bx518.mid md537 (Or.inr (Nat.zero_le _))
  clear bx518
  have h542 := OG.mid h519 md537 (Or.inl (Nat.zero_le _))
  clear h519
  have bx543 := bx520.mid md537 (Or.inr (Nat.zero_le _))
  clear bx520
  have h544 := OG.mid h521 md537 (Or.inl (Nat.zero_le _))
  clear h521
  have h545 := OG.mid h513 md537 (Or.inl (Nat.zero_le _))
  clear h513
  have b546 := below_mid b522 z523 md537 (Or.inr rfl)
  have z547 := b546.size
  have y548 := md537.size
  clear k525
  clear k526
  clear k527
  have k549 := bx538.cell 0 rfl
  have k550 := bx538.cell 1 rfl
  have k551 := bx538.cell 2 rfl
  clear k528
  clear k529
  clear k530
  have k552 := bx541.cell 0 rfl
  have k553 := bx541.cell 1 rfl
  have k554 := bx541.cell 2 rfl
  clear k531
  clear k532
  clear k533
  have k555 := bx543.cell 0 rfl
  have k556 := bx543.cell 1 rfl
  have k557 := bx543.cell 2 rfl
  go_wp2_with fail
  with_reducible refine (simpl_SeparateWord r0 s0 _ d0 _ _ d1 _ _ _ _ h545  hl0 _ _ h536 _o1 hl1 rr0 rs0 res0 res1 HRES.out).mono ?_
  rintro e w21 ⟨AA559, cc560, rfl, h561, md558⟩
  have bx563 := bx538.mid md558 (Or.inr (Nat.zero_le _))
  clear bx538
  have h564 := RG.mid h539 md558 (Or.inl (Nat.zero_le _))
  clear h539
  have h565 := RI.mid h540 md558 (Or.inl (Nat.zero_le _))
  clear h540
  have bx566 := bx541.mid md558 (Or.inr (Nat.zero_le _))
  clear bx541
  have h567 := OG.mid h542 md558 (Or.inl (Nat.zero_le _))
  clear h542
  have bx568 := bx543.mid md558 (Or.inr (Nat.zero_le _))
  clear bx543
  have h569 := OG.mid h544 md558 (Or.inl (Nat.zero_le _))
  clear h544
  have h570 := OG.mid h545 md558 (Or.inl (Nat.zero_le _))
  clear h545
  have h571 := OI.mid h536 md558 (Or.inl (Nat.zero_le _))
  clear h536
  have b572 := below_mid b546 z547 md558 (Or.inr rfl)
  have z573 := b572.size
  have y574 := md558.size
  clear k549
  clear k550
  clear k551
  have k575 := bx563.cell 0 rfl
  have k576 := bx563.cell 1 rfl
  have k577 := bx563.cell 2 rfl
  clear k552
  clear k553
  clear k554
  have k578 := bx566.cell 0 rfl
  have k579 := bx566.cell 1 rfl
  have k580 := bx566.cell 2 rfl
  clear k555
  clear k556
  clear k557
  have k581 := bx568.cell 0 rfl
  have k582 := bx568.cell 1 rfl
  have k583 := bx568.cell 2 rfl
  have md584 : Mid 0 0 w21 (w21.alloc (.cells #[.int .i64 rr0, .int .i64 rs0, .slice AA559 res0.length cc560] 29)) := Mid.alloc _ _
  have bx585 := bx563.mid md584 (Or.inr (Nat.zero_le _))
  clear bx563
  have h586 := RG.mid h564 md584 (Or.inl (Nat.zero_le _))
  clear h564
  have h587 := RI.mid h565 md584 (Or.inl (Nat.zero_le _))
  clear h565
  have bx588 := bx566.mid md584 (Or.inr (Nat.zero_le _))
  clear bx566
  have h589 := OG.mid h567 md584 (Or.inl (Nat.zero_le _))
  clear h567
  have bx590 := bx568.mid md584 (Or.inr (Nat.zero_le _))
  clear bx568
  have h591 := OG.mid h569 md584 (Or.inl (Nat.zero_le _))
  clear h569
  have h592 := OG.mid h570 md584 (Or.inl (Nat.zero_le _))
  clear h570
  have h593 := OI.mid h571 md584 (Or.inl (Nat.zero_le _))
  clear h571
  have h594 := OG.mid h561 md584 (Or.inl (Nat.zero_le _))
  clear h561
  have b595 := below_mid b572 z573 md584 (Or.inr rfl)
  have z596 := b595.size
  have y597 := md584.size
  have bx598 := Box.new w21 #[.int .i64 rr0, .int .i64 rs0, .slice AA559 res0.length cc560] 29
  have y599 : w21.heap.size + 1 ≤ (w21.alloc (.cells #[.int .i64 rr0, .int .i64 rs0, .slice AA559 res0.length cc560] 29)).heap.size := (by simp)
  clear k575
  clear k576
  clear k577
  have k600 := bx585.cell 0 rfl
  have k601 := bx585.cell 1 rfl
  have k602 := bx585.cell 2 rfl
  clear k578
  clear k579
  clear k580
  have k603 := bx588.cell 0 rfl
  have k604 := bx588.cell 1 rfl
  have k605 := bx588.cell 2 rfl
  clear k581
  clear k582
  clear k583
  have k606 := bx590.cell 0 rfl
  have k607 := bx590.cell 1 rfl
  have k608 := bx590.cell 2 rfl
  have k609 := bx598.cell 0 rfl
  have k610 := bx598.cell 1 rfl
  have k611 := bx598.cell 2 rfl
  go_wp2_with fail
  with_reducible refine (eqGraph_same _ _ _ _ res0 _ _ _ _ _ _ _ (OG.rg h594) (OG.rg h589) hlr0).mono ?_
  rintro e w22 ⟨rfl, md612⟩
  have bx613 := bx585.mid md612 (Or.inr (Nat.zero_le _))
  clear bx585
  have h614 := RG.mid h586 md612 (Or.inl (Nat.zero_le _))
  clear h586
  have h615 := RI.mid h587 md612 (Or.inl (Nat.zero_le _))
  clear h587
  have bx616 := bx588.mid md612 (Or.inr (Nat.zero_le _))
  clear bx588
  have h617 := OG.mid h589 md612 (Or.inl (Nat.zero_le _))
  clear h589
  have bx618 := bx590.mid md612 (Or.inr (Nat.zero_le _))
  clear bx590
  have h619 := OG.mid h591 md612 (Or.inl (Nat.zero_le _))
  clear h591
  have bx620 := bx598.mid md612 (Or.inr (Nat.zero_le _))
  clear bx598
  have h621 := OG.mid h594 md612 (Or.inl (Nat.zero_le _))
  clear h594
  have b622 := below_mid b595 z596 md612 (Or.inr rfl)
  have z623 := b622.size
  have y624 := md612.size
  clear k600
  clear k601
  clear k602
  have k625 := bx613.cell 0 rfl
  have k626 := bx613.cell 1 rfl
  have k627 := bx613.cell 2 rfl
  clear k603
  clear k604
  clear k605
  have k628 := bx616.cell 0 rfl
  have k629 := bx616.cell 1 rfl
  have k630 := bx616.cell 2 rfl
  clear k606
  clear k607
  clear k608
  have k631 := bx618.cell 0 rfl
  have k632 := bx618.cell 1 rfl
  have k633 := bx618.cell 2 rfl
  clear k609
  clear k610
  clear k611
  have k634 := bx620.cell 0 rfl
  have k635 := bx620.cell 1 rfl
  have k636 := bx620.cell 2 rfl
  go_wp2_with fail
  with_reducible refine (heldGraph_any _ _ _ res0.length _ 1 _ _ _ h619 (by omega) (by omega) hlr0).mono ?_
  rintro e w23 ⟨rfl, md637⟩
  have bx638 := bx613.mid md637 (Or.inr (Nat.zero_le _))
  clear bx613
  have h639 := RG.mid h614 md637 (Or.inl (Nat.zero_le _))
  clear h614
  have h640 := RI.mid h615 md637 (Or.inl (Nat.zero_le _))
  clear h615
  have bx641 := bx616.mid md637 (Or.inr (Nat.zero_le _))
  clear bx616
  have h642 := OG.mid h617 md637 (Or.inl (Nat.zero_le _))
  clear h617
  have bx643 := bx618.mid md637 (Or.inr (Nat.zero_le _))
  clear bx618
  have h644 := OG.mid h619 md637 (Or.inl (Nat.zero_le _))
  clear h619
  have bx645 := bx620.mid md637 (Or.inr (Nat.zero_le _))
  clear bx620
  have h646 := OG.mid h621 md637 (Or.inl (Nat.zero_le _))
  clear h621
  have b647 := below_mid b622 z623 md637 (Or.inr rfl)
  have z648 := b647.size
  have y649 := md637.size
  clear k625
  clear k626
  clear k627
  have k650 := bx638.cell 0 rfl
  have k651 := bx638.cell 1 rfl
  have k652 := bx638.cell 2 rfl
  clear k628
  clear k629
  clear k630
  have k653 := bx641.cell 0 rfl
  have k654 := bx641.cell 1 rfl
  have k655 := bx641.cell 2 rfl
  clear k631
  clear k632
  clear k633
  have k656 := bx643.cell 0 rfl
  have k657 := bx643.cell 1 rfl
  have k658 := bx643.cell 2 rfl
  clear k634
  clear k635
  clear k636
  have k659 := bx645.cell 0 rfl
  have k660 := bx645.cell 1 rfl
  have k661 := bx645.cell 2 rfl
  go_wp2_with fail
  go_ret
  exact ⟨rfl, b647⟩
end Go.Proofs.YtimmnnncgnnkgaaGreat
