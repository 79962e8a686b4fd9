
import Derived.Test.YtimmnnncgnnkgaaGreatSw7
import Derived.Deep.RegionHeld3
import Derived.Deep.DeepCutAuto

/- The walk of the law FnExactSeparateWords: it returns true at every input, and turns nothing that was there. -/
namespace Go.Proofs.YtimmnnncgnnkgaaGreat
open Go.RowKit
set_option linter.unusedVariables false
set_option linter.unusedSimpArgs false

theorem frz_SeparateWords {w : World} {b : Nat} {cs : List Value} (h : Box w b cs) : ∀ i, w.frozen? ⟨b, i, none⟩ = false := h.2.2
set_option maxRecDepth 100000 in
set_option maxHeartbeats 8000000 in
theorem walk_SeparateWords (r0 s0 : Int) (A0 : Option Addr) (d0 : List Ed) (c0 : Nat) (A1 : Option Addr) (d1 : List (List Int)) (c1 : Nat) (w : World) (_b0 : (Lit.int .i64 r0).wf = true) (_e0 : (Lit.int .i64 s0).wf = true) (m0 : RG w 0 w.heap.size A0 d0) (_o0 : OkI (edI d0)) (_l0 : d0.length ≤ 9223372036854775807) (r1 : RSS w 0 w.heap.size A1 d1) (_o1 : OkSS d1) :
    Calls Tryz.prog 5 #[.agg #[.int .i64 r0, .int .i64 s0, .slice A0 d0.length c0], .slice A1 d1.length c1] w fun e w' => e = .returned (.bool true) ∧ Below w.heap.size w w' := by
  obtain ⟨z0, hz0⟩ : ∃ z, z = szI 1048576 d0.length := ⟨_, rfl⟩
  have E0 := Lib.hid hz0.symm
  rcases szI_case 1048576 d0.length with hs0 | ⟨hs0, hs0'⟩
  · obtain rfl : z0 = -1 := hz0.trans hs0
    clear hs0 hz0
    have hh1 := m0
    have hh2 := r1
    go_enter Tryz.func5, Tryz.ntmps5
    have md3 : Mid 0 0 w (w.alloc (.cells #[.int .i64 r0, .int .i64 s0, .slice A0 d0.length c0] 24)) := Mid.alloc _ _
    have h4 := RG.mid hh1 md3 (Or.inl (Nat.zero_le _))
    clear hh1
    have h5 := RSS.mid hh2 md3 (Or.inl (Nat.zero_le _))
    clear hh2
    have b6 := below_mid (Below.refl w.heap.size w) (Nat.le_refl w.heap.size) md3 (Or.inr rfl)
    have z7 := b6.size
    have y8 := md3.size
    have bx9 := Box.new w #[.int .i64 r0, .int .i64 s0, .slice A0 d0.length c0] 24
    have y10 : w.heap.size + 1 ≤ (w.alloc (.cells #[.int .i64 r0, .int .i64 s0, .slice A0 d0.length c0] 24)).heap.size := (by simp)
    have k11 := bx9.cell 0 rfl
    have k12 := bx9.cell 1 rfl
    have k13 := bx9.cell 2 rfl
    go_wp2_with fail
    with_reducible refine (szGraph_any _ _ _ d0 _ 1048576 _ _l0 (by omega) (by omega)).mono ?_
    rintro e w1 ⟨rfl, md14⟩
    rw [E0.out]
    have bx15 := bx9.mid md14 (Or.inr (Nat.zero_le _))
    clear bx9
    have h16 := RG.mid h4 md14 (Or.inl (Nat.zero_le _))
    clear h4
    have h17 := RSS.mid h5 md14 (Or.inl (Nat.zero_le _))
    clear h5
    have b18 := below_mid b6 z7 md14 (Or.inr rfl)
    have z19 := b18.size
    have y20 := md14.size
    clear k11
    clear k12
    clear k13
    have k21 := bx15.cell 0 rfl
    have k22 := bx15.cell 1 rfl
    have k23 := bx15.cell 2 rfl
    go_wp2_with fail
    go_ret
    exact ⟨rfl, b18⟩
  rw [hs0'] at hz0
  have hp0 : 0 ≤ z0 := by omega
  have hq0 : z0 ≤ 1048576 := by omega
  have hl0 : d0.length ≤ 1048576 := by omega
  clear hs0 hs0' hz0
  obtain ⟨z1, hz1⟩ : ∃ z, z = szI z0 (d1.length + sumL d1) := ⟨_, rfl⟩
  have E1 := Lib.hid hz1.symm
  rcases szI_case z0 (d1.length + sumL d1) with hs1 | ⟨hs1, hs1'⟩
  · obtain rfl : z1 = -1 := hz1.trans hs1
    clear hs1 hz1
    have hh24 := m0
    have hh25 := r1
    go_enter Tryz.func5, Tryz.ntmps5
    have md26 : Mid 0 0 w (w.alloc (.cells #[.int .i64 r0, .int .i64 s0, .slice A0 d0.length c0] 24)) := Mid.alloc _ _
    have h27 := RG.mid hh24 md26 (Or.inl (Nat.zero_le _))
    clear hh24
    have h28 := RSS.mid hh25 md26 (Or.inl (Nat.zero_le _))
    clear hh25
    have b29 := below_mid (Below.refl w.heap.size w) (Nat.le_refl w.heap.size) md26 (Or.inr rfl)
    have z30 := b29.size
    have y31 := md26.size
    have bx32 := Box.new w #[.int .i64 r0, .int .i64 s0, .slice A0 d0.length c0] 24
    have y33 : w.heap.size + 1 ≤ (w.alloc (.cells #[.int .i64 r0, .int .i64 s0, .slice A0 d0.length c0] 24)).heap.size := (by simp)
    have k34 := bx32.cell 0 rfl
    have k35 := bx32.cell 1 rfl
    have k36 := bx32.cell 2 rfl
    go_wp2_with fail
    with_reducible refine (szGraph_any _ _ _ d0 _ 1048576 _ _l0 (by omega) (by omega)).mono ?_
    rintro e w2 ⟨rfl, md37⟩
    rw [E0.out]
    have bx38 := bx32.mid md37 (Or.inr (Nat.zero_le _))
    clear bx32
    have h39 := RG.mid h27 md37 (Or.inl (Nat.zero_le _))
    clear h27
    have h40 := RSS.mid h28 md37 (Or.inl (Nat.zero_le _))
    clear h28
    have b41 := below_mid b29 z30 md37 (Or.inr rfl)
    have z42 := b41.size
    have y43 := md37.size
    clear k34
    clear k35
    clear k36
    have k44 := bx38.cell 0 rfl
    have k45 := bx38.cell 1 rfl
    have k46 := bx38.cell 2 rfl
    go_wp2_with fail
    with_reducible refine (szIntSS_any _ d1 _ z0 _ _ _ h40 (OkSS.len _o1) (by omega) (by omega) _ rfl).mono ?_
    rintro e _ ⟨rfl, rfl⟩
    rw [E1.out]
    go_wp2_with fail
    go_ret
    exact ⟨rfl, b41⟩
  rw [hs1'] at hz1
  have hp1 : 0 ≤ z1 := by omega
  have hq1 : z1 ≤ 1048576 := by omega
  have hl1 : d1.length + sumL d1 ≤ 1048576 := by omega
  clear hs1 hs1' hz1
  obtain ⟨rr0, rs0, res0, res1, HRES⟩ : ∃ rr0 rs0 res0 res1, SeparateWordsIs r0 s0 d0 d1 rr0 rs0 res0 res1 := SeparateWordsIs_ex r0 s0 d0 d1 hl0 _o1 hl1
  have hlr0 := SeparateWordsIs_len HRES hl0 _o1 hl1
  have HRES := Lib.hid HRES
  have hh48 := m0
  have hh49 := r1
  go_enter Tryz.func5, Tryz.ntmps5
  have md50 : Mid 0 0 w (w.alloc (.cells #[.int .i64 r0, .int .i64 s0, .slice A0 d0.length c0] 24)) := Mid.alloc _ _
  have h51 := RG.mid hh48 md50 (Or.inl (Nat.zero_le _))
  clear hh48
  have h52 := RSS.mid hh49 md50 (Or.inl (Nat.zero_le _))
  clear hh49
  have b53 := below_mid (Below.refl w.heap.size w) (Nat.le_refl w.heap.size) md50 (Or.inr rfl)
  have z54 := b53.size
  have y55 := md50.size
  have bx56 := Box.new w #[.int .i64 r0, .int .i64 s0, .slice A0 d0.length c0] 24
  have y57 : w.heap.size + 1 ≤ (w.alloc (.cells #[.int .i64 r0, .int .i64 s0, .slice A0 d0.length c0] 24)).heap.size := (by simp)
  have k58 := bx56.cell 0 rfl
  have k59 := bx56.cell 1 rfl
  have k60 := bx56.cell 2 rfl
  go_wp2_with fail
  with_reducible refine (szGraph_any _ _ _ d0 _ 1048576 _ _l0 (by omega) (by omega)).mono ?_
  rintro e w4 ⟨rfl, md61⟩
  rw [E0.out]
  have bx62 := bx56.mid md61 (Or.inr (Nat.zero_le _))
  clear bx56
  have h63 := RG.mid h51 md61 (Or.inl (Nat.zero_le _))
  clear h51
  have h64 := RSS.mid h52 md61 (Or.inl (Nat.zero_le _))
  clear h52
  have b65 := below_mid b53 z54 md61 (Or.inr rfl)
  have z66 := b65.size
  have y67 := md61.size
  clear k58
  clear k59
  clear k60
  have k68 := bx62.cell 0 rfl
  have k69 := bx62.cell 1 rfl
  have k70 := bx62.cell 2 rfl
  go_wp2_with fail
  with_reducible refine (szIntSS_any _ d1 _ z0 _ _ _ h64 (OkSS.len _o1) (by omega) (by omega) _ rfl).mono ?_
  rintro e _ ⟨rfl, rfl⟩
  rw [E1.out]
  go_wp2_with fail
  with_reducible refine (toGraph_any r0 s0 _ d0 _ _ _ _ h63 hl0).mono ?_
  rintro e w6 ⟨AA72, cc73, rfl, h74, md75⟩
  have bx76 := bx62.mid md75 (Or.inr (Nat.zero_le _))
  clear bx62
  have h77 := RG.mid h63 md75 (Or.inl (Nat.zero_le _))
  clear h63
  have h78 := RSS.mid h64 md75 (Or.inl (Nat.zero_le _))
  clear h64
  have b79 := below_mid b65 z66 md75 (Or.inr rfl)
  have z80 := b79.size
  have y81 := md75.size
  clear k68
  clear k69
  clear k70
  have k82 := bx76.cell 0 rfl
  have k83 := bx76.cell 1 rfl
  have k84 := bx76.cell 2 rfl
  go_wp2_with fail
  with_reducible refine (toSS _ d1 _ _ _ _ h78 hl1).mono ?_
  rintro e w7 ⟨AA85, cc86, rfl, h87, md88⟩
  have bx89 := bx76.mid md88 (Or.inr (Nat.zero_le _))
  clear bx76
  have h90 := RG.mid h77 md88 (Or.inl (Nat.zero_le _))
  clear h77
  have h91 := RSS.mid h78 md88 (Or.inl (Nat.zero_le _))
  clear h78
  have h92 := OG.mid h74 md88 (Or.inl (Nat.zero_le _))
  clear h74
  have b93 := below_mid b79 z80 md88 (Or.inr rfl)
  have z94 := b93.size
  have y95 := md88.size
  clear k82
  clear k83
  clear k84
  have k96 := bx89.cell 0 rfl
  have k97 := bx89.cell 1 rfl
  have k98 := bx89.cell 2 rfl
  go_wp2_with fail
  with_reducible refine (sspec_SeparateWords r0 s0 _ d0 _ _ d1 _ _ _ _ h92  hl0 _ _ h87 _o1 hl1 rr0 rs0 res0 res1 HRES.out).mono ?_
  rintro e w8 ⟨AA100, cc101, rfl, h102, md99⟩
  have bx104 := bx89.mid md99 (Or.inr (Nat.zero_le _))
  clear bx89
  have h105 := RG.mid h90 md99 (Or.inl (Nat.zero_le _))
  clear h90
  have h106 := RSS.mid h91 md99 (Or.inl (Nat.zero_le _))
  clear h91
  have h107 := OG.mid h92 md99 (Or.inl (Nat.zero_le _))
  clear h92
  have h108 := OSS.mid h87 md99 (Or.inl (Nat.zero_le _))
  clear h87
  have b109 := below_mid b93 z94 md99 (Or.inr rfl)
  have z110 := b109.size
  have y111 := md99.size
  clear k96
  clear k97
  clear k98
  have k112 := bx104.cell 0 rfl
  have k113 := bx104.cell 1 rfl
  have k114 := bx104.cell 2 rfl
  have md115 : Mid 0 0 w8 (w8.alloc (.cells #[.int .i64 rr0, .int .i64 rs0, .slice AA100 res0.length cc101] 29)) := Mid.alloc _ _
  have bx116 := bx104.mid md115 (Or.inr (Nat.zero_le _))
  clear bx104
  have h117 := RG.mid h105 md115 (Or.inl (Nat.zero_le _))
  clear h105
  have h118 := RSS.mid h106 md115 (Or.inl (Nat.zero_le _))
  clear h106
  have h119 := OG.mid h107 md115 (Or.inl (Nat.zero_le _))
  clear h107
  have h120 := OSS.mid h108 md115 (Or.inl (Nat.zero_le _))
  clear h108
  have h121 := OG.mid h102 md115 (Or.inl (Nat.zero_le _))
  clear h102
  have b122 := below_mid b109 z110 md115 (Or.inr rfl)
  have z123 := b122.size
  have y124 := md115.size
  have bx125 := Box.new w8 #[.int .i64 rr0, .int .i64 rs0, .slice AA100 res0.length cc101] 29
  have y126 : w8.heap.size + 1 ≤ (w8.alloc (.cells #[.int .i64 rr0, .int .i64 rs0, .slice AA100 res0.length cc101] 29)).heap.size := (by simp)
  clear k112
  clear k113
  clear k114
  have k127 := bx116.cell 0 rfl
  have k128 := bx116.cell 1 rfl
  have k129 := bx116.cell 2 rfl
  have k130 := bx125.cell 0 rfl
  have k131 := bx125.cell 1 rfl
  have k132 := bx125.cell 2 rfl
  go_wp2_with fail
  with_reducible refine (toGraph_any r0 s0 _ d0 _ _ _ _ h117 hl0).mono ?_
  rintro e w9 ⟨AA133, cc134, rfl, h135, md136⟩
  have bx137 := bx116.mid md136 (Or.inr (Nat.zero_le _))
  clear bx116
  have h138 := RG.mid h117 md136 (Or.inl (Nat.zero_le _))
  clear h117
  have h139 := RSS.mid h118 md136 (Or.inl (Nat.zero_le _))
  clear h118
  have bx140 := bx125.mid md136 (Or.inr (Nat.zero_le _))
  clear bx125
  have h141 := OG.mid h121 md136 (Or.inl (Nat.zero_le _))
  clear h121
  have b142 := below_mid b122 z123 md136 (Or.inr rfl)
  have z143 := b142.size
  have y144 := md136.size
  clear k127
  clear k128
  clear k129
  have k145 := bx137.cell 0 rfl
  have k146 := bx137.cell 1 rfl
  have k147 := bx137.cell 2 rfl
  clear k130
  clear k131
  clear k132
  have k148 := bx140.cell 0 rfl
  have k149 := bx140.cell 1 rfl
  have k150 := bx140.cell 2 rfl
  have md151 : Mid 0 0 w9 (w9.alloc (.cells #[.int .i64 r0, .int .i64 s0, .slice AA133 d0.length cc134] 29)) := Mid.alloc _ _
  have bx152 := bx137.mid md151 (Or.inr (Nat.zero_le _))
  clear bx137
  have h153 := RG.mid h138 md151 (Or.inl (Nat.zero_le _))
  clear h138
  have h154 := RSS.mid h139 md151 (Or.inl (Nat.zero_le _))
  clear h139
  have bx155 := bx140.mid md151 (Or.inr (Nat.zero_le _))
  clear bx140
  have h156 := OG.mid h141 md151 (Or.inl (Nat.zero_le _))
  clear h141
  have h157 := OG.mid h135 md151 (Or.inl (Nat.zero_le _))
  clear h135
  have b158 := below_mid b142 z143 md151 (Or.inr rfl)
  have z159 := b158.size
  have y160 := md151.size
  have bx161 := Box.new w9 #[.int .i64 r0, .int .i64 s0, .slice AA133 d0.length cc134] 29
  have y162 : w9.heap.size + 1 ≤ (w9.alloc (.cells #[.int .i64 r0, .int .i64 s0, .slice AA133 d0.length cc134] 29)).heap.size := (by simp)
  clear k145
  clear k146
  clear k147
  have k163 := bx152.cell 0 rfl
  have k164 := bx152.cell 1 rfl
  have k165 := bx152.cell 2 rfl
  clear k148
  clear k149
  clear k150
  have k166 := bx155.cell 0 rfl
  have k167 := bx155.cell 1 rfl
  have k168 := bx155.cell 2 rfl
  have k169 := bx161.cell 0 rfl
  have k170 := bx161.cell 1 rfl
  have k171 := bx161.cell 2 rfl
  go_wp2_with fail
  with_reducible refine (toSS _ d1 _ _ _ _ h154 hl1).mono ?_
  rintro e w10 ⟨AA172, cc173, rfl, h174, md175⟩
  have bx176 := bx152.mid md175 (Or.inr (Nat.zero_le _))
  clear bx152
  have h177 := RG.mid h153 md175 (Or.inl (Nat.zero_le _))
  clear h153
  have h178 := RSS.mid h154 md175 (Or.inl (Nat.zero_le _))
  clear h154
  have bx179 := bx155.mid md175 (Or.inr (Nat.zero_le _))
  clear bx155
  have h180 := OG.mid h156 md175 (Or.inl (Nat.zero_le _))
  clear h156
  have bx181 := bx161.mid md175 (Or.inr (Nat.zero_le _))
  clear bx161
  have h182 := OG.mid h157 md175 (Or.inl (Nat.zero_le _))
  clear h157
  have b183 := below_mid b158 z159 md175 (Or.inr rfl)
  have z184 := b183.size
  have y185 := md175.size
  clear k163
  clear k164
  clear k165
  have k186 := bx176.cell 0 rfl
  have k187 := bx176.cell 1 rfl
  have k188 := bx176.cell 2 rfl
  clear k166
  clear k167
  clear k168
  have k189 := bx179.cell 0 rfl
  have k190 := bx179.cell 1 rfl
  have k191 := bx179.cell 2 rfl
  clear k169
  clear k170
  clear k171
  have k192 := bx181.cell 0 rfl
  have k193 := bx181.cell 1 rfl
  have k194 := bx181.cell 2 rfl
  go_wp2_with fail
  with_reducible refine (simpl_SeparateWords r0 s0 _ d0 _ _ d1 _ _ _ _ h182  hl0 _ _ h174 _o1 hl1 rr0 rs0 res0 res1 HRES.out).mono ?_
  rintro e w11 ⟨AA196, cc197, rfl, h198, md195⟩
  have bx200 := bx176.mid md195 (Or.inr (Nat.zero_le _))
  clear bx176
  have h201 := RG.mid h177 md195 (Or.inl (Nat.zero_le _))
  clear h177
  have h202 := RSS.mid h178 md195 (Or.inl (Nat.zero_le _))
  clear h178
  have bx203 := bx179.mid md195 (Or.inr (Nat.zero_le _))
  clear bx179
  have h204 := OG.mid h180 md195 (Or.inl (Nat.zero_le _))
  clear h180
  have bx205 := bx181.mid md195 (Or.inr (Nat.zero_le _))
  clear bx181
  have h206 := OG.mid h182 md195 (Or.inl (Nat.zero_le _))
  clear h182
  have h207 := OSS.mid h174 md195 (Or.inl (Nat.zero_le _))
  clear h174
  have b208 := below_mid b183 z184 md195 (Or.inr rfl)
  have z209 := b208.size
  have y210 := md195.size
  clear k186
  clear k187
  clear k188
  have k211 := bx200.cell 0 rfl
  have k212 := bx200.cell 1 rfl
  have k213 := bx200.cell 2 rfl
  clear k189
  clear k190
  clear k191
  have k214 := bx203.cell 0 rfl
  have k215 := bx203.cell 1 rfl
  have k216 := bx203.cell 2 rfl
  clear k192
  clear k193
  clear k194
  have k217 := bx205.cell 0 rfl
  have k218 := bx205.cell 1 rfl
  have k219 := bx205.cell 2 rfl
  have md220 : Mid 0 0 w11 (w11.alloc (.cells #[.int .i64 rr0, .int .i64 rs0, .slice AA196 res0.length cc197] 29)) := Mid.alloc _ _
  have bx221 := bx200.mid md220 (Or.inr (Nat.zero_le _))
  clear bx200
  have h222 := RG.mid h201 md220 (Or.inl (Nat.zero_le _))
  clear h201
  have h223 := RSS.mid h202 md220 (Or.inl (Nat.zero_le _))
  clear h202
  have bx224 := bx203.mid md220 (Or.inr (Nat.zero_le _))
  clear bx203
  have h225 := OG.mid h204 md220 (Or.inl (Nat.zero_le _))
  clear h204
  have bx226 := bx205.mid md220 (Or.inr (Nat.zero_le _))
  clear bx205
  have h227 := OG.mid h206 md220 (Or.inl (Nat.zero_le _))
  clear h206
  have h228 := OSS.mid h207 md220 (Or.inl (Nat.zero_le _))
  clear h207
  have h229 := OG.mid h198 md220 (Or.inl (Nat.zero_le _))
  clear h198
  have b230 := below_mid b208 z209 md220 (Or.inr rfl)
  have z231 := b230.size
  have y232 := md220.size
  have bx233 := Box.new w11 #[.int .i64 rr0, .int .i64 rs0, .slice AA196 res0.length cc197] 29
  have y234 : w11.heap.size + 1 ≤ (w11.alloc (.cells #[.int .i64 rr0, .int .i64 rs0, .slice AA196 res0.length cc197] 29)).heap.size := (by simp)
  clear k211
  clear k212
  clear k213
  have k235 := bx221.cell 0 rfl
  have k236 := bx221.cell 1 rfl
  have k237 := bx221.cell 2 rfl
  clear k214
  clear k215
  clear k216
  have k238 := bx224.cell 0 rfl
  have k239 := bx224.cell 1 rfl
  have k240 := bx224.cell 2 rfl
  clear k217
  clear k218
  clear k219
  have k241 := bx226.cell 0 rfl
  have k242 := bx226.cell 1 rfl
  have k243 := bx226.cell 2 rfl
  have k244 := bx233.cell 0 rfl
  have k245 := bx233.cell 1 rfl
  have k246 := bx233.cell 2 rfl
  go_wp2_with fail
  with_reducible refine (eqGraph_same _ _ _ _ res0 _ _ _ _ _ _ _ (OG.rg h229) (OG.rg h225) hlr0).mono ?_
  rintro e w12 ⟨rfl, md247⟩
  have bx248 := bx221.mid md247 (Or.inr (Nat.zero_le _))
  clear bx221
  have h249 := RG.mid h222 md247 (Or.inl (Nat.zero_le _))
  clear h222
  have h250 := RSS.mid h223 md247 (Or.inl (Nat.zero_le _))
  clear h223
  have bx251 := bx224.mid md247 (Or.inr (Nat.zero_le _))
  clear bx224
  have h252 := OG.mid h225 md247 (Or.inl (Nat.zero_le _))
  clear h225
  have bx253 := bx226.mid md247 (Or.inr (Nat.zero_le _))
  clear bx226
  have h254 := OG.mid h227 md247 (Or.inl (Nat.zero_le _))
  clear h227
  have h255 := OSS.mid h228 md247 (Or.inl (Nat.zero_le _))
  clear h228
  have bx256 := bx233.mid md247 (Or.inr (Nat.zero_le _))
  clear bx233
  have h257 := OG.mid h229 md247 (Or.inl (Nat.zero_le _))
  clear h229
  have b258 := below_mid b230 z231 md247 (Or.inr rfl)
  have z259 := b258.size
  have y260 := md247.size
  clear k235
  clear k236
  clear k237
  have k261 := bx248.cell 0 rfl
  have k262 := bx248.cell 1 rfl
  have k263 := bx248.cell 2 rfl
  clear k238
  clear k239
  clear k240
  have k264 := bx251.cell 0 rfl
  have k265 := bx251.cell 1 rfl
  have k266 := bx251.cell 2 rfl
  clear k241
  clear k242
  clear k243
  have k267 := bx253.cell 0 rfl
  have k268 := bx253.cell 1 rfl
  have k269 := bx253.cell 2 rfl
  clear k244
  clear k245
  clear k246
  have k270 := bx256.cell 0 rfl
  have k271 := bx256.cell 1 rfl
  have k272 := bx256.cell 2 rfl
  go_wp2_with fail
  have md273 : Mid 0 0 w12 w12.drew := Mid.drew1 _
  have bx274 := bx248.mid md273 (Or.inr (Nat.zero_le _))
  have h275 := RG.mid h249 md273 (Or.inl (Nat.zero_le _))
  have h276 := RSS.mid h250 md273 (Or.inl (Nat.zero_le _))
  have bx277 := bx251.mid md273 (Or.inr (Nat.zero_le _))
  have h278 := OG.mid h252 md273 (Or.inl (Nat.zero_le _))
  have bx279 := bx253.mid md273 (Or.inr (Nat.zero_le _))
  have h280 := OG.mid h254 md273 (Or.inl (Nat.zero_le _))
  have h281 := OSS.mid h255 md273 (Or.inl (Nat.zero_le _))
  have bx282 := bx256.mid md273 (Or.inr (Nat.zero_le _))
  have h283 := OG.mid h257 md273 (Or.inl (Nat.zero_le _))
  have b284 := below_mid b258 z259 md273 (Or.inr rfl)
  have z285 := b284.size
  have y286 := md273.size
  have k287 := bx274.cell 0 rfl
  have k288 := bx274.cell 1 rfl
  have k289 := bx274.cell 2 rfl
  have k290 := bx277.cell 0 rfl
  have k291 := bx277.cell 1 rfl
  have k292 := bx277.cell 2 rfl
  have k293 := bx279.cell 0 rfl
  have k294 := bx279.cell 1 rfl
  have k295 := bx279.cell 2 rfl
  have k296 := bx282.cell 0 rfl
  have k297 := bx282.cell 1 rfl
  have k298 := bx282.cell 2 rfl
  go_region_held3 (fun w' => w'.cell? ⟨w9.heap.size, 0, none⟩ = some (.int .i64 r0) ∧ w'.cell? ⟨w9.heap.size, 1, none⟩ = some (.int .i64 s0) ∧ w'.cell? ⟨w9.heap.size, 2, none⟩ = some (.slice AA133 d0.length cc134) ∧ w'.cell? ⟨w.heap.size, 0, none⟩ = some (.int .i64 r0) ∧ w'.cell? ⟨w.heap.size, 1, none⟩ = some (.int .i64 s0) ∧ w'.cell? ⟨w.heap.size, 2, none⟩ = some (.slice A0 d0.length c0)) (first | exact ⟨k267, k268, k269, k261, k262, k263⟩ | exact ⟨k293, k294, k295, k287, k288, k289⟩ | exact ⟨k322, k323, k324, k316, k317, k318⟩ | exact ⟨k349, k350, k351, k343, k344, k345⟩) (first | (go_at_call 11; with_reducible refine (toGraph_any r0 s0 _ d0 _ _ _ _ h275 hl0).mono ?_; rintro e w13 ⟨AA299, cc300, rfl, h301, md302⟩; have bx303 := bx274.mid md302 (Or.inr (Nat.zero_le _)); have h304 := RG.mid h275 md302 (Or.inl (Nat.zero_le _)); have h305 := RSS.mid h276 md302 (Or.inl (Nat.zero_le _)); have bx306 := bx277.mid md302 (Or.inr (Nat.zero_le _)); have h307 := OG.mid h278 md302 (Or.inl (Nat.zero_le _)); have bx308 := bx279.mid md302 (Or.inr (Nat.zero_le _)); have h309 := OG.mid h280 md302 (Or.inl (Nat.zero_le _)); have h310 := OSS.mid h281 md302 (Or.inl (Nat.zero_le _)); have bx311 := bx282.mid md302 (Or.inr (Nat.zero_le _)); have h312 := OG.mid h283 md302 (Or.inl (Nat.zero_le _)); have b313 := below_mid b284 z285 md302 (Or.inr rfl); have z314 := b313.size; have y315 := md302.size; have k316 := bx303.cell 0 rfl; have k317 := bx303.cell 1 rfl; have k318 := bx303.cell 2 rfl; have k319 := bx306.cell 0 rfl; have k320 := bx306.cell 1 rfl; have k321 := bx306.cell 2 rfl; have k322 := bx308.cell 0 rfl; have k323 := bx308.cell 1 rfl; have k324 := bx308.cell 2 rfl; have k325 := bx311.cell 0 rfl; have k326 := bx311.cell 1 rfl; have k327 := bx311.cell 2 rfl) | (go_at_call 14; with_reducible refine (eqGraph_same _ _ _ _ d0 _ _ _ _ _ _ _ (OG.rg h309) (OG.rg h301) hl0).mono ?_; rintro e w14 ⟨rfl, md328⟩; have bx329 := bx303.mid md328 (Or.inr (Nat.zero_le _)); have h330 := RG.mid h304 md328 (Or.inl (Nat.zero_le _)); have h331 := RSS.mid h305 md328 (Or.inl (Nat.zero_le _)); have bx332 := bx306.mid md328 (Or.inr (Nat.zero_le _)); have h333 := OG.mid h307 md328 (Or.inl (Nat.zero_le _)); have bx334 := bx308.mid md328 (Or.inr (Nat.zero_le _)); have h335 := OG.mid h309 md328 (Or.inl (Nat.zero_le _)); have h336 := OSS.mid h310 md328 (Or.inl (Nat.zero_le _)); have bx337 := bx311.mid md328 (Or.inr (Nat.zero_le _)); have h338 := OG.mid h312 md328 (Or.inl (Nat.zero_le _)); have h339 := OG.mid h301 md328 (Or.inl (Nat.zero_le _)); have b340 := below_mid b313 z314 md328 (Or.inr rfl); have z341 := b340.size; have y342 := md328.size; have k343 := bx329.cell 0 rfl; have k344 := bx329.cell 1 rfl; have k345 := bx329.cell 2 rfl; have k346 := bx332.cell 0 rfl; have k347 := bx332.cell 1 rfl; have k348 := bx332.cell 2 rfl; have k349 := bx334.cell 0 rfl; have k350 := bx334.cell 1 rfl; have k351 := bx334.cell 2 rfl; have k352 := bx337.cell 0 rfl; have k353 := bx337.cell 1 rfl; have k354 := bx337.cell 2 rfl))
  go_wp2_with fail
  with_reducible refine (toSS _ d1 _ _ _ _ h331 hl1).mono ?_
  rintro e w15 ⟨AA355, cc356, rfl, h357, md358⟩
  have bx359 := bx329.mid md358 (Or.inr (Nat.zero_le _))
  clear bx329
  have h360 := RG.mid h330 md358 (Or.inl (Nat.zero_le _))
  clear h330
  have h361 := RSS.mid h331 md358 (Or.inl (Nat.zero_le _))
  clear h331
  have bx362 := bx332.mid md358 (Or.inr (Nat.zero_le _))
  clear bx332
  have h363 := OG.mid h333 md358 (Or.inl (Nat.zero_le _))
  clear h333
  have bx364 := bx334.mid md358 (Or.inr (Nat.zero_le _))
  clear bx334
  have h365 := OG.mid h335 md358 (Or.inl (Nat.zero_le _))
  clear h335
  have h366 := OSS.mid h336 md358 (Or.inl (Nat.zero_le _))
  clear h336
  have bx367 := bx337.mid md358 (Or.inr (Nat.zero_le _))
  clear bx337
  have h368 := OG.mid h338 md358 (Or.inl (Nat.zero_le _))
  clear h338
  have b369 := below_mid b340 z341 md358 (Or.inr rfl)
  have z370 := b369.size
  have y371 := md358.size
  clear k343
  clear k344
  clear k345
  have k372 := bx359.cell 0 rfl
  have k373 := bx359.cell 1 rfl
  have k374 := bx359.cell 2 rfl
  clear k346
  clear k347
  clear k348
  have k375 := bx362.cell 0 rfl
  have k376 := bx362.cell 1 rfl
  have k377 := bx362.cell 2 rfl
  clear k349
  clear k350
  clear k351
  have k378 := bx364.cell 0 rfl
  have k379 := bx364.cell 1 rfl
  have k380 := bx364.cell 2 rfl
  clear k352
  clear k353
  clear k354
  have k381 := bx367.cell 0 rfl
  have k382 := bx367.cell 1 rfl
  have k383 := bx367.cell 2 rfl
  go_wp2_with fail
  with_reducible refine (eqSS _ _ d1 _ _ _ _ _ _ _ (OSS.rss h366) (OSS.rss h357) hl1).mono ?_
  rintro e w16 ⟨rfl, md384⟩
  have bx385 := bx359.mid md384 (Or.inr (Nat.zero_le _))
  clear bx359
  have h386 := RG.mid h360 md384 (Or.inl (Nat.zero_le _))
  clear h360
  have h387 := RSS.mid h361 md384 (Or.inl (Nat.zero_le _))
  clear h361
  have bx388 := bx362.mid md384 (Or.inr (Nat.zero_le _))
  clear bx362
  have h389 := OG.mid h363 md384 (Or.inl (Nat.zero_le _))
  clear h363
  have bx390 := bx364.mid md384 (Or.inr (Nat.zero_le _))
  clear bx364
  have h391 := OG.mid h365 md384 (Or.inl (Nat.zero_le _))
  clear h365
  have h392 := OSS.mid h366 md384 (Or.inl (Nat.zero_le _))
  clear h366
  have bx393 := bx367.mid md384 (Or.inr (Nat.zero_le _))
  clear bx367
  have h394 := OG.mid h368 md384 (Or.inl (Nat.zero_le _))
  clear h368
  have h395 := OSS.mid h357 md384 (Or.inl (Nat.zero_le _))
  clear h357
  have b396 := below_mid b369 z370 md384 (Or.inr rfl)
  have z397 := b396.size
  have y398 := md384.size
  clear k372
  clear k373
  clear k374
  have k399 := bx385.cell 0 rfl
  have k400 := bx385.cell 1 rfl
  have k401 := bx385.cell 2 rfl
  clear k375
  clear k376
  clear k377
  have k402 := bx388.cell 0 rfl
  have k403 := bx388.cell 1 rfl
  have k404 := bx388.cell 2 rfl
  clear k378
  clear k379
  clear k380
  have k405 := bx390.cell 0 rfl
  have k406 := bx390.cell 1 rfl
  have k407 := bx390.cell 2 rfl
  clear k381
  clear k382
  clear k383
  have k408 := bx393.cell 0 rfl
  have k409 := bx393.cell 1 rfl
  have k410 := bx393.cell 2 rfl
  go_wp2_with fail
  with_reducible refine (markGraph_any _ _ _ d0 _ 1 _ _ _ h391 (by omega) (by omega) hl0).mono ?_
  rintro e w17 ⟨rfl, h411, md412⟩
  have bx413 := bx385.mid md412 (by omega)
  clear bx385
  have h414 := RG.mid h386 md412 (by omega)
  clear h386
  have h415 := RSS.mid h387 md412 (by omega)
  clear h387
  have bx416 := bx388.mid md412 (by omega)
  clear bx388
  have h417 := OG.mid h389 md412 (by omega)
  clear h389
  have bx418 := bx390.mid md412 (by omega)
  clear bx390
  have h419 := OSS.mid h392 md412 (by omega)
  clear h392
  have bx420 := bx393.mid md412 (by omega)
  clear bx393
  have h421 := OG.mid h394 md412 (by omega)
  clear h394
  have b422 := below_mid b396 z397 md412 (by omega)
  have z423 := b422.size
  have y424 := md412.size
  clear h391
  clear k399
  clear k400
  clear k401
  have k425 := bx413.cell 0 rfl
  have k426 := bx413.cell 1 rfl
  have k427 := bx413.cell 2 rfl
  clear k402
  clear k403
  clear k404
  have k428 := bx416.cell 0 rfl
  have k429 := bx416.cell 1 rfl
  have k430 := bx416.cell 2 rfl
  clear k405
  clear k406
  clear k407
  have k431 := bx418.cell 0 rfl
  have k432 := bx418.cell 1 rfl
  have k433 := bx418.cell 2 rfl
  clear k408
  clear k409
  clear k410
  have k434 := bx420.cell 0 rfl
  have k435 := bx420.cell 1 rfl
  have k436 := bx420.cell 2 rfl
  go_wp2_with fail
  with_reducible refine (markIntSS_any _ d1 _ (1 + 3 * (d0.length : Int)) _ _ _ h419 (by omega) (by omega) hl1).mono ?_
  rintro e w18 ⟨rfl, h437, md438⟩
  have bx439 := bx413.mid md438 (by omega)
  clear bx413
  have h440 := RG.mid h414 md438 (by omega)
  clear h414
  have h441 := RSS.mid h415 md438 (by omega)
  clear h415
  have bx442 := bx416.mid md438 (by omega)
  clear bx416
  have h443 := OG.mid h417 md438 (by omega)
  clear h417
  have bx444 := bx418.mid md438 (by omega)
  clear bx418
  have h445 := OG.mid h411 md438 (by omega)
  clear h411
  have bx446 := bx420.mid md438 (by omega)
  clear bx420
  have h447 := OG.mid h421 md438 (by omega)
  clear h421
  have b448 := below_mid b422 z423 md438 (by omega)
  have z449 := b448.size
  have y450 := md438.size
  clear h419
  clear k425
  clear k426
  clear k427
  have k451 := bx439.cell 0 rfl
  have k452 := bx439.cell 1 rfl
  have k453 := bx439.cell 2 rfl
  clear k428
  clear k429
  clear k430
  have k454 := bx442.cell 0 rfl
  have k455 := bx442.cell 1 rfl
  have k456 := bx442.cell 2 rfl
  clear k431
  clear k432
  clear k433
  have k457 := bx444.cell 0 rfl
  have k458 := bx444.cell 1 rfl
  have k459 := bx444.cell 2 rfl
  clear k434
  clear k435
  clear k436
  have k460 := bx446.cell 0 rfl
  have k461 := bx446.cell 1 rfl
  have k462 := bx446.cell 2 rfl
  go_wp2_with fail
  with_reducible refine (eqGraph_same _ _ _ _ res0 _ _ _ _ _ _ _ (OG.rg h447) (OG.rg h443) hlr0).mono ?_
  rintro e w19 ⟨rfl, md463⟩
  have bx464 := bx439.mid md463 (Or.inr (Nat.zero_le _))
  clear bx439
  have h465 := RG.mid h440 md463 (Or.inl (Nat.zero_le _))
  clear h440
  have h466 := RSS.mid h441 md463 (Or.inl (Nat.zero_le _))
  clear h441
  have bx467 := bx442.mid md463 (Or.inr (Nat.zero_le _))
  clear bx442
  have h468 := OG.mid h443 md463 (Or.inl (Nat.zero_le _))
  clear h443
  have bx469 := bx446.mid md463 (Or.inr (Nat.zero_le _))
  clear bx446
  have h470 := OG.mid h447 md463 (Or.inl (Nat.zero_le _))
  clear h447
  have b471 := below_mid b448 z449 md463 (Or.inr rfl)
  have z472 := b471.size
  have y473 := md463.size
  clear k451
  clear k452
  clear k453
  have k474 := bx464.cell 0 rfl
  have k475 := bx464.cell 1 rfl
  have k476 := bx464.cell 2 rfl
  clear k454
  clear k455
  clear k456
  have k477 := bx467.cell 0 rfl
  have k478 := bx467.cell 1 rfl
  have k479 := bx467.cell 2 rfl
  clear k460
  clear k461
  clear k462
  have k480 := bx469.cell 0 rfl
  have k481 := bx469.cell 1 rfl
  have k482 := bx469.cell 2 rfl
  go_wp2_with fail
  with_reducible refine (markGraph_any _ _ _ res0 _ 1 _ _ _ h470 (by omega) (by omega) hlr0).mono ?_
  rintro e w20 ⟨rfl, h483, md484⟩
  have bx485 := bx464.mid md484 (by omega)
  clear bx464
  have h486 := RG.mid h465 md484 (by omega)
  clear h465
  have h487 := RSS.mid h466 md484 (by omega)
  clear h466
  have bx488 := bx467.mid md484 (by omega)
  clear bx467
  have h489 := OG.mid h468 md484 (by omega)
  clear h468
  have bx490 := bx469.mid md484 (by omega)
  clear bx469
  have b491 := below_mid b471 z472 md484 (by omega)
  have z492 := b491.size
  have y493 := md484.size
  clear h470
  clear k474
  clear k475
  clear k476
  have k494 := bx485.cell 0 rfl
  have k495 := bx485.cell 1 rfl
  have k496 := bx485.cell 2 rfl
  clear k477
  clear k478
  clear k479
  have k497 := bx488.cell 0 rfl
  have k498 := bx488.cell 1 rfl
  have k499 := bx488.cell 2 rfl
  clear k480
  clear k481
  clear k482
  have k500 := bx490.cell 0 rfl
  have k501 := bx490.cell 1 rfl
  have k502 := bx490.cell 2 rfl
  go_wp2_with fail
  with_reducible refine (heldGraph_any _ _ _ res0.length _ 1 _ _ _ h483 (by omega) (by omega) hlr0).mono ?_
  rintro e w21 ⟨rfl, md503⟩
  have bx504 := bx485.mid md503 (Or.inr (Nat.zero_le _))
  clear bx485
  have h505 := RG.mid h486 md503 (Or.inl (Nat.zero_le _))
  clear h486
  have h506 := RSS.mid h487 md503 (Or.inl (Nat.zero_le _))
  clear h487
  have bx507 := bx488.mid md503 (Or.inr (Nat.zero_le _))
  clear bx488
  have h508 := OG.mid h489 md503 (Or.inl (Nat.zero_le _))
  clear h489
  have bx509 := bx490.mid md503 (Or.inr (Nat.zero_le _))
  clear bx490
  have h510 := OG.mid h483 md503 (Or.inl (Nat.zero_le _))
  clear h483
  have b511 := below_mid b491 z492 md503 (Or.inr rfl)
  have z512 := b511.size
  have y513 := md503.size
  clear k494
  clear k495
  clear k496
  have k514 := bx504.cell 0 rfl
  have k515 := bx504.cell 1 rfl
  have k516 := bx504.cell 2 rfl
  clear k497
  clear k498
  clear k499
  have k517 := bx507.cell 0 rfl
  have k518 := bx507.cell 1 rfl
  have k519 := bx507.cell 2 rfl
  clear k500
  clear k501
  clear k502
  have k520 := bx509.cell 0 rfl
  have k521 := bx509.cell 1 rfl
  have k522 := bx509.cell 2 rfl
  go_wp2_with fail
  with_reducible refine (toGraph_any r0 s0 _ d0 _ _ _ _ h505 hl0).mono ?_
  rintro e w22 ⟨AA523, cc524, rfl, h525, md526⟩
  have bx527 := bx504.mid md526 (Or.inr (Nat.zero_le _))
  clear bx504
  have h528 := RG.mid h505 md526 (Or.inl (Nat.zero_le _))
  clear h505
  have h529 := RSS.mid h506 md526 (Or.inl (Nat.zero_le _))
  clear h506
  have bx530 := bx507.mid md526 (Or.inr (Nat.zero_le _))
  clear bx507
  have h531 := OG.mid h508 md526 (Or.inl (Nat.zero_le _))
  clear h508
  have bx532 := bx509.mid md526 (Or.inr (Nat.zero_le _))
  clear bx509
  have h533 := OG.mid h510 md526 (Or.inl (Nat.zero_le _))
  clear h510
  have b534 := below_mid b511 z512 md526 (Or.inr rfl)
  have z535 := b534.size
  have y536 := md526.size
  clear k514
  clear k515
  clear k516
  have k537 := bx527.cell 0 rfl
  have k538 := bx527.cell 1 rfl
  have k539 := bx527.cell 2 rfl
  clear k517
  clear k518
  clear k519
  have k540 := bx530.cell 0 rfl
  have k541 := bx530.cell 1 rfl
  have k542 := bx530.cell 2 rfl
  clear k520
  clear k521
  clear k522
  have k543 := bx532.cell 0 rfl
  have k544 := bx532.cell 1 rfl
  have k545 := bx532.cell 2 rfl
  go_wp2_with fail
  with_reducible refine (toSS _ d1 _ _ _ _ h529 hl1).mono ?_
  rintro e w23 ⟨AA546, cc547, rfl, h548, md549⟩
  have bx550 := bx527.mid md549 (Or.inr (Nat.zero_le _))
  clear bx527
  have h551 := RG.mid h528 md549 (Or.inl (Nat.zero_le _))
  clear h528
  have h552 := RSS.mid h529 md549 (Or.inl (Nat.zero_le _))
  clear h529
  have bx553 := bx530.mid md549 (Or.inr (Nat.zero_le _))
  clear bx530
  have h554 := OG.mid h531 md549 (Or.inl (Nat.zero_le _))
  clear h531
  have bx555 := bx532.mid md549 (Or.inr (Nat.zero_le _))
  clear bx532
  have h556 := OG.mid h533 md549 (Or.inl (Nat.zero_le _))
  clear h533
  have h557 := OG.mid h525 md549 (Or.inl (Nat.zero_le _))
  clear h525
  have b558 := below_mid b534 z535 md549 (Or.inr rfl)
  have z559 := b558.size
  have y560 := md549.size
  clear k537
  clear k538
  clear k539
  have k561 := bx550.cell 0 rfl
  have k562 := bx550.cell 1 rfl
  have k563 := bx550.cell 2 rfl
  clear k540
  clear k541
  clear k542
  have k564 := bx553.cell 0 rfl
  have k565 := bx553.cell 1 rfl
  have k566 := bx553.cell 2 rfl
  clear k543
  clear k544
  clear k545
  have k567 := bx555.cell 0 rfl
  have k568 := bx555.cell 1 rfl
  have k569 := bx555.cell 2 rfl
  go_wp2_with fail
  with_reducible refine (simpl_SeparateWords r0 s0 _ d0 _ _ d1 _ _ _ _ h557  hl0 _ _ h548 _o1 hl1 rr0 rs0 res0 res1 HRES.out).mono ?_
  rintro e w24 ⟨AA571, cc572, rfl, h573, md570⟩
  have bx575 := bx550.mid md570 (Or.inr (Nat.zero_le _))
  clear bx550
  have h576 := RG.mid h551 md570 (Or.inl (Nat.zero_le _))
  clear h551
  have h577 := RSS.mid h552 md570 (Or.inl (Nat.zero_le _))
  clear h552
  have bx578 := bx553.mid md570 (Or.inr (Nat.zero_le _))
  clear bx553
  have h579 := OG.mid h554 md570 (Or.inl (Nat.zero_le _))
  clear h554
  have bx580 := bx555.mid md570 (Or.inr (Nat.zero_le _))
  clear bx555
  have h581 := OG.mid h556 md570 (Or.inl (Nat.zero_le _))
  clear h556
  have h582 := OG.mid h557 md570 (Or.inl (Nat.zero_le _))
  clear h557
  have h583 := OSS.mid h548 md570 (Or.inl (Nat.zero_le _))
  clear h548
  have b584 := below_mid b558 z559 md570 (Or.inr rfl)
  have z585 := b584.size
  have y586 := md570.size
  clear k561
  clear k562
  clear k563
  have k587 := bx575.cell 0 rfl
  have k588 := bx575.cell 1 rfl
  have k589 := bx575.cell 2 rfl
  clear k564
  clear k565
  clear k566
  have k590 := bx578.cell 0 rfl
  have k591 := bx578.cell 1 rfl
  have k592 := bx578.cell 2 rfl
  clear k567
  clear k568
  clear k569
  have k593 := bx580.cell 0 rfl
  have k594 := bx580.cell 1 rfl
  have k595 := bx580.cell 2 rfl
  have md596 : Mid 0 0 w24 (w24.alloc (.cells #[.int .i64 rr0, .int .i64 rs0, .slice AA571 res0.length cc572] 29)) := Mid.alloc _ _
  have bx597 := bx575.mid md596 (Or.inr (Nat.zero_le _))
  clear bx575
  have h598 := RG.mid h576 md596 (Or.inl (Nat.zero_le _))
  clear h576
  have h599 := RSS.mid h577 md596 (Or.inl (Nat.zero_le _))
  clear h577
  have bx600 := bx578.mid md596 (Or.inr (Nat.zero_le _))
  clear bx578
  have h601 := OG.mid h579 md596 (Or.inl (Nat.zero_le _))
  clear h579
  have bx602 := bx580.mid md596 (Or.inr (Nat.zero_le _))
  clear bx580
  have h603 := OG.mid h581 md596 (Or.inl (Nat.zero_le _))
  clear h581
  have h604 := OG.mid h582 md596 (Or.inl (Nat.zero_le _))
  clear h582
  have h605 := OSS.mid h583 md596 (Or.inl (Nat.zero_le _))
  clear h583
  have h606 := OG.mid h573 md596 (Or.inl (Nat.zero_le _))
  clear h573
  have b607 := below_mid b584 z585 md596 (Or.inr rfl)
  have z608 := b607.size
  have y609 := md596.size
  have bx610 := Box.new w24 #[.int .i64 rr0, .int .i64 rs0, .slice AA571 res0.length cc572] 29
  have y611 : w24.heap.size + 1 ≤ (w24.alloc (.cells #[.int .i64 rr0, .int .i64 rs0, .slice AA571 res0.length cc572] 29)).heap.size := (by simp)
  clear k587
  clear k588
  clear k589
  have k612 := bx597.cell 0 rfl
  have k613 := bx597.cell 1 rfl
  have k614 := bx597.cell 2 rfl
  clear k590
  clear k591
  clear k592
  have k615 := bx600.cell 0 rfl
  have k616 := bx600.cell 1 rfl
  have k617 := bx600.cell 2 rfl
  clear k593
  clear k594
  clear k595
  have k618 := bx602.cell 0 rfl
  have k619 := bx602.cell 1 rfl
  have k620 := bx602.cell 2 rfl
  have k621 := bx610.cell 0 rfl
  have k622 := bx610.cell 1 rfl
  have k623 := bx610.cell 2 rfl
  go_wp2_with fail
  with_reducible refine (eqGraph_same _ _ _ _ res0 _ _ _ _ _ _ _ (OG.rg h606) (OG.rg h601) hlr0).mono ?_
  rintro e w25 ⟨rfl, md624⟩
  have bx625 := bx597.mid md624 (Or.inr (Nat.zero_le _))
  clear bx597
  have h626 := RG.mid h598 md624 (Or.inl (Nat.zero_le _))
  clear h598
  have h627 := RSS.mid h599 md624 (Or.inl (Nat.zero_le _))
  clear h599
  have bx628 := bx600.mid md624 (Or.inr (Nat.zero_le _))
  clear bx600
  have h629 := OG.mid h601 md624 (Or.inl (Nat.zero_le _))
  clear h601
  have bx630 := bx602.mid md624 (Or.inr (Nat.zero_le _))
  clear bx602
  have h631 := OG.mid h603 md624 (Or.inl (Nat.zero_le _))
  clear h603
  have bx632 := bx610.mid md624 (Or.inr (Nat.zero_le _))
  clear bx610
  have h633 := OG.mid h606 md624 (Or.inl (Nat.zero_le _))
  clear h606
  have b634 := below_mid b607 z608 md624 (Or.inr rfl)
  have z635 := b634.size
  have y636 := md624.size
  clear k612
  clear k613
  clear k614
  have k637 := bx625.cell 0 rfl
  have k638 := bx625.cell 1 rfl
  have k639 := bx625.cell 2 rfl
  clear k615
  clear k616
  clear k617
  have k640 := bx628.cell 0 rfl
  have k641 := bx628.cell 1 rfl
  have k642 := bx628.cell 2 rfl
  clear k618
  clear k619
  clear k620
  have k643 := bx630.cell 0 rfl
  have k644 := bx630.cell 1 rfl
  have k645 := bx630.cell 2 rfl
  clear k621
  clear k622
  clear k623
  have k646 := bx632.cell 0 rfl
  have k647 := bx632.cell 1 rfl
  have k648 := bx632.cell 2 rfl
  go_wp2_with fail
  with_reducible refine (heldGraph_any _ _ _ res0.length _ 1 _ _ _ h631 (by omega) (by omega) hlr0).mono ?_
  rintro e w26 ⟨rfl, md649⟩
  have bx650 := bx625.mid md649 (Or.inr (Nat.zero_le _))
  clear bx625
  have h651 := RG.mid h626 md649 (Or.inl (Nat.zero_le _))
  clear h626
  have h652 := RSS.mid h627 md649 (Or.inl (Nat.zero_le _))
  clear h627
  have bx653 := bx628.mid md649 (Or.inr (Nat.zero_le _))
  clear bx628
  have h654 := OG.mid h629 md649 (Or.inl (Nat.zero_le _))
  clear h629
  have bx655 := bx630.mid md649 (Or.inr (Nat.zero_le _))
  clear bx630
  have h656 := OG.mid h631 md649 (Or.inl (Nat.zero_le _))
  clear h631
  have bx657 := bx632.mid md649 (Or.inr (Nat.zero_le _))
  clear bx632
  have h658 := OG.mid h633 md649 (Or.inl (Nat.zero_le _))
  clear h633
  have b659 := below_mid b634 z635 md649 (Or.inr rfl)
  have z660 := b659.size
  have y661 := md649.size
  clear k637
  clear k638
  clear k639
  have k662 := bx650.cell 0 rfl
  have k663 := bx650.cell 1 rfl
  have k664 := bx650.cell 2 rfl
  clear k640
  clear k641
  clear k642
  have k665 := bx653.cell 0 rfl
  have k666 := bx653.cell 1 rfl
  have k667 := bx653.cell 2 rfl
  clear k643
  clear k644
  clear k645
  have k668 := bx655.cell 0 rfl
  have k669 := bx655.cell 1 rfl
  have k670 := bx655.cell 2 rfl
  clear k646
  clear k647
  clear k648
  have k671 := bx657.cell 0 rfl
  have k672 := bx657.cell 1 rfl
  have k673 := bx657.cell 2 rfl
  go_wp2_with fail
  go_ret
  exact ⟨rfl, b659⟩
end Go.Proofs.YtimmnnncgnnkgaaGreat
