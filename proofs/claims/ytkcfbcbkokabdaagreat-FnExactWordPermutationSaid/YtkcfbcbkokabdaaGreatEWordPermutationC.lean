
import Derived.Test.YtkcfbcbkokabdaaGreatPk4
import Derived.Deep.RegionHeld3
import Derived.Deep.DeepCutAuto

/- The walk of the law FnExactWordPermutation: it returns true at every input, and turns nothing that was there. -/
namespace Go.Proofs.YtkcfbcbkokabdaaGreat
open Go.RowKit
set_option linter.unusedVariables false
set_option linter.unusedSimpArgs false

theorem frz_WordPermutation {w : World} {b : Nat} {cs : List Value} (h : Box w b cs) : ∀ i, w.frozen? ⟨b, i, none⟩ = false := h.2.2
set_option maxRecDepth 100000 in
set_option maxHeartbeats 8000000 in
theorem walk_WordPermutation (r0 s0 : Int) (A0 : Option Addr) (d0 : List Ed) (c0 : Nat) (A1 : Option Addr) (d1 : List Int) (c1 : Nat) (w : World) (_b0 : (Lit.int .i64 r0).wf = true) (_e0 : (Lit.int .i64 s0).wf = true) (m0 : RG w 0 w.heap.size A0 d0) (_o0 : OkI (edI d0)) (_l0 : d0.length ≤ 9223372036854775807) (r1 : RI w 0 w.heap.size A1 d1) (_o1 : OkI d1) (_l1 : d1.length ≤ 9223372036854775807) :
    Calls Tryz.prog 4 #[.agg #[.int .i64 r0, .int .i64 s0, .slice A0 d0.length c0], .slice A1 d1.length c1] w fun e w' => e = .returned (.bool true) ∧ Below w.heap.size w w' := by
  by_cases hbig1 : ¬ (d1.length ≤ 1048576)
  · skip
    have hh1 := m0
    have hh2 := r1
    go_enter Tryz.func4, Tryz.ntmps4
    have md3 : Mid 0 0 w (w.alloc (.cells #[.int .i64 r0, .int .i64 s0, .slice A0 d0.length c0] 24)) := Mid.alloc _ _
    have h4 := RG.mid hh1 md3 (Or.inl (Nat.zero_le _))
    clear hh1
    have h5 := RI.mid hh2 md3 (Or.inl (Nat.zero_le _))
    clear hh2
    have b6 := below_mid (Below.refl w.heap.size w) (Nat.le_refl w.heap.size) md3 (Or.inr rfl)
    have z7 := b6.size
    have y8 := md3.size
    have bx9 := Box.new w #[.int .i64 r0, .int .i64 s0, .slice A0 d0.length c0] 24
    have y10 : w.heap.size + 1 ≤ (w.alloc (.cells #[.int .i64 r0, .int .i64 s0, .slice A0 d0.length c0] 24)).heap.size := (by simp)
    have k11 := bx9.cell 0 rfl
    have k12 := bx9.cell 1 rfl
    have k13 := bx9.cell 2 rfl
    go_wp2_with fail
    go_ret
    exact ⟨rfl, b6⟩
  have hl1 : d1.length ≤ 1048576 := by omega
  clear hbig1
  obtain ⟨z0, hz0⟩ : ∃ z, z = szI 1048576 d0.length := ⟨_, rfl⟩
  have E0 := Lib.hid hz0.symm
  rcases szI_case 1048576 d0.length with hs0 | ⟨hs0, hs0'⟩
  · obtain rfl : z0 = -1 := hz0.trans hs0
    clear hs0 hz0
    have hh14 := m0
    have hh15 := r1
    go_enter Tryz.func4, Tryz.ntmps4
    have md16 : Mid 0 0 w (w.alloc (.cells #[.int .i64 r0, .int .i64 s0, .slice A0 d0.length c0] 24)) := Mid.alloc _ _
    have h17 := RG.mid hh14 md16 (Or.inl (Nat.zero_le _))
    clear hh14
    have h18 := RI.mid hh15 md16 (Or.inl (Nat.zero_le _))
    clear hh15
    have b19 := below_mid (Below.refl w.heap.size w) (Nat.le_refl w.heap.size) md16 (Or.inr rfl)
    have z20 := b19.size
    have y21 := md16.size
    have bx22 := Box.new w #[.int .i64 r0, .int .i64 s0, .slice A0 d0.length c0] 24
    have y23 : w.heap.size + 1 ≤ (w.alloc (.cells #[.int .i64 r0, .int .i64 s0, .slice A0 d0.length c0] 24)).heap.size := (by simp)
    have k24 := bx22.cell 0 rfl
    have k25 := bx22.cell 1 rfl
    have k26 := bx22.cell 2 rfl
    go_wp2_with fail
    with_reducible refine (szGraph_any _ _ _ d0 _ 1048576 _ _l0 (by omega) (by omega)).mono ?_
    rintro e w1 ⟨rfl, md27⟩
    rw [E0.out]
    have bx28 := bx22.mid md27 (Or.inr (Nat.zero_le _))
    clear bx22
    have h29 := RG.mid h17 md27 (Or.inl (Nat.zero_le _))
    clear h17
    have h30 := RI.mid h18 md27 (Or.inl (Nat.zero_le _))
    clear h18
    have b31 := below_mid b19 z20 md27 (Or.inr rfl)
    have z32 := b31.size
    have y33 := md27.size
    clear k24
    clear k25
    clear k26
    have k34 := bx28.cell 0 rfl
    have k35 := bx28.cell 1 rfl
    have k36 := bx28.cell 2 rfl
    go_wp2_with fail
    go_ret
    exact ⟨rfl, b31⟩
  rw [hs0'] at hz0
  have hp0 : 0 ≤ z0 := by omega
  have hq0 : z0 ≤ 1048576 := by omega
  have hl0 : d0.length ≤ 1048576 := by omega
  clear hs0 hs0' hz0
  obtain ⟨res0, HRES⟩ : ∃ res0, WordPermutationIs r0 s0 d0 d1 res0 := WordPermutationIs_ex r0 s0 d0 d1 hl0 _o1 hl1
  have hlr0 := WordPermutationIs_len HRES hl0 _o1 hl1
  have HRES := Lib.hid HRES
  have hh37 := m0
  have hh38 := r1
  go_enter Tryz.func4, Tryz.ntmps4
  have md39 : Mid 0 0 w (w.alloc (.cells #[.int .i64 r0, .int .i64 s0, .slice A0 d0.length c0] 24)) := Mid.alloc _ _
  have h40 := RG.mid hh37 md39 (Or.inl (Nat.zero_le _))
  clear hh37
  have h41 := RI.mid hh38 md39 (Or.inl (Nat.zero_le _))
  clear hh38
  have b42 := below_mid (Below.refl w.heap.size w) (Nat.le_refl w.heap.size) md39 (Or.inr rfl)
  have z43 := b42.size
  have y44 := md39.size
  have bx45 := Box.new w #[.int .i64 r0, .int .i64 s0, .slice A0 d0.length c0] 24
  have y46 : w.heap.size + 1 ≤ (w.alloc (.cells #[.int .i64 r0, .int .i64 s0, .slice A0 d0.length c0] 24)).heap.size := (by simp)
  have k47 := bx45.cell 0 rfl
  have k48 := bx45.cell 1 rfl
  have k49 := bx45.cell 2 rfl
  go_wp2_with fail
  with_reducible refine (szGraph_any _ _ _ d0 _ 1048576 _ _l0 (by omega) (by omega)).mono ?_
  rintro e w2 ⟨rfl, md50⟩
  rw [E0.out]
  have bx51 := bx45.mid md50 (Or.inr (Nat.zero_le _))
  clear bx45
  have h52 := RG.mid h40 md50 (Or.inl (Nat.zero_le _))
  clear h40
  have h53 := RI.mid h41 md50 (Or.inl (Nat.zero_le _))
  clear h41
  have b54 := below_mid b42 z43 md50 (Or.inr rfl)
  have z55 := b54.size
  have y56 := md50.size
  clear k47
  clear k48
  clear k49
  have k57 := bx51.cell 0 rfl
  have k58 := bx51.cell 1 rfl
  have k59 := bx51.cell 2 rfl
  go_wp2_with fail
  with_reducible refine (toGraph_any r0 s0 _ d0 _ _ _ _ h52 hl0).mono ?_
  rintro e w3 ⟨AA60, cc61, rfl, h62, md63⟩
  have bx64 := bx51.mid md63 (Or.inr (Nat.zero_le _))
  clear bx51
  have h65 := RG.mid h52 md63 (Or.inl (Nat.zero_le _))
  clear h52
  have h66 := RI.mid h53 md63 (Or.inl (Nat.zero_le _))
  clear h53
  have b67 := below_mid b54 z55 md63 (Or.inr rfl)
  have z68 := b67.size
  have y69 := md63.size
  clear k57
  clear k58
  clear k59
  have k70 := bx64.cell 0 rfl
  have k71 := bx64.cell 1 rfl
  have k72 := bx64.cell 2 rfl
  go_wp2_with fail
  with_reducible refine (toI _ d1 _ _ _ _ h66 hl1).mono ?_
  rintro e w4 ⟨AA73, cc74, rfl, h75, md76⟩
  have bx77 := bx64.mid md76 (Or.inr (Nat.zero_le _))
  clear bx64
  have h78 := RG.mid h65 md76 (Or.inl (Nat.zero_le _))
  clear h65
  have h79 := RI.mid h66 md76 (Or.inl (Nat.zero_le _))
  clear h66
  have h80 := OG.mid h62 md76 (Or.inl (Nat.zero_le _))
  clear h62
  have b81 := below_mid b67 z68 md76 (Or.inr rfl)
  have z82 := b81.size
  have y83 := md76.size
  clear k70
  clear k71
  clear k72
  have k84 := bx77.cell 0 rfl
  have k85 := bx77.cell 1 rfl
  have k86 := bx77.cell 2 rfl
  go_wp2_with fail
  with_reducible refine (sspec_WordPermutation r0 s0 _ d0 _ _ d1 _ _ _ _ h80  hl0 _ _ h75 _o1 hl1 res0 HRES.out).mono ?_
  rintro e w5 ⟨AA88, cc89, rfl, h90, md87⟩
  have bx92 := bx77.mid md87 (Or.inr (Nat.zero_le _))
  clear bx77
  have h93 := RG.mid h78 md87 (Or.inl (Nat.zero_le _))
  clear h78
  have h94 := RI.mid h79 md87 (Or.inl (Nat.zero_le _))
  clear h79
  have h95 := OG.mid h80 md87 (Or.inl (Nat.zero_le _))
  clear h80
  have h96 := OI.mid h75 md87 (Or.inl (Nat.zero_le _))
  clear h75
  have b97 := below_mid b81 z82 md87 (Or.inr rfl)
  have z98 := b97.size
  have y99 := md87.size
  clear k84
  clear k85
  clear k86
  have k100 := bx92.cell 0 rfl
  have k101 := bx92.cell 1 rfl
  have k102 := bx92.cell 2 rfl
  go_wp2_with fail
  with_reducible refine (toGraph_any r0 s0 _ d0 _ _ _ _ h93 hl0).mono ?_
  rintro e w6 ⟨AA103, cc104, rfl, h105, md106⟩
  have bx107 := bx92.mid md106 (Or.inr (Nat.zero_le _))
  clear bx92
  have h108 := RG.mid h93 md106 (Or.inl (Nat.zero_le _))
  clear h93
  have h109 := RI.mid h94 md106 (Or.inl (Nat.zero_le _))
  clear h94
  have h110 := OI.mid h90 md106 (Or.inl (Nat.zero_le _))
  clear h90
  have b111 := below_mid b97 z98 md106 (Or.inr rfl)
  have z112 := b111.size
  have y113 := md106.size
  clear k100
  clear k101
  clear k102
  have k114 := bx107.cell 0 rfl
  have k115 := bx107.cell 1 rfl
  have k116 := bx107.cell 2 rfl
  have md117 : Mid 0 0 w6 (w6.alloc (.cells #[.int .i64 r0, .int .i64 s0, .slice AA103 d0.length cc104] 30)) := Mid.alloc _ _
  have bx118 := bx107.mid md117 (Or.inr (Nat.zero_le _))
  clear bx107
  have h119 := RG.mid h108 md117 (Or.inl (Nat.zero_le _))
  clear h108
  have h120 := RI.mid h109 md117 (Or.inl (Nat.zero_le _))
  clear h109
  have h121 := OI.mid h110 md117 (Or.inl (Nat.zero_le _))
  clear h110
  have h122 := OG.mid h105 md117 (Or.inl (Nat.zero_le _))
  clear h105
  have b123 := below_mid b111 z112 md117 (Or.inr rfl)
  have z124 := b123.size
  have y125 := md117.size
  have bx126 := Box.new w6 #[.int .i64 r0, .int .i64 s0, .slice AA103 d0.length cc104] 30
  have y127 : w6.heap.size + 1 ≤ (w6.alloc (.cells #[.int .i64 r0, .int .i64 s0, .slice AA103 d0.length cc104] 30)).heap.size := (by simp)
  clear k114
  clear k115
  clear k116
  have k128 := bx118.cell 0 rfl
  have k129 := bx118.cell 1 rfl
  have k130 := bx118.cell 2 rfl
  have k131 := bx126.cell 0 rfl
  have k132 := bx126.cell 1 rfl
  have k133 := bx126.cell 2 rfl
  go_wp2_with fail
  with_reducible refine (toI _ d1 _ _ _ _ h120 hl1).mono ?_
  rintro e w7 ⟨AA134, cc135, rfl, h136, md137⟩
  have bx138 := bx118.mid md137 (Or.inr (Nat.zero_le _))
  clear bx118
  have h139 := RG.mid h119 md137 (Or.inl (Nat.zero_le _))
  clear h119
  have h140 := RI.mid h120 md137 (Or.inl (Nat.zero_le _))
  clear h120
  have h141 := OI.mid h121 md137 (Or.inl (Nat.zero_le _))
  clear h121
  have bx142 := bx126.mid md137 (Or.inr (Nat.zero_le _))
  clear bx126
  have h143 := OG.mid h122 md137 (Or.inl (Nat.zero_le _))
  clear h122
  have b144 := below_mid b123 z124 md137 (Or.inr rfl)
  have z145 := b144.size
  have y146 := md137.size
  clear k128
  clear k129
  clear k130
  have k147 := bx138.cell 0 rfl
  have k148 := bx138.cell 1 rfl
  have k149 := bx138.cell 2 rfl
  clear k131
  clear k132
  clear k133
  have k150 := bx142.cell 0 rfl
  have k151 := bx142.cell 1 rfl
  have k152 := bx142.cell 2 rfl
  go_wp2_with fail
  with_reducible refine (simpl_WordPermutation r0 s0 _ d0 _ _ d1 _ _ _ _ h143  hl0 _ _ h136 _o1 hl1 res0 HRES.out).mono ?_
  rintro e w8 ⟨AA154, cc155, rfl, h156, md153⟩
  have bx158 := bx138.mid md153 (Or.inr (Nat.zero_le _))
  clear bx138
  have h159 := RG.mid h139 md153 (Or.inl (Nat.zero_le _))
  clear h139
  have h160 := RI.mid h140 md153 (Or.inl (Nat.zero_le _))
  clear h140
  have h161 := OI.mid h141 md153 (Or.inl (Nat.zero_le _))
  clear h141
  have bx162 := bx142.mid md153 (Or.inr (Nat.zero_le _))
  clear bx142
  have h163 := OG.mid h143 md153 (Or.inl (Nat.zero_le _))
  clear h143
  have h164 := OI.mid h136 md153 (Or.inl (Nat.zero_le _))
  clear h136
  have b165 := below_mid b144 z145 md153 (Or.inr rfl)
  have z166 := b165.size
  have y167 := md153.size
  clear k147
  clear k148
  clear k149
  have k168 := bx158.cell 0 rfl
  have k169 := bx158.cell 1 rfl
  have k170 := bx158.cell 2 rfl
  clear k150
  clear k151
  clear k152
  have k171 := bx162.cell 0 rfl
  have k172 := bx162.cell 1 rfl
  have k173 := bx162.cell 2 rfl
  go_wp2_with fail
  with_reducible refine (eqI _ _ res0 _ _ _ _ _ _ _ (OI.ri h156) (OI.ri h161) hlr0).mono ?_
  rintro e w9 ⟨rfl, md174⟩
  have bx175 := bx158.mid md174 (Or.inr (Nat.zero_le _))
  clear bx158
  have h176 := RG.mid h159 md174 (Or.inl (Nat.zero_le _))
  clear h159
  have h177 := RI.mid h160 md174 (Or.inl (Nat.zero_le _))
  clear h160
  have h178 := OI.mid h161 md174 (Or.inl (Nat.zero_le _))
  clear h161
  have bx179 := bx162.mid md174 (Or.inr (Nat.zero_le _))
  clear bx162
  have h180 := OG.mid h163 md174 (Or.inl (Nat.zero_le _))
  clear h163
  have h181 := OI.mid h164 md174 (Or.inl (Nat.zero_le _))
  clear h164
  have h182 := OI.mid h156 md174 (Or.inl (Nat.zero_le _))
  clear h156
  have b183 := below_mid b165 z166 md174 (Or.inr rfl)
  have z184 := b183.size
  have y185 := md174.size
  clear k168
  clear k169
  clear k170
  have k186 := bx175.cell 0 rfl
  have k187 := bx175.cell 1 rfl
  have k188 := bx175.cell 2 rfl
  clear k171
  clear k172
  clear k173
  have k189 := bx179.cell 0 rfl
  have k190 := bx179.cell 1 rfl
  have k191 := bx179.cell 2 rfl
  go_wp2_with fail
  have md192 : Mid 0 0 w9 w9.drew := Mid.drew1 _
  have bx193 := bx175.mid md192 (Or.inr (Nat.zero_le _))
  have h194 := RG.mid h176 md192 (Or.inl (Nat.zero_le _))
  have h195 := RI.mid h177 md192 (Or.inl (Nat.zero_le _))
  have h196 := OI.mid h178 md192 (Or.inl (Nat.zero_le _))
  have bx197 := bx179.mid md192 (Or.inr (Nat.zero_le _))
  have h198 := OG.mid h180 md192 (Or.inl (Nat.zero_le _))
  have h199 := OI.mid h181 md192 (Or.inl (Nat.zero_le _))
  have h200 := OI.mid h182 md192 (Or.inl (Nat.zero_le _))
  have b201 := below_mid b183 z184 md192 (Or.inr rfl)
  have z202 := b201.size
  have y203 := md192.size
  have k204 := bx193.cell 0 rfl
  have k205 := bx193.cell 1 rfl
  have k206 := bx193.cell 2 rfl
  have k207 := bx197.cell 0 rfl
  have k208 := bx197.cell 1 rfl
  have k209 := bx197.cell 2 rfl
  go_region_held3 (fun w' => w'.cell? ⟨w6.heap.size, 0, none⟩ = some (.int .i64 r0) ∧ w'.cell? ⟨w6.heap.size, 1, none⟩ = some (.int .i64 s0) ∧ w'.cell? ⟨w6.heap.size, 2, none⟩ = some (.slice AA103 d0.length cc104) ∧ w'.cell? ⟨w.heap.size, 0, none⟩ = some (.int .i64 r0) ∧ w'.cell? ⟨w.heap.size, 1, none⟩ = some (.int .i64 s0) ∧ w'.cell? ⟨w.heap.size, 2, none⟩ = some (.slice A0 d0.length c0)) (first | exact ⟨k189, k190, k191, k186, k187, k188⟩ | exact ⟨k207, k208, k209, k204, k205, k206⟩ | exact ⟨k228, k229, k230, k225, k226, k227⟩ | exact ⟨k247, k248, k249, k244, k245, k246⟩) (first | (go_at_call 10; with_reducible refine (toGraph_any r0 s0 _ d0 _ _ _ _ h194 hl0).mono ?_; rintro e w10 ⟨AA210, cc211, rfl, h212, md213⟩; have bx214 := bx193.mid md213 (Or.inr (Nat.zero_le _)); have h215 := RG.mid h194 md213 (Or.inl (Nat.zero_le _)); have h216 := RI.mid h195 md213 (Or.inl (Nat.zero_le _)); have h217 := OI.mid h196 md213 (Or.inl (Nat.zero_le _)); have bx218 := bx197.mid md213 (Or.inr (Nat.zero_le _)); have h219 := OG.mid h198 md213 (Or.inl (Nat.zero_le _)); have h220 := OI.mid h199 md213 (Or.inl (Nat.zero_le _)); have h221 := OI.mid h200 md213 (Or.inl (Nat.zero_le _)); have b222 := below_mid b201 z202 md213 (Or.inr rfl); have z223 := b222.size; have y224 := md213.size; have k225 := bx214.cell 0 rfl; have k226 := bx214.cell 1 rfl; have k227 := bx214.cell 2 rfl; have k228 := bx218.cell 0 rfl; have k229 := bx218.cell 1 rfl; have k230 := bx218.cell 2 rfl) | (go_at_call 13; with_reducible refine (eqGraph_same _ _ _ _ d0 _ _ _ _ _ _ _ (OG.rg h219) (OG.rg h212) hl0).mono ?_; rintro e w11 ⟨rfl, md231⟩; have bx232 := bx214.mid md231 (Or.inr (Nat.zero_le _)); have h233 := RG.mid h215 md231 (Or.inl (Nat.zero_le _)); have h234 := RI.mid h216 md231 (Or.inl (Nat.zero_le _)); have h235 := OI.mid h217 md231 (Or.inl (Nat.zero_le _)); have bx236 := bx218.mid md231 (Or.inr (Nat.zero_le _)); have h237 := OG.mid h219 md231 (Or.inl (Nat.zero_le _)); have h238 := OI.mid h220 md231 (Or.inl (Nat.zero_le _)); have h239 := OI.mid h221 md231 (Or.inl (Nat.zero_le _)); have h240 := OG.mid h212 md231 (Or.inl (Nat.zero_le _)); have b241 := below_mid b222 z223 md231 (Or.inr rfl); have z242 := b241.size; have y243 := md231.size; have k244 := bx232.cell 0 rfl; have k245 := bx232.cell 1 rfl; have k246 := bx232.cell 2 rfl; have k247 := bx236.cell 0 rfl; have k248 := bx236.cell 1 rfl; have k249 := bx236.cell 2 rfl))
  go_wp2_with fail
  with_reducible refine (toI _ d1 _ _ _ _ h234 hl1).mono ?_
  rintro e w12 ⟨AA250, cc251, rfl, h252, md253⟩
  have bx254 := bx232.mid md253 (Or.inr (Nat.zero_le _))
  clear bx232
  have h255 := RG.mid h233 md253 (Or.inl (Nat.zero_le _))
  clear h233
  have h256 := RI.mid h234 md253 (Or.inl (Nat.zero_le _))
  clear h234
  have h257 := OI.mid h235 md253 (Or.inl (Nat.zero_le _))
  clear h235
  have bx258 := bx236.mid md253 (Or.inr (Nat.zero_le _))
  clear bx236
  have h259 := OG.mid h237 md253 (Or.inl (Nat.zero_le _))
  clear h237
  have h260 := OI.mid h238 md253 (Or.inl (Nat.zero_le _))
  clear h238
  have h261 := OI.mid h239 md253 (Or.inl (Nat.zero_le _))
  clear h239
  have b262 := below_mid b241 z242 md253 (Or.inr rfl)
  have z263 := b262.size
  have y264 := md253.size
  clear k244
  clear k245
  clear k246
  have k265 := bx254.cell 0 rfl
  have k266 := bx254.cell 1 rfl
  have k267 := bx254.cell 2 rfl
  clear k247
  clear k248
  clear k249
  have k268 := bx258.cell 0 rfl
  have k269 := bx258.cell 1 rfl
  have k270 := bx258.cell 2 rfl
  go_wp2_with fail
  with_reducible refine (eqI _ _ d1 _ _ _ _ _ _ _ (OI.ri h260) (OI.ri h252) hl1).mono ?_
  rintro e w13 ⟨rfl, md271⟩
  have bx272 := bx254.mid md271 (Or.inr (Nat.zero_le _))
  clear bx254
  have h273 := RG.mid h255 md271 (Or.inl (Nat.zero_le _))
  clear h255
  have h274 := RI.mid h256 md271 (Or.inl (Nat.zero_le _))
  clear h256
  have h275 := OI.mid h257 md271 (Or.inl (Nat.zero_le _))
  clear h257
  have bx276 := bx258.mid md271 (Or.inr (Nat.zero_le _))
  clear bx258
  have h277 := OG.mid h259 md271 (Or.inl (Nat.zero_le _))
  clear h259
  have h278 := OI.mid h260 md271 (Or.inl (Nat.zero_le _))
  clear h260
  have h279 := OI.mid h261 md271 (Or.inl (Nat.zero_le _))
  clear h261
  have h280 := OI.mid h252 md271 (Or.inl (Nat.zero_le _))
  clear h252
  have b281 := below_mid b262 z263 md271 (Or.inr rfl)
  have z282 := b281.size
  have y283 := md271.size
  clear k265
  clear k266
  clear k267
  have k284 := bx272.cell 0 rfl
  have k285 := bx272.cell 1 rfl
  have k286 := bx272.cell 2 rfl
  clear k268
  clear k269
  clear k270
  have k287 := bx276.cell 0 rfl
  have k288 := bx276.cell 1 rfl
  have k289 := bx276.cell 2 rfl
  go_wp2_with fail
  with_reducible refine (markGraph_any _ _ _ d0 _ 1 _ _ _ h277 (by omega) (by omega) hl0).mono ?_
  rintro e w14 ⟨rfl, h290, md291⟩
  have bx292 := bx272.mid md291 (by omega)
  clear bx272
  have h293 := RG.mid h273 md291 (by omega)
  clear h273
  have h294 := RI.mid h274 md291 (by omega)
  clear h274
  have h295 := OI.mid h275 md291 (by omega)
  clear h275
  have bx296 := bx276.mid md291 (by omega)
  clear bx276
  have h297 := OI.mid h278 md291 (by omega)
  clear h278
  have h298 := OI.mid h279 md291 (by omega)
  clear h279
  have b299 := below_mid b281 z282 md291 (by omega)
  have z300 := b299.size
  have y301 := md291.size
  clear h277
  clear k284
  clear k285
  clear k286
  have k302 := bx292.cell 0 rfl
  have k303 := bx292.cell 1 rfl
  have k304 := bx292.cell 2 rfl
  clear k287
  clear k288
  clear k289
  have k305 := bx296.cell 0 rfl
  have k306 := bx296.cell 1 rfl
  have k307 := bx296.cell 2 rfl
  go_wp2_with fail
  with_reducible refine (markI _ d1 _ (1 + 3 * (d0.length : Int)) _ _ _ h297 (by omega) (by omega) hl1).mono ?_
  rintro e w15 ⟨rfl, h308, md309⟩
  have bx310 := bx292.mid md309 (by omega)
  clear bx292
  have h311 := RG.mid h293 md309 (by omega)
  clear h293
  have h312 := RI.mid h294 md309 (by omega)
  clear h294
  have h313 := OI.mid h295 md309 (by omega)
  clear h295
  have bx314 := bx296.mid md309 (by omega)
  clear bx296
  have h315 := OG.mid h290 md309 (by omega)
  clear h290
  have h316 := OI.mid h298 md309 (by omega)
  clear h298
  have b317 := below_mid b299 z300 md309 (by omega)
  have z318 := b317.size
  have y319 := md309.size
  clear h297
  clear k302
  clear k303
  clear k304
  have k320 := bx310.cell 0 rfl
  have k321 := bx310.cell 1 rfl
  have k322 := bx310.cell 2 rfl
  clear k305
  clear k306
  clear k307
  have k323 := bx314.cell 0 rfl
  have k324 := bx314.cell 1 rfl
  have k325 := bx314.cell 2 rfl
  go_wp2_with fail
  with_reducible refine (eqI _ _ res0 _ _ _ _ _ _ _ (OI.ri h316) (OI.ri h313) hlr0).mono ?_
  rintro e w16 ⟨rfl, md326⟩
  have bx327 := bx310.mid md326 (Or.inr (Nat.zero_le _))
  clear bx310
  have h328 := RG.mid h311 md326 (Or.inl (Nat.zero_le _))
  clear h311
  have h329 := RI.mid h312 md326 (Or.inl (Nat.zero_le _))
  clear h312
  have h330 := OI.mid h313 md326 (Or.inl (Nat.zero_le _))
  clear h313
  have h331 := OI.mid h316 md326 (Or.inl (Nat.zero_le _))
  clear h316
  have b332 := below_mid b317 z318 md326 (Or.inr rfl)
  have z333 := b332.size
  have y334 := md326.size
  clear k320
  clear k321
  clear k322
  have k335 := bx327.cell 0 rfl
  have k336 := bx327.cell 1 rfl
  have k337 := bx327.cell 2 rfl
  go_wp2_with fail
  with_reducible refine (markI _ res0 _ 1 _ _ _ h331 (by omega) (by omega) hlr0).mono ?_
  rintro e w17 ⟨rfl, h338, md339⟩
  have bx340 := bx327.mid md339 (by omega)
  clear bx327
  have h341 := RG.mid h328 md339 (by omega)
  clear h328
  have h342 := RI.mid h329 md339 (by omega)
  clear h329
  have h343 := OI.mid h330 md339 (by omega)
  clear h330
  have b344 := below_mid b332 z333 md339 (by omega)
  have z345 := b344.size
  have y346 := md339.size
  clear h331
  clear k335
  clear k336
  clear k337
  have k347 := bx340.cell 0 rfl
  have k348 := bx340.cell 1 rfl
  have k349 := bx340.cell 2 rfl
  go_wp2_with fail
  with_reducible refine (heldI _ res0.length _ 1 _ _ _ h338 (by omega) (by omega) hlr0).mono ?_
  rintro e w18 ⟨rfl, md350⟩
  have bx351 := bx340.mid md350 (Or.inr (Nat.zero_le _))
  clear bx340
  have h352 := RG.mid h341 md350 (Or.inl (Nat.zero_le _))
  clear h341
  have h353 := RI.mid h342 md350 (Or.inl (Nat.zero_le _))
  clear h342
  have h354 := OI.mid h343 md350 (Or.inl (Nat.zero_le _))
  clear h343
  have h355 := OI.mid h338 md350 (Or.inl (Nat.zero_le _))
  clear h338
  have b356 := below_mid b344 z345 md350 (Or.inr rfl)
  have z357 := b356.size
  have y358 := md350.size
  clear k347
  clear k348
  clear k349
  have k359 := bx351.cell 0 rfl
  have k360 := bx351.cell 1 rfl
  have k361 := bx351.cell 2 rfl
  go_wp2_with fail
  with_reducible refine (toGraph_any r0 s0 _ d0 _ _ _ _ h352 hl0).mono ?_
  rintro e w19 ⟨AA362, cc363, rfl, h364, md365⟩
  have bx366 := bx351.mid md365 (Or.inr (Nat.zero_le _))
  clear bx351
  have h367 := RG.mid h352 md365 (Or.inl (Nat.zero_le _))
  clear h352
  have h368 := RI.mid h353 md365 (Or.inl (Nat.zero_le _))
  clear h353
  have h369 := OI.mid h354 md365 (Or.inl (Nat.zero_le _))
  clear h354
  have h370 := OI.mid h355 md365 (Or.inl (Nat.zero_le _))
  clear h355
  have b371 := below_mid b356 z357 md365 (Or.inr rfl)
  have z372 := b371.size
  have y373 := md365.size
  clear k359
  clear k360
  clear k361
  have k374 := bx366.cell 0 rfl
  have k375 := bx366.cell 1 rfl
  have k376 := bx366.cell 2 rfl
  go_wp2_with fail
  with_reducible refine (toI _ d1 _ _ _ _ h368 hl1).mono ?_
  rintro e w20 ⟨AA377, cc378, rfl, h379, md380⟩
  have bx381 := bx366.mid md380 (Or.inr (Nat.zero_le _))
  clear bx366
  have h382 := RG.mid h367 md380 (Or.inl (Nat.zero_le _))
  clear h367
  have h383 := RI.mid h368 md380 (Or.inl (Nat.zero_le _))
  clear h368
  have h384 := OI.mid h369 md380 (Or.inl (Nat.zero_le _))
  clear h369
  have h385 := OI.mid h370 md380 (Or.inl (Nat.zero_le _))
  clear h370
  have h386 := OG.mid h364 md380 (Or.inl (Nat.zero_le _))
  clear h364
  have b387 := below_mid b371 z372 md380 (Or.inr rfl)
  have z388 := b387.size
  have y389 := md380.size
  clear k374
  clear k375
  clear k376
  have k390 := bx381.cell 0 rfl
  have k391 := bx381.cell 1 rfl
  have k392 := bx381.cell 2 rfl
  go_wp2_with fail
  with_reducible refine (simpl_WordPermutation r0 s0 _ d0 _ _ d1 _ _ _ _ h386  hl0 _ _ h379 _o1 hl1 res0 HRES.out).mono ?_
  rintro e w21 ⟨AA394, cc395, rfl, h396, md393⟩
  have bx398 := bx381.mid md393 (Or.inr (Nat.zero_le _))
  clear bx381
  have h399 := RG.mid h382 md393 (Or.inl (Nat.zero_le _))
  clear h382
  have h400 := RI.mid h383 md393 (Or.inl (Nat.zero_le _))
  clear h383
  have h401 := OI.mid h384 md393 (Or.inl (Nat.zero_le _))
  clear h384
  have h402 := OI.mid h385 md393 (Or.inl (Nat.zero_le _))
  clear h385
  have h403 := OG.mid h386 md393 (Or.inl (Nat.zero_le _))
  clear h386
  have h404 := OI.mid h379 md393 (Or.inl (Nat.zero_le _))
  clear h379
  have b405 := below_mid b387 z388 md393 (Or.inr rfl)
  have z406 := b405.size
  have y407 := md393.size
  clear k390
  clear k391
  clear k392
  have k408 := bx398.cell 0 rfl
  have k409 := bx398.cell 1 rfl
  have k410 := bx398.cell 2 rfl
  go_wp2_with fail
  with_reducible refine (eqI _ _ res0 _ _ _ _ _ _ _ (OI.ri h396) (OI.ri h401) hlr0).mono ?_
  rintro e w22 ⟨rfl, md411⟩
  have bx412 := bx398.mid md411 (Or.inr (Nat.zero_le _))
  clear bx398
  have h413 := RG.mid h399 md411 (Or.inl (Nat.zero_le _))
  clear h399
  have h414 := RI.mid h400 md411 (Or.inl (Nat.zero_le _))
  clear h400
  have h415 := OI.mid h401 md411 (Or.inl (Nat.zero_le _))
  clear h401
  have h416 := OI.mid h402 md411 (Or.inl (Nat.zero_le _))
  clear h402
  have h417 := OI.mid h396 md411 (Or.inl (Nat.zero_le _))
  clear h396
  have b418 := below_mid b405 z406 md411 (Or.inr rfl)
  have z419 := b418.size
  have y420 := md411.size
  clear k408
  clear k409
  clear k410
  have k421 := bx412.cell 0 rfl
  have k422 := bx412.cell 1 rfl
  have k423 := bx412.cell 2 rfl
  go_wp2_with fail
  with_reducible refine (heldI _ res0.length _ 1 _ _ _ h416 (by omega) (by omega) hlr0).mono ?_
  rintro e w23 ⟨rfl, md424⟩
  have bx425 := bx412.mid md424 (Or.inr (Nat.zero_le _))
  clear bx412
  have h426 := RG.mid h413 md424 (Or.inl (Nat.zero_le _))
  clear h413
  have h427 := RI.mid h414 md424 (Or.inl (Nat.zero_le _))
  clear h414
  have h428 := OI.mid h415 md424 (Or.inl (Nat.zero_le _))
  clear h415
  have h429 := OI.mid h416 md424 (Or.inl (Nat.zero_le _))
  clear h416
  have h430 := OI.mid h417 md424 (Or.inl (Nat.zero_le _))
  clear h417
  have b431 := below_mid b418 z419 md424 (Or.inr rfl)
  have z432 := b431.size
  have y433 := md424.size
  clear k421
  clear k422
  clear k423
  have k434 := bx425.cell 0 rfl
  have k435 := bx425.cell 1 rfl
  have k436 := bx425.cell 2 rfl
  go_wp2_with fail
  go_ret
  exact ⟨rfl, b431⟩
end Go.Proofs.YtkcfbcbkokabdaaGreat
