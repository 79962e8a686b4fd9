
import Derived.Test.YtkcfbcbkokabdaaGreatPk5
import Derived.Deep.RegionHeld3
import Derived.Deep.DeepCutAuto

/- The walk of the law FnExactCoverOf: it returns true at every input, and turns nothing that was there. -/
namespace Go.Proofs.YtkcfbcbkokabdaaGreat
open Go.RowKit
set_option linter.unusedVariables false
set_option linter.unusedSimpArgs false

theorem frz_CoverOf {w : World} {b : Nat} {cs : List Value} (h : Box w b cs) : ∀ i, w.frozen? ⟨b, i, none⟩ = false := h.2.2
set_option maxRecDepth 100000 in
set_option maxHeartbeats 8000000 in
theorem walk_CoverOf (r0 s0 : Int) (A0 : Option Addr) (d0 : List Ed) (c0 : Nat) (w : World) (_b0 : (Lit.int .i64 r0).wf = true) (_e0 : (Lit.int .i64 s0).wf = true) (m0 : RG w 0 w.heap.size A0 d0) (_o0 : OkI (edI d0)) (_l0 : d0.length ≤ 9223372036854775807) :
    Calls Tryz.prog 7 #[.agg #[.int .i64 r0, .int .i64 s0, .slice A0 d0.length c0]] w fun e w' => e = .returned (.bool true) ∧ Below w.heap.size w w' := by
  obtain ⟨z0, hz0⟩ : ∃ z, z = szI 1048576 d0.length := ⟨_, rfl⟩
  have E0 := Lib.hid hz0.symm
  rcases szI_case 1048576 d0.length with hs0 | ⟨hs0, hs0'⟩
  · obtain rfl : z0 = -1 := hz0.trans hs0
    clear hs0 hz0
    have hh1 := m0
    go_enter Tryz.func7, Tryz.ntmps7
    have md2 : Mid 0 0 w (w.alloc (.cells #[.int .i64 r0, .int .i64 s0, .slice A0 d0.length c0] 24)) := Mid.alloc _ _
    have h3 := RG.mid hh1 md2 (Or.inl (Nat.zero_le _))
    clear hh1
    have b4 := below_mid (Below.refl w.heap.size w) (Nat.le_refl w.heap.size) md2 (Or.inr rfl)
    have z5 := b4.size
    have y6 := md2.size
    have bx7 := Box.new w #[.int .i64 r0, .int .i64 s0, .slice A0 d0.length c0] 24
    have y8 : w.heap.size + 1 ≤ (w.alloc (.cells #[.int .i64 r0, .int .i64 s0, .slice A0 d0.length c0] 24)).heap.size := (by simp)
    have k9 := bx7.cell 0 rfl
    have k10 := bx7.cell 1 rfl
    have k11 := bx7.cell 2 rfl
    go_wp2_with fail
    with_reducible refine (szGraph_any _ _ _ d0 _ 1048576 _ _l0 (by omega) (by omega)).mono ?_
    rintro e w1 ⟨rfl, md12⟩
    rw [E0.out]
    have bx13 := bx7.mid md12 (Or.inr (Nat.zero_le _))
    clear bx7
    have h14 := RG.mid h3 md12 (Or.inl (Nat.zero_le _))
    clear h3
    have b15 := below_mid b4 z5 md12 (Or.inr rfl)
    have z16 := b15.size
    have y17 := md12.size
    clear k9
    clear k10
    clear k11
    have k18 := bx13.cell 0 rfl
    have k19 := bx13.cell 1 rfl
    have k20 := bx13.cell 2 rfl
    go_wp2_with fail
    go_ret
    exact ⟨rfl, b15⟩
  rw [hs0'] at hz0
  have hp0 : 0 ≤ z0 := by omega
  have hq0 : z0 ≤ 1048576 := by omega
  have hl0 : d0.length ≤ 1048576 := by omega
  clear hs0 hs0' hz0
  obtain ⟨rr0, rs0, res0, res1, HRES⟩ : ∃ rr0 rs0 res0 res1, CoverOfIs r0 s0 d0 rr0 rs0 res0 res1 := CoverOfIs_ex r0 s0 d0 hl0
  have hlr0 := CoverOfIs_len HRES hl0
  have HRES := Lib.hid HRES
  have hh21 := m0
  go_enter Tryz.func7, Tryz.ntmps7
  have md22 : Mid 0 0 w (w.alloc (.cells #[.int .i64 r0, .int .i64 s0, .slice A0 d0.length c0] 24)) := Mid.alloc _ _
  have h23 := RG.mid hh21 md22 (Or.inl (Nat.zero_le _))
  clear hh21
  have b24 := below_mid (Below.refl w.heap.size w) (Nat.le_refl w.heap.size) md22 (Or.inr rfl)
  have z25 := b24.size
  have y26 := md22.size
  have bx27 := Box.new w #[.int .i64 r0, .int .i64 s0, .slice A0 d0.length c0] 24
  have y28 : w.heap.size + 1 ≤ (w.alloc (.cells #[.int .i64 r0, .int .i64 s0, .slice A0 d0.length c0] 24)).heap.size := (by simp)
  have k29 := bx27.cell 0 rfl
  have k30 := bx27.cell 1 rfl
  have k31 := bx27.cell 2 rfl
  go_wp2_with fail
  with_reducible refine (szGraph_any _ _ _ d0 _ 1048576 _ _l0 (by omega) (by omega)).mono ?_
  rintro e w2 ⟨rfl, md32⟩
  rw [E0.out]
  have bx33 := bx27.mid md32 (Or.inr (Nat.zero_le _))
  clear bx27
  have h34 := RG.mid h23 md32 (Or.inl (Nat.zero_le _))
  clear h23
  have b35 := below_mid b24 z25 md32 (Or.inr rfl)
  have z36 := b35.size
  have y37 := md32.size
  clear k29
  clear k30
  clear k31
  have k38 := bx33.cell 0 rfl
  have k39 := bx33.cell 1 rfl
  have k40 := bx33.cell 2 rfl
  go_wp2_with fail
  with_reducible refine (toGraph_any r0 s0 _ d0 _ _ _ _ h34 hl0).mono ?_
  rintro e w3 ⟨AA41, cc42, rfl, h43, md44⟩
  have bx45 := bx33.mid md44 (Or.inr (Nat.zero_le _))
  clear bx33
  have h46 := RG.mid h34 md44 (Or.inl (Nat.zero_le _))
  clear h34
  have b47 := below_mid b35 z36 md44 (Or.inr rfl)
  have z48 := b47.size
  have y49 := md44.size
  clear k38
  clear k39
  clear k40
  have k50 := bx45.cell 0 rfl
  have k51 := bx45.cell 1 rfl
  have k52 := bx45.cell 2 rfl
  go_wp2_with fail
  with_reducible refine (sspec_CoverOf r0 s0 _ d0 _ _ _ _ h43  hl0 rr0 rs0 res0 res1 HRES.out).mono ?_
  rintro e w4 ⟨AA54, cc55, rfl, h56, md53⟩
  have bx58 := bx45.mid md53 (Or.inr (Nat.zero_le _))
  clear bx45
  have h59 := RG.mid h46 md53 (Or.inl (Nat.zero_le _))
  clear h46
  have h60 := OG.mid h43 md53 (Or.inl (Nat.zero_le _))
  clear h43
  have b61 := below_mid b47 z48 md53 (Or.inr rfl)
  have z62 := b61.size
  have y63 := md53.size
  clear k50
  clear k51
  clear k52
  have k64 := bx58.cell 0 rfl
  have k65 := bx58.cell 1 rfl
  have k66 := bx58.cell 2 rfl
  have md67 : Mid 0 0 w4 (w4.alloc (.cells #[.int .i64 rr0, .int .i64 rs0, .slice AA54 res0.length cc55] 30)) := Mid.alloc _ _
  have bx68 := bx58.mid md67 (Or.inr (Nat.zero_le _))
  clear bx58
  have h69 := RG.mid h59 md67 (Or.inl (Nat.zero_le _))
  clear h59
  have h70 := OG.mid h60 md67 (Or.inl (Nat.zero_le _))
  clear h60
  have h71 := OG.mid h56 md67 (Or.inl (Nat.zero_le _))
  clear h56
  have b72 := below_mid b61 z62 md67 (Or.inr rfl)
  have z73 := b72.size
  have y74 := md67.size
  have bx75 := Box.new w4 #[.int .i64 rr0, .int .i64 rs0, .slice AA54 res0.length cc55] 30
  have y76 : w4.heap.size + 1 ≤ (w4.alloc (.cells #[.int .i64 rr0, .int .i64 rs0, .slice AA54 res0.length cc55] 30)).heap.size := (by simp)
  clear k64
  clear k65
  clear k66
  have k77 := bx68.cell 0 rfl
  have k78 := bx68.cell 1 rfl
  have k79 := bx68.cell 2 rfl
  have k80 := bx75.cell 0 rfl
  have k81 := bx75.cell 1 rfl
  have k82 := bx75.cell 2 rfl
  go_wp2_with fail
  with_reducible refine (toGraph_any r0 s0 _ d0 _ _ _ _ h69 hl0).mono ?_
  rintro e w5 ⟨AA83, cc84, rfl, h85, md86⟩
  have bx87 := bx68.mid md86 (Or.inr (Nat.zero_le _))
  clear bx68
  have h88 := RG.mid h69 md86 (Or.inl (Nat.zero_le _))
  clear h69
  have bx89 := bx75.mid md86 (Or.inr (Nat.zero_le _))
  clear bx75
  have h90 := OG.mid h71 md86 (Or.inl (Nat.zero_le _))
  clear h71
  have b91 := below_mid b72 z73 md86 (Or.inr rfl)
  have z92 := b91.size
  have y93 := md86.size
  clear k77
  clear k78
  clear k79
  have k94 := bx87.cell 0 rfl
  have k95 := bx87.cell 1 rfl
  have k96 := bx87.cell 2 rfl
  clear k80
  clear k81
  clear k82
  have k97 := bx89.cell 0 rfl
  have k98 := bx89.cell 1 rfl
  have k99 := bx89.cell 2 rfl
  have md100 : Mid 0 0 w5 (w5.alloc (.cells #[.int .i64 r0, .int .i64 s0, .slice AA83 d0.length cc84] 30)) := Mid.alloc _ _
  have bx101 := bx87.mid md100 (Or.inr (Nat.zero_le _))
  clear bx87
  have h102 := RG.mid h88 md100 (Or.inl (Nat.zero_le _))
  clear h88
  have bx103 := bx89.mid md100 (Or.inr (Nat.zero_le _))
  clear bx89
  have h104 := OG.mid h90 md100 (Or.inl (Nat.zero_le _))
  clear h90
  have h105 := OG.mid h85 md100 (Or.inl (Nat.zero_le _))
  clear h85
  have b106 := below_mid b91 z92 md100 (Or.inr rfl)
  have z107 := b106.size
  have y108 := md100.size
  have bx109 := Box.new w5 #[.int .i64 r0, .int .i64 s0, .slice AA83 d0.length cc84] 30
  have y110 : w5.heap.size + 1 ≤ (w5.alloc (.cells #[.int .i64 r0, .int .i64 s0, .slice AA83 d0.length cc84] 30)).heap.size := (by simp)
  clear k94
  clear k95
  clear k96
  have k111 := bx101.cell 0 rfl
  have k112 := bx101.cell 1 rfl
  have k113 := bx101.cell 2 rfl
  clear k97
  clear k98
  clear k99
  have k114 := bx103.cell 0 rfl
  have k115 := bx103.cell 1 rfl
  have k116 := bx103.cell 2 rfl
  have k117 := bx109.cell 0 rfl
  have k118 := bx109.cell 1 rfl
  have k119 := bx109.cell 2 rfl
  go_wp2_with fail
  with_reducible refine (simpl_CoverOf r0 s0 _ d0 _ _ _ _ h105  hl0 rr0 rs0 res0 res1 HRES.out).mono ?_
  rintro e w6 ⟨AA121, cc122, rfl, h123, md120⟩
  have bx125 := bx101.mid md120 (Or.inr (Nat.zero_le _))
  clear bx101
  have h126 := RG.mid h102 md120 (Or.inl (Nat.zero_le _))
  clear h102
  have bx127 := bx103.mid md120 (Or.inr (Nat.zero_le _))
  clear bx103
  have h128 := OG.mid h104 md120 (Or.inl (Nat.zero_le _))
  clear h104
  have bx129 := bx109.mid md120 (Or.inr (Nat.zero_le _))
  clear bx109
  have h130 := OG.mid h105 md120 (Or.inl (Nat.zero_le _))
  clear h105
  have b131 := below_mid b106 z107 md120 (Or.inr rfl)
  have z132 := b131.size
  have y133 := md120.size
  clear k111
  clear k112
  clear k113
  have k134 := bx125.cell 0 rfl
  have k135 := bx125.cell 1 rfl
  have k136 := bx125.cell 2 rfl
  clear k114
  clear k115
  clear k116
  have k137 := bx127.cell 0 rfl
  have k138 := bx127.cell 1 rfl
  have k139 := bx127.cell 2 rfl
  clear k117
  clear k118
  clear k119
  have k140 := bx129.cell 0 rfl
  have k141 := bx129.cell 1 rfl
  have k142 := bx129.cell 2 rfl
  have md143 : Mid 0 0 w6 (w6.alloc (.cells #[.int .i64 rr0, .int .i64 rs0, .slice AA121 res0.length cc122] 30)) := Mid.alloc _ _
  have bx144 := bx125.mid md143 (Or.inr (Nat.zero_le _))
  clear bx125
  have h145 := RG.mid h126 md143 (Or.inl (Nat.zero_le _))
  clear h126
  have bx146 := bx127.mid md143 (Or.inr (Nat.zero_le _))
  clear bx127
  have h147 := OG.mid h128 md143 (Or.inl (Nat.zero_le _))
  clear h128
  have bx148 := bx129.mid md143 (Or.inr (Nat.zero_le _))
  clear bx129
  have h149 := OG.mid h130 md143 (Or.inl (Nat.zero_le _))
  clear h130
  have h150 := OG.mid h123 md143 (Or.inl (Nat.zero_le _))
  clear h123
  have b151 := below_mid b131 z132 md143 (Or.inr rfl)
  have z152 := b151.size
  have y153 := md143.size
  have bx154 := Box.new w6 #[.int .i64 rr0, .int .i64 rs0, .slice AA121 res0.length cc122] 30
  have y155 : w6.heap.size + 1 ≤ (w6.alloc (.cells #[.int .i64 rr0, .int .i64 rs0, .slice AA121 res0.length cc122] 30)).heap.size := (by simp)
  clear k134
  clear k135
  clear k136
  have k156 := bx144.cell 0 rfl
  have k157 := bx144.cell 1 rfl
  have k158 := bx144.cell 2 rfl
  clear k137
  clear k138
  clear k139
  have k159 := bx146.cell 0 rfl
  have k160 := bx146.cell 1 rfl
  have k161 := bx146.cell 2 rfl
  clear k140
  clear k141
  clear k142
  have k162 := bx148.cell 0 rfl
  have k163 := bx148.cell 1 rfl
  have k164 := bx148.cell 2 rfl
  have k165 := bx154.cell 0 rfl
  have k166 := bx154.cell 1 rfl
  have k167 := bx154.cell 2 rfl
  go_wp2_with fail
  with_reducible refine (eqGraph_same _ _ _ _ res0 _ _ _ _ _ _ _ (OG.rg h150) (OG.rg h147) hlr0).mono ?_
  rintro e w7 ⟨rfl, md168⟩
  have bx169 := bx144.mid md168 (Or.inr (Nat.zero_le _))
  clear bx144
  have h170 := RG.mid h145 md168 (Or.inl (Nat.zero_le _))
  clear h145
  have bx171 := bx146.mid md168 (Or.inr (Nat.zero_le _))
  clear bx146
  have h172 := OG.mid h147 md168 (Or.inl (Nat.zero_le _))
  clear h147
  have bx173 := bx148.mid md168 (Or.inr (Nat.zero_le _))
  clear bx148
  have h174 := OG.mid h149 md168 (Or.inl (Nat.zero_le _))
  clear h149
  have bx175 := bx154.mid md168 (Or.inr (Nat.zero_le _))
  clear bx154
  have h176 := OG.mid h150 md168 (Or.inl (Nat.zero_le _))
  clear h150
  have b177 := below_mid b151 z152 md168 (Or.inr rfl)
  have z178 := b177.size
  have y179 := md168.size
  clear k156
  clear k157
  clear k158
  have k180 := bx169.cell 0 rfl
  have k181 := bx169.cell 1 rfl
  have k182 := bx169.cell 2 rfl
  clear k159
  clear k160
  clear k161
  have k183 := bx171.cell 0 rfl
  have k184 := bx171.cell 1 rfl
  have k185 := bx171.cell 2 rfl
  clear k162
  clear k163
  clear k164
  have k186 := bx173.cell 0 rfl
  have k187 := bx173.cell 1 rfl
  have k188 := bx173.cell 2 rfl
  clear k165
  clear k166
  clear k167
  have k189 := bx175.cell 0 rfl
  have k190 := bx175.cell 1 rfl
  have k191 := bx175.cell 2 rfl
  go_wp2_with fail
  have md192 : Mid 0 0 w7 w7.drew := Mid.drew1 _
  have bx193 := bx169.mid md192 (Or.inr (Nat.zero_le _))
  have h194 := RG.mid h170 md192 (Or.inl (Nat.zero_le _))
  have bx195 := bx171.mid md192 (Or.inr (Nat.zero_le _))
  have h196 := OG.mid h172 md192 (Or.inl (Nat.zero_le _))
  have bx197 := bx173.mid md192 (Or.inr (Nat.zero_le _))
  have h198 := OG.mid h174 md192 (Or.inl (Nat.zero_le _))
  have bx199 := bx175.mid md192 (Or.inr (Nat.zero_le _))
  have h200 := OG.mid h176 md192 (Or.inl (Nat.zero_le _))
  have b201 := below_mid b177 z178 md192 (Or.inr rfl)
  have z202 := b201.size
  have y203 := md192.size
  have k204 := bx193.cell 0 rfl
  have k205 := bx193.cell 1 rfl
  have k206 := bx193.cell 2 rfl
  have k207 := bx195.cell 0 rfl
  have k208 := bx195.cell 1 rfl
  have k209 := bx195.cell 2 rfl
  have k210 := bx197.cell 0 rfl
  have k211 := bx197.cell 1 rfl
  have k212 := bx197.cell 2 rfl
  have k213 := bx199.cell 0 rfl
  have k214 := bx199.cell 1 rfl
  have k215 := bx199.cell 2 rfl
  go_region_held3 (fun w' => w'.cell? ⟨w5.heap.size, 0, none⟩ = some (.int .i64 r0) ∧ w'.cell? ⟨w5.heap.size, 1, none⟩ = some (.int .i64 s0) ∧ w'.cell? ⟨w5.heap.size, 2, none⟩ = some (.slice AA83 d0.length cc84) ∧ w'.cell? ⟨w.heap.size, 0, none⟩ = some (.int .i64 r0) ∧ w'.cell? ⟨w.heap.size, 1, none⟩ = some (.int .i64 s0) ∧ w'.cell? ⟨w.heap.size, 2, none⟩ = some (.slice A0 d0.length c0)) (first | exact ⟨k186, k187, k188, k180, k181, k182⟩ | exact ⟨k210, k211, k212, k204, k205, k206⟩ | exact ⟨k237, k238, k239, k231, k232, k233⟩ | exact ⟨k262, k263, k264, k256, k257, k258⟩) (first | (go_at_call 10; with_reducible refine (toGraph_any r0 s0 _ d0 _ _ _ _ h194 hl0).mono ?_; rintro e w8 ⟨AA216, cc217, rfl, h218, md219⟩; have bx220 := bx193.mid md219 (Or.inr (Nat.zero_le _)); have h221 := RG.mid h194 md219 (Or.inl (Nat.zero_le _)); have bx222 := bx195.mid md219 (Or.inr (Nat.zero_le _)); have h223 := OG.mid h196 md219 (Or.inl (Nat.zero_le _)); have bx224 := bx197.mid md219 (Or.inr (Nat.zero_le _)); have h225 := OG.mid h198 md219 (Or.inl (Nat.zero_le _)); have bx226 := bx199.mid md219 (Or.inr (Nat.zero_le _)); have h227 := OG.mid h200 md219 (Or.inl (Nat.zero_le _)); have b228 := below_mid b201 z202 md219 (Or.inr rfl); have z229 := b228.size; have y230 := md219.size; have k231 := bx220.cell 0 rfl; have k232 := bx220.cell 1 rfl; have k233 := bx220.cell 2 rfl; have k234 := bx222.cell 0 rfl; have k235 := bx222.cell 1 rfl; have k236 := bx222.cell 2 rfl; have k237 := bx224.cell 0 rfl; have k238 := bx224.cell 1 rfl; have k239 := bx224.cell 2 rfl; have k240 := bx226.cell 0 rfl; have k241 := bx226.cell 1 rfl; have k242 := bx226.cell 2 rfl) | (go_at_call 13; with_reducible refine (eqGraph_same _ _ _ _ d0 _ _ _ _ _ _ _ (OG.rg h225) (OG.rg h218) hl0).mono ?_; rintro e w9 ⟨rfl, md243⟩; have bx244 := bx220.mid md243 (Or.inr (Nat.zero_le _)); have h245 := RG.mid h221 md243 (Or.inl (Nat.zero_le _)); have bx246 := bx222.mid md243 (Or.inr (Nat.zero_le _)); have h247 := OG.mid h223 md243 (Or.inl (Nat.zero_le _)); have bx248 := bx224.mid md243 (Or.inr (Nat.zero_le _)); have h249 := OG.mid h225 md243 (Or.inl (Nat.zero_le _)); have bx250 := bx226.mid md243 (Or.inr (Nat.zero_le _)); have h251 := OG.mid h227 md243 (Or.inl (Nat.zero_le _)); have h252 := OG.mid h218 md243 (Or.inl (Nat.zero_le _)); have b253 := below_mid b228 z229 md243 (Or.inr rfl); have z254 := b253.size; have y255 := md243.size; have k256 := bx244.cell 0 rfl; have k257 := bx244.cell 1 rfl; have k258 := bx244.cell 2 rfl; have k259 := bx246.cell 0 rfl; have k260 := bx246.cell 1 rfl; have k261 := bx246.cell 2 rfl; have k262 := bx248.cell 0 rfl; have k263 := bx248.cell 1 rfl; have k264 := bx248.cell 2 rfl; have k265 := bx250.cell 0 rfl; have k266 := bx250.cell 1 rfl; have k267 := bx250.cell 2 rfl))
  go_wp2_with fail
  with_reducible refine (markGraph_any _ _ _ d0 _ 1 _ _ _ h249 (by omega) (by omega) hl0).mono ?_
  rintro e w10 ⟨rfl, h268, md269⟩
  have bx270 := bx244.mid md269 (by omega)
  clear bx244
  have h271 := RG.mid h245 md269 (by omega)
  clear h245
  have bx272 := bx246.mid md269 (by omega)
  clear bx246
  have h273 := OG.mid h247 md269 (by omega)
  clear h247
  have bx274 := bx248.mid md269 (by omega)
  clear bx248
  have bx275 := bx250.mid md269 (by omega)
  clear bx250
  have h276 := OG.mid h251 md269 (by omega)
  clear h251
  have b277 := below_mid b253 z254 md269 (by omega)
  have z278 := b277.size
  have y279 := md269.size
  clear h249
  clear k256
  clear k257
  clear k258
  have k280 := bx270.cell 0 rfl
  have k281 := bx270.cell 1 rfl
  have k282 := bx270.cell 2 rfl
  clear k259
  clear k260
  clear k261
  have k283 := bx272.cell 0 rfl
  have k284 := bx272.cell 1 rfl
  have k285 := bx272.cell 2 rfl
  clear k262
  clear k263
  clear k264
  have k286 := bx274.cell 0 rfl
  have k287 := bx274.cell 1 rfl
  have k288 := bx274.cell 2 rfl
  clear k265
  clear k266
  clear k267
  have k289 := bx275.cell 0 rfl
  have k290 := bx275.cell 1 rfl
  have k291 := bx275.cell 2 rfl
  go_wp2_with fail
  with_reducible refine (eqGraph_same _ _ _ _ res0 _ _ _ _ _ _ _ (OG.rg h276) (OG.rg h273) hlr0).mono ?_
  rintro e w11 ⟨rfl, md292⟩
  have bx293 := bx270.mid md292 (Or.inr (Nat.zero_le _))
  clear bx270
  have h294 := RG.mid h271 md292 (Or.inl (Nat.zero_le _))
  clear h271
  have bx295 := bx272.mid md292 (Or.inr (Nat.zero_le _))
  clear bx272
  have h296 := OG.mid h273 md292 (Or.inl (Nat.zero_le _))
  clear h273
  have bx297 := bx275.mid md292 (Or.inr (Nat.zero_le _))
  clear bx275
  have h298 := OG.mid h276 md292 (Or.inl (Nat.zero_le _))
  clear h276
  have b299 := below_mid b277 z278 md292 (Or.inr rfl)
  have z300 := b299.size
  have y301 := md292.size
  clear k280
  clear k281
  clear k282
  have k302 := bx293.cell 0 rfl
  have k303 := bx293.cell 1 rfl
  have k304 := bx293.cell 2 rfl
  clear k283
  clear k284
  clear k285
  have k305 := bx295.cell 0 rfl
  have k306 := bx295.cell 1 rfl
  have k307 := bx295.cell 2 rfl
  clear k289
  clear k290
  clear k291
  have k308 := bx297.cell 0 rfl
  have k309 := bx297.cell 1 rfl
  have k310 := bx297.cell 2 rfl
  go_wp2_with fail
  with_reducible refine (markGraph_any _ _ _ res0 _ 1 _ _ _ h298 (by omega) (by omega) hlr0).mono ?_
  rintro e w12 ⟨rfl, h311, md312⟩
  have bx313 := bx293.mid md312 (by omega)
  clear bx293
  have h314 := RG.mid h294 md312 (by omega)
  clear h294
  have bx315 := bx295.mid md312 (by omega)
  clear bx295
  have h316 := OG.mid h296 md312 (by omega)
  clear h296
  have bx317 := bx297.mid md312 (by omega)
  clear bx297
  have b318 := below_mid b299 z300 md312 (by omega)
  have z319 := b318.size
  have y320 := md312.size
  clear h298
  clear k302
  clear k303
  clear k304
  have k321 := bx313.cell 0 rfl
  have k322 := bx313.cell 1 rfl
  have k323 := bx313.cell 2 rfl
  clear k305
  clear k306
  clear k307
  have k324 := bx315.cell 0 rfl
  have k325 := bx315.cell 1 rfl
  have k326 := bx315.cell 2 rfl
  clear k308
  clear k309
  clear k310
  have k327 := bx317.cell 0 rfl
  have k328 := bx317.cell 1 rfl
  have k329 := bx317.cell 2 rfl
  go_wp2_with fail
  with_reducible refine (heldGraph_any _ _ _ res0.length _ 1 _ _ _ h311 (by omega) (by omega) hlr0).mono ?_
  rintro e w13 ⟨rfl, md330⟩
  have bx331 := bx313.mid md330 (Or.inr (Nat.zero_le _))
  clear bx313
  have h332 := RG.mid h314 md330 (Or.inl (Nat.zero_le _))
  clear h314
  have bx333 := bx315.mid md330 (Or.inr (Nat.zero_le _))
  clear bx315
  have h334 := OG.mid h316 md330 (Or.inl (Nat.zero_le _))
  clear h316
  have bx335 := bx317.mid md330 (Or.inr (Nat.zero_le _))
  clear bx317
  have h336 := OG.mid h311 md330 (Or.inl (Nat.zero_le _))
  clear h311
  have b337 := below_mid b318 z319 md330 (Or.inr rfl)
  have z338 := b337.size
  have y339 := md330.size
  clear k321
  clear k322
  clear k323
  have k340 := bx331.cell 0 rfl
  have k341 := bx331.cell 1 rfl
  have k342 := bx331.cell 2 rfl
  clear k324
  clear k325
  clear k326
  have k343 := bx333.cell 0 rfl
  have k344 := bx333.cell 1 rfl
  have k345 := bx333.cell 2 rfl
  clear k327
  clear k328
  clear k329
  have k346 := bx335.cell 0 rfl
  have k347 := bx335.cell 1 rfl
  have k348 := bx335.cell 2 rfl
  go_wp2_with fail
  with_reducible refine (toGraph_any r0 s0 _ d0 _ _ _ _ h332 hl0).mono ?_
  rintro e w14 ⟨AA349, cc350, rfl, h351, md352⟩
  have bx353 := bx331.mid md352 (Or.inr (Nat.zero_le _))
  clear bx331
  have h354 := RG.mid h332 md352 (Or.inl (Nat.zero_le _))
  clear h332
  have bx355 := bx333.mid md352 (Or.inr (Nat.zero_le _))
  clear bx333
  have h356 := OG.mid h334 md352 (Or.inl (Nat.zero_le _))
  clear h334
  have bx357 := bx335.mid md352 (Or.inr (Nat.zero_le _))
  clear bx335
  have h358 := OG.mid h336 md352 (Or.inl (Nat.zero_le _))
  clear h336
  have b359 := below_mid b337 z338 md352 (Or.inr rfl)
  have z360 := b359.size
  have y361 := md352.size
  clear k340
  clear k341
  clear k342
  have k362 := bx353.cell 0 rfl
  have k363 := bx353.cell 1 rfl
  have k364 := bx353.cell 2 rfl
  clear k343
  clear k344
  clear k345
  have k365 := bx355.cell 0 rfl
  have k366 := bx355.cell 1 rfl
  have k367 := bx355.cell 2 rfl
  clear k346
  clear k347
  clear k348
  have k368 := bx357.cell 0 rfl
  have k369 := bx357.cell 1 rfl
  have k370 := bx357.cell 2 rfl
  go_wp2_with fail
  with_reducible refine (simpl_CoverOf r0 s0 _ d0 _ _ _ _ h351  hl0 rr0 rs0 res0 res1 HRES.out).mono ?_
  rintro e w15 ⟨AA372, cc373, rfl, h374, md371⟩
  have bx376 := bx353.mid md371 (Or.inr (Nat.zero_le _))
  clear bx353
  have h377 := RG.mid h354 md371 (Or.inl (Nat.zero_le _))
  clear h354
  have bx378 := bx355.mid md371 (Or.inr (Nat.zero_le _))
  clear bx355
  have h379 := OG.mid h356 md371 (Or.inl (Nat.zero_le _))
  clear h356
  have bx380 := bx357.mid md371 (Or.inr (Nat.zero_le _))
  clear bx357
  have h381 := OG.mid h358 md371 (Or.inl (Nat.zero_le _))
  clear h358
  have h382 := OG.mid h351 md371 (Or.inl (Nat.zero_le _))
  clear h351
  have b383 := below_mid b359 z360 md371 (Or.inr rfl)
  have z384 := b383.size
  have y385 := md371.size
  clear k362
  clear k363
  clear k364
  have k386 := bx376.cell 0 rfl
  have k387 := bx376.cell 1 rfl
  have k388 := bx376.cell 2 rfl
  clear k365
  clear k366
  clear k367
  have k389 := bx378.cell 0 rfl
  have k390 := bx378.cell 1 rfl
  have k391 := bx378.cell 2 rfl
  clear k368
  clear k369
  clear k370
  have k392 := bx380.cell 0 rfl
  have k393 := bx380.cell 1 rfl
  have k394 := bx380.cell 2 rfl
  have md395 : Mid 0 0 w15 (w15.alloc (.cells #[.int .i64 rr0, .int .i64 rs0, .slice AA372 res0.length cc373] 30)) := Mid.alloc _ _
  have bx396 := bx376.mid md395 (Or.inr (Nat.zero_le _))
  clear bx376
  have h397 := RG.mid h377 md395 (Or.inl (Nat.zero_le _))
  clear h377
  have bx398 := bx378.mid md395 (Or.inr (Nat.zero_le _))
  clear bx378
  have h399 := OG.mid h379 md395 (Or.inl (Nat.zero_le _))
  clear h379
  have bx400 := bx380.mid md395 (Or.inr (Nat.zero_le _))
  clear bx380
  have h401 := OG.mid h381 md395 (Or.inl (Nat.zero_le _))
  clear h381
  have h402 := OG.mid h382 md395 (Or.inl (Nat.zero_le _))
  clear h382
  have h403 := OG.mid h374 md395 (Or.inl (Nat.zero_le _))
  clear h374
  have b404 := below_mid b383 z384 md395 (Or.inr rfl)
  have z405 := b404.size
  have y406 := md395.size
  have bx407 := Box.new w15 #[.int .i64 rr0, .int .i64 rs0, .slice AA372 res0.length cc373] 30
  have y408 : w15.heap.size + 1 ≤ (w15.alloc (.cells #[.int .i64 rr0, .int .i64 rs0, .slice AA372 res0.length cc373] 30)).heap.size := (by simp)
  clear k386
  clear k387
  clear k388
  have k409 := bx396.cell 0 rfl
  have k410 := bx396.cell 1 rfl
  have k411 := bx396.cell 2 rfl
  clear k389
  clear k390
  clear k391
  have k412 := bx398.cell 0 rfl
  have k413 := bx398.cell 1 rfl
  have k414 := bx398.cell 2 rfl
  clear k392
  clear k393
  clear k394
  have k415 := bx400.cell 0 rfl
  have k416 := bx400.cell 1 rfl
  have k417 := bx400.cell 2 rfl
  have k418 := bx407.cell 0 rfl
  have k419 := bx407.cell 1 rfl
  have k420 := bx407.cell 2 rfl
  go_wp2_with fail
  with_reducible refine (eqGraph_same _ _ _ _ res0 _ _ _ _ _ _ _ (OG.rg h403) (OG.rg h399) hlr0).mono ?_
  rintro e w16 ⟨rfl, md421⟩
  have bx422 := bx396.mid md421 (Or.inr (Nat.zero_le _))
  clear bx396
  have h423 := RG.mid h397 md421 (Or.inl (Nat.zero_le _))
  clear h397
  have bx424 := bx398.mid md421 (Or.inr (Nat.zero_le _))
  clear bx398
  have h425 := OG.mid h399 md421 (Or.inl (Nat.zero_le _))
  clear h399
  have bx426 := bx400.mid md421 (Or.inr (Nat.zero_le _))
  clear bx400
  have h427 := OG.mid h401 md421 (Or.inl (Nat.zero_le _))
  clear h401
  have bx428 := bx407.mid md421 (Or.inr (Nat.zero_le _))
  clear bx407
  have h429 := OG.mid h403 md421 (Or.inl (Nat.zero_le _))
  clear h403
  have b430 := below_mid b404 z405 md421 (Or.inr rfl)
  have z431 := b430.size
  have y432 := md421.size
  clear k409
  clear k410
  clear k411
  have k433 := bx422.cell 0 rfl
  have k434 := bx422.cell 1 rfl
  have k435 := bx422.cell 2 rfl
  clear k412
  clear k413
  clear k414
  have k436 := bx424.cell 0 rfl
  have k437 := bx424.cell 1 rfl
  have k438 := bx424.cell 2 rfl
  clear k415
  clear k416
  clear k417
  have k439 := bx426.cell 0 rfl
  have k440 := bx426.cell 1 rfl
  have k441 := bx426.cell 2 rfl
  clear k418
  clear k419
  clear k420
  have k442 := bx428.cell 0 rfl
  have k443 := bx428.cell 1 rfl
  have k444 := bx428.cell 2 rfl
  go_wp2_with fail
  with_reducible refine (heldGraph_any _ _ _ res0.length _ 1 _ _ _ h427 (by omega) (by omega) hlr0).mono ?_
  rintro e w17 ⟨rfl, md445⟩
  have bx446 := bx422.mid md445 (Or.inr (Nat.zero_le _))
  clear bx422
  have h447 := RG.mid h423 md445 (Or.inl (Nat.zero_le _))
  clear h423
  have bx448 := bx424.mid md445 (Or.inr (Nat.zero_le _))
  clear bx424
  have h449 := OG.mid h425 md445 (Or.inl (Nat.zero_le _))
  clear h425
  have bx450 := bx426.mid md445 (Or.inr (Nat.zero_le _))
  clear bx426
  have h451 := OG.mid h427 md445 (Or.inl (Nat.zero_le _))
  clear h427
  have bx452 := bx428.mid md445 (Or.inr (Nat.zero_le _))
  clear bx428
  have h453 := OG.mid h429 md445 (Or.inl (Nat.zero_le _))
  clear h429
  have b454 := below_mid b430 z431 md445 (Or.inr rfl)
  have z455 := b454.size
  have y456 := md445.size
  clear k433
  clear k434
  clear k435
  have k457 := bx446.cell 0 rfl
  have k458 := bx446.cell 1 rfl
  have k459 := bx446.cell 2 rfl
  clear k436
  clear k437
  clear k438
  have k460 := bx448.cell 0 rfl
  have k461 := bx448.cell 1 rfl
  have k462 := bx448.cell 2 rfl
  clear k439
  clear k440
  clear k441
  have k463 := bx450.cell 0 rfl
  have k464 := bx450.cell 1 rfl
  have k465 := bx450.cell 2 rfl
  clear k442
  clear k443
  clear k444
  have k466 := bx452.cell 0 rfl
  have k467 := bx452.cell 1 rfl
  have k468 := bx452.cell 2 rfl
  go_wp2_with fail
  go_ret
  exact ⟨rfl, b454⟩
end Go.Proofs.YtkcfbcbkokabdaaGreat
