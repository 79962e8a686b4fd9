
import Derived.Test.YtimmnnncgnnkgaaPk6
import Derived.Deep.RegionHeld3
import Derived.Deep.DeepCutAuto

/- The walk of the law FnExactNeumannSum: it returns true at every input, and turns nothing that was there. -/
namespace Go.Proofs.Ytimmnnncgnnkgaa
open Go.RowKit
set_option linter.unusedVariables false
set_option linter.unusedSimpArgs false

theorem frz_NeumannSum {w : World} {b : Nat} {cs : List Value} (h : Box w b cs) : ∀ i, w.frozen? ⟨b, i, none⟩ = false := h.2.2
set_option maxRecDepth 100000 in
set_option maxHeartbeats 8000000 in
theorem walk_NeumannSum (r0 s0 : Int) (A0 : Option Addr) (d0 : List Ed) (c0 : Nat) (r1 s1 : Int) (A1 : Option Addr) (d1 : List Ed) (c1 : Nat) (w : World) (_b0 : (Lit.int .i64 r0).wf = true) (_e0 : (Lit.int .i64 s0).wf = true) (m0 : RG w 0 w.heap.size A0 d0) (_o0 : OkI (edI d0)) (_l0 : d0.length ≤ 9223372036854775807) (_b1 : (Lit.int .i64 r1).wf = true) (_e1 : (Lit.int .i64 s1).wf = true) (m1 : RG w 0 w.heap.size A1 d1) (_o1 : OkI (edI d1)) (_l1 : d1.length ≤ 9223372036854775807) :
    Calls Try.prog 4 #[.agg #[.int .i64 r0, .int .i64 s0, .slice A0 d0.length c0], .agg #[.int .i64 r1, .int .i64 s1, .slice A1 d1.length c1]] w fun e w' => e = .returned (.bool true) ∧ Below w.heap.size w w' := by
  obtain ⟨z0, hz0⟩ : ∃ z, z = szI 1048576 d0.length := ⟨_, rfl⟩
  have E0 := Lib.hid hz0.symm
  rcases szI_case 1048576 d0.length with hs0 | ⟨hs0, hs0'⟩
  · obtain rfl : z0 = -1 := hz0.trans hs0
    clear hs0 hz0
    have hh1 := m0
    have hh2 := m1
    go_enter Try.func4, Try.ntmps4
    have md3 : Mid 0 0 w (w.alloc (.cells #[.int .i64 r0, .int .i64 s0, .slice A0 d0.length c0] 24)) := Mid.alloc _ _
    have h4 := RG.mid hh1 md3 (Or.inl (Nat.zero_le _))
    clear hh1
    have h5 := RG.mid hh2 md3 (Or.inl (Nat.zero_le _))
    clear hh2
    have b6 := below_mid (Below.refl w.heap.size w) (Nat.le_refl w.heap.size) md3 (Or.inr rfl)
    have z7 := b6.size
    have y8 := md3.size
    have bx9 := Box.new w #[.int .i64 r0, .int .i64 s0, .slice A0 d0.length c0] 24
    have y10 : w.heap.size + 1 ≤ (w.alloc (.cells #[.int .i64 r0, .int .i64 s0, .slice A0 d0.length c0] 24)).heap.size := (by simp)
    have md11 : Mid 0 0 (w.alloc (.cells #[.int .i64 r0, .int .i64 s0, .slice A0 d0.length c0] 24)) ((w.alloc (.cells #[.int .i64 r0, .int .i64 s0, .slice A0 d0.length c0] 24)).alloc (.cells #[.int .i64 r1, .int .i64 s1, .slice A1 d1.length c1] 24)) := Mid.alloc _ _
    have bx12 := bx9.mid md11 (Or.inr (Nat.zero_le _))
    clear bx9
    have h13 := RG.mid h4 md11 (Or.inl (Nat.zero_le _))
    clear h4
    have h14 := RG.mid h5 md11 (Or.inl (Nat.zero_le _))
    clear h5
    have b15 := below_mid b6 z7 md11 (Or.inr rfl)
    have z16 := b15.size
    have y17 := md11.size
    have bx18 := Box.new (w.alloc (.cells #[.int .i64 r0, .int .i64 s0, .slice A0 d0.length c0] 24)) #[.int .i64 r1, .int .i64 s1, .slice A1 d1.length c1] 24
    have y19 : (w.alloc (.cells #[.int .i64 r0, .int .i64 s0, .slice A0 d0.length c0] 24)).heap.size + 1 ≤ ((w.alloc (.cells #[.int .i64 r0, .int .i64 s0, .slice A0 d0.length c0] 24)).alloc (.cells #[.int .i64 r1, .int .i64 s1, .slice A1 d1.length c1] 24)).heap.size := (by simp)
    simp only [World.size_alloc, Nat.add_assoc, Nat.reduceAdd] at bx18
    have k20 := bx12.cell 0 rfl
    have k21 := bx12.cell 1 rfl
    have k22 := bx12.cell 2 rfl
    have k23 := bx18.cell 0 rfl
    have k24 := bx18.cell 1 rfl
    have k25 := bx18.cell 2 rfl
    go_wp2_with fail
    with_reducible refine (szGraph_any _ _ _ d0 _ 1048576 _ _l0 (by omega) (by omega)).mono ?_
    rintro e w1 ⟨rfl, md26⟩
    rw [E0.out]
    have bx27 := bx12.mid md26 (Or.inr (Nat.zero_le _))
    clear bx12
    have h28 := RG.mid h13 md26 (Or.inl (Nat.zero_le _))
    clear h13
    have bx29 := bx18.mid md26 (Or.inr (Nat.zero_le _))
    clear bx18
    have h30 := RG.mid h14 md26 (Or.inl (Nat.zero_le _))
    clear h14
    have b31 := below_mid b15 z16 md26 (Or.inr rfl)
    have z32 := b31.size
    have y33 := md26.size
    clear k20
    clear k21
    clear k22
    have k34 := bx27.cell 0 rfl
    have k35 := bx27.cell 1 rfl
    have k36 := bx27.cell 2 rfl
    clear k23
    clear k24
    clear k25
    have k37 := bx29.cell 0 rfl
    have k38 := bx29.cell 1 rfl
    have k39 := bx29.cell 2 rfl
    go_wp2_with fail
    go_ret
    exact ⟨rfl, b31⟩
  rw [hs0'] at hz0
  have hp0 : 0 ≤ z0 := by omega
  have hq0 : z0 ≤ 1048576 := by omega
  have hl0 : d0.length ≤ 1048576 := by omega
  clear hs0 hs0' hz0
  obtain ⟨z1, hz1⟩ : ∃ z, z = szI z0 d1.length := ⟨_, rfl⟩
  have E1 := Lib.hid hz1.symm
  rcases szI_case z0 d1.length with hs1 | ⟨hs1, hs1'⟩
  · obtain rfl : z1 = -1 := hz1.trans hs1
    clear hs1 hz1
    have hh40 := m0
    have hh41 := m1
    go_enter Try.func4, Try.ntmps4
    have md42 : Mid 0 0 w (w.alloc (.cells #[.int .i64 r0, .int .i64 s0, .slice A0 d0.length c0] 24)) := Mid.alloc _ _
    have h43 := RG.mid hh40 md42 (Or.inl (Nat.zero_le _))
    clear hh40
    have h44 := RG.mid hh41 md42 (Or.inl (Nat.zero_le _))
    clear hh41
    have b45 := below_mid (Below.refl w.heap.size w) (Nat.le_refl w.heap.size) md42 (Or.inr rfl)
    have z46 := b45.size
    have y47 := md42.size
    have bx48 := Box.new w #[.int .i64 r0, .int .i64 s0, .slice A0 d0.length c0] 24
    have y49 : w.heap.size + 1 ≤ (w.alloc (.cells #[.int .i64 r0, .int .i64 s0, .slice A0 d0.length c0] 24)).heap.size := (by simp)
    have md50 : Mid 0 0 (w.alloc (.cells #[.int .i64 r0, .int .i64 s0, .slice A0 d0.length c0] 24)) ((w.alloc (.cells #[.int .i64 r0, .int .i64 s0, .slice A0 d0.length c0] 24)).alloc (.cells #[.int .i64 r1, .int .i64 s1, .slice A1 d1.length c1] 24)) := Mid.alloc _ _
    have bx51 := bx48.mid md50 (Or.inr (Nat.zero_le _))
    clear bx48
    have h52 := RG.mid h43 md50 (Or.inl (Nat.zero_le _))
    clear h43
    have h53 := RG.mid h44 md50 (Or.inl (Nat.zero_le _))
    clear h44
    have b54 := below_mid b45 z46 md50 (Or.inr rfl)
    have z55 := b54.size
    have y56 := md50.size
    have bx57 := Box.new (w.alloc (.cells #[.int .i64 r0, .int .i64 s0, .slice A0 d0.length c0] 24)) #[.int .i64 r1, .int .i64 s1, .slice A1 d1.length c1] 24
    have y58 : (w.alloc (.cells #[.int .i64 r0, .int .i64 s0, .slice A0 d0.length c0] 24)).heap.size + 1 ≤ ((w.alloc (.cells #[.int .i64 r0, .int .i64 s0, .slice A0 d0.length c0] 24)).alloc (.cells #[.int .i64 r1, .int .i64 s1, .slice A1 d1.length c1] 24)).heap.size := (by simp)
    simp only [World.size_alloc, Nat.add_assoc, Nat.reduceAdd] at bx57
    have k59 := bx51.cell 0 rfl
    have k60 := bx51.cell 1 rfl
    have k61 := bx51.cell 2 rfl
    have k62 := bx57.cell 0 rfl
    have k63 := bx57.cell 1 rfl
    have k64 := bx57.cell 2 rfl
    go_wp2_with fail
    with_reducible refine (szGraph_any _ _ _ d0 _ 1048576 _ _l0 (by omega) (by omega)).mono ?_
    rintro e w2 ⟨rfl, md65⟩
    rw [E0.out]
    have bx66 := bx51.mid md65 (Or.inr (Nat.zero_le _))
    clear bx51
    have h67 := RG.mid h52 md65 (Or.inl (Nat.zero_le _))
    clear h52
    have bx68 := bx57.mid md65 (Or.inr (Nat.zero_le _))
    clear bx57
    have h69 := RG.mid h53 md65 (Or.inl (Nat.zero_le _))
    clear h53
    have b70 := below_mid b54 z55 md65 (Or.inr rfl)
    have z71 := b70.size
    have y72 := md65.size
    clear k59
    clear k60
    clear k61
    have k73 := bx66.cell 0 rfl
    have k74 := bx66.cell 1 rfl
    have k75 := bx66.cell 2 rfl
    clear k62
    clear k63
    clear k64
    have k76 := bx68.cell 0 rfl
    have k77 := bx68.cell 1 rfl
    have k78 := bx68.cell 2 rfl
    go_wp2_with fail
    with_reducible refine (szGraph_any _ _ _ d1 _ z0 _ _l1 (by omega) (by omega)).mono ?_
    rintro e w3 ⟨rfl, md79⟩
    rw [E1.out]
    have bx80 := bx66.mid md79 (Or.inr (Nat.zero_le _))
    clear bx66
    have h81 := RG.mid h67 md79 (Or.inl (Nat.zero_le _))
    clear h67
    have bx82 := bx68.mid md79 (Or.inr (Nat.zero_le _))
    clear bx68
    have h83 := RG.mid h69 md79 (Or.inl (Nat.zero_le _))
    clear h69
    have b84 := below_mid b70 z71 md79 (Or.inr rfl)
    have z85 := b84.size
    have y86 := md79.size
    clear k73
    clear k74
    clear k75
    have k87 := bx80.cell 0 rfl
    have k88 := bx80.cell 1 rfl
    have k89 := bx80.cell 2 rfl
    clear k76
    clear k77
    clear k78
    have k90 := bx82.cell 0 rfl
    have k91 := bx82.cell 1 rfl
    have k92 := bx82.cell 2 rfl
    go_wp2_with fail
    go_ret
    exact ⟨rfl, b84⟩
  rw [hs1'] at hz1
  have hp1 : 0 ≤ z1 := by omega
  have hq1 : z1 ≤ 1048576 := by omega
  have hl1 : d1.length ≤ 1048576 := by omega
  clear hs1 hs1' hz1
  obtain ⟨res0, HRES⟩ : ∃ res0, NeumannSumIs r0 s0 d0 r1 s1 d1 res0 := NeumannSumIs_ex r0 s0 d0 r1 s1 d1 hl0 hl1
  have HRES := Lib.hid HRES
  have hh93 := m0
  have hh94 := m1
  go_enter Try.func4, Try.ntmps4
  have md95 : Mid 0 0 w (w.alloc (.cells #[.int .i64 r0, .int .i64 s0, .slice A0 d0.length c0] 24)) := Mid.alloc _ _
  have h96 := RG.mid hh93 md95 (Or.inl (Nat.zero_le _))
  clear hh93
  have h97 := RG.mid hh94 md95 (Or.inl (Nat.zero_le _))
  clear hh94
  have b98 := below_mid (Below.refl w.heap.size w) (Nat.le_refl w.heap.size) md95 (Or.inr rfl)
  have z99 := b98.size
  have y100 := md95.size
  have bx101 := Box.new w #[.int .i64 r0, .int .i64 s0, .slice A0 d0.length c0] 24
  have y102 : w.heap.size + 1 ≤ (w.alloc (.cells #[.int .i64 r0, .int .i64 s0, .slice A0 d0.length c0] 24)).heap.size := (by simp)
  have md103 : Mid 0 0 (w.alloc (.cells #[.int .i64 r0, .int .i64 s0, .slice A0 d0.length c0] 24)) ((w.alloc (.cells #[.int .i64 r0, .int .i64 s0, .slice A0 d0.length c0] 24)).alloc (.cells #[.int .i64 r1, .int .i64 s1, .slice A1 d1.length c1] 24)) := Mid.alloc _ _
  have bx104 := bx101.mid md103 (Or.inr (Nat.zero_le _))
  clear bx101
  have h105 := RG.mid h96 md103 (Or.inl (Nat.zero_le _))
  clear h96
  have h106 := RG.mid h97 md103 (Or.inl (Nat.zero_le _))
  clear h97
  have b107 := below_mid b98 z99 md103 (Or.inr rfl)
  have z108 := b107.size
  have y109 := md103.size
  have bx110 := Box.new (w.alloc (.cells #[.int .i64 r0, .int .i64 s0, .slice A0 d0.length c0] 24)) #[.int .i64 r1, .int .i64 s1, .slice A1 d1.length c1] 24
  have y111 : (w.alloc (.cells #[.int .i64 r0, .int .i64 s0, .slice A0 d0.length c0] 24)).heap.size + 1 ≤ ((w.alloc (.cells #[.int .i64 r0, .int .i64 s0, .slice A0 d0.length c0] 24)).alloc (.cells #[.int .i64 r1, .int .i64 s1, .slice A1 d1.length c1] 24)).heap.size := (by simp)
  simp only [World.size_alloc, Nat.add_assoc, Nat.reduceAdd] at bx110
  have k112 := bx104.cell 0 rfl
  have k113 := bx104.cell 1 rfl
  have k114 := bx104.cell 2 rfl
  have k115 := bx110.cell 0 rfl
  have k116 := bx110.cell 1 rfl
  have k117 := bx110.cell 2 rfl
  go_wp2_with fail
  with_reducible refine (szGraph_any _ _ _ d0 _ 1048576 _ _l0 (by omega) (by omega)).mono ?_
  rintro e w4 ⟨rfl, md118⟩
  rw [E0.out]
  have bx119 := bx104.mid md118 (Or.inr (Nat.zero_le _))
  clear bx104
  have h120 := RG.mid h105 md118 (Or.inl (Nat.zero_le _))
  clear h105
  have bx121 := bx110.mid md118 (Or.inr (Nat.zero_le _))
  clear bx110
  have h122 := RG.mid h106 md118 (Or.inl (Nat.zero_le _))
  clear h106
  have b123 := below_mid b107 z108 md118 (Or.inr rfl)
  have z124 := b123.size
  have y125 := md118.size
  clear k112
  clear k113
  clear k114
  have k126 := bx119.cell 0 rfl
  have k127 := bx119.cell 1 rfl
  have k128 := bx119.cell 2 rfl
  clear k115
  clear k116
  clear k117
  have k129 := bx121.cell 0 rfl
  have k130 := bx121.cell 1 rfl
  have k131 := bx121.cell 2 rfl
  go_wp2_with fail
  with_reducible refine (szGraph_any _ _ _ d1 _ z0 _ _l1 (by omega) (by omega)).mono ?_
  rintro e w5 ⟨rfl, md132⟩
  rw [E1.out]
  have bx133 := bx119.mid md132 (Or.inr (Nat.zero_le _))
  clear bx119
  have h134 := RG.mid h120 md132 (Or.inl (Nat.zero_le _))
  clear h120
  have bx135 := bx121.mid md132 (Or.inr (Nat.zero_le _))
  clear bx121
  have h136 := RG.mid h122 md132 (Or.inl (Nat.zero_le _))
  clear h122
  have b137 := below_mid b123 z124 md132 (Or.inr rfl)
  have z138 := b137.size
  have y139 := md132.size
  clear k126
  clear k127
  clear k128
  have k140 := bx133.cell 0 rfl
  have k141 := bx133.cell 1 rfl
  have k142 := bx133.cell 2 rfl
  clear k129
  clear k130
  clear k131
  have k143 := bx135.cell 0 rfl
  have k144 := bx135.cell 1 rfl
  have k145 := bx135.cell 2 rfl
  go_wp2_with fail
  have md146 : Mid 0 0 w5 w5.drew := Mid.drew1 _
  have bx147 := bx133.mid md146 (Or.inr (Nat.zero_le _))
  have h148 := RG.mid h134 md146 (Or.inl (Nat.zero_le _))
  have bx149 := bx135.mid md146 (Or.inr (Nat.zero_le _))
  have h150 := RG.mid h136 md146 (Or.inl (Nat.zero_le _))
  have b151 := below_mid b137 z138 md146 (Or.inr rfl)
  have z152 := b151.size
  have y153 := md146.size
  have k154 := bx147.cell 0 rfl
  have k155 := bx147.cell 1 rfl
  have k156 := bx147.cell 2 rfl
  have k157 := bx149.cell 0 rfl
  have k158 := bx149.cell 1 rfl
  have k159 := bx149.cell 2 rfl
  go_region_held3 (fun w' => w'.cell? ⟨w.heap.size, 0, none⟩ = some (.int .i64 r0) ∧ w'.cell? ⟨w.heap.size, 1, none⟩ = some (.int .i64 s0) ∧ w'.cell? ⟨w.heap.size, 2, none⟩ = some (.slice A0 d0.length c0) ∧ w'.cell? ⟨w.heap.size + 1, 0, none⟩ = some (.int .i64 r1) ∧ w'.cell? ⟨w.heap.size + 1, 1, none⟩ = some (.int .i64 s1) ∧ w'.cell? ⟨w.heap.size + 1, 2, none⟩ = some (.slice A1 d1.length c1)) (first | exact ⟨k140, k141, k142, k143, k144, k145⟩ | exact ⟨k154, k155, k156, k157, k158, k159⟩ | exact ⟨k171, k172, k173, k174, k175, k176⟩ | exact ⟨k189, k190, k191, k192, k193, k194⟩ | exact ⟨k206, k207, k208, k209, k210, k211⟩) (first | (go_at_call 11; with_reducible refine (toGraph_any r0 s0 _ d0 _ _ _ _ h148 hl0).mono ?_; rintro e w6 ⟨AA160, cc161, rfl, h162, md163⟩; have bx164 := bx147.mid md163 (Or.inr (Nat.zero_le _)); have h165 := RG.mid h148 md163 (Or.inl (Nat.zero_le _)); have bx166 := bx149.mid md163 (Or.inr (Nat.zero_le _)); have h167 := RG.mid h150 md163 (Or.inl (Nat.zero_le _)); have b168 := below_mid b151 z152 md163 (Or.inr rfl); have z169 := b168.size; have y170 := md163.size; have k171 := bx164.cell 0 rfl; have k172 := bx164.cell 1 rfl; have k173 := bx164.cell 2 rfl; have k174 := bx166.cell 0 rfl; have k175 := bx166.cell 1 rfl; have k176 := bx166.cell 2 rfl) | (go_at_call 11; with_reducible refine (toGraph_any r1 s1 _ d1 _ _ _ _ h167 hl1).mono ?_; rintro e w7 ⟨AA177, cc178, rfl, h179, md180⟩; have bx181 := bx164.mid md180 (Or.inr (Nat.zero_le _)); have h182 := RG.mid h165 md180 (Or.inl (Nat.zero_le _)); have bx183 := bx166.mid md180 (Or.inr (Nat.zero_le _)); have h184 := RG.mid h167 md180 (Or.inl (Nat.zero_le _)); have h185 := OG.mid h162 md180 (Or.inl (Nat.zero_le _)); have b186 := below_mid b168 z169 md180 (Or.inr rfl); have z187 := b186.size; have y188 := md180.size; have k189 := bx181.cell 0 rfl; have k190 := bx181.cell 1 rfl; have k191 := bx181.cell 2 rfl; have k192 := bx183.cell 0 rfl; have k193 := bx183.cell 1 rfl; have k194 := bx183.cell 2 rfl) | (go_at_call 16; with_reducible refine (sspec_NeumannSum r0 s0 _ d0 _ r1 s1 _ d1 _ _ _ _ h185  hl0 _ _ h179  hl1 res0 HRES.out).mono ?_; rintro e w8 ⟨rfl, md195⟩; have bx197 := bx181.mid md195 (Or.inr (Nat.zero_le _)); have h198 := RG.mid h182 md195 (Or.inl (Nat.zero_le _)); have bx199 := bx183.mid md195 (Or.inr (Nat.zero_le _)); have h200 := RG.mid h184 md195 (Or.inl (Nat.zero_le _)); have h201 := OG.mid h185 md195 (Or.inl (Nat.zero_le _)); have h202 := OG.mid h179 md195 (Or.inl (Nat.zero_le _)); have b203 := below_mid b186 z187 md195 (Or.inr rfl); have z204 := b203.size; have y205 := md195.size; have k206 := bx197.cell 0 rfl; have k207 := bx197.cell 1 rfl; have k208 := bx197.cell 2 rfl; have k209 := bx199.cell 0 rfl; have k210 := bx199.cell 1 rfl; have k211 := bx199.cell 2 rfl))
  go_wp2_with fail
  with_reducible refine (toGraph_any r0 s0 _ d0 _ _ _ _ h198 hl0).mono ?_
  rintro e w9 ⟨AA212, cc213, rfl, h214, md215⟩
  have bx216 := bx197.mid md215 (Or.inr (Nat.zero_le _))
  clear bx197
  have h217 := RG.mid h198 md215 (Or.inl (Nat.zero_le _))
  clear h198
  have bx218 := bx199.mid md215 (Or.inr (Nat.zero_le _))
  clear bx199
  have h219 := RG.mid h200 md215 (Or.inl (Nat.zero_le _))
  clear h200
  have b220 := below_mid b203 z204 md215 (Or.inr rfl)
  have z221 := b220.size
  have y222 := md215.size
  clear k206
  clear k207
  clear k208
  have k223 := bx216.cell 0 rfl
  have k224 := bx216.cell 1 rfl
  have k225 := bx216.cell 2 rfl
  clear k209
  clear k210
  clear k211
  have k226 := bx218.cell 0 rfl
  have k227 := bx218.cell 1 rfl
  have k228 := bx218.cell 2 rfl
  have md229 : Mid 0 0 w9 (w9.alloc (.cells #[.int .i64 r0, .int .i64 s0, .slice AA212 d0.length cc213] 28)) := Mid.alloc _ _
  have bx230 := bx216.mid md229 (Or.inr (Nat.zero_le _))
  clear bx216
  have h231 := RG.mid h217 md229 (Or.inl (Nat.zero_le _))
  clear h217
  have bx232 := bx218.mid md229 (Or.inr (Nat.zero_le _))
  clear bx218
  have h233 := RG.mid h219 md229 (Or.inl (Nat.zero_le _))
  clear h219
  have h234 := OG.mid h214 md229 (Or.inl (Nat.zero_le _))
  clear h214
  have b235 := below_mid b220 z221 md229 (Or.inr rfl)
  have z236 := b235.size
  have y237 := md229.size
  have bx238 := Box.new w9 #[.int .i64 r0, .int .i64 s0, .slice AA212 d0.length cc213] 28
  have y239 : w9.heap.size + 1 ≤ (w9.alloc (.cells #[.int .i64 r0, .int .i64 s0, .slice AA212 d0.length cc213] 28)).heap.size := (by simp)
  clear k223
  clear k224
  clear k225
  have k240 := bx230.cell 0 rfl
  have k241 := bx230.cell 1 rfl
  have k242 := bx230.cell 2 rfl
  clear k226
  clear k227
  clear k228
  have k243 := bx232.cell 0 rfl
  have k244 := bx232.cell 1 rfl
  have k245 := bx232.cell 2 rfl
  have k246 := bx238.cell 0 rfl
  have k247 := bx238.cell 1 rfl
  have k248 := bx238.cell 2 rfl
  go_wp2_with fail
  with_reducible refine (toGraph_any r1 s1 _ d1 _ _ _ _ h233 hl1).mono ?_
  rintro e w10 ⟨AA249, cc250, rfl, h251, md252⟩
  have bx253 := bx230.mid md252 (Or.inr (Nat.zero_le _))
  clear bx230
  have h254 := RG.mid h231 md252 (Or.inl (Nat.zero_le _))
  clear h231
  have bx255 := bx232.mid md252 (Or.inr (Nat.zero_le _))
  clear bx232
  have h256 := RG.mid h233 md252 (Or.inl (Nat.zero_le _))
  clear h233
  have bx257 := bx238.mid md252 (Or.inr (Nat.zero_le _))
  clear bx238
  have h258 := OG.mid h234 md252 (Or.inl (Nat.zero_le _))
  clear h234
  have b259 := below_mid b235 z236 md252 (Or.inr rfl)
  have z260 := b259.size
  have y261 := md252.size
  clear k240
  clear k241
  clear k242
  have k262 := bx253.cell 0 rfl
  have k263 := bx253.cell 1 rfl
  have k264 := bx253.cell 2 rfl
  clear k243
  clear k244
  clear k245
  have k265 := bx255.cell 0 rfl
  have k266 := bx255.cell 1 rfl
  have k267 := bx255.cell 2 rfl
  clear k246
  clear k247
  clear k248
  have k268 := bx257.cell 0 rfl
  have k269 := bx257.cell 1 rfl
  have k270 := bx257.cell 2 rfl
  have md271 : Mid 0 0 w10 (w10.alloc (.cells #[.int .i64 r1, .int .i64 s1, .slice AA249 d1.length cc250] 28)) := Mid.alloc _ _
  have bx272 := bx253.mid md271 (Or.inr (Nat.zero_le _))
  clear bx253
  have h273 := RG.mid h254 md271 (Or.inl (Nat.zero_le _))
  clear h254
  have bx274 := bx255.mid md271 (Or.inr (Nat.zero_le _))
  clear bx255
  have h275 := RG.mid h256 md271 (Or.inl (Nat.zero_le _))
  clear h256
  have bx276 := bx257.mid md271 (Or.inr (Nat.zero_le _))
  clear bx257
  have h277 := OG.mid h258 md271 (Or.inl (Nat.zero_le _))
  clear h258
  have h278 := OG.mid h251 md271 (Or.inl (Nat.zero_le _))
  clear h251
  have b279 := below_mid b259 z260 md271 (Or.inr rfl)
  have z280 := b279.size
  have y281 := md271.size
  have bx282 := Box.new w10 #[.int .i64 r1, .int .i64 s1, .slice AA249 d1.length cc250] 28
  have y283 : w10.heap.size + 1 ≤ (w10.alloc (.cells #[.int .i64 r1, .int .i64 s1, .slice AA249 d1.length cc250] 28)).heap.size := (by simp)
  clear k262
  clear k263
  clear k264
  have k284 := bx272.cell 0 rfl
  have k285 := bx272.cell 1 rfl
  have k286 := bx272.cell 2 rfl
  clear k265
  clear k266
  clear k267
  have k287 := bx274.cell 0 rfl
  have k288 := bx274.cell 1 rfl
  have k289 := bx274.cell 2 rfl
  clear k268
  clear k269
  clear k270
  have k290 := bx276.cell 0 rfl
  have k291 := bx276.cell 1 rfl
  have k292 := bx276.cell 2 rfl
  have k293 := bx282.cell 0 rfl
  have k294 := bx282.cell 1 rfl
  have k295 := bx282.cell 2 rfl
  go_wp2_with fail
  with_reducible refine (simpl_NeumannSum r0 s0 _ d0 _ r1 s1 _ d1 _ _ _ _ h277  hl0 _ _ h278  hl1 res0 HRES.out).mono ?_
  rintro e w11 ⟨rfl, md296⟩
  have bx298 := bx272.mid md296 (Or.inr (Nat.zero_le _))
  clear bx272
  have h299 := RG.mid h273 md296 (Or.inl (Nat.zero_le _))
  clear h273
  have bx300 := bx274.mid md296 (Or.inr (Nat.zero_le _))
  clear bx274
  have h301 := RG.mid h275 md296 (Or.inl (Nat.zero_le _))
  clear h275
  have bx302 := bx276.mid md296 (Or.inr (Nat.zero_le _))
  clear bx276
  have h303 := OG.mid h277 md296 (Or.inl (Nat.zero_le _))
  clear h277
  have bx304 := bx282.mid md296 (Or.inr (Nat.zero_le _))
  clear bx282
  have h305 := OG.mid h278 md296 (Or.inl (Nat.zero_le _))
  clear h278
  have b306 := below_mid b279 z280 md296 (Or.inr rfl)
  have z307 := b306.size
  have y308 := md296.size
  clear k284
  clear k285
  clear k286
  have k309 := bx298.cell 0 rfl
  have k310 := bx298.cell 1 rfl
  have k311 := bx298.cell 2 rfl
  clear k287
  clear k288
  clear k289
  have k312 := bx300.cell 0 rfl
  have k313 := bx300.cell 1 rfl
  have k314 := bx300.cell 2 rfl
  clear k290
  clear k291
  clear k292
  have k315 := bx302.cell 0 rfl
  have k316 := bx302.cell 1 rfl
  have k317 := bx302.cell 2 rfl
  clear k293
  clear k294
  clear k295
  have k318 := bx304.cell 0 rfl
  have k319 := bx304.cell 1 rfl
  have k320 := bx304.cell 2 rfl
  go_wp2_with fail
  have md321 : Mid 0 0 w11 w11.drew := Mid.drew1 _
  have bx322 := bx298.mid md321 (Or.inr (Nat.zero_le _))
  have h323 := RG.mid h299 md321 (Or.inl (Nat.zero_le _))
  have bx324 := bx300.mid md321 (Or.inr (Nat.zero_le _))
  have h325 := RG.mid h301 md321 (Or.inl (Nat.zero_le _))
  have bx326 := bx302.mid md321 (Or.inr (Nat.zero_le _))
  have h327 := OG.mid h303 md321 (Or.inl (Nat.zero_le _))
  have bx328 := bx304.mid md321 (Or.inr (Nat.zero_le _))
  have h329 := OG.mid h305 md321 (Or.inl (Nat.zero_le _))
  have b330 := below_mid b306 z307 md321 (Or.inr rfl)
  have z331 := b330.size
  have y332 := md321.size
  have k333 := bx322.cell 0 rfl
  have k334 := bx322.cell 1 rfl
  have k335 := bx322.cell 2 rfl
  have k336 := bx324.cell 0 rfl
  have k337 := bx324.cell 1 rfl
  have k338 := bx324.cell 2 rfl
  have k339 := bx326.cell 0 rfl
  have k340 := bx326.cell 1 rfl
  have k341 := bx326.cell 2 rfl
  have k342 := bx328.cell 0 rfl
  have k343 := bx328.cell 1 rfl
  have k344 := bx328.cell 2 rfl
  go_region_held3 (fun w' => w'.cell? ⟨w9.heap.size, 0, none⟩ = some (.int .i64 r0) ∧ w'.cell? ⟨w9.heap.size, 1, none⟩ = some (.int .i64 s0) ∧ w'.cell? ⟨w9.heap.size, 2, none⟩ = some (.slice AA212 d0.length cc213) ∧ w'.cell? ⟨w.heap.size, 0, none⟩ = some (.int .i64 r0) ∧ w'.cell? ⟨w.heap.size, 1, none⟩ = some (.int .i64 s0) ∧ w'.cell? ⟨w.heap.size, 2, none⟩ = some (.slice A0 d0.length c0)) (first | exact ⟨k315, k316, k317, k309, k310, k311⟩ | exact ⟨k339, k340, k341, k333, k334, k335⟩ | exact ⟨k366, k367, k368, k360, k361, k362⟩ | exact ⟨k391, k392, k393, k385, k386, k387⟩) (first | (go_at_call 11; with_reducible refine (toGraph_any r0 s0 _ d0 _ _ _ _ h323 hl0).mono ?_; rintro e w12 ⟨AA345, cc346, rfl, h347, md348⟩; have bx349 := bx322.mid md348 (Or.inr (Nat.zero_le _)); have h350 := RG.mid h323 md348 (Or.inl (Nat.zero_le _)); have bx351 := bx324.mid md348 (Or.inr (Nat.zero_le _)); have h352 := RG.mid h325 md348 (Or.inl (Nat.zero_le _)); have bx353 := bx326.mid md348 (Or.inr (Nat.zero_le _)); have h354 := OG.mid h327 md348 (Or.inl (Nat.zero_le _)); have bx355 := bx328.mid md348 (Or.inr (Nat.zero_le _)); have h356 := OG.mid h329 md348 (Or.inl (Nat.zero_le _)); have b357 := below_mid b330 z331 md348 (Or.inr rfl); have z358 := b357.size; have y359 := md348.size; have k360 := bx349.cell 0 rfl; have k361 := bx349.cell 1 rfl; have k362 := bx349.cell 2 rfl; have k363 := bx351.cell 0 rfl; have k364 := bx351.cell 1 rfl; have k365 := bx351.cell 2 rfl; have k366 := bx353.cell 0 rfl; have k367 := bx353.cell 1 rfl; have k368 := bx353.cell 2 rfl; have k369 := bx355.cell 0 rfl; have k370 := bx355.cell 1 rfl; have k371 := bx355.cell 2 rfl) | (go_at_call 13; with_reducible refine (eqGraph_same _ _ _ _ d0 _ _ _ _ _ _ _ (OG.rg h354) (OG.rg h347) hl0).mono ?_; rintro e w13 ⟨rfl, md372⟩; have bx373 := bx349.mid md372 (Or.inr (Nat.zero_le _)); have h374 := RG.mid h350 md372 (Or.inl (Nat.zero_le _)); have bx375 := bx351.mid md372 (Or.inr (Nat.zero_le _)); have h376 := RG.mid h352 md372 (Or.inl (Nat.zero_le _)); have bx377 := bx353.mid md372 (Or.inr (Nat.zero_le _)); have h378 := OG.mid h354 md372 (Or.inl (Nat.zero_le _)); have bx379 := bx355.mid md372 (Or.inr (Nat.zero_le _)); have h380 := OG.mid h356 md372 (Or.inl (Nat.zero_le _)); have h381 := OG.mid h347 md372 (Or.inl (Nat.zero_le _)); have b382 := below_mid b357 z358 md372 (Or.inr rfl); have z383 := b382.size; have y384 := md372.size; have k385 := bx373.cell 0 rfl; have k386 := bx373.cell 1 rfl; have k387 := bx373.cell 2 rfl; have k388 := bx375.cell 0 rfl; have k389 := bx375.cell 1 rfl; have k390 := bx375.cell 2 rfl; have k391 := bx377.cell 0 rfl; have k392 := bx377.cell 1 rfl; have k393 := bx377.cell 2 rfl; have k394 := bx379.cell 0 rfl; have k395 := bx379.cell 1 rfl; have k396 := bx379.cell 2 rfl))
  go_wp2_with fail
  have md397 : Mid 0 0 w13 w13.drew := Mid.drew1 _
  have bx398 := bx373.mid md397 (Or.inr (Nat.zero_le _))
  have h399 := RG.mid h374 md397 (Or.inl (Nat.zero_le _))
  have bx400 := bx375.mid md397 (Or.inr (Nat.zero_le _))
  have h401 := RG.mid h376 md397 (Or.inl (Nat.zero_le _))
  have bx402 := bx377.mid md397 (Or.inr (Nat.zero_le _))
  have h403 := OG.mid h378 md397 (Or.inl (Nat.zero_le _))
  have bx404 := bx379.mid md397 (Or.inr (Nat.zero_le _))
  have h405 := OG.mid h380 md397 (Or.inl (Nat.zero_le _))
  have b406 := below_mid b382 z383 md397 (Or.inr rfl)
  have z407 := b406.size
  have y408 := md397.size
  have k409 := bx398.cell 0 rfl
  have k410 := bx398.cell 1 rfl
  have k411 := bx398.cell 2 rfl
  have k412 := bx400.cell 0 rfl
  have k413 := bx400.cell 1 rfl
  have k414 := bx400.cell 2 rfl
  have k415 := bx402.cell 0 rfl
  have k416 := bx402.cell 1 rfl
  have k417 := bx402.cell 2 rfl
  have k418 := bx404.cell 0 rfl
  have k419 := bx404.cell 1 rfl
  have k420 := bx404.cell 2 rfl
  go_region_held3 (fun w' => w'.cell? ⟨w10.heap.size, 0, none⟩ = some (.int .i64 r1) ∧ w'.cell? ⟨w10.heap.size, 1, none⟩ = some (.int .i64 s1) ∧ w'.cell? ⟨w10.heap.size, 2, none⟩ = some (.slice AA249 d1.length cc250) ∧ w'.cell? ⟨w.heap.size + 1, 0, none⟩ = some (.int .i64 r1) ∧ w'.cell? ⟨w.heap.size + 1, 1, none⟩ = some (.int .i64 s1) ∧ w'.cell? ⟨w.heap.size + 1, 2, none⟩ = some (.slice A1 d1.length c1)) (first | exact ⟨k394, k395, k396, k388, k389, k390⟩ | exact ⟨k418, k419, k420, k412, k413, k414⟩ | exact ⟨k445, k446, k447, k439, k440, k441⟩ | exact ⟨k470, k471, k472, k464, k465, k466⟩) (first | (go_at_call 11; with_reducible refine (toGraph_any r1 s1 _ d1 _ _ _ _ h401 hl1).mono ?_; rintro e w14 ⟨AA421, cc422, rfl, h423, md424⟩; have bx425 := bx398.mid md424 (Or.inr (Nat.zero_le _)); have h426 := RG.mid h399 md424 (Or.inl (Nat.zero_le _)); have bx427 := bx400.mid md424 (Or.inr (Nat.zero_le _)); have h428 := RG.mid h401 md424 (Or.inl (Nat.zero_le _)); have bx429 := bx402.mid md424 (Or.inr (Nat.zero_le _)); have h430 := OG.mid h403 md424 (Or.inl (Nat.zero_le _)); have bx431 := bx404.mid md424 (Or.inr (Nat.zero_le _)); have h432 := OG.mid h405 md424 (Or.inl (Nat.zero_le _)); have b433 := below_mid b406 z407 md424 (Or.inr rfl); have z434 := b433.size; have y435 := md424.size; have k436 := bx425.cell 0 rfl; have k437 := bx425.cell 1 rfl; have k438 := bx425.cell 2 rfl; have k439 := bx427.cell 0 rfl; have k440 := bx427.cell 1 rfl; have k441 := bx427.cell 2 rfl; have k442 := bx429.cell 0 rfl; have k443 := bx429.cell 1 rfl; have k444 := bx429.cell 2 rfl; have k445 := bx431.cell 0 rfl; have k446 := bx431.cell 1 rfl; have k447 := bx431.cell 2 rfl) | (go_at_call 13; with_reducible refine (eqGraph_same _ _ _ _ d1 _ _ _ _ _ _ _ (OG.rg h432) (OG.rg h423) hl1).mono ?_; rintro e w15 ⟨rfl, md448⟩; have bx449 := bx425.mid md448 (Or.inr (Nat.zero_le _)); have h450 := RG.mid h426 md448 (Or.inl (Nat.zero_le _)); have bx451 := bx427.mid md448 (Or.inr (Nat.zero_le _)); have h452 := RG.mid h428 md448 (Or.inl (Nat.zero_le _)); have bx453 := bx429.mid md448 (Or.inr (Nat.zero_le _)); have h454 := OG.mid h430 md448 (Or.inl (Nat.zero_le _)); have bx455 := bx431.mid md448 (Or.inr (Nat.zero_le _)); have h456 := OG.mid h432 md448 (Or.inl (Nat.zero_le _)); have h457 := OG.mid h423 md448 (Or.inl (Nat.zero_le _)); have b458 := below_mid b433 z434 md448 (Or.inr rfl); have z459 := b458.size; have y460 := md448.size; have k461 := bx449.cell 0 rfl; have k462 := bx449.cell 1 rfl; have k463 := bx449.cell 2 rfl; have k464 := bx451.cell 0 rfl; have k465 := bx451.cell 1 rfl; have k466 := bx451.cell 2 rfl; have k467 := bx453.cell 0 rfl; have k468 := bx453.cell 1 rfl; have k469 := bx453.cell 2 rfl; have k470 := bx455.cell 0 rfl; have k471 := bx455.cell 1 rfl; have k472 := bx455.cell 2 rfl))
  go_wp2_with fail
  go_ret
  exact ⟨rfl, b458⟩
end Go.Proofs.Ytimmnnncgnnkgaa
