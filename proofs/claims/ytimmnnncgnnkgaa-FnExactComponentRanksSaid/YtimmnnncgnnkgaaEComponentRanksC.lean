
import Derived.Test.YtimmnnncgnnkgaaPk6
import Derived.Deep.RegionHeld3
import Derived.Deep.DeepCutAuto

/- The walk of the law FnExactComponentRanks: it returns true at every input, and turns nothing that was there. -/
namespace Go.Proofs.Ytimmnnncgnnkgaa
open Go.RowKit
set_option linter.unusedVariables false
set_option linter.unusedSimpArgs false

theorem frz_ComponentRanks {w : World} {b : Nat} {cs : List Value} (h : Box w b cs) : ∀ i, w.frozen? ⟨b, i, none⟩ = false := h.2.2
set_option maxRecDepth 100000 in
set_option maxHeartbeats 8000000 in
theorem walk_ComponentRanks (r0 s0 : Int) (A0 : Option Addr) (d0 : List Ed) (c0 : Nat) (r1 s1 : Int) (A1 : Option Addr) (d1 : List Ed) (c1 : Nat) (w : World) (_b0 : (Lit.int .i64 r0).wf = true) (_e0 : (Lit.int .i64 s0).wf = true) (m0 : RG w 0 w.heap.size A0 d0) (_o0 : OkI (edI d0)) (_l0 : d0.length ≤ 9223372036854775807) (_b1 : (Lit.int .i64 r1).wf = true) (_e1 : (Lit.int .i64 s1).wf = true) (m1 : RG w 0 w.heap.size A1 d1) (_o1 : OkI (edI d1)) (_l1 : d1.length ≤ 9223372036854775807) :
    Calls Try.prog 5 #[.agg #[.int .i64 r0, .int .i64 s0, .slice A0 d0.length c0], .agg #[.int .i64 r1, .int .i64 s1, .slice A1 d1.length c1]] w fun e w' => e = .returned (.bool true) ∧ Below w.heap.size w w' := by
  obtain ⟨z0, hz0⟩ : ∃ z, z = szI 1048576 d0.length := ⟨_, rfl⟩
  have E0 := Lib.hid hz0.symm
  rcases szI_case 1048576 d0.length with hs0 | ⟨hs0, hs0'⟩
  · obtain rfl : z0 = -1 := hz0.trans hs0
    clear hs0 hz0
    have hh1 := m0
    have hh2 := m1
    go_enter Try.func5, Try.ntmps5
    have md3 : Mid 0 0 w (w.alloc (.cells #[.int .i64 r0, .int .i64 s0, .slice A0 d0.length c0] 24)) := Mid.alloc _ _
    have h4 := RG.mid hh1 md3 (Or.inl (Nat.zero_le _))
    clear hh1
    have h5 := RG.mid hh2 md3 (Or.inl (Nat.zero_le _))
    clear hh2
    have b6 := below_mid (Below.refl w.heap.size w) (Nat.le_refl w.heap.size) md3 (Or.inr rfl)
    have z7 := b6.size
    have y8 := md3.size
    have bx9 := Box.new w #[.int .i64 r0, .int .i64 s0, .slice A0 d0.length c0] 24
    have y10 : w.heap.size + 1 ≤ (w.alloc (.cells #[.int .i64 r0, .int .i64 s0, .slice A0 d0.length c0] 24)).heap.size := (by simp)
    have md11 : Mid 0 0 (w.alloc (.cells #[.int .i64 r0, .int .i64 s0, .slice A0 d0.length c0] 24)) ((w.alloc (.cells #[.int .i64 r0, .int .i64 s0, .slice A0 d0.length c0] 24)).alloc (.cells #[.int .i64 r1, .int .i64 s1, .slice A1 d1.length c1] 24)) := Mid.alloc _ _
    have bx12 := bx9.mid md11 (Or.inr (Nat.zero_le _))
    clear bx9
    have h13 := RG.mid h4 md11 (Or.inl (Nat.zero_le _))
    clear h4
    have h14 := RG.mid h5 md11 (Or.inl (Nat.zero_le _))
    clear h5
    have b15 := below_mid b6 z7 md11 (Or.inr rfl)
    have z16 := b15.size
    have y17 := md11.size
    have bx18 := Box.new (w.alloc (.cells #[.int .i64 r0, .int .i64 s0, .slice A0 d0.length c0] 24)) #[.int .i64 r1, .int .i64 s1, .slice A1 d1.length c1] 24
    have y19 : (w.alloc (.cells #[.int .i64 r0, .int .i64 s0, .slice A0 d0.length c0] 24)).heap.size + 1 ≤ ((w.alloc (.cells #[.int .i64 r0, .int .i64 s0, .slice A0 d0.length c0] 24)).alloc (.cells #[.int .i64 r1, .int .i64 s1, .slice A1 d1.length c1] 24)).heap.size := (by simp)
    simp only [World.size_alloc, Nat.add_assoc, Nat.reduceAdd] at bx18
    have k20 := bx12.cell 0 rfl
    have k21 := bx12.cell 1 rfl
    have k22 := bx12.cell 2 rfl
    have k23 := bx18.cell 0 rfl
    have k24 := bx18.cell 1 rfl
    have k25 := bx18.cell 2 rfl
    go_wp2_with fail
    with_reducible refine (szGraph_any _ _ _ d0 _ 1048576 _ _l0 (by omega) (by omega)).mono ?_
    rintro e w1 ⟨rfl, md26⟩
    rw [E0.out]
    have bx27 := bx12.mid md26 (Or.inr (Nat.zero_le _))
    clear bx12
    have h28 := RG.mid h13 md26 (Or.inl (Nat.zero_le _))
    clear h13
    have bx29 := bx18.mid md26 (Or.inr (Nat.zero_le _))
    clear bx18
    have h30 := RG.mid h14 md26 (Or.inl (Nat.zero_le _))
    clear h14
    have b31 := below_mid b15 z16 md26 (Or.inr rfl)
    have z32 := b31.size
    have y33 := md26.size
    clear k20
    clear k21
    clear k22
    have k34 := bx27.cell 0 rfl
    have k35 := bx27.cell 1 rfl
    have k36 := bx27.cell 2 rfl
    clear k23
    clear k24
    clear k25
    have k37 := bx29.cell 0 rfl
    have k38 := bx29.cell 1 rfl
    have k39 := bx29.cell 2 rfl
    go_wp2_with fail
    go_ret
    exact ⟨rfl, b31⟩
  rw [hs0'] at hz0
  have hp0 : 0 ≤ z0 := by omega
  have hq0 : z0 ≤ 1048576 := by omega
  have hl0 : d0.length ≤ 1048576 := by omega
  clear hs0 hs0' hz0
  obtain ⟨z1, hz1⟩ : ∃ z, z = szI z0 d1.length := ⟨_, rfl⟩
  have E1 := Lib.hid hz1.symm
  rcases szI_case z0 d1.length with hs1 | ⟨hs1, hs1'⟩
  · obtain rfl : z1 = -1 := hz1.trans hs1
    clear hs1 hz1
    have hh40 := m0
    have hh41 := m1
    go_enter Try.func5, Try.ntmps5
    have md42 : Mid 0 0 w (w.alloc (.cells #[.int .i64 r0, .int .i64 s0, .slice A0 d0.length c0] 24)) := Mid.alloc _ _
    have h43 := RG.mid hh40 md42 (Or.inl (Nat.zero_le _))
    clear hh40
    have h44 := RG.mid hh41 md42 (Or.inl (Nat.zero_le _))
    clear hh41
    have b45 := below_mid (Below.refl w.heap.size w) (Nat.le_refl w.heap.size) md42 (Or.inr rfl)
    have z46 := b45.size
    have y47 := md42.size
    have bx48 := Box.new w #[.int .i64 r0, .int .i64 s0, .slice A0 d0.length c0] 24
    have y49 : w.heap.size + 1 ≤ (w.alloc (.cells #[.int .i64 r0, .int .i64 s0, .slice A0 d0.length c0] 24)).heap.size := (by simp)
    have md50 : Mid 0 0 (w.alloc (.cells #[.int .i64 r0, .int .i64 s0, .slice A0 d0.length c0] 24)) ((w.alloc (.cells #[.int .i64 r0, .int .i64 s0, .slice A0 d0.length c0] 24)).alloc (.cells #[.int .i64 r1, .int .i64 s1, .slice A1 d1.length c1] 24)) := Mid.alloc _ _
    have bx51 := bx48.mid md50 (Or.inr (Nat.zero_le _))
    clear bx48
    have h52 := RG.mid h43 md50 (Or.inl (Nat.zero_le _))
    clear h43
    have h53 := RG.mid h44 md50 (Or.inl (Nat.zero_le _))
    clear h44
    have b54 := below_mid b45 z46 md50 (Or.inr rfl)
    have z55 := b54.size
    have y56 := md50.size
    have bx57 := Box.new (w.alloc (.cells #[.int .i64 r0, .int .i64 s0, .slice A0 d0.length c0] 24)) #[.int .i64 r1, .int .i64 s1, .slice A1 d1.length c1] 24
    have y58 : (w.alloc (.cells #[.int .i64 r0, .int .i64 s0, .slice A0 d0.length c0] 24)).heap.size + 1 ≤ ((w.alloc (.cells #[.int .i64 r0, .int .i64 s0, .slice A0 d0.length c0] 24)).alloc (.cells #[.int .i64 r1, .int .i64 s1, .slice A1 d1.length c1] 24)).heap.size := (by simp)
    simp only [World.size_alloc, Nat.add_assoc, Nat.reduceAdd] at bx57
    have k59 := bx51.cell 0 rfl
    have k60 := bx51.cell 1 rfl
    have k61 := bx51.cell 2 rfl
    have k62 := bx57.cell 0 rfl
    have k63 := bx57.cell 1 rfl
    have k64 := bx57.cell 2 rfl
    go_wp2_with fail
    with_reducible refine (szGraph_any _ _ _ d0 _ 1048576 _ _l0 (by omega) (by omega)).mono ?_
    rintro e w2 ⟨rfl, md65⟩
    rw [E0.out]
    have bx66 := bx51.mid md65 (Or.inr (Nat.zero_le _))
    clear bx51
    have h67 := RG.mid h52 md65 (Or.inl (Nat.zero_le _))
    clear h52
    have bx68 := bx57.mid md65 (Or.inr (Nat.zero_le _))
    clear bx57
    have h69 := RG.mid h53 md65 (Or.inl (Nat.zero_le _))
    clear h53
    have b70 := below_mid b54 z55 md65 (Or.inr rfl)
    have z71 := b70.size
    have y72 := md65.size
    clear k59
    clear k60
    clear k61
    have k73 := bx66.cell 0 rfl
    have k74 := bx66.cell 1 rfl
    have k75 := bx66.cell 2 rfl
    clear k62
    clear k63
    clear k64
    have k76 := bx68.cell 0 rfl
    have k77 := bx68.cell 1 rfl
    have k78 := bx68.cell 2 rfl
    go_wp2_with fail
    with_reducible refine (szGraph_any _ _ _ d1 _ z0 _ _l1 (by omega) (by omega)).mono ?_
    rintro e w3 ⟨rfl, md79⟩
    rw [E1.out]
    have bx80 := bx66.mid md79 (Or.inr (Nat.zero_le _))
    clear bx66
    have h81 := RG.mid h67 md79 (Or.inl (Nat.zero_le _))
    clear h67
    have bx82 := bx68.mid md79 (Or.inr (Nat.zero_le _))
    clear bx68
    have h83 := RG.mid h69 md79 (Or.inl (Nat.zero_le _))
    clear h69
    have b84 := below_mid b70 z71 md79 (Or.inr rfl)
    have z85 := b84.size
    have y86 := md79.size
    clear k73
    clear k74
    clear k75
    have k87 := bx80.cell 0 rfl
    have k88 := bx80.cell 1 rfl
    have k89 := bx80.cell 2 rfl
    clear k76
    clear k77
    clear k78
    have k90 := bx82.cell 0 rfl
    have k91 := bx82.cell 1 rfl
    have k92 := bx82.cell 2 rfl
    go_wp2_with fail
    go_ret
    exact ⟨rfl, b84⟩
  rw [hs1'] at hz1
  have hp1 : 0 ≤ z1 := by omega
  have hq1 : z1 ≤ 1048576 := by omega
  have hl1 : d1.length ≤ 1048576 := by omega
  clear hs1 hs1' hz1
  obtain ⟨res0, HRES⟩ : ∃ res0, ComponentRanksIs r0 s0 d0 r1 s1 d1 res0 := ComponentRanksIs_ex r0 s0 d0 r1 s1 d1 hl0 hl1
  have hlr0 := ComponentRanksIs_len HRES hl0 hl1
  have HRES := Lib.hid HRES
  have hh93 := m0
  have hh94 := m1
  go_enter Try.func5, Try.ntmps5
  have md95 : Mid 0 0 w (w.alloc (.cells #[.int .i64 r0, .int .i64 s0, .slice A0 d0.length c0] 24)) := Mid.alloc _ _
  have h96 := RG.mid hh93 md95 (Or.inl (Nat.zero_le _))
  clear hh93
  have h97 := RG.mid hh94 md95 (Or.inl (Nat.zero_le _))
  clear hh94
  have b98 := below_mid (Below.refl w.heap.size w) (Nat.le_refl w.heap.size) md95 (Or.inr rfl)
  have z99 := b98.size
  have y100 := md95.size
  have bx101 := Box.new w #[.int .i64 r0, .int .i64 s0, .slice A0 d0.length c0] 24
  have y102 : w.heap.size + 1 ≤ (w.alloc (.cells #[.int .i64 r0, .int .i64 s0, .slice A0 d0.length c0] 24)).heap.size := (by simp)
  have md103 : Mid 0 0 (w.alloc (.cells #[.int .i64 r0, .int .i64 s0, .slice A0 d0.length c0] 24)) ((w.alloc (.cells #[.int .i64 r0, .int .i64 s0, .slice A0 d0.length c0] 24)).alloc (.cells #[.int .i64 r1, .int .i64 s1, .slice A1 d1.length c1] 24)) := Mid.alloc _ _
  have bx104 := bx101.mid md103 (Or.inr (Nat.zero_le _))
  clear bx101
  have h105 := RG.mid h96 md103 (Or.inl (Nat.zero_le _))
  clear h96
  have h106 := RG.mid h97 md103 (Or.inl (Nat.zero_le _))
  clear h97
  have b107 := below_mid b98 z99 md103 (Or.inr rfl)
  have z108 := b107.size
  have y109 := md103.size
  have bx110 := Box.new (w.alloc (.cells #[.int .i64 r0, .int .i64 s0, .slice A0 d0.length c0] 24)) #[.int .i64 r1, .int .i64 s1, .slice A1 d1.length c1] 24
  have y111 : (w.alloc (.cells #[.int .i64 r0, .int .i64 s0, .slice A0 d0.length c0] 24)).heap.size + 1 ≤ ((w.alloc (.cells #[.int .i64 r0, .int .i64 s0, .slice A0 d0.length c0] 24)).alloc (.cells #[.int .i64 r1, .int .i64 s1, .slice A1 d1.length c1] 24)).heap.size := (by simp)
  simp only [World.size_alloc, Nat.add_assoc, Nat.reduceAdd] at bx110
  have k112 := bx104.cell 0 rfl
  have k113 := bx104.cell 1 rfl
  have k114 := bx104.cell 2 rfl
  have k115 := bx110.cell 0 rfl
  have k116 := bx110.cell 1 rfl
  have k117 := bx110.cell 2 rfl
  go_wp2_with fail
  with_reducible refine (szGraph_any _ _ _ d0 _ 1048576 _ _l0 (by omega) (by omega)).mono ?_
  rintro e w4 ⟨rfl, md118⟩
  rw [E0.out]
  have bx119 := bx104.mid md118 (Or.inr (Nat.zero_le _))
  clear bx104
  have h120 := RG.mid h105 md118 (Or.inl (Nat.zero_le _))
  clear h105
  have bx121 := bx110.mid md118 (Or.inr (Nat.zero_le _))
  clear bx110
  have h122 := RG.mid h106 md118 (Or.inl (Nat.zero_le _))
  clear h106
  have b123 := below_mid b107 z108 md118 (Or.inr rfl)
  have z124 := b123.size
  have y125 := md118.size
  clear k112
  clear k113
  clear k114
  have k126 := bx119.cell 0 rfl
  have k127 := bx119.cell 1 rfl
  have k128 := bx119.cell 2 rfl
  clear k115
  clear k116
  clear k117
  have k129 := bx121.cell 0 rfl
  have k130 := bx121.cell 1 rfl
  have k131 := bx121.cell 2 rfl
  go_wp2_with fail
  with_reducible refine (szGraph_any _ _ _ d1 _ z0 _ _l1 (by omega) (by omega)).mono ?_
  rintro e w5 ⟨rfl, md132⟩
  rw [E1.out]
  have bx133 := bx119.mid md132 (Or.inr (Nat.zero_le _))
  clear bx119
  have h134 := RG.mid h120 md132 (Or.inl (Nat.zero_le _))
  clear h120
  have bx135 := bx121.mid md132 (Or.inr (Nat.zero_le _))
  clear bx121
  have h136 := RG.mid h122 md132 (Or.inl (Nat.zero_le _))
  clear h122
  have b137 := below_mid b123 z124 md132 (Or.inr rfl)
  have z138 := b137.size
  have y139 := md132.size
  clear k126
  clear k127
  clear k128
  have k140 := bx133.cell 0 rfl
  have k141 := bx133.cell 1 rfl
  have k142 := bx133.cell 2 rfl
  clear k129
  clear k130
  clear k131
  have k143 := bx135.cell 0 rfl
  have k144 := bx135.cell 1 rfl
  have k145 := bx135.cell 2 rfl
  go_wp2_with fail
  have md146 : Mid 0 0 w5 w5.drew := Mid.drew1 _
  have bx147 := bx133.mid md146 (Or.inr (Nat.zero_le _))
  have h148 := RG.mid h134 md146 (Or.inl (Nat.zero_le _))
  have bx149 := bx135.mid md146 (Or.inr (Nat.zero_le _))
  have h150 := RG.mid h136 md146 (Or.inl (Nat.zero_le _))
  have b151 := below_mid b137 z138 md146 (Or.inr rfl)
  have z152 := b151.size
  have y153 := md146.size
  have k154 := bx147.cell 0 rfl
  have k155 := bx147.cell 1 rfl
  have k156 := bx147.cell 2 rfl
  have k157 := bx149.cell 0 rfl
  have k158 := bx149.cell 1 rfl
  have k159 := bx149.cell 2 rfl
  go_region_held3 (fun w' => w'.cell? ⟨w.heap.size, 0, none⟩ = some (.int .i64 r0) ∧ w'.cell? ⟨w.heap.size, 1, none⟩ = some (.int .i64 s0) ∧ w'.cell? ⟨w.heap.size, 2, none⟩ = some (.slice A0 d0.length c0) ∧ w'.cell? ⟨w.heap.size + 1, 0, none⟩ = some (.int .i64 r1) ∧ w'.cell? ⟨w.heap.size + 1, 1, none⟩ = some (.int .i64 s1) ∧ w'.cell? ⟨w.heap.size + 1, 2, none⟩ = some (.slice A1 d1.length c1)) (first | exact ⟨k140, k141, k142, k143, k144, k145⟩ | exact ⟨k154, k155, k156, k157, k158, k159⟩ | exact ⟨k171, k172, k173, k174, k175, k176⟩ | exact ⟨k189, k190, k191, k192, k193, k194⟩ | exact ⟨k209, k210, k211, k212, k213, k214⟩) (first | (go_at_call 11; with_reducible refine (toGraph_any r0 s0 _ d0 _ _ _ _ h148 hl0).mono ?_; rintro e w6 ⟨AA160, cc161, rfl, h162, md163⟩; have bx164 := bx147.mid md163 (Or.inr (Nat.zero_le _)); have h165 := RG.mid h148 md163 (Or.inl (Nat.zero_le _)); have bx166 := bx149.mid md163 (Or.inr (Nat.zero_le _)); have h167 := RG.mid h150 md163 (Or.inl (Nat.zero_le _)); have b168 := below_mid b151 z152 md163 (Or.inr rfl); have z169 := b168.size; have y170 := md163.size; have k171 := bx164.cell 0 rfl; have k172 := bx164.cell 1 rfl; have k173 := bx164.cell 2 rfl; have k174 := bx166.cell 0 rfl; have k175 := bx166.cell 1 rfl; have k176 := bx166.cell 2 rfl) | (go_at_call 11; with_reducible refine (toGraph_any r1 s1 _ d1 _ _ _ _ h167 hl1).mono ?_; rintro e w7 ⟨AA177, cc178, rfl, h179, md180⟩; have bx181 := bx164.mid md180 (Or.inr (Nat.zero_le _)); have h182 := RG.mid h165 md180 (Or.inl (Nat.zero_le _)); have bx183 := bx166.mid md180 (Or.inr (Nat.zero_le _)); have h184 := RG.mid h167 md180 (Or.inl (Nat.zero_le _)); have h185 := OG.mid h162 md180 (Or.inl (Nat.zero_le _)); have b186 := below_mid b168 z169 md180 (Or.inr rfl); have z187 := b186.size; have y188 := md180.size; have k189 := bx181.cell 0 rfl; have k190 := bx181.cell 1 rfl; have k191 := bx181.cell 2 rfl; have k192 := bx183.cell 0 rfl; have k193 := bx183.cell 1 rfl; have k194 := bx183.cell 2 rfl) | (go_at_call 18; with_reducible refine (sspec_ComponentRanks r0 s0 _ d0 _ r1 s1 _ d1 _ _ _ _ h185  hl0 _ _ h179  hl1 res0 HRES.out).mono ?_; rintro e w8 ⟨AA196, cc197, rfl, h198, md195⟩; have bx200 := bx181.mid md195 (Or.inr (Nat.zero_le _)); have h201 := RG.mid h182 md195 (Or.inl (Nat.zero_le _)); have bx202 := bx183.mid md195 (Or.inr (Nat.zero_le _)); have h203 := RG.mid h184 md195 (Or.inl (Nat.zero_le _)); have h204 := OG.mid h185 md195 (Or.inl (Nat.zero_le _)); have h205 := OG.mid h179 md195 (Or.inl (Nat.zero_le _)); have b206 := below_mid b186 z187 md195 (Or.inr rfl); have z207 := b206.size; have y208 := md195.size; have k209 := bx200.cell 0 rfl; have k210 := bx200.cell 1 rfl; have k211 := bx200.cell 2 rfl; have k212 := bx202.cell 0 rfl; have k213 := bx202.cell 1 rfl; have k214 := bx202.cell 2 rfl))
  go_wp2_with fail
  with_reducible refine (toGraph_any r0 s0 _ d0 _ _ _ _ h201 hl0).mono ?_
  rintro e w9 ⟨AA215, cc216, rfl, h217, md218⟩
  have bx219 := bx200.mid md218 (Or.inr (Nat.zero_le _))
  clear bx200
  have h220 := RG.mid h201 md218 (Or.inl (Nat.zero_le _))
  clear h201
  have bx221 := bx202.mid md218 (Or.inr (Nat.zero_le _))
  clear bx202
  have h222 := RG.mid h203 md218 (Or.inl (Nat.zero_le _))
  clear h203
  have h223 := OI.mid h198 md218 (Or.inl (Nat.zero_le _))
  clear h198
  have b224 := below_mid b206 z207 md218 (Or.inr rfl)
  have z225 := b224.size
  have y226 := md218.size
  clear k209
  clear k210
  clear k211
  have k227 := bx219.cell 0 rfl
  have k228 := bx219.cell 1 rfl
  have k229 := bx219.cell 2 rfl
  clear k212
  clear k213
  clear k214
  have k230 := bx221.cell 0 rfl
  have k231 := bx221.cell 1 rfl
  have k232 := bx221.cell 2 rfl
  have md233 : Mid 0 0 w9 (w9.alloc (.cells #[.int .i64 r0, .int .i64 s0, .slice AA215 d0.length cc216] 28)) := Mid.alloc _ _
  have bx234 := bx219.mid md233 (Or.inr (Nat.zero_le _))
  clear bx219
  have h235 := RG.mid h220 md233 (Or.inl (Nat.zero_le _))
  clear h220
  have bx236 := bx221.mid md233 (Or.inr (Nat.zero_le _))
  clear bx221
  have h237 := RG.mid h222 md233 (Or.inl (Nat.zero_le _))
  clear h222
  have h238 := OI.mid h223 md233 (Or.inl (Nat.zero_le _))
  clear h223
  have h239 := OG.mid h217 md233 (Or.inl (Nat.zero_le _))
  clear h217
  have b240 := below_mid b224 z225 md233 (Or.inr rfl)
  have z241 := b240.size
  have y242 := md233.size
  have bx243 := Box.new w9 #[.int .i64 r0, .int .i64 s0, .slice AA215 d0.length cc216] 28
  have y244 : w9.heap.size + 1 ≤ (w9.alloc (.cells #[.int .i64 r0, .int .i64 s0, .slice AA215 d0.length cc216] 28)).heap.size := (by simp)
  clear k227
  clear k228
  clear k229
  have k245 := bx234.cell 0 rfl
  have k246 := bx234.cell 1 rfl
  have k247 := bx234.cell 2 rfl
  clear k230
  clear k231
  clear k232
  have k248 := bx236.cell 0 rfl
  have k249 := bx236.cell 1 rfl
  have k250 := bx236.cell 2 rfl
  have k251 := bx243.cell 0 rfl
  have k252 := bx243.cell 1 rfl
  have k253 := bx243.cell 2 rfl
  go_wp2_with fail
  with_reducible refine (toGraph_any r1 s1 _ d1 _ _ _ _ h237 hl1).mono ?_
  rintro e w10 ⟨AA254, cc255, rfl, h256, md257⟩
  have bx258 := bx234.mid md257 (Or.inr (Nat.zero_le _))
  clear bx234
  have h259 := RG.mid h235 md257 (Or.inl (Nat.zero_le _))
  clear h235
  have bx260 := bx236.mid md257 (Or.inr (Nat.zero_le _))
  clear bx236
  have h261 := RG.mid h237 md257 (Or.inl (Nat.zero_le _))
  clear h237
  have h262 := OI.mid h238 md257 (Or.inl (Nat.zero_le _))
  clear h238
  have bx263 := bx243.mid md257 (Or.inr (Nat.zero_le _))
  clear bx243
  have h264 := OG.mid h239 md257 (Or.inl (Nat.zero_le _))
  clear h239
  have b265 := below_mid b240 z241 md257 (Or.inr rfl)
  have z266 := b265.size
  have y267 := md257.size
  clear k245
  clear k246
  clear k247
  have k268 := bx258.cell 0 rfl
  have k269 := bx258.cell 1 rfl
  have k270 := bx258.cell 2 rfl
  clear k248
  clear k249
  clear k250
  have k271 := bx260.cell 0 rfl
  have k272 := bx260.cell 1 rfl
  have k273 := bx260.cell 2 rfl
  clear k251
  clear k252
  clear k253
  have k274 := bx263.cell 0 rfl
  have k275 := bx263.cell 1 rfl
  have k276 := bx263.cell 2 rfl
  have md277 : Mid 0 0 w10 (w10.alloc (.cells #[.int .i64 r1, .int .i64 s1, .slice AA254 d1.length cc255] 28)) := Mid.alloc _ _
  have bx278 := bx258.mid md277 (Or.inr (Nat.zero_le _))
  clear bx258
  have h279 := RG.mid h259 md277 (Or.inl (Nat.zero_le _))
  clear h259
  have bx280 := bx260.mid md277 (Or.inr (Nat.zero_le _))
  clear bx260
  have h281 := RG.mid h261 md277 (Or.inl (Nat.zero_le _))
  clear h261
  have h282 := OI.mid h262 md277 (Or.inl (Nat.zero_le _))
  clear h262
  have bx283 := bx263.mid md277 (Or.inr (Nat.zero_le _))
  clear bx263
  have h284 := OG.mid h264 md277 (Or.inl (Nat.zero_le _))
  clear h264
  have h285 := OG.mid h256 md277 (Or.inl (Nat.zero_le _))
  clear h256
  have b286 := below_mid b265 z266 md277 (Or.inr rfl)
  have z287 := b286.size
  have y288 := md277.size
  have bx289 := Box.new w10 #[.int .i64 r1, .int .i64 s1, .slice AA254 d1.length cc255] 28
  have y290 : w10.heap.size + 1 ≤ (w10.alloc (.cells #[.int .i64 r1, .int .i64 s1, .slice AA254 d1.length cc255] 28)).heap.size := (by simp)
  clear k268
  clear k269
  clear k270
  have k291 := bx278.cell 0 rfl
  have k292 := bx278.cell 1 rfl
  have k293 := bx278.cell 2 rfl
  clear k271
  clear k272
  clear k273
  have k294 := bx280.cell 0 rfl
  have k295 := bx280.cell 1 rfl
  have k296 := bx280.cell 2 rfl
  clear k274
  clear k275
  clear k276
  have k297 := bx283.cell 0 rfl
  have k298 := bx283.cell 1 rfl
  have k299 := bx283.cell 2 rfl
  have k300 := bx289.cell 0 rfl
  have k301 := bx289.cell 1 rfl
  have k302 := bx289.cell 2 rfl
  go_wp2_with fail
  with_reducible refine (simpl_ComponentRanks r0 s0 _ d0 _ r1 s1 _ d1 _ _ _ _ h284  hl0 _ _ h285  hl1 res0 HRES.out).mono ?_
  rintro e w11 ⟨AA304, cc305, rfl, h306, md303⟩
  have bx308 := bx278.mid md303 (Or.inr (Nat.zero_le _))
  clear bx278
  have h309 := RG.mid h279 md303 (Or.inl (Nat.zero_le _))
  clear h279
  have bx310 := bx280.mid md303 (Or.inr (Nat.zero_le _))
  clear bx280
  have h311 := RG.mid h281 md303 (Or.inl (Nat.zero_le _))
  clear h281
  have h312 := OI.mid h282 md303 (Or.inl (Nat.zero_le _))
  clear h282
  have bx313 := bx283.mid md303 (Or.inr (Nat.zero_le _))
  clear bx283
  have h314 := OG.mid h284 md303 (Or.inl (Nat.zero_le _))
  clear h284
  have bx315 := bx289.mid md303 (Or.inr (Nat.zero_le _))
  clear bx289
  have h316 := OG.mid h285 md303 (Or.inl (Nat.zero_le _))
  clear h285
  have b317 := below_mid b286 z287 md303 (Or.inr rfl)
  have z318 := b317.size
  have y319 := md303.size
  clear k291
  clear k292
  clear k293
  have k320 := bx308.cell 0 rfl
  have k321 := bx308.cell 1 rfl
  have k322 := bx308.cell 2 rfl
  clear k294
  clear k295
  clear k296
  have k323 := bx310.cell 0 rfl
  have k324 := bx310.cell 1 rfl
  have k325 := bx310.cell 2 rfl
  clear k297
  clear k298
  clear k299
  have k326 := bx313.cell 0 rfl
  have k327 := bx313.cell 1 rfl
  have k328 := bx313.cell 2 rfl
  clear k300
  clear k301
  clear k302
  have k329 := bx315.cell 0 rfl
  have k330 := bx315.cell 1 rfl
  have k331 := bx315.cell 2 rfl
  go_wp2_with fail
  with_reducible refine (eqI _ _ res0 _ _ _ _ _ _ _ (OI.ri h306) (OI.ri h312) hlr0).mono ?_
  rintro e w12 ⟨rfl, md332⟩
  have bx333 := bx308.mid md332 (Or.inr (Nat.zero_le _))
  clear bx308
  have h334 := RG.mid h309 md332 (Or.inl (Nat.zero_le _))
  clear h309
  have bx335 := bx310.mid md332 (Or.inr (Nat.zero_le _))
  clear bx310
  have h336 := RG.mid h311 md332 (Or.inl (Nat.zero_le _))
  clear h311
  have h337 := OI.mid h312 md332 (Or.inl (Nat.zero_le _))
  clear h312
  have bx338 := bx313.mid md332 (Or.inr (Nat.zero_le _))
  clear bx313
  have h339 := OG.mid h314 md332 (Or.inl (Nat.zero_le _))
  clear h314
  have bx340 := bx315.mid md332 (Or.inr (Nat.zero_le _))
  clear bx315
  have h341 := OG.mid h316 md332 (Or.inl (Nat.zero_le _))
  clear h316
  have h342 := OI.mid h306 md332 (Or.inl (Nat.zero_le _))
  clear h306
  have b343 := below_mid b317 z318 md332 (Or.inr rfl)
  have z344 := b343.size
  have y345 := md332.size
  clear k320
  clear k321
  clear k322
  have k346 := bx333.cell 0 rfl
  have k347 := bx333.cell 1 rfl
  have k348 := bx333.cell 2 rfl
  clear k323
  clear k324
  clear k325
  have k349 := bx335.cell 0 rfl
  have k350 := bx335.cell 1 rfl
  have k351 := bx335.cell 2 rfl
  clear k326
  clear k327
  clear k328
  have k352 := bx338.cell 0 rfl
  have k353 := bx338.cell 1 rfl
  have k354 := bx338.cell 2 rfl
  clear k329
  clear k330
  clear k331
  have k355 := bx340.cell 0 rfl
  have k356 := bx340.cell 1 rfl
  have k357 := bx340.cell 2 rfl
  go_wp2_with fail
  have md358 : Mid 0 0 w12 w12.drew := Mid.drew1 _
  have bx359 := bx333.mid md358 (Or.inr (Nat.zero_le _))
  have h360 := RG.mid h334 md358 (Or.inl (Nat.zero_le _))
  have bx361 := bx335.mid md358 (Or.inr (Nat.zero_le _))
  have h362 := RG.mid h336 md358 (Or.inl (Nat.zero_le _))
  have h363 := OI.mid h337 md358 (Or.inl (Nat.zero_le _))
  have bx364 := bx338.mid md358 (Or.inr (Nat.zero_le _))
  have h365 := OG.mid h339 md358 (Or.inl (Nat.zero_le _))
  have bx366 := bx340.mid md358 (Or.inr (Nat.zero_le _))
  have h367 := OG.mid h341 md358 (Or.inl (Nat.zero_le _))
  have h368 := OI.mid h342 md358 (Or.inl (Nat.zero_le _))
  have b369 := below_mid b343 z344 md358 (Or.inr rfl)
  have z370 := b369.size
  have y371 := md358.size
  have k372 := bx359.cell 0 rfl
  have k373 := bx359.cell 1 rfl
  have k374 := bx359.cell 2 rfl
  have k375 := bx361.cell 0 rfl
  have k376 := bx361.cell 1 rfl
  have k377 := bx361.cell 2 rfl
  have k378 := bx364.cell 0 rfl
  have k379 := bx364.cell 1 rfl
  have k380 := bx364.cell 2 rfl
  have k381 := bx366.cell 0 rfl
  have k382 := bx366.cell 1 rfl
  have k383 := bx366.cell 2 rfl
  go_region_held3 (fun w' => w'.cell? ⟨w9.heap.size, 0, none⟩ = some (.int .i64 r0) ∧ w'.cell? ⟨w9.heap.size, 1, none⟩ = some (.int .i64 s0) ∧ w'.cell? ⟨w9.heap.size, 2, none⟩ = some (.slice AA215 d0.length cc216) ∧ w'.cell? ⟨w.heap.size, 0, none⟩ = some (.int .i64 r0) ∧ w'.cell? ⟨w.heap.size, 1, none⟩ = some (.int .i64 s0) ∧ w'.cell? ⟨w.heap.size, 2, none⟩ = some (.slice A0 d0.length c0)) (first | exact ⟨k352, k353, k354, k346, k347, k348⟩ | exact ⟨k378, k379, k380, k372, k373, k374⟩ | exact ⟨k407, k408, k409, k401, k402, k403⟩ | exact ⟨k434, k435, k436, k428, k429, k430⟩) (first | (go_at_call 11; with_reducible refine (toGraph_any r0 s0 _ d0 _ _ _ _ h360 hl0).mono ?_; rintro e w13 ⟨AA384, cc385, rfl, h386, md387⟩; have bx388 := bx359.mid md387 (Or.inr (Nat.zero_le _)); have h389 := RG.mid h360 md387 (Or.inl (Nat.zero_le _)); have bx390 := bx361.mid md387 (Or.inr (Nat.zero_le _)); have h391 := RG.mid h362 md387 (Or.inl (Nat.zero_le _)); have h392 := OI.mid h363 md387 (Or.inl (Nat.zero_le _)); have bx393 := bx364.mid md387 (Or.inr (Nat.zero_le _)); have h394 := OG.mid h365 md387 (Or.inl (Nat.zero_le _)); have bx395 := bx366.mid md387 (Or.inr (Nat.zero_le _)); have h396 := OG.mid h367 md387 (Or.inl (Nat.zero_le _)); have h397 := OI.mid h368 md387 (Or.inl (Nat.zero_le _)); have b398 := below_mid b369 z370 md387 (Or.inr rfl); have z399 := b398.size; have y400 := md387.size; have k401 := bx388.cell 0 rfl; have k402 := bx388.cell 1 rfl; have k403 := bx388.cell 2 rfl; have k404 := bx390.cell 0 rfl; have k405 := bx390.cell 1 rfl; have k406 := bx390.cell 2 rfl; have k407 := bx393.cell 0 rfl; have k408 := bx393.cell 1 rfl; have k409 := bx393.cell 2 rfl; have k410 := bx395.cell 0 rfl; have k411 := bx395.cell 1 rfl; have k412 := bx395.cell 2 rfl) | (go_at_call 13; with_reducible refine (eqGraph_same _ _ _ _ d0 _ _ _ _ _ _ _ (OG.rg h394) (OG.rg h386) hl0).mono ?_; rintro e w14 ⟨rfl, md413⟩; have bx414 := bx388.mid md413 (Or.inr (Nat.zero_le _)); have h415 := RG.mid h389 md413 (Or.inl (Nat.zero_le _)); have bx416 := bx390.mid md413 (Or.inr (Nat.zero_le _)); have h417 := RG.mid h391 md413 (Or.inl (Nat.zero_le _)); have h418 := OI.mid h392 md413 (Or.inl (Nat.zero_le _)); have bx419 := bx393.mid md413 (Or.inr (Nat.zero_le _)); have h420 := OG.mid h394 md413 (Or.inl (Nat.zero_le _)); have bx421 := bx395.mid md413 (Or.inr (Nat.zero_le _)); have h422 := OG.mid h396 md413 (Or.inl (Nat.zero_le _)); have h423 := OI.mid h397 md413 (Or.inl (Nat.zero_le _)); have h424 := OG.mid h386 md413 (Or.inl (Nat.zero_le _)); have b425 := below_mid b398 z399 md413 (Or.inr rfl); have z426 := b425.size; have y427 := md413.size; have k428 := bx414.cell 0 rfl; have k429 := bx414.cell 1 rfl; have k430 := bx414.cell 2 rfl; have k431 := bx416.cell 0 rfl; have k432 := bx416.cell 1 rfl; have k433 := bx416.cell 2 rfl; have k434 := bx419.cell 0 rfl; have k435 := bx419.cell 1 rfl; have k436 := bx419.cell 2 rfl; have k437 := bx421.cell 0 rfl; have k438 := bx421.cell 1 rfl; have k439 := bx421.cell 2 rfl))
  go_wp2_with fail
  have md440 : Mid 0 0 w14 w14.drew := Mid.drew1 _
  have bx441 := bx414.mid md440 (Or.inr (Nat.zero_le _))
  have h442 := RG.mid h415 md440 (Or.inl (Nat.zero_le _))
  have bx443 := bx416.mid md440 (Or.inr (Nat.zero_le _))
  have h444 := RG.mid h417 md440 (Or.inl (Nat.zero_le _))
  have h445 := OI.mid h418 md440 (Or.inl (Nat.zero_le _))
  have bx446 := bx419.mid md440 (Or.inr (Nat.zero_le _))
  have h447 := OG.mid h420 md440 (Or.inl (Nat.zero_le _))
  have bx448 := bx421.mid md440 (Or.inr (Nat.zero_le _))
  have h449 := OG.mid h422 md440 (Or.inl (Nat.zero_le _))
  have h450 := OI.mid h423 md440 (Or.inl (Nat.zero_le _))
  have b451 := below_mid b425 z426 md440 (Or.inr rfl)
  have z452 := b451.size
  have y453 := md440.size
  have k454 := bx441.cell 0 rfl
  have k455 := bx441.cell 1 rfl
  have k456 := bx441.cell 2 rfl
  have k457 := bx443.cell 0 rfl
  have k458 := bx443.cell 1 rfl
  have k459 := bx443.cell 2 rfl
  have k460 := bx446.cell 0 rfl
  have k461 := bx446.cell 1 rfl
  have k462 := bx446.cell 2 rfl
  have k463 := bx448.cell 0 rfl
  have k464 := bx448.cell 1 rfl
  have k465 := bx448.cell 2 rfl
  go_region_held3 (fun w' => w'.cell? ⟨w10.heap.size, 0, none⟩ = some (.int .i64 r1) ∧ w'.cell? ⟨w10.heap.size, 1, none⟩ = some (.int .i64 s1) ∧ w'.cell? ⟨w10.heap.size, 2, none⟩ = some (.slice AA254 d1.length cc255) ∧ w'.cell? ⟨w.heap.size + 1, 0, none⟩ = some (.int .i64 r1) ∧ w'.cell? ⟨w.heap.size + 1, 1, none⟩ = some (.int .i64 s1) ∧ w'.cell? ⟨w.heap.size + 1, 2, none⟩ = some (.slice A1 d1.length c1)) (first | exact ⟨k437, k438, k439, k431, k432, k433⟩ | exact ⟨k463, k464, k465, k457, k458, k459⟩ | exact ⟨k492, k493, k494, k486, k487, k488⟩ | exact ⟨k519, k520, k521, k513, k514, k515⟩) (first | (go_at_call 11; with_reducible refine (toGraph_any r1 s1 _ d1 _ _ _ _ h444 hl1).mono ?_; rintro e w15 ⟨AA466, cc467, rfl, h468, md469⟩; have bx470 := bx441.mid md469 (Or.inr (Nat.zero_le _)); have h471 := RG.mid h442 md469 (Or.inl (Nat.zero_le _)); have bx472 := bx443.mid md469 (Or.inr (Nat.zero_le _)); have h473 := RG.mid h444 md469 (Or.inl (Nat.zero_le _)); have h474 := OI.mid h445 md469 (Or.inl (Nat.zero_le _)); have bx475 := bx446.mid md469 (Or.inr (Nat.zero_le _)); have h476 := OG.mid h447 md469 (Or.inl (Nat.zero_le _)); have bx477 := bx448.mid md469 (Or.inr (Nat.zero_le _)); have h478 := OG.mid h449 md469 (Or.inl (Nat.zero_le _)); have h479 := OI.mid h450 md469 (Or.inl (Nat.zero_le _)); have b480 := below_mid b451 z452 md469 (Or.inr rfl); have z481 := b480.size; have y482 := md469.size; have k483 := bx470.cell 0 rfl; have k484 := bx470.cell 1 rfl; have k485 := bx470.cell 2 rfl; have k486 := bx472.cell 0 rfl; have k487 := bx472.cell 1 rfl; have k488 := bx472.cell 2 rfl; have k489 := bx475.cell 0 rfl; have k490 := bx475.cell 1 rfl; have k491 := bx475.cell 2 rfl; have k492 := bx477.cell 0 rfl; have k493 := bx477.cell 1 rfl; have k494 := bx477.cell 2 rfl) | (go_at_call 13; with_reducible refine (eqGraph_same _ _ _ _ d1 _ _ _ _ _ _ _ (OG.rg h478) (OG.rg h468) hl1).mono ?_; rintro e w16 ⟨rfl, md495⟩; have bx496 := bx470.mid md495 (Or.inr (Nat.zero_le _)); have h497 := RG.mid h471 md495 (Or.inl (Nat.zero_le _)); have bx498 := bx472.mid md495 (Or.inr (Nat.zero_le _)); have h499 := RG.mid h473 md495 (Or.inl (Nat.zero_le _)); have h500 := OI.mid h474 md495 (Or.inl (Nat.zero_le _)); have bx501 := bx475.mid md495 (Or.inr (Nat.zero_le _)); have h502 := OG.mid h476 md495 (Or.inl (Nat.zero_le _)); have bx503 := bx477.mid md495 (Or.inr (Nat.zero_le _)); have h504 := OG.mid h478 md495 (Or.inl (Nat.zero_le _)); have h505 := OI.mid h479 md495 (Or.inl (Nat.zero_le _)); have h506 := OG.mid h468 md495 (Or.inl (Nat.zero_le _)); have b507 := below_mid b480 z481 md495 (Or.inr rfl); have z508 := b507.size; have y509 := md495.size; have k510 := bx496.cell 0 rfl; have k511 := bx496.cell 1 rfl; have k512 := bx496.cell 2 rfl; have k513 := bx498.cell 0 rfl; have k514 := bx498.cell 1 rfl; have k515 := bx498.cell 2 rfl; have k516 := bx501.cell 0 rfl; have k517 := bx501.cell 1 rfl; have k518 := bx501.cell 2 rfl; have k519 := bx503.cell 0 rfl; have k520 := bx503.cell 1 rfl; have k521 := bx503.cell 2 rfl))
  go_wp2_with fail
  with_reducible refine (markGraph_any _ _ _ d0 _ 1 _ _ _ h502 (by omega) (by omega) hl0).mono ?_
  rintro e w17 ⟨rfl, h522, md523⟩
  have bx524 := bx496.mid md523 (by omega)
  clear bx496
  have h525 := RG.mid h497 md523 (by omega)
  clear h497
  have bx526 := bx498.mid md523 (by omega)
  clear bx498
  have h527 := RG.mid h499 md523 (by omega)
  clear h499
  have h528 := OI.mid h500 md523 (by omega)
  clear h500
  have bx529 := bx501.mid md523 (by omega)
  clear bx501
  have bx530 := bx503.mid md523 (by omega)
  clear bx503
  have h531 := OG.mid h504 md523 (by omega)
  clear h504
  have h532 := OI.mid h505 md523 (by omega)
  clear h505
  have b533 := below_mid b507 z508 md523 (by omega)
  have z534 := b533.size
  have y535 := md523.size
  clear h502
  clear k510
  clear k511
  clear k512
  have k536 := bx524.cell 0 rfl
  have k537 := bx524.cell 1 rfl
  have k538 := bx524.cell 2 rfl
  clear k513
  clear k514
  clear k515
  have k539 := bx526.cell 0 rfl
  have k540 := bx526.cell 1 rfl
  have k541 := bx526.cell 2 rfl
  clear k516
  clear k517
  clear k518
  have k542 := bx529.cell 0 rfl
  have k543 := bx529.cell 1 rfl
  have k544 := bx529.cell 2 rfl
  clear k519
  clear k520
  clear k521
  have k545 := bx530.cell 0 rfl
  have k546 := bx530.cell 1 rfl
  have k547 := bx530.cell 2 rfl
  go_wp2_with fail
  with_reducible refine (markGraph_any _ _ _ d1 _ (1 + 3 * (d0.length : Int)) _ _ _ h531 (by omega) (by omega) hl1).mono ?_
  rintro e w18 ⟨rfl, h548, md549⟩
  have bx550 := bx524.mid md549 (by omega)
  clear bx524
  have h551 := RG.mid h525 md549 (by omega)
  clear h525
  have bx552 := bx526.mid md549 (by omega)
  clear bx526
  have h553 := RG.mid h527 md549 (by omega)
  clear h527
  have h554 := OI.mid h528 md549 (by omega)
  clear h528
  have bx555 := bx529.mid md549 (by omega)
  clear bx529
  have h556 := OG.mid h522 md549 (by omega)
  clear h522
  have bx557 := bx530.mid md549 (by omega)
  clear bx530
  have h558 := OI.mid h532 md549 (by omega)
  clear h532
  have b559 := below_mid b533 z534 md549 (by omega)
  have z560 := b559.size
  have y561 := md549.size
  clear h531
  clear k536
  clear k537
  clear k538
  have k562 := bx550.cell 0 rfl
  have k563 := bx550.cell 1 rfl
  have k564 := bx550.cell 2 rfl
  clear k539
  clear k540
  clear k541
  have k565 := bx552.cell 0 rfl
  have k566 := bx552.cell 1 rfl
  have k567 := bx552.cell 2 rfl
  clear k542
  clear k543
  clear k544
  have k568 := bx555.cell 0 rfl
  have k569 := bx555.cell 1 rfl
  have k570 := bx555.cell 2 rfl
  clear k545
  clear k546
  clear k547
  have k571 := bx557.cell 0 rfl
  have k572 := bx557.cell 1 rfl
  have k573 := bx557.cell 2 rfl
  go_wp2_with fail
  with_reducible refine (eqI _ _ res0 _ _ _ _ _ _ _ (OI.ri h558) (OI.ri h554) hlr0).mono ?_
  rintro e w19 ⟨rfl, md574⟩
  have bx575 := bx550.mid md574 (Or.inr (Nat.zero_le _))
  clear bx550
  have h576 := RG.mid h551 md574 (Or.inl (Nat.zero_le _))
  clear h551
  have bx577 := bx552.mid md574 (Or.inr (Nat.zero_le _))
  clear bx552
  have h578 := RG.mid h553 md574 (Or.inl (Nat.zero_le _))
  clear h553
  have h579 := OI.mid h554 md574 (Or.inl (Nat.zero_le _))
  clear h554
  have h580 := OI.mid h558 md574 (Or.inl (Nat.zero_le _))
  clear h558
  have b581 := below_mid b559 z560 md574 (Or.inr rfl)
  have z582 := b581.size
  have y583 := md574.size
  clear k562
  clear k563
  clear k564
  have k584 := bx575.cell 0 rfl
  have k585 := bx575.cell 1 rfl
  have k586 := bx575.cell 2 rfl
  clear k565
  clear k566
  clear k567
  have k587 := bx577.cell 0 rfl
  have k588 := bx577.cell 1 rfl
  have k589 := bx577.cell 2 rfl
  go_wp2_with fail
  with_reducible refine (markI _ res0 _ 1 _ _ _ h580 (by omega) (by omega) hlr0).mono ?_
  rintro e w20 ⟨rfl, h590, md591⟩
  have bx592 := bx575.mid md591 (by omega)
  clear bx575
  have h593 := RG.mid h576 md591 (by omega)
  clear h576
  have bx594 := bx577.mid md591 (by omega)
  clear bx577
  have h595 := RG.mid h578 md591 (by omega)
  clear h578
  have h596 := OI.mid h579 md591 (by omega)
  clear h579
  have b597 := below_mid b581 z582 md591 (by omega)
  have z598 := b597.size
  have y599 := md591.size
  clear h580
  clear k584
  clear k585
  clear k586
  have k600 := bx592.cell 0 rfl
  have k601 := bx592.cell 1 rfl
  have k602 := bx592.cell 2 rfl
  clear k587
  clear k588
  clear k589
  have k603 := bx594.cell 0 rfl
  have k604 := bx594.cell 1 rfl
  have k605 := bx594.cell 2 rfl
  go_wp2_with fail
  with_reducible refine (heldI _ res0.length _ 1 _ _ _ h590 (by omega) (by omega) hlr0).mono ?_
  rintro e w21 ⟨rfl, md606⟩
  have bx607 := bx592.mid md606 (Or.inr (Nat.zero_le _))
  clear bx592
  have h608 := RG.mid h593 md606 (Or.inl (Nat.zero_le _))
  clear h593
  have bx609 := bx594.mid md606 (Or.inr (Nat.zero_le _))
  clear bx594
  have h610 := RG.mid h595 md606 (Or.inl (Nat.zero_le _))
  clear h595
  have h611 := OI.mid h596 md606 (Or.inl (Nat.zero_le _))
  clear h596
  have h612 := OI.mid h590 md606 (Or.inl (Nat.zero_le _))
  clear h590
  have b613 := below_mid b597 z598 md606 (Or.inr rfl)
  have z614 := b613.size
  have y615 := md606.size
  clear k600
  clear k601
  clear k602
  have k616 := bx607.cell 0 rfl
  have k617 := bx607.cell 1 rfl
  have k618 := bx607.cell 2 rfl
  clear k603
  clear k604
  clear k605
  have k619 := bx609.cell 0 rfl
  have k620 := bx609.cell 1 rfl
  have k621 := bx609.cell 2 rfl
  go_wp2_with fail
  have md622 : Mid 0 0 w21 w21.drew := Mid.drew1 _
  have bx623 := bx607.mid md622 (Or.inr (Nat.zero_le _))
  have h624 := RG.mid h608 md622 (Or.inl (Nat.zero_le _))
  have bx625 := bx609.mid md622 (Or.inr (Nat.zero_le _))
  have h626 := RG.mid h610 md622 (Or.inl (Nat.zero_le _))
  have h627 := OI.mid h611 md622 (Or.inl (Nat.zero_le _))
  have h628 := OI.mid h612 md622 (Or.inl (Nat.zero_le _))
  have b629 := below_mid b613 z614 md622 (Or.inr rfl)
  have z630 := b629.size
  have y631 := md622.size
  have k632 := bx623.cell 0 rfl
  have k633 := bx623.cell 1 rfl
  have k634 := bx623.cell 2 rfl
  have k635 := bx625.cell 0 rfl
  have k636 := bx625.cell 1 rfl
  have k637 := bx625.cell 2 rfl
  go_region_held3 (fun w' => w'.cell? ⟨w.heap.size, 0, none⟩ = some (.int .i64 r0) ∧ w'.cell? ⟨w.heap.size, 1, none⟩ = some (.int .i64 s0) ∧ w'.cell? ⟨w.heap.size, 2, none⟩ = some (.slice A0 d0.length c0) ∧ w'.cell? ⟨w.heap.size + 1, 0, none⟩ = some (.int .i64 r1) ∧ w'.cell? ⟨w.heap.size + 1, 1, none⟩ = some (.int .i64 s1) ∧ w'.cell? ⟨w.heap.size + 1, 2, none⟩ = some (.slice A1 d1.length c1)) (first | exact ⟨k616, k617, k618, k619, k620, k621⟩ | exact ⟨k632, k633, k634, k635, k636, k637⟩ | exact ⟨k651, k652, k653, k654, k655, k656⟩ | exact ⟨k671, k672, k673, k674, k675, k676⟩ | exact ⟨k693, k694, k695, k696, k697, k698⟩) (first | (go_at_call 11; with_reducible refine (toGraph_any r0 s0 _ d0 _ _ _ _ h624 hl0).mono ?_; rintro e w22 ⟨AA638, cc639, rfl, h640, md641⟩; have bx642 := bx623.mid md641 (Or.inr (Nat.zero_le _)); have h643 := RG.mid h624 md641 (Or.inl (Nat.zero_le _)); have bx644 := bx625.mid md641 (Or.inr (Nat.zero_le _)); have h645 := RG.mid h626 md641 (Or.inl (Nat.zero_le _)); have h646 := OI.mid h627 md641 (Or.inl (Nat.zero_le _)); have h647 := OI.mid h628 md641 (Or.inl (Nat.zero_le _)); have b648 := below_mid b629 z630 md641 (Or.inr rfl); have z649 := b648.size; have y650 := md641.size; have k651 := bx642.cell 0 rfl; have k652 := bx642.cell 1 rfl; have k653 := bx642.cell 2 rfl; have k654 := bx644.cell 0 rfl; have k655 := bx644.cell 1 rfl; have k656 := bx644.cell 2 rfl) | (go_at_call 11; with_reducible refine (toGraph_any r1 s1 _ d1 _ _ _ _ h645 hl1).mono ?_; rintro e w23 ⟨AA657, cc658, rfl, h659, md660⟩; have bx661 := bx642.mid md660 (Or.inr (Nat.zero_le _)); have h662 := RG.mid h643 md660 (Or.inl (Nat.zero_le _)); have bx663 := bx644.mid md660 (Or.inr (Nat.zero_le _)); have h664 := RG.mid h645 md660 (Or.inl (Nat.zero_le _)); have h665 := OI.mid h646 md660 (Or.inl (Nat.zero_le _)); have h666 := OI.mid h647 md660 (Or.inl (Nat.zero_le _)); have h667 := OG.mid h640 md660 (Or.inl (Nat.zero_le _)); have b668 := below_mid b648 z649 md660 (Or.inr rfl); have z669 := b668.size; have y670 := md660.size; have k671 := bx661.cell 0 rfl; have k672 := bx661.cell 1 rfl; have k673 := bx661.cell 2 rfl; have k674 := bx663.cell 0 rfl; have k675 := bx663.cell 1 rfl; have k676 := bx663.cell 2 rfl) | (go_at_call 19; with_reducible refine (simpl_ComponentRanks r0 s0 _ d0 _ r1 s1 _ d1 _ _ _ _ h667  hl0 _ _ h659  hl1 res0 HRES.out).mono ?_; rintro e w24 ⟨AA678, cc679, rfl, h680, md677⟩; have bx682 := bx661.mid md677 (Or.inr (Nat.zero_le _)); have h683 := RG.mid h662 md677 (Or.inl (Nat.zero_le _)); have bx684 := bx663.mid md677 (Or.inr (Nat.zero_le _)); have h685 := RG.mid h664 md677 (Or.inl (Nat.zero_le _)); have h686 := OI.mid h665 md677 (Or.inl (Nat.zero_le _)); have h687 := OI.mid h666 md677 (Or.inl (Nat.zero_le _)); have h688 := OG.mid h667 md677 (Or.inl (Nat.zero_le _)); have h689 := OG.mid h659 md677 (Or.inl (Nat.zero_le _)); have b690 := below_mid b668 z669 md677 (Or.inr rfl); have z691 := b690.size; have y692 := md677.size; have k693 := bx682.cell 0 rfl; have k694 := bx682.cell 1 rfl; have k695 := bx682.cell 2 rfl; have k696 := bx684.cell 0 rfl; have k697 := bx684.cell 1 rfl; have k698 := bx684.cell 2 rfl))
  go_wp2_with fail
  with_reducible refine (eqI _ _ res0 _ _ _ _ _ _ _ (OI.ri h680) (OI.ri h686) hlr0).mono ?_
  rintro e w25 ⟨rfl, md699⟩
  have bx700 := bx682.mid md699 (Or.inr (Nat.zero_le _))
  clear bx682
  have h701 := RG.mid h683 md699 (Or.inl (Nat.zero_le _))
  clear h683
  have bx702 := bx684.mid md699 (Or.inr (Nat.zero_le _))
  clear bx684
  have h703 := RG.mid h685 md699 (Or.inl (Nat.zero_le _))
  clear h685
  have h704 := OI.mid h686 md699 (Or.inl (Nat.zero_le _))
  clear h686
  have h705 := OI.mid h687 md699 (Or.inl (Nat.zero_le _))
  clear h687
  have h706 := OI.mid h680 md699 (Or.inl (Nat.zero_le _))
  clear h680
  have b707 := below_mid b690 z691 md699 (Or.inr rfl)
  have z708 := b707.size
  have y709 := md699.size
  clear k693
  clear k694
  clear k695
  have k710 := bx700.cell 0 rfl
  have k711 := bx700.cell 1 rfl
  have k712 := bx700.cell 2 rfl
  clear k696
  clear k697
  clear k698
  have k713 := bx702.cell 0 rfl
  have k714 := bx702.cell 1 rfl
  have k715 := bx702.cell 2 rfl
  go_wp2_with fail
  with_reducible refine (heldI _ res0.length _ 1 _ _ _ h705 (by omega) (by omega) hlr0).mono ?_
  rintro e w26 ⟨rfl, md716⟩
  have bx717 := bx700.mid md716 (Or.inr (Nat.zero_le _))
  clear bx700
  have h718 := RG.mid h701 md716 (Or.inl (Nat.zero_le _))
  clear h701
  have bx719 := bx702.mid md716 (Or.inr (Nat.zero_le _))
  clear bx702
  have h720 := RG.mid h703 md716 (Or.inl (Nat.zero_le _))
  clear h703
  have h721 := OI.mid h704 md716 (Or.inl (Nat.zero_le _))
  clear h704
  have h722 := OI.mid h705 md716 (Or.inl (Nat.zero_le _))
  clear h705
  have h723 := OI.mid h706 md716 (Or.inl (Nat.zero_le _))
  clear h706
  have b724 := below_mid b707 z708 md716 (Or.inr rfl)
  have z725 := b724.size
  have y726 := md716.size
  clear k710
  clear k711
  clear k712
  have k727 := bx717.cell 0 rfl
  have k728 := bx717.cell 1 rfl
  have k729 := bx717.cell 2 rfl
  clear k713
  clear k714
  clear k715
  have k730 := bx719.cell 0 rfl
  have k731 := bx719.cell 1 rfl
  have k732 := bx719.cell 2 rfl
  go_wp2_with fail
  go_ret
  exact ⟨rfl, b724⟩
end Go.Proofs.Ytimmnnncgnnkgaa
