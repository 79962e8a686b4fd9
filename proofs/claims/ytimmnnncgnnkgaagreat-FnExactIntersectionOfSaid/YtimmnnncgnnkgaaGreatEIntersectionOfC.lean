
import Derived.Test.YtimmnnncgnnkgaaGreatPk6
import Derived.Deep.RegionHeld3
import Derived.Deep.DeepCutAuto

/- The walk of the law FnExactIntersectionOf: it returns true at every input, and turns nothing that was there. -/
namespace Go.Proofs.YtimmnnncgnnkgaaGreat
open Go.RowKit
set_option linter.unusedVariables false
set_option linter.unusedSimpArgs false

theorem frz_IntersectionOf {w : World} {b : Nat} {cs : List Value} (h : Box w b cs) : ∀ i, w.frozen? ⟨b, i, none⟩ = false := h.2.2
set_option maxRecDepth 100000 in
set_option maxHeartbeats 8000000 in
theorem walk_IntersectionOf (r0 s0 : Int) (A0 : Option Addr) (d0 : List Ed) (c0 : Nat) (r1 s1 : Int) (A1 : Option Addr) (d1 : List Ed) (c1 : Nat) (w : World) (_b0 : (Lit.int .i64 r0).wf = true) (_e0 : (Lit.int .i64 s0).wf = true) (m0 : RG w 0 w.heap.size A0 d0) (_o0 : OkI (edI d0)) (_l0 : d0.length ≤ 9223372036854775807) (_b1 : (Lit.int .i64 r1).wf = true) (_e1 : (Lit.int .i64 s1).wf = true) (m1 : RG w 0 w.heap.size A1 d1) (_o1 : OkI (edI d1)) (_l1 : d1.length ≤ 9223372036854775807) :
    Calls Tryz.prog 8 #[.agg #[.int .i64 r0, .int .i64 s0, .slice A0 d0.length c0], .agg #[.int .i64 r1, .int .i64 s1, .slice A1 d1.length c1]] w fun e w' => e = .returned (.bool true) ∧ Below w.heap.size w w' := by
  obtain ⟨z0, hz0⟩ : ∃ z, z = szI 1048576 d0.length := ⟨_, rfl⟩
  have E0 := Lib.hid hz0.symm
  rcases szI_case 1048576 d0.length with hs0 | ⟨hs0, hs0'⟩
  · obtain rfl : z0 = -1 := hz0.trans hs0
    clear hs0 hz0
    have hh1 := m0
    have hh2 := m1
    go_enter Tryz.func8, Tryz.ntmps8
    have md3 : Mid 0 0 w (w.alloc (.cells #[.int .i64 r0, .int .i64 s0, .slice A0 d0.length c0] 24)) := Mid.alloc _ _
    have h4 := RG.mid hh1 md3 (Or.inl (Nat.zero_le _))
    clear hh1
    have h5 := RG.mid hh2 md3 (Or.inl (Nat.zero_le _))
    clear hh2
    have b6 := below_mid (Below.refl w.heap.size w) (Nat.le_refl w.heap.size) md3 (Or.inr rfl)
    have z7 := b6.size
    have y8 := md3.size
    have bx9 := Box.new w #[.int .i64 r0, .int .i64 s0, .slice A0 d0.length c0] 24
    have y10 : w.heap.size + 1 ≤ (w.alloc (.cells #[.int .i64 r0, .int .i64 s0, .slice A0 d0.length c0] 24)).heap.size := (by simp)
    have md11 : Mid 0 0 (w.alloc (.cells #[.int .i64 r0, .int .i64 s0, .slice A0 d0.length c0] 24)) ((w.alloc (.cells #[.int .i64 r0, .int .i64 s0, .slice A0 d0.length c0] 24)).alloc (.cells #[.int .i64 r1, .int .i64 s1, .slice A1 d1.length c1] 24)) := Mid.alloc _ _
    have bx12 := bx9.mid md11 (Or.inr (Nat.zero_le _))
    clear bx9
    have h13 := RG.mid h4 md11 (Or.inl (Nat.zero_le _))
    clear h4
    have h14 := RG.mid h5 md11 (Or.inl (Nat.zero_le _))
    clear h5
    have b15 := below_mid b6 z7 md11 (Or.inr rfl)
    have z16 := b15.size
    have y17 := md11.size
    have bx18 := Box.new (w.alloc (.cells #[.int .i64 r0, .int .i64 s0, .slice A0 d0.length c0] 24)) #[.int .i64 r1, .int .i64 s1, .slice A1 d1.length c1] 24
    have y19 : (w.alloc (.cells #[.int .i64 r0, .int .i64 s0, .slice A0 d0.length c0] 24)).heap.size + 1 ≤ ((w.alloc (.cells #[.int .i64 r0, .int .i64 s0, .slice A0 d0.length c0] 24)).alloc (.cells #[.int .i64 r1, .int .i64 s1, .slice A1 d1.length c1] 24)).heap.size := (by simp)
    simp only [World.size_alloc, Nat.add_assoc, Nat.reduceAdd] at bx18
    have k20 := bx12.cell 0 rfl
    have k21 := bx12.cell 1 rfl
    have k22 := bx12.cell 2 rfl
    have k23 := bx18.cell 0 rfl
    have k24 := bx18.cell 1 rfl
    have k25 := bx18.cell 2 rfl
    go_wp2_with fail
    with_reducible refine (szGraph_any _ _ _ d0 _ 1048576 _ _l0 (by omega) (by omega)).mono ?_
    rintro e w1 ⟨rfl, md26⟩
    rw [E0.out]
    have bx27 := bx12.mid md26 (Or.inr (Nat.zero_le _))
    clear bx12
    have h28 := RG.mid h13 md26 (Or.inl (Nat.zero_le _))
    clear h13
    have bx29 := bx18.mid md26 (Or.inr (Nat.zero_le _))
    clear bx18
    have h30 := RG.mid h14 md26 (Or.inl (Nat.zero_le _))
    clear h14
    have b31 := below_mid b15 z16 md26 (Or.inr rfl)
    have z32 := b31.size
    have y33 := md26.size
    clear k20
    clear k21
    clear k22
    have k34 := bx27.cell 0 rfl
    have k35 := bx27.cell 1 rfl
    have k36 := bx27.cell 2 rfl
    clear k23
    clear k24
    clear k25
    have k37 := bx29.cell 0 rfl
    have k38 := bx29.cell 1 rfl
    have k39 := bx29.cell 2 rfl
    go_wp2_with fail
    go_ret
    exact ⟨rfl, b31⟩
  rw [hs0'] at hz0
  have hp0 : 0 ≤ z0 := by omega
  have hq0 : z0 ≤ 1048576 := by omega
  have hl0 : d0.length ≤ 1048576 := by omega
  clear hs0 hs0' hz0
  obtain ⟨z1, hz1⟩ : ∃ z, z = szI z0 d1.length := ⟨_, rfl⟩
  have E1 := Lib.hid hz1.symm
  rcases szI_case z0 d1.length with hs1 | ⟨hs1, hs1'⟩
  · obtain rfl : z1 = -1 := hz1.trans hs1
    clear hs1 hz1
    have hh40 := m0
    have hh41 := m1
    go_enter Tryz.func8, Tryz.ntmps8
    have md42 : Mid 0 0 w (w.alloc (.cells #[.int .i64 r0, .int .i64 s0, .slice A0 d0.length c0] 24)) := Mid.alloc _ _
    have h43 := RG.mid hh40 md42 (Or.inl (Nat.zero_le _))
    clear hh40
    have h44 := RG.mid hh41 md42 (Or.inl (Nat.zero_le _))
    clear hh41
    have b45 := below_mid (Below.refl w.heap.size w) (Nat.le_refl w.heap.size) md42 (Or.inr rfl)
    have z46 := b45.size
    have y47 := md42.size
    have bx48 := Box.new w #[.int .i64 r0, .int .i64 s0, .slice A0 d0.length c0] 24
    have y49 : w.heap.size + 1 ≤ (w.alloc (.cells #[.int .i64 r0, .int .i64 s0, .slice A0 d0.length c0] 24)).heap.size := (by simp)
    have md50 : Mid 0 0 (w.alloc (.cells #[.int .i64 r0, .int .i64 s0, .slice A0 d0.length c0] 24)) ((w.alloc (.cells #[.int .i64 r0, .int .i64 s0, .slice A0 d0.length c0] 24)).alloc (.cells #[.int .i64 r1, .int .i64 s1, .slice A1 d1.length c1] 24)) := Mid.alloc _ _
    have bx51 := bx48.mid md50 (Or.inr (Nat.zero_le _))
    clear bx48
    have h52 := RG.mid h43 md50 (Or.inl (Nat.zero_le _))
    clear h43
    have h53 := RG.mid h44 md50 (Or.inl (Nat.zero_le _))
    clear h44
    have b54 := below_mid b45 z46 md50 (Or.inr rfl)
    have z55 := b54.size
    have y56 := md50.size
    have bx57 := Box.new (w.alloc (.cells #[.int .i64 r0, .int .i64 s0, .slice A0 d0.length c0] 24)) #[.int .i64 r1, .int .i64 s1, .slice A1 d1.length c1] 24
    have y58 : (w.alloc (.cells #[.int .i64 r0, .int .i64 s0, .slice A0 d0.length c0] 24)).heap.size + 1 ≤ ((w.alloc (.cells #[.int .i64 r0, .int .i64 s0, .slice A0 d0.length c0] 24)).alloc (.cells #[.int .i64 r1, .int .i64 s1, .slice A1 d1.length c1] 24)).heap.size := (by simp)
    simp only [World.size_alloc, Nat.add_assoc, Nat.reduceAdd] at bx57
    have k59 := bx51.cell 0 rfl
    have k60 := bx51.cell 1 rfl
    have k61 := bx51.cell 2 rfl
    have k62 := bx57.cell 0 rfl
    have k63 := bx57.cell 1 rfl
    have k64 := bx57.cell 2 rfl
    go_wp2_with fail
    with_reducible refine (szGraph_any _ _ _ d0 _ 1048576 _ _l0 (by omega) (by omega)).mono ?_
    rintro e w2 ⟨rfl, md65⟩
    rw [E0.out]
    have bx66 := bx51.mid md65 (Or.inr (Nat.zero_le _))
    clear bx51
    have h67 := RG.mid h52 md65 (Or.inl (Nat.zero_le _))
    clear h52
    have bx68 := bx57.mid md65 (Or.inr (Nat.zero_le _))
    clear bx57
    have h69 := RG.mid h53 md65 (Or.inl (Nat.zero_le _))
    clear h53
    have b70 := below_mid b54 z55 md65 (Or.inr rfl)
    have z71 := b70.size
    have y72 := md65.size
    clear k59
    clear k60
    clear k61
    have k73 := bx66.cell 0 rfl
    have k74 := bx66.cell 1 rfl
    have k75 := bx66.cell 2 rfl
    clear k62
    clear k63
    clear k64
    have k76 := bx68.cell 0 rfl
    have k77 := bx68.cell 1 rfl
    have k78 := bx68.cell 2 rfl
    go_wp2_with fail
    with_reducible refine (szGraph_any _ _ _ d1 _ z0 _ _l1 (by omega) (by omega)).mono ?_
    rintro e w3 ⟨rfl, md79⟩
    rw [E1.out]
    have bx80 := bx66.mid md79 (Or.inr (Nat.zero_le _))
    clear bx66
    have h81 := RG.mid h67 md79 (Or.inl (Nat.zero_le _))
    clear h67
    have bx82 := bx68.mid md79 (Or.inr (Nat.zero_le _))
    clear bx68
    have h83 := RG.mid h69 md79 (Or.inl (Nat.zero_le _))
    clear h69
    have b84 := below_mid b70 z71 md79 (Or.inr rfl)
    have z85 := b84.size
    have y86 := md79.size
    clear k73
    clear k74
    clear k75
    have k87 := bx80.cell 0 rfl
    have k88 := bx80.cell 1 rfl
    have k89 := bx80.cell 2 rfl
    clear k76
    clear k77
    clear k78
    have k90 := bx82.cell 0 rfl
    have k91 := bx82.cell 1 rfl
    have k92 := bx82.cell 2 rfl
    go_wp2_with fail
    go_ret
    exact ⟨rfl, b84⟩
  rw [hs1'] at hz1
  have hp1 : 0 ≤ z1 := by omega
  have hq1 : z1 ≤ 1048576 := by omega
  have hl1 : d1.length ≤ 1048576 := by omega
  clear hs1 hs1' hz1
  obtain ⟨rr0, rs0, res0, res1, HRES⟩ : ∃ rr0 rs0 res0 res1, IntersectionOfIs r0 s0 d0 r1 s1 d1 rr0 rs0 res0 res1 := IntersectionOfIs_ex r0 s0 d0 r1 s1 d1 hl0 hl1
  have hlr0 := IntersectionOfIs_len HRES hl0 hl1
  have HRES := Lib.hid HRES
  have hh93 := m0
  have hh94 := m1
  go_enter Tryz.func8, Tryz.ntmps8
  have md95 : Mid 0 0 w (w.alloc (.cells #[.int .i64 r0, .int .i64 s0, .slice A0 d0.length c0] 24)) := Mid.alloc _ _
  have h96 := RG.mid hh93 md95 (Or.inl (Nat.zero_le _))
  clear hh93
  have h97 := RG.mid hh94 md95 (Or.inl (Nat.zero_le _))
  clear hh94
  have b98 := below_mid (Below.refl w.heap.size w) (Nat.le_refl w.heap.size) md95 (Or.inr rfl)
  have z99 := b98.size
  have y100 := md95.size
  have bx101 := Box.new w #[.int .i64 r0, .int .i64 s0, .slice A0 d0.length c0] 24
  have y102 : w.heap.size + 1 ≤ (w.alloc (.cells #[.int .i64 r0, .int .i64 s0, .slice A0 d0.length c0] 24)).heap.size := (by simp)
  have md103 : Mid 0 0 (w.alloc (.cells #[.int .i64 r0, .int .i64 s0, .slice A0 d0.length c0] 24)) ((w.alloc (.cells #[.int .i64 r0, .int .i64 s0, .slice A0 d0.length c0] 24)).alloc (.cells #[.int .i64 r1, .int .i64 s1, .slice A1 d1.length c1] 24)) := Mid.alloc _ _
  have bx104 := bx101.mid md103 (Or.inr (Nat.zero_le _))
  clear bx101
  have h105 := RG.mid h96 md103 (Or.inl (Nat.zero_le _))
  clear h96
  have h106 := RG.mid h97 md103 (Or.inl (Nat.zero_le _))
  clear h97
  have b107 := below_mid b98 z99 md103 (Or.inr rfl)
  have z108 := b107.size
  have y109 := md103.size
  have bx110 := Box.new (w.alloc (.cells #[.int .i64 r0, .int .i64 s0, .slice A0 d0.length c0] 24)) #[.int .i64 r1, .int .i64 s1, .slice A1 d1.length c1] 24
  have y111 : (w.alloc (.cells #[.int .i64 r0, .int .i64 s0, .slice A0 d0.length c0] 24)).heap.size + 1 ≤ ((w.alloc (.cells #[.int .i64 r0, .int .i64 s0, .slice A0 d0.length c0] 24)).alloc (.cells #[.int .i64 r1, .int .i64 s1, .slice A1 d1.length c1] 24)).heap.size := (by simp)
  simp only [World.size_alloc, Nat.add_assoc, Nat.reduceAdd] at bx110
  have k112 := bx104.cell 0 rfl
  have k113 := bx104.cell 1 rfl
  have k114 := bx104.cell 2 rfl
  have k115 := bx110.cell 0 rfl
  have k116 := bx110.cell 1 rfl
  have k117 := bx110.cell 2 rfl
  go_wp2_with fail
  with_reducible refine (szGraph_any _ _ _ d0 _ 1048576 _ _l0 (by omega) (by omega)).mono ?_
  rintro e w4 ⟨rfl, md118⟩
  rw [E0.out]
  have bx119 := bx104.mid md118 (Or.inr (Nat.zero_le _))
  clear bx104
  have h120 := RG.mid h105 md118 (Or.inl (Nat.zero_le _))
  clear h105
  have bx121 := bx110.mid md118 (Or.inr (Nat.zero_le _))
  clear bx110
  have h122 := RG.mid h106 md118 (Or.inl (Nat.zero_le _))
  clear h106
  have b123 := below_mid b107 z108 md118 (Or.inr rfl)
  have z124 := b123.size
  have y125 := md118.size
  clear k112
  clear k113
  clear k114
  have k126 := bx119.cell 0 rfl
  have k127 := bx119.cell 1 rfl
  have k128 := bx119.cell 2 rfl
  clear k115
  clear k116
  clear k117
  have k129 := bx121.cell 0 rfl
  have k130 := bx121.cell 1 rfl
  have k131 := bx121.cell 2 rfl
  go_wp2_with fail
  with_reducible refine (szGraph_any _ _ _ d1 _ z0 _ _l1 (by omega) (by omega)).mono ?_
  rintro e w5 ⟨rfl, md132⟩
  rw [E1.out]
  have bx133 := bx119.mid md132 (Or.inr (Nat.zero_le _))
  clear bx119
  have h134 := RG.mid h120 md132 (Or.inl (Nat.zero_le _))
  clear h120
  have bx135 := bx121.mid md132 (Or.inr (Nat.zero_le _))
  clear bx121
  have h136 := RG.mid h122 md132 (Or.inl (Nat.zero_le _))
  clear h122
  have b137 := below_mid b123 z124 md132 (Or.inr rfl)
  have z138 := b137.size
  have y139 := md132.size
  clear k126
  clear k127
  clear k128
  have k140 := bx133.cell 0 rfl
  have k141 := bx133.cell 1 rfl
  have k142 := bx133.cell 2 rfl
  clear k129
  clear k130
  clear k131
  have k143 := bx135.cell 0 rfl
  have k144 := bx135.cell 1 rfl
  have k145 := bx135.cell 2 rfl
  go_upto_region 8 with fail
  go_cut [6,7] (fun s6 s7 wx => ∃ (g : Nat) (A0' : Option Addr) (c0' : Nat), s6 = .pointer (some ⟨g, 0, none⟩) ∧ s7 = .bool res1 ∧ Box wx g [.int .i64 rr0, .int .i64 rs0, .slice A0' res0.length c0'] ∧ OG wx w5.heap.size (wx.heap.size) A0' c0' res0 ∧ Mid 0 0 w5 wx ∧ w5.heap.size ≤ g)
  case first =>
    have md146 : Mid 0 0 w5 w5.drew := Mid.drew1 _
    have bx147 := bx133.mid md146 (Or.inr (Nat.zero_le _))
    have h148 := RG.mid h134 md146 (Or.inl (Nat.zero_le _))
    have bx149 := bx135.mid md146 (Or.inr (Nat.zero_le _))
    have h150 := RG.mid h136 md146 (Or.inl (Nat.zero_le _))
    have b151 := below_mid b137 z138 md146 (Or.inr rfl)
    have z152 := b151.size
    have y153 := md146.size
    have k154 := bx147.cell 0 rfl
    have k155 := bx147.cell 1 rfl
    have k156 := bx147.cell 2 rfl
    have k157 := bx149.cell 0 rfl
    have k158 := bx149.cell 1 rfl
    have k159 := bx149.cell 2 rfl
    have y160 : w5.drew.heap.size = w5.heap.size := rfl
    go_region_held3 (fun w' => w'.cell? ⟨w.heap.size, 0, none⟩ = some (.int .i64 r0) ∧ w'.cell? ⟨w.heap.size, 1, none⟩ = some (.int .i64 s0) ∧ w'.cell? ⟨w.heap.size, 2, none⟩ = some (.slice A0 d0.length c0) ∧ w'.cell? ⟨w.heap.size + 1, 0, none⟩ = some (.int .i64 r1) ∧ w'.cell? ⟨w.heap.size + 1, 1, none⟩ = some (.int .i64 s1) ∧ w'.cell? ⟨w.heap.size + 1, 2, none⟩ = some (.slice A1 d1.length c1)) (first | exact ⟨k140, k141, k142, k143, k144, k145⟩ | exact ⟨k154, k155, k156, k157, k158, k159⟩ | exact ⟨k173, k174, k175, k176, k177, k178⟩ | exact ⟨k192, k193, k194, k195, k196, k197⟩ | exact ⟨k213, k214, k215, k216, k217, k218⟩ | exact ⟨(bx203.mid (Mid.alloc _ _) (Or.inr (Nat.zero_le _))).cell 0 rfl, (bx203.mid (Mid.alloc _ _) (Or.inr (Nat.zero_le _))).cell 1 rfl, (bx203.mid (Mid.alloc _ _) (Or.inr (Nat.zero_le _))).cell 2 rfl, (bx205.mid (Mid.alloc _ _) (Or.inr (Nat.zero_le _))).cell 0 rfl, (bx205.mid (Mid.alloc _ _) (Or.inr (Nat.zero_le _))).cell 1 rfl, (bx205.mid (Mid.alloc _ _) (Or.inr (Nat.zero_le _))).cell 2 rfl⟩ | exact ⟨(bx183.mid (Mid.alloc _ _) (Or.inr (Nat.zero_le _))).cell 0 rfl, (bx183.mid (Mid.alloc _ _) (Or.inr (Nat.zero_le _))).cell 1 rfl, (bx183.mid (Mid.alloc _ _) (Or.inr (Nat.zero_le _))).cell 2 rfl, (bx185.mid (Mid.alloc _ _) (Or.inr (Nat.zero_le _))).cell 0 rfl, (bx185.mid (Mid.alloc _ _) (Or.inr (Nat.zero_le _))).cell 1 rfl, (bx185.mid (Mid.alloc _ _) (Or.inr (Nat.zero_le _))).cell 2 rfl⟩ | exact ⟨k258, k259, k260, k261, k262, k263⟩ | exact ⟨(((bx247.mid (Mid.setCell w9 (lo := w7.heap.size) (hi := w7.heap.size + 1) (p := ⟨w7.heap.size, 0, none⟩) (.int .i64 rr0) (by simp) (by simp)) (by omega)).mid (Mid.setCell (w9.setCell ⟨w7.heap.size, 0, none⟩ (.int .i64 rr0)) (lo := w7.heap.size) (hi := w7.heap.size + 1) (p := ⟨w7.heap.size, 1, none⟩) (.int .i64 rs0) (by simp) (by simp)) (by omega)).mid (Mid.setCell ((w9.setCell ⟨w7.heap.size, 0, none⟩ (.int .i64 rr0)).setCell ⟨w7.heap.size, 1, none⟩ (.int .i64 rs0)) (lo := w7.heap.size) (hi := w7.heap.size + 1) (p := ⟨w7.heap.size, 2, none⟩) (.slice AA243 res0.length cc244) (by simp) (by simp)) (by omega)).cell 0 rfl, (((bx247.mid (Mid.setCell w9 (lo := w7.heap.size) (hi := w7.heap.size + 1) (p := ⟨w7.heap.size, 0, none⟩) (.int .i64 rr0) (by simp) (by simp)) (by omega)).mid (Mid.setCell (w9.setCell ⟨w7.heap.size, 0, none⟩ (.int .i64 rr0)) (lo := w7.heap.size) (hi := w7.heap.size + 1) (p := ⟨w7.heap.size, 1, none⟩) (.int .i64 rs0) (by simp) (by simp)) (by omega)).mid (Mid.setCell ((w9.setCell ⟨w7.heap.size, 0, none⟩ (.int .i64 rr0)).setCell ⟨w7.heap.size, 1, none⟩ (.int .i64 rs0)) (lo := w7.heap.size) (hi := w7.heap.size + 1) (p := ⟨w7.heap.size, 2, none⟩) (.slice AA243 res0.length cc244) (by simp) (by simp)) (by omega)).cell 1 rfl, (((bx247.mid (Mid.setCell w9 (lo := w7.heap.size) (hi := w7.heap.size + 1) (p := ⟨w7.heap.size, 0, none⟩) (.int .i64 rr0) (by simp) (by simp)) (by omega)).mid (Mid.setCell (w9.setCell ⟨w7.heap.size, 0, none⟩ (.int .i64 rr0)) (lo := w7.heap.size) (hi := w7.heap.size + 1) (p := ⟨w7.heap.size, 1, none⟩) (.int .i64 rs0) (by simp) (by simp)) (by omega)).mid (Mid.setCell ((w9.setCell ⟨w7.heap.size, 0, none⟩ (.int .i64 rr0)).setCell ⟨w7.heap.size, 1, none⟩ (.int .i64 rs0)) (lo := w7.heap.size) (hi := w7.heap.size + 1) (p := ⟨w7.heap.size, 2, none⟩) (.slice AA243 res0.length cc244) (by simp) (by simp)) (by omega)).cell 2 rfl, (((bx249.mid (Mid.setCell w9 (lo := w7.heap.size) (hi := w7.heap.size + 1) (p := ⟨w7.heap.size, 0, none⟩) (.int .i64 rr0) (by simp) (by simp)) (by omega)).mid (Mid.setCell (w9.setCell ⟨w7.heap.size, 0, none⟩ (.int .i64 rr0)) (lo := w7.heap.size) (hi := w7.heap.size + 1) (p := ⟨w7.heap.size, 1, none⟩) (.int .i64 rs0) (by simp) (by simp)) (by omega)).mid (Mid.setCell ((w9.setCell ⟨w7.heap.size, 0, none⟩ (.int .i64 rr0)).setCell ⟨w7.heap.size, 1, none⟩ (.int .i64 rs0)) (lo := w7.heap.size) (hi := w7.heap.size + 1) (p := ⟨w7.heap.size, 2, none⟩) (.slice AA243 res0.length cc244) (by simp) (by simp)) (by omega)).cell 0 rfl, (((bx249.mid (Mid.setCell w9 (lo := w7.heap.size) (hi := w7.heap.size + 1) (p := ⟨w7.heap.size, 0, none⟩) (.int .i64 rr0) (by simp) (by simp)) (by omega)).mid (Mid.setCell (w9.setCell ⟨w7.heap.size, 0, none⟩ (.int .i64 rr0)) (lo := w7.heap.size) (hi := w7.heap.size + 1) (p := ⟨w7.heap.size, 1, none⟩) (.int .i64 rs0) (by simp) (by simp)) (by omega)).mid (Mid.setCell ((w9.setCell ⟨w7.heap.size, 0, none⟩ (.int .i64 rr0)).setCell ⟨w7.heap.size, 1, none⟩ (.int .i64 rs0)) (lo := w7.heap.size) (hi := w7.heap.size + 1) (p := ⟨w7.heap.size, 2, none⟩) (.slice AA243 res0.length cc244) (by simp) (by simp)) (by omega)).cell 1 rfl, (((bx249.mid (Mid.setCell w9 (lo := w7.heap.size) (hi := w7.heap.size + 1) (p := ⟨w7.heap.size, 0, none⟩) (.int .i64 rr0) (by simp) (by simp)) (by omega)).mid (Mid.setCell (w9.setCell ⟨w7.heap.size, 0, none⟩ (.int .i64 rr0)) (lo := w7.heap.size) (hi := w7.heap.size + 1) (p := ⟨w7.heap.size, 1, none⟩) (.int .i64 rs0) (by simp) (by simp)) (by omega)).mid (Mid.setCell ((w9.setCell ⟨w7.heap.size, 0, none⟩ (.int .i64 rr0)).setCell ⟨w7.heap.size, 1, none⟩ (.int .i64 rs0)) (lo := w7.heap.size) (hi := w7.heap.size + 1) (p := ⟨w7.heap.size, 2, none⟩) (.slice AA243 res0.length cc244) (by simp) (by simp)) (by omega)).cell 2 rfl⟩ | exact ⟨(bx165.mid (Mid.alloc _ _) (Or.inr (Nat.zero_le _))).cell 0 rfl, (bx165.mid (Mid.alloc _ _) (Or.inr (Nat.zero_le _))).cell 1 rfl, (bx165.mid (Mid.alloc _ _) (Or.inr (Nat.zero_le _))).cell 2 rfl, (bx167.mid (Mid.alloc _ _) (Or.inr (Nat.zero_le _))).cell 0 rfl, (bx167.mid (Mid.alloc _ _) (Or.inr (Nat.zero_le _))).cell 1 rfl, (bx167.mid (Mid.alloc _ _) (Or.inr (Nat.zero_le _))).cell 2 rfl⟩ | exact ⟨k304, k305, k306, k307, k308, k309⟩ | exact ⟨k330, k331, k332, k333, k334, k335⟩ | exact ⟨(((bx319.mid (Mid.setCell w11 (lo := w6.heap.size) (hi := w6.heap.size + 1) (p := ⟨w6.heap.size, 0, none⟩) (.int .i64 rr0) (by simp) (by simp)) (by omega)).mid (Mid.setCell (w11.setCell ⟨w6.heap.size, 0, none⟩ (.int .i64 rr0)) (lo := w6.heap.size) (hi := w6.heap.size + 1) (p := ⟨w6.heap.size, 1, none⟩) (.int .i64 rs0) (by simp) (by simp)) (by omega)).mid (Mid.setCell ((w11.setCell ⟨w6.heap.size, 0, none⟩ (.int .i64 rr0)).setCell ⟨w6.heap.size, 1, none⟩ (.int .i64 rs0)) (lo := w6.heap.size) (hi := w6.heap.size + 1) (p := ⟨w6.heap.size, 2, none⟩) (.slice AA315 res0.length cc316) (by simp) (by simp)) (by omega)).cell 0 rfl, (((bx319.mid (Mid.setCell w11 (lo := w6.heap.size) (hi := w6.heap.size + 1) (p := ⟨w6.heap.size, 0, none⟩) (.int .i64 rr0) (by simp) (by simp)) (by omega)).mid (Mid.setCell (w11.setCell ⟨w6.heap.size, 0, none⟩ (.int .i64 rr0)) (lo := w6.heap.size) (hi := w6.heap.size + 1) (p := ⟨w6.heap.size, 1, none⟩) (.int .i64 rs0) (by simp) (by simp)) (by omega)).mid (Mid.setCell ((w11.setCell ⟨w6.heap.size, 0, none⟩ (.int .i64 rr0)).setCell ⟨w6.heap.size, 1, none⟩ (.int .i64 rs0)) (lo := w6.heap.size) (hi := w6.heap.size + 1) (p := ⟨w6.heap.size, 2, none⟩) (.slice AA315 res0.length cc316) (by simp) (by simp)) (by omega)).cell 1 rfl, (((bx319.mid (Mid.setCell w11 (lo := w6.heap.size) (hi := w6.heap.size + 1) (p := ⟨w6.heap.size, 0, none⟩) (.int .i64 rr0) (by simp) (by simp)) (by omega)).mid (Mid.setCell (w11.setCell ⟨w6.heap.size, 0, none⟩ (.int .i64 rr0)) (lo := w6.heap.size) (hi := w6.heap.size + 1) (p := ⟨w6.heap.size, 1, none⟩) (.int .i64 rs0) (by simp) (by simp)) (by omega)).mid (Mid.setCell ((w11.setCell ⟨w6.heap.size, 0, none⟩ (.int .i64 rr0)).setCell ⟨w6.heap.size, 1, none⟩ (.int .i64 rs0)) (lo := w6.heap.size) (hi := w6.heap.size + 1) (p := ⟨w6.heap.size, 2, none⟩) (.slice AA315 res0.length cc316) (by simp) (by simp)) (by omega)).cell 2 rfl, (((bx321.mid (Mid.setCell w11 (lo := w6.heap.size) (hi := w6.heap.size + 1) (p := ⟨w6.heap.size, 0, none⟩) (.int .i64 rr0) (by simp) (by simp)) (by omega)).mid (Mid.setCell (w11.setCell ⟨w6.heap.size, 0, none⟩ (.int .i64 rr0)) (lo := w6.heap.size) (hi := w6.heap.size + 1) (p := ⟨w6.heap.size, 1, none⟩) (.int .i64 rs0) (by simp) (by simp)) (by omega)).mid (Mid.setCell ((w11.setCell ⟨w6.heap.size, 0, none⟩ (.int .i64 rr0)).setCell ⟨w6.heap.size, 1, none⟩ (.int .i64 rs0)) (lo := w6.heap.size) (hi := w6.heap.size + 1) (p := ⟨w6.heap.size, 2, none⟩) (.slice AA315 res0.length cc316) (by simp) (by simp)) (by omega)).cell 0 rfl, (((bx321.mid (Mid.setCell w11 (lo := w6.heap.size) (hi := w6.heap.size + 1) (p := ⟨w6.heap.size, 0, none⟩) (.int .i64 rr0) (by simp) (by simp)) (by omega)).mid (Mid.setCell (w11.setCell ⟨w6.heap.size, 0, none⟩ (.int .i64 rr0)) (lo := w6.heap.size) (hi := w6.heap.size + 1) (p := ⟨w6.heap.size, 1, none⟩) (.int .i64 rs0) (by simp) (by simp)) (by omega)).mid (Mid.setCell ((w11.setCell ⟨w6.heap.size, 0, none⟩ (.int .i64 rr0)).setCell ⟨w6.heap.size, 1, none⟩ (.int .i64 rs0)) (lo := w6.heap.size) (hi := w6.heap.size + 1) (p := ⟨w6.heap.size, 2, none⟩) (.slice AA315 res0.length cc316) (by simp) (by simp)) (by omega)).cell 1 rfl, (((bx321.mid (Mid.setCell w11 (lo := w6.heap.size) (hi := w6.heap.size + 1) (p := ⟨w6.heap.size, 0, none⟩) (.int .i64 rr0) (by simp) (by simp)) (by omega)).mid (Mid.setCell (w11.setCell ⟨w6.heap.size, 0, none⟩ (.int .i64 rr0)) (lo := w6.heap.size) (hi := w6.heap.size + 1) (p := ⟨w6.heap.size, 1, none⟩) (.int .i64 rs0) (by simp) (by simp)) (by omega)).mid (Mid.setCell ((w11.setCell ⟨w6.heap.size, 0, none⟩ (.int .i64 rr0)).setCell ⟨w6.heap.size, 1, none⟩ (.int .i64 rs0)) (lo := w6.heap.size) (hi := w6.heap.size + 1) (p := ⟨w6.heap.size, 2, none⟩) (.slice AA315 res0.length cc316) (by simp) (by simp)) (by omega)).cell 2 rfl⟩ | exact ⟨(bx133.mid (Mid.alloc _ _) (Or.inr (Nat.zero_le _))).cell 0 rfl, (bx133.mid (Mid.alloc _ _) (Or.inr (Nat.zero_le _))).cell 1 rfl, (bx133.mid (Mid.alloc _ _) (Or.inr (Nat.zero_le _))).cell 2 rfl, (bx135.mid (Mid.alloc _ _) (Or.inr (Nat.zero_le _))).cell 0 rfl, (bx135.mid (Mid.alloc _ _) (Or.inr (Nat.zero_le _))).cell 1 rfl, (bx135.mid (Mid.alloc _ _) (Or.inr (Nat.zero_le _))).cell 2 rfl⟩ | exact ⟨bx342.cell 0 rfl, bx342.cell 1 rfl, bx342.cell 2 rfl, bx344.cell 0 rfl, bx344.cell 1 rfl, bx344.cell 2 rfl⟩ | exact ⟨k374, k375, k376, k377, k378, k379⟩ | exact ⟨k398, k399, k400, k401, k402, k403⟩ | exact ⟨k424, k425, k426, k427, k428, k429⟩ | exact ⟨(((bx413.mid (Mid.setCell w14 (lo := w5.heap.size) (hi := w5.heap.size + 1) (p := ⟨w5.heap.size, 0, none⟩) (.int .i64 rr0) (by simp) (by simp)) (by omega)).mid (Mid.setCell (w14.setCell ⟨w5.heap.size, 0, none⟩ (.int .i64 rr0)) (lo := w5.heap.size) (hi := w5.heap.size + 1) (p := ⟨w5.heap.size, 1, none⟩) (.int .i64 rs0) (by simp) (by simp)) (by omega)).mid (Mid.setCell ((w14.setCell ⟨w5.heap.size, 0, none⟩ (.int .i64 rr0)).setCell ⟨w5.heap.size, 1, none⟩ (.int .i64 rs0)) (lo := w5.heap.size) (hi := w5.heap.size + 1) (p := ⟨w5.heap.size, 2, none⟩) (.slice AA409 res0.length cc410) (by simp) (by simp)) (by omega)).cell 0 rfl, (((bx413.mid (Mid.setCell w14 (lo := w5.heap.size) (hi := w5.heap.size + 1) (p := ⟨w5.heap.size, 0, none⟩) (.int .i64 rr0) (by simp) (by simp)) (by omega)).mid (Mid.setCell (w14.setCell ⟨w5.heap.size, 0, none⟩ (.int .i64 rr0)) (lo := w5.heap.size) (hi := w5.heap.size + 1) (p := ⟨w5.heap.size, 1, none⟩) (.int .i64 rs0) (by simp) (by simp)) (by omega)).mid (Mid.setCell ((w14.setCell ⟨w5.heap.size, 0, none⟩ (.int .i64 rr0)).setCell ⟨w5.heap.size, 1, none⟩ (.int .i64 rs0)) (lo := w5.heap.size) (hi := w5.heap.size + 1) (p := ⟨w5.heap.size, 2, none⟩) (.slice AA409 res0.length cc410) (by simp) (by simp)) (by omega)).cell 1 rfl, (((bx413.mid (Mid.setCell w14 (lo := w5.heap.size) (hi := w5.heap.size + 1) (p := ⟨w5.heap.size, 0, none⟩) (.int .i64 rr0) (by simp) (by simp)) (by omega)).mid (Mid.setCell (w14.setCell ⟨w5.heap.size, 0, none⟩ (.int .i64 rr0)) (lo := w5.heap.size) (hi := w5.heap.size + 1) (p := ⟨w5.heap.size, 1, none⟩) (.int .i64 rs0) (by simp) (by simp)) (by omega)).mid (Mid.setCell ((w14.setCell ⟨w5.heap.size, 0, none⟩ (.int .i64 rr0)).setCell ⟨w5.heap.size, 1, none⟩ (.int .i64 rs0)) (lo := w5.heap.size) (hi := w5.heap.size + 1) (p := ⟨w5.heap.size, 2, none⟩) (.slice AA409 res0.length cc410) (by simp) (by simp)) (by omega)).cell 2 rfl, (((bx415.mid (Mid.setCell w14 (lo := w5.heap.size) (hi := w5.heap.size + 1) (p := ⟨w5.heap.size, 0, none⟩) (.int .i64 rr0) (by simp) (by simp)) (by omega)).mid (Mid.setCell (w14.setCell ⟨w5.heap.size, 0, none⟩ (.int .i64 rr0)) (lo := w5.heap.size) (hi := w5.heap.size + 1) (p := ⟨w5.heap.size, 1, none⟩) (.int .i64 rs0) (by simp) (by simp)) (by omega)).mid (Mid.setCell ((w14.setCell ⟨w5.heap.size, 0, none⟩ (.int .i64 rr0)).setCell ⟨w5.heap.size, 1, none⟩ (.int .i64 rs0)) (lo := w5.heap.size) (hi := w5.heap.size + 1) (p := ⟨w5.heap.size, 2, none⟩) (.slice AA409 res0.length cc410) (by simp) (by simp)) (by omega)).cell 0 rfl, (((bx415.mid (Mid.setCell w14 (lo := w5.heap.size) (hi := w5.heap.size + 1) (p := ⟨w5.heap.size, 0, none⟩) (.int .i64 rr0) (by simp) (by simp)) (by omega)).mid (Mid.setCell (w14.setCell ⟨w5.heap.size, 0, none⟩ (.int .i64 rr0)) (lo := w5.heap.size) (hi := w5.heap.size + 1) (p := ⟨w5.heap.size, 1, none⟩) (.int .i64 rs0) (by simp) (by simp)) (by omega)).mid (Mid.setCell ((w14.setCell ⟨w5.heap.size, 0, none⟩ (.int .i64 rr0)).setCell ⟨w5.heap.size, 1, none⟩ (.int .i64 rs0)) (lo := w5.heap.size) (hi := w5.heap.size + 1) (p := ⟨w5.heap.size, 2, none⟩) (.slice AA409 res0.length cc410) (by simp) (by simp)) (by omega)).cell 1 rfl, (((bx415.mid (Mid.setCell w14 (lo := w5.heap.size) (hi := w5.heap.size + 1) (p := ⟨w5.heap.size, 0, none⟩) (.int .i64 rr0) (by simp) (by simp)) (by omega)).mid (Mid.setCell (w14.setCell ⟨w5.heap.size, 0, none⟩ (.int .i64 rr0)) (lo := w5.heap.size) (hi := w5.heap.size + 1) (p := ⟨w5.heap.size, 1, none⟩) (.int .i64 rs0) (by simp) (by simp)) (by omega)).mid (Mid.setCell ((w14.setCell ⟨w5.heap.size, 0, none⟩ (.int .i64 rr0)).setCell ⟨w5.heap.size, 1, none⟩ (.int .i64 rs0)) (lo := w5.heap.size) (hi := w5.heap.size + 1) (p := ⟨w5.heap.size, 2, none⟩) (.slice AA409 res0.length cc410) (by simp) (by simp)) (by omega)).cell 2 rfl⟩) (first | (go_at_call 11; with_reducible refine (toGraph_any r0 s0 _ d0 _ _ _ _ h148 hl0).mono ?_; rintro e w6 ⟨AA161, cc162, rfl, h163, md164⟩; have bx165 := bx147.mid md164 (Or.inr (Nat.zero_le _)); have h166 := RG.mid h148 md164 (Or.inl (Nat.zero_le _)); have bx167 := bx149.mid md164 (Or.inr (Nat.zero_le _)); have h168 := RG.mid h150 md164 (Or.inl (Nat.zero_le _)); have b169 := below_mid b151 z152 md164 (Or.inr rfl); have z170 := b169.size; have y171 := md164.size; have tt172 := md146.trans md164; have k173 := bx165.cell 0 rfl; have k174 := bx165.cell 1 rfl; have k175 := bx165.cell 2 rfl; have k176 := bx167.cell 0 rfl; have k177 := bx167.cell 1 rfl; have k178 := bx167.cell 2 rfl) | (go_at_call 11; with_reducible refine (toGraph_any r1 s1 _ d1 _ _ _ _ h168 hl1).mono ?_; rintro e w7 ⟨AA179, cc180, rfl, h181, md182⟩; have bx183 := bx165.mid md182 (Or.inr (Nat.zero_le _)); have h184 := RG.mid h166 md182 (Or.inl (Nat.zero_le _)); have bx185 := bx167.mid md182 (Or.inr (Nat.zero_le _)); have h186 := RG.mid h168 md182 (Or.inl (Nat.zero_le _)); have h187 := OG.mid h163 md182 (Or.inl (Nat.zero_le _)); have b188 := below_mid b169 z170 md182 (Or.inr rfl); have z189 := b188.size; have y190 := md182.size; have tt191 := tt172.trans md182; have k192 := bx183.cell 0 rfl; have k193 := bx183.cell 1 rfl; have k194 := bx183.cell 2 rfl; have k195 := bx185.cell 0 rfl; have k196 := bx185.cell 1 rfl; have k197 := bx185.cell 2 rfl) | (go_at_call 35; with_reducible refine (sspec_IntersectionOf r0 s0 _ d0 _ r1 s1 _ d1 _ _ _ _ h187  hl0 _ _ h181  hl1 rr0 rs0 res0 res1 HRES.out).mono ?_; rintro e w8 ⟨AA199, cc200, rfl, h201, md198⟩; have bx203 := bx183.mid md198 (Or.inr (Nat.zero_le _)); have h204 := RG.mid h184 md198 (Or.inl (Nat.zero_le _)); have bx205 := bx185.mid md198 (Or.inr (Nat.zero_le _)); have h206 := RG.mid h186 md198 (Or.inl (Nat.zero_le _)); have h207 := OG.mid h187 md198 (Or.inl (Nat.zero_le _)); have h208 := OG.mid h181 md198 (Or.inl (Nat.zero_le _)); have b209 := below_mid b188 z189 md198 (Or.inr rfl); have z210 := b209.size; have y211 := md198.size; have tt212 := tt191.trans md198; have k213 := bx203.cell 0 rfl; have k214 := bx203.cell 1 rfl; have k215 := bx203.cell 2 rfl; have k216 := bx205.cell 0 rfl; have k217 := bx205.cell 1 rfl; have k218 := bx205.cell 2 rfl) | (go_at_call 35; have md219 : Mid 0 0 w7 (w7.alloc (.cells #[.int .i64 0, .int .i64 0, .slice none 0 0] 29)) := Mid.alloc _ _; have bx220 := bx183.mid md219 (Or.inr (Nat.zero_le _)); have h221 := RG.mid h184 md219 (Or.inl (Nat.zero_le _)); have bx222 := bx185.mid md219 (Or.inr (Nat.zero_le _)); have h223 := RG.mid h186 md219 (Or.inl (Nat.zero_le _)); have h224 := OG.mid h187 md219 (Or.inl (Nat.zero_le _)); have h225 := OG.mid h181 md219 (Or.inl (Nat.zero_le _)); have b226 := below_mid b188 z189 md219 (Or.inr rfl); have z227 := b226.size; have y228 := md219.size; have tt229 := tt191.trans md219; have bz230 : Box (w7.alloc (.cells #[.int .i64 0, .int .i64 0, .slice none 0 0] 29)) (w7.heap.size) [.int .i64 0, .int .i64 0, .slice none 0 0] := Box.new w7 #[.int .i64 0, .int .i64 0, .slice none 0 0] 29; have y231 : w7.heap.size + 1 ≤ (w7.alloc (.cells #[.int .i64 0, .int .i64 0, .slice none 0 0] 29)).heap.size := (by simp); have k232 := bx220.cell 0 rfl; have k233 := bx220.cell 1 rfl; have k234 := bx220.cell 2 rfl; have k235 := bx222.cell 0 rfl; have k236 := bx222.cell 1 rfl; have k237 := bx222.cell 2 rfl; have k238 := bz230.cell 0 rfl; have k239 := bz230.cell 1 rfl; have k240 := bz230.cell 2 rfl; have f241 := frz_IntersectionOf bz230; with_reducible refine (sspec_IntersectionOf r0 s0 _ d0 _ r1 s1 _ d1 _ _ _ _ h224  hl0 _ _ h225  hl1 rr0 rs0 res0 res1 HRES.out).mono ?_; rintro e w9 ⟨AA243, cc244, rfl, h245, md242⟩; have bx247 := bx220.mid md242 (Or.inr (Nat.zero_le _)); have h248 := RG.mid h221 md242 (Or.inl (Nat.zero_le _)); have bx249 := bx222.mid md242 (Or.inr (Nat.zero_le _)); have h250 := RG.mid h223 md242 (Or.inl (Nat.zero_le _)); have h251 := OG.mid h224 md242 (Or.inl (Nat.zero_le _)); have h252 := OG.mid h225 md242 (Or.inl (Nat.zero_le _)); have bx253 := bz230.mid md242 (Or.inr (Nat.zero_le _)); have b254 := below_mid b226 z227 md242 (Or.inr rfl); have z255 := b254.size; have y256 := md242.size; have tt257 := tt229.trans md242; have k258 := bx247.cell 0 rfl; have k259 := bx247.cell 1 rfl; have k260 := bx247.cell 2 rfl; have k261 := bx249.cell 0 rfl; have k262 := bx249.cell 1 rfl; have k263 := bx249.cell 2 rfl; have k264 := bx253.cell 0 rfl; have k265 := bx253.cell 1 rfl; have k266 := bx253.cell 2 rfl; have f267 := frz_IntersectionOf bx253) | (go_at_call 11; have md268 : Mid 0 0 w6 (w6.alloc (.cells #[.int .i64 0, .int .i64 0, .slice none 0 0] 29)) := Mid.alloc _ _; have bx269 := bx165.mid md268 (Or.inr (Nat.zero_le _)); have h270 := RG.mid h166 md268 (Or.inl (Nat.zero_le _)); have bx271 := bx167.mid md268 (Or.inr (Nat.zero_le _)); have h272 := RG.mid h168 md268 (Or.inl (Nat.zero_le _)); have h273 := OG.mid h163 md268 (Or.inl (Nat.zero_le _)); have b274 := below_mid b169 z170 md268 (Or.inr rfl); have z275 := b274.size; have y276 := md268.size; have tt277 := tt172.trans md268; have bz278 : Box (w6.alloc (.cells #[.int .i64 0, .int .i64 0, .slice none 0 0] 29)) (w6.heap.size) [.int .i64 0, .int .i64 0, .slice none 0 0] := Box.new w6 #[.int .i64 0, .int .i64 0, .slice none 0 0] 29; have y279 : w6.heap.size + 1 ≤ (w6.alloc (.cells #[.int .i64 0, .int .i64 0, .slice none 0 0] 29)).heap.size := (by simp); have k280 := bx269.cell 0 rfl; have k281 := bx269.cell 1 rfl; have k282 := bx269.cell 2 rfl; have k283 := bx271.cell 0 rfl; have k284 := bx271.cell 1 rfl; have k285 := bx271.cell 2 rfl; have k286 := bz278.cell 0 rfl; have k287 := bz278.cell 1 rfl; have k288 := bz278.cell 2 rfl; have f289 := frz_IntersectionOf bz278; with_reducible refine (toGraph_any r1 s1 _ d1 _ _ _ _ h272 hl1).mono ?_; rintro e w10 ⟨AA290, cc291, rfl, h292, md293⟩; have bx294 := bx269.mid md293 (Or.inr (Nat.zero_le _)); have h295 := RG.mid h270 md293 (Or.inl (Nat.zero_le _)); have bx296 := bx271.mid md293 (Or.inr (Nat.zero_le _)); have h297 := RG.mid h272 md293 (Or.inl (Nat.zero_le _)); have h298 := OG.mid h273 md293 (Or.inl (Nat.zero_le _)); have bx299 := bz278.mid md293 (Or.inr (Nat.zero_le _)); have b300 := below_mid b274 z275 md293 (Or.inr rfl); have z301 := b300.size; have y302 := md293.size; have tt303 := tt277.trans md293; have k304 := bx294.cell 0 rfl; have k305 := bx294.cell 1 rfl; have k306 := bx294.cell 2 rfl; have k307 := bx296.cell 0 rfl; have k308 := bx296.cell 1 rfl; have k309 := bx296.cell 2 rfl; have k310 := bx299.cell 0 rfl; have k311 := bx299.cell 1 rfl; have k312 := bx299.cell 2 rfl; have f313 := frz_IntersectionOf bx299) | (go_at_call 35; with_reducible refine (sspec_IntersectionOf r0 s0 _ d0 _ r1 s1 _ d1 _ _ _ _ h298  hl0 _ _ h292  hl1 rr0 rs0 res0 res1 HRES.out).mono ?_; rintro e w11 ⟨AA315, cc316, rfl, h317, md314⟩; have bx319 := bx294.mid md314 (Or.inr (Nat.zero_le _)); have h320 := RG.mid h295 md314 (Or.inl (Nat.zero_le _)); have bx321 := bx296.mid md314 (Or.inr (Nat.zero_le _)); have h322 := RG.mid h297 md314 (Or.inl (Nat.zero_le _)); have h323 := OG.mid h298 md314 (Or.inl (Nat.zero_le _)); have bx324 := bx299.mid md314 (Or.inr (Nat.zero_le _)); have h325 := OG.mid h292 md314 (Or.inl (Nat.zero_le _)); have b326 := below_mid b300 z301 md314 (Or.inr rfl); have z327 := b326.size; have y328 := md314.size; have tt329 := tt303.trans md314; have k330 := bx319.cell 0 rfl; have k331 := bx319.cell 1 rfl; have k332 := bx319.cell 2 rfl; have k333 := bx321.cell 0 rfl; have k334 := bx321.cell 1 rfl; have k335 := bx321.cell 2 rfl; have k336 := bx324.cell 0 rfl; have k337 := bx324.cell 1 rfl; have k338 := bx324.cell 2 rfl; have f339 := frz_IntersectionOf bx324) | (go_at_call 11; have md340 : Mid 0 0 w5 (w5.alloc (.cells #[.int .i64 0, .int .i64 0, .slice none 0 0] 29)) := Mid.alloc _ _; have md341 : Mid 0 0 w5 (w5.alloc (.cells #[.int .i64 0, .int .i64 0, .slice none 0 0] 29)).drew := md340.trans (Mid.drew1 _); have bx342 := bx133.mid md341 (Or.inr (Nat.zero_le _)); have h343 := RG.mid h134 md341 (Or.inl (Nat.zero_le _)); have bx344 := bx135.mid md341 (Or.inr (Nat.zero_le _)); have h345 := RG.mid h136 md341 (Or.inl (Nat.zero_le _)); have b346 := below_mid b137 z138 md341 (Or.inr rfl); have z347 := b346.size; have y348 := md341.size; have bz349 : Box (w5.alloc (.cells #[.int .i64 0, .int .i64 0, .slice none 0 0] 29)).drew (w5.heap.size) [.int .i64 0, .int .i64 0, .slice none 0 0] := Box.new w5 #[.int .i64 0, .int .i64 0, .slice none 0 0] 29; have y350 : w5.heap.size + 1 ≤ (w5.alloc (.cells #[.int .i64 0, .int .i64 0, .slice none 0 0] 29)).drew.heap.size := (by simp); have k351 := bx342.cell 0 rfl; have k352 := bx342.cell 1 rfl; have k353 := bx342.cell 2 rfl; have k354 := bx344.cell 0 rfl; have k355 := bx344.cell 1 rfl; have k356 := bx344.cell 2 rfl; have k357 := bz349.cell 0 rfl; have k358 := bz349.cell 1 rfl; have k359 := bz349.cell 2 rfl; have f360 := frz_IntersectionOf bz349; with_reducible refine (toGraph_any r0 s0 _ d0 _ _ _ _ h343 hl0).mono ?_; rintro e w12 ⟨AA361, cc362, rfl, h363, md364⟩; have bx365 := bx342.mid md364 (Or.inr (Nat.zero_le _)); have h366 := RG.mid h343 md364 (Or.inl (Nat.zero_le _)); have bx367 := bx344.mid md364 (Or.inr (Nat.zero_le _)); have h368 := RG.mid h345 md364 (Or.inl (Nat.zero_le _)); have bx369 := bz349.mid md364 (Or.inr (Nat.zero_le _)); have b370 := below_mid b346 z347 md364 (Or.inr rfl); have z371 := b370.size; have y372 := md364.size; have tt373 := md341.trans md364; have k374 := bx365.cell 0 rfl; have k375 := bx365.cell 1 rfl; have k376 := bx365.cell 2 rfl; have k377 := bx367.cell 0 rfl; have k378 := bx367.cell 1 rfl; have k379 := bx367.cell 2 rfl; have k380 := bx369.cell 0 rfl; have k381 := bx369.cell 1 rfl; have k382 := bx369.cell 2 rfl; have f383 := frz_IntersectionOf bx369) | (go_at_call 11; with_reducible refine (toGraph_any r1 s1 _ d1 _ _ _ _ h368 hl1).mono ?_; rintro e w13 ⟨AA384, cc385, rfl, h386, md387⟩; have bx388 := bx365.mid md387 (Or.inr (Nat.zero_le _)); have h389 := RG.mid h366 md387 (Or.inl (Nat.zero_le _)); have bx390 := bx367.mid md387 (Or.inr (Nat.zero_le _)); have h391 := RG.mid h368 md387 (Or.inl (Nat.zero_le _)); have bx392 := bx369.mid md387 (Or.inr (Nat.zero_le _)); have h393 := OG.mid h363 md387 (Or.inl (Nat.zero_le _)); have b394 := below_mid b370 z371 md387 (Or.inr rfl); have z395 := b394.size; have y396 := md387.size; have tt397 := tt373.trans md387; have k398 := bx388.cell 0 rfl; have k399 := bx388.cell 1 rfl; have k400 := bx388.cell 2 rfl; have k401 := bx390.cell 0 rfl; have k402 := bx390.cell 1 rfl; have k403 := bx390.cell 2 rfl; have k404 := bx392.cell 0 rfl; have k405 := bx392.cell 1 rfl; have k406 := bx392.cell 2 rfl; have f407 := frz_IntersectionOf bx392) | (go_at_call 35; with_reducible refine (sspec_IntersectionOf r0 s0 _ d0 _ r1 s1 _ d1 _ _ _ _ h393  hl0 _ _ h386  hl1 rr0 rs0 res0 res1 HRES.out).mono ?_; rintro e w14 ⟨AA409, cc410, rfl, h411, md408⟩; have bx413 := bx388.mid md408 (Or.inr (Nat.zero_le _)); have h414 := RG.mid h389 md408 (Or.inl (Nat.zero_le _)); have bx415 := bx390.mid md408 (Or.inr (Nat.zero_le _)); have h416 := RG.mid h391 md408 (Or.inl (Nat.zero_le _)); have bx417 := bx392.mid md408 (Or.inr (Nat.zero_le _)); have h418 := OG.mid h393 md408 (Or.inl (Nat.zero_le _)); have h419 := OG.mid h386 md408 (Or.inl (Nat.zero_le _)); have b420 := below_mid b394 z395 md408 (Or.inr rfl); have z421 := b420.size; have y422 := md408.size; have tt423 := tt397.trans md408; have k424 := bx413.cell 0 rfl; have k425 := bx413.cell 1 rfl; have k426 := bx413.cell 2 rfl; have k427 := bx415.cell 0 rfl; have k428 := bx415.cell 1 rfl; have k429 := bx415.cell 2 rfl; have k430 := bx417.cell 0 rfl; have k431 := bx417.cell 1 rfl; have k432 := bx417.cell 2 rfl; have f433 := frz_IntersectionOf bx417))
    all_goals (go_wp2_with fail; go_meet; first | exact ⟨w8.heap.size, AA199, cc200, rfl, rfl, Box.new w8 #[.int .i64 rr0, .int .i64 rs0, .slice AA199 res0.length cc200] 29, OG.wide (OG.mid h201 (Mid.alloc w8 (.cells #[.int .i64 rr0, .int .i64 rs0, .slice AA199 res0.length cc200] 29)) (Or.inl (Nat.zero_le _))) (by omega) (by simp) (Nat.le_refl _), tt212.trans (Mid.alloc w8 (.cells #[.int .i64 rr0, .int .i64 rs0, .slice AA199 res0.length cc200] 29)), by omega⟩ | exact ⟨w7.heap.size, AA243, cc244, rfl, rfl, (((bx253.set 0 _ (by simp) rfl).set 1 _ (by simp) rfl).set 2 _ (by simp) rfl), OG.wide (OG.mid (OG.mid (OG.mid h245 (Mid.setCell w9 (lo := w7.heap.size) (hi := w7.heap.size + 1) (p := ⟨w7.heap.size, 0, none⟩) (.int .i64 rr0) (by simp) (by simp)) (by omega)) (Mid.setCell (w9.setCell ⟨w7.heap.size, 0, none⟩ (.int .i64 rr0)) (lo := w7.heap.size) (hi := w7.heap.size + 1) (p := ⟨w7.heap.size, 1, none⟩) (.int .i64 rs0) (by simp) (by simp)) (by omega)) (Mid.setCell ((w9.setCell ⟨w7.heap.size, 0, none⟩ (.int .i64 rr0)).setCell ⟨w7.heap.size, 1, none⟩ (.int .i64 rs0)) (lo := w7.heap.size) (hi := w7.heap.size + 1) (p := ⟨w7.heap.size, 2, none⟩) (.slice AA243 res0.length cc244) (by simp) (by simp)) (by omega)) (by omega) (by simp) (Nat.le_refl _), (((tt257.storeNew (by simp <;> omega) _).storeNew (by simp <;> omega) _).storeNew (by simp <;> omega) _), by omega⟩ | exact ⟨w6.heap.size, AA315, cc316, rfl, rfl, (((bx324.set 0 _ (by simp) rfl).set 1 _ (by simp) rfl).set 2 _ (by simp) rfl), OG.wide (OG.mid (OG.mid (OG.mid h317 (Mid.setCell w11 (lo := w6.heap.size) (hi := w6.heap.size + 1) (p := ⟨w6.heap.size, 0, none⟩) (.int .i64 rr0) (by simp) (by simp)) (by omega)) (Mid.setCell (w11.setCell ⟨w6.heap.size, 0, none⟩ (.int .i64 rr0)) (lo := w6.heap.size) (hi := w6.heap.size + 1) (p := ⟨w6.heap.size, 1, none⟩) (.int .i64 rs0) (by simp) (by simp)) (by omega)) (Mid.setCell ((w11.setCell ⟨w6.heap.size, 0, none⟩ (.int .i64 rr0)).setCell ⟨w6.heap.size, 1, none⟩ (.int .i64 rs0)) (lo := w6.heap.size) (hi := w6.heap.size + 1) (p := ⟨w6.heap.size, 2, none⟩) (.slice AA315 res0.length cc316) (by simp) (by simp)) (by omega)) (by omega) (by simp) (Nat.le_refl _), (((tt329.storeNew (by simp <;> omega) _).storeNew (by simp <;> omega) _).storeNew (by simp <;> omega) _), by omega⟩ | exact ⟨w5.heap.size, AA409, cc410, rfl, rfl, (((bx417.set 0 _ (by simp) rfl).set 1 _ (by simp) rfl).set 2 _ (by simp) rfl), OG.wide (OG.mid (OG.mid (OG.mid h411 (Mid.setCell w14 (lo := w5.heap.size) (hi := w5.heap.size + 1) (p := ⟨w5.heap.size, 0, none⟩) (.int .i64 rr0) (by simp) (by simp)) (by omega)) (Mid.setCell (w14.setCell ⟨w5.heap.size, 0, none⟩ (.int .i64 rr0)) (lo := w5.heap.size) (hi := w5.heap.size + 1) (p := ⟨w5.heap.size, 1, none⟩) (.int .i64 rs0) (by simp) (by simp)) (by omega)) (Mid.setCell ((w14.setCell ⟨w5.heap.size, 0, none⟩ (.int .i64 rr0)).setCell ⟨w5.heap.size, 1, none⟩ (.int .i64 rs0)) (lo := w5.heap.size) (hi := w5.heap.size + 1) (p := ⟨w5.heap.size, 2, none⟩) (.slice AA409 res0.length cc410) (by simp) (by simp)) (by omega)) (by omega) (by simp) (Nat.le_refl _), (((tt423.storeNew (by simp <;> omega) _).storeNew (by simp <;> omega) _).storeNew (by simp <;> omega) _), by omega⟩)
  case rest =>
    obtain ⟨g434, AA439, cc440, rfl, rfl, bx435, h436, md437, y438⟩ := hcut
    obtain ⟨w15, rfl⟩ : ∃ x, x = wc := ⟨_, rfl⟩
    have bx441 := bx133.mid md437 (Or.inr (Nat.zero_le _))
    clear bx133
    have h442 := RG.mid h134 md437 (Or.inl (Nat.zero_le _))
    clear h134
    have bx443 := bx135.mid md437 (Or.inr (Nat.zero_le _))
    clear bx135
    have h444 := RG.mid h136 md437 (Or.inl (Nat.zero_le _))
    clear h136
    have b445 := below_mid b137 z138 md437 (Or.inr rfl)
    have z446 := b445.size
    have y447 := md437.size
    have y448 := bx435.1
    clear k140
    clear k141
    clear k142
    have k449 := bx441.cell 0 rfl
    have k450 := bx441.cell 1 rfl
    have k451 := bx441.cell 2 rfl
    clear k143
    clear k144
    clear k145
    have k452 := bx443.cell 0 rfl
    have k453 := bx443.cell 1 rfl
    have k454 := bx443.cell 2 rfl
    have k455 := bx435.cell 0 rfl
    have k456 := bx435.cell 1 rfl
    have k457 := bx435.cell 2 rfl
    go_wp2_with fail
    with_reducible refine (toGraph_any r0 s0 _ d0 _ _ _ _ h442 hl0).mono ?_
    rintro e w16 ⟨AA458, cc459, rfl, h460, md461⟩
    have bx462 := bx441.mid md461 (Or.inr (Nat.zero_le _))
    clear bx441
    have h463 := RG.mid h442 md461 (Or.inl (Nat.zero_le _))
    clear h442
    have bx464 := bx443.mid md461 (Or.inr (Nat.zero_le _))
    clear bx443
    have h465 := RG.mid h444 md461 (Or.inl (Nat.zero_le _))
    clear h444
    have bx466 := bx435.mid md461 (Or.inr (Nat.zero_le _))
    clear bx435
    have h467 := OG.mid h436 md461 (Or.inl (Nat.zero_le _))
    clear h436
    have b468 := below_mid b445 z446 md461 (Or.inr rfl)
    have z469 := b468.size
    have y470 := md461.size
    clear k449
    clear k450
    clear k451
    have k471 := bx462.cell 0 rfl
    have k472 := bx462.cell 1 rfl
    have k473 := bx462.cell 2 rfl
    clear k452
    clear k453
    clear k454
    have k474 := bx464.cell 0 rfl
    have k475 := bx464.cell 1 rfl
    have k476 := bx464.cell 2 rfl
    clear k455
    clear k456
    clear k457
    have k477 := bx466.cell 0 rfl
    have k478 := bx466.cell 1 rfl
    have k479 := bx466.cell 2 rfl
    have md480 : Mid 0 0 w16 (w16.alloc (.cells #[.int .i64 r0, .int .i64 s0, .slice AA458 d0.length cc459] 29)) := Mid.alloc _ _
    have bx481 := bx462.mid md480 (Or.inr (Nat.zero_le _))
    clear bx462
    have h482 := RG.mid h463 md480 (Or.inl (Nat.zero_le _))
    clear h463
    have bx483 := bx464.mid md480 (Or.inr (Nat.zero_le _))
    clear bx464
    have h484 := RG.mid h465 md480 (Or.inl (Nat.zero_le _))
    clear h465
    have bx485 := bx466.mid md480 (Or.inr (Nat.zero_le _))
    clear bx466
    have h486 := OG.mid h467 md480 (Or.inl (Nat.zero_le _))
    clear h467
    have h487 := OG.mid h460 md480 (Or.inl (Nat.zero_le _))
    clear h460
    have b488 := below_mid b468 z469 md480 (Or.inr rfl)
    have z489 := b488.size
    have y490 := md480.size
    have bx491 := Box.new w16 #[.int .i64 r0, .int .i64 s0, .slice AA458 d0.length cc459] 29
    have y492 : w16.heap.size + 1 ≤ (w16.alloc (.cells #[.int .i64 r0, .int .i64 s0, .slice AA458 d0.length cc459] 29)).heap.size := (by simp)
    clear k471
    clear k472
    clear k473
    have k493 := bx481.cell 0 rfl
    have k494 := bx481.cell 1 rfl
    have k495 := bx481.cell 2 rfl
    clear k474
    clear k475
    clear k476
    have k496 := bx483.cell 0 rfl
    have k497 := bx483.cell 1 rfl
    have k498 := bx483.cell 2 rfl
    clear k477
    clear k478
    clear k479
    have k499 := bx485.cell 0 rfl
    have k500 := bx485.cell 1 rfl
    have k501 := bx485.cell 2 rfl
    have k502 := bx491.cell 0 rfl
    have k503 := bx491.cell 1 rfl
    have k504 := bx491.cell 2 rfl
    go_wp2_with fail
    with_reducible refine (toGraph_any r1 s1 _ d1 _ _ _ _ h484 hl1).mono ?_
    rintro e w17 ⟨AA505, cc506, rfl, h507, md508⟩
    have bx509 := bx481.mid md508 (Or.inr (Nat.zero_le _))
    clear bx481
    have h510 := RG.mid h482 md508 (Or.inl (Nat.zero_le _))
    clear h482
    have bx511 := bx483.mid md508 (Or.inr (Nat.zero_le _))
    clear bx483
    have h512 := RG.mid h484 md508 (Or.inl (Nat.zero_le _))
    clear h484
    have bx513 := bx485.mid md508 (Or.inr (Nat.zero_le _))
    clear bx485
    have h514 := OG.mid h486 md508 (Or.inl (Nat.zero_le _))
    clear h486
    have bx515 := bx491.mid md508 (Or.inr (Nat.zero_le _))
    clear bx491
    have h516 := OG.mid h487 md508 (Or.inl (Nat.zero_le _))
    clear h487
    have b517 := below_mid b488 z489 md508 (Or.inr rfl)
    have z518 := b517.size
    have y519 := md508.size
    clear k493
    clear k494
    clear k495
    have k520 := bx509.cell 0 rfl
    have k521 := bx509.cell 1 rfl
    have k522 := bx509.cell 2 rfl
    clear k496
    clear k497
    clear k498
    have k523 := bx511.cell 0 rfl
    have k524 := bx511.cell 1 rfl
    have k525 := bx511.cell 2 rfl
    clear k499
    clear k500
    clear k501
    have k526 := bx513.cell 0 rfl
    have k527 := bx513.cell 1 rfl
    have k528 := bx513.cell 2 rfl
    clear k502
    clear k503
    clear k504
    have k529 := bx515.cell 0 rfl
    have k530 := bx515.cell 1 rfl
    have k531 := bx515.cell 2 rfl
    have md532 : Mid 0 0 w17 (w17.alloc (.cells #[.int .i64 r1, .int .i64 s1, .slice AA505 d1.length cc506] 29)) := Mid.alloc _ _
    have bx533 := bx509.mid md532 (Or.inr (Nat.zero_le _))
    clear bx509
    have h534 := RG.mid h510 md532 (Or.inl (Nat.zero_le _))
    clear h510
    have bx535 := bx511.mid md532 (Or.inr (Nat.zero_le _))
    clear bx511
    have h536 := RG.mid h512 md532 (Or.inl (Nat.zero_le _))
    clear h512
    have bx537 := bx513.mid md532 (Or.inr (Nat.zero_le _))
    clear bx513
    have h538 := OG.mid h514 md532 (Or.inl (Nat.zero_le _))
    clear h514
    have bx539 := bx515.mid md532 (Or.inr (Nat.zero_le _))
    clear bx515
    have h540 := OG.mid h516 md532 (Or.inl (Nat.zero_le _))
    clear h516
    have h541 := OG.mid h507 md532 (Or.inl (Nat.zero_le _))
    clear h507
    have b542 := below_mid b517 z518 md532 (Or.inr rfl)
    have z543 := b542.size
    have y544 := md532.size
    have bx545 := Box.new w17 #[.int .i64 r1, .int .i64 s1, .slice AA505 d1.length cc506] 29
    have y546 : w17.heap.size + 1 ≤ (w17.alloc (.cells #[.int .i64 r1, .int .i64 s1, .slice AA505 d1.length cc506] 29)).heap.size := (by simp)
    clear k520
    clear k521
    clear k522
    have k547 := bx533.cell 0 rfl
    have k548 := bx533.cell 1 rfl
    have k549 := bx533.cell 2 rfl
    clear k523
    clear k524
    clear k525
    have k550 := bx535.cell 0 rfl
    have k551 := bx535.cell 1 rfl
    have k552 := bx535.cell 2 rfl
    clear k526
    clear k527
    clear k528
    have k553 := bx537.cell 0 rfl
    have k554 := bx537.cell 1 rfl
    have k555 := bx537.cell 2 rfl
    clear k529
    clear k530
    clear k531
    have k556 := bx539.cell 0 rfl
    have k557 := bx539.cell 1 rfl
    have k558 := bx539.cell 2 rfl
    have k559 := bx545.cell 0 rfl
    have k560 := bx545.cell 1 rfl
    have k561 := bx545.cell 2 rfl
    go_wp2_with fail
    with_reducible refine (simpl_IntersectionOf r0 s0 _ d0 _ r1 s1 _ d1 _ _ _ _ h540  hl0 _ _ h541  hl1 rr0 rs0 res0 res1 HRES.out).mono ?_
    rintro e w18 ⟨AA563, cc564, rfl, h565, md562⟩
    have bx567 := bx533.mid md562 (Or.inr (Nat.zero_le _))
    clear bx533
    have h568 := RG.mid h534 md562 (Or.inl (Nat.zero_le _))
    clear h534
    have bx569 := bx535.mid md562 (Or.inr (Nat.zero_le _))
    clear bx535
    have h570 := RG.mid h536 md562 (Or.inl (Nat.zero_le _))
    clear h536
    have bx571 := bx537.mid md562 (Or.inr (Nat.zero_le _))
    clear bx537
    have h572 := OG.mid h538 md562 (Or.inl (Nat.zero_le _))
    clear h538
    have bx573 := bx539.mid md562 (Or.inr (Nat.zero_le _))
    clear bx539
    have h574 := OG.mid h540 md562 (Or.inl (Nat.zero_le _))
    clear h540
    have bx575 := bx545.mid md562 (Or.inr (Nat.zero_le _))
    clear bx545
    have h576 := OG.mid h541 md562 (Or.inl (Nat.zero_le _))
    clear h541
    have b577 := below_mid b542 z543 md562 (Or.inr rfl)
    have z578 := b577.size
    have y579 := md562.size
    clear k547
    clear k548
    clear k549
    have k580 := bx567.cell 0 rfl
    have k581 := bx567.cell 1 rfl
    have k582 := bx567.cell 2 rfl
    clear k550
    clear k551
    clear k552
    have k583 := bx569.cell 0 rfl
    have k584 := bx569.cell 1 rfl
    have k585 := bx569.cell 2 rfl
    clear k553
    clear k554
    clear k555
    have k586 := bx571.cell 0 rfl
    have k587 := bx571.cell 1 rfl
    have k588 := bx571.cell 2 rfl
    clear k556
    clear k557
    clear k558
    have k589 := bx573.cell 0 rfl
    have k590 := bx573.cell 1 rfl
    have k591 := bx573.cell 2 rfl
    clear k559
    clear k560
    clear k561
    have k592 := bx575.cell 0 rfl
    have k593 := bx575.cell 1 rfl
    have k594 := bx575.cell 2 rfl
    have md595 : Mid 0 0 w18 (w18.alloc (.cells #[.int .i64 rr0, .int .i64 rs0, .slice AA563 res0.length cc564] 29)) := Mid.alloc _ _
    have bx596 := bx567.mid md595 (Or.inr (Nat.zero_le _))
    clear bx567
    have h597 := RG.mid h568 md595 (Or.inl (Nat.zero_le _))
    clear h568
    have bx598 := bx569.mid md595 (Or.inr (Nat.zero_le _))
    clear bx569
    have h599 := RG.mid h570 md595 (Or.inl (Nat.zero_le _))
    clear h570
    have bx600 := bx571.mid md595 (Or.inr (Nat.zero_le _))
    clear bx571
    have h601 := OG.mid h572 md595 (Or.inl (Nat.zero_le _))
    clear h572
    have bx602 := bx573.mid md595 (Or.inr (Nat.zero_le _))
    clear bx573
    have h603 := OG.mid h574 md595 (Or.inl (Nat.zero_le _))
    clear h574
    have bx604 := bx575.mid md595 (Or.inr (Nat.zero_le _))
    clear bx575
    have h605 := OG.mid h576 md595 (Or.inl (Nat.zero_le _))
    clear h576
    have h606 := OG.mid h565 md595 (Or.inl (Nat.zero_le _))
    clear h565
    have b607 := below_mid b577 z578 md595 (Or.inr rfl)
    have z608 := b607.size
    have y609 := md595.size
    have bx610 := Box.new w18 #[.int .i64 rr0, .int .i64 rs0, .slice AA563 res0.length cc564] 29
    have y611 : w18.heap.size + 1 ≤ (w18.alloc (.cells #[.int .i64 rr0, .int .i64 rs0, .slice AA563 res0.length cc564] 29)).heap.size := (by simp)
    clear k580
    clear k581
    clear k582
    have k612 := bx596.cell 0 rfl
    have k613 := bx596.cell 1 rfl
    have k614 := bx596.cell 2 rfl
    clear k583
    clear k584
    clear k585
    have k615 := bx598.cell 0 rfl
    have k616 := bx598.cell 1 rfl
    have k617 := bx598.cell 2 rfl
    clear k586
    clear k587
    clear k588
    have k618 := bx600.cell 0 rfl
    have k619 := bx600.cell 1 rfl
    have k620 := bx600.cell 2 rfl
    clear k589
    clear k590
    clear k591
    have k621 := bx602.cell 0 rfl
    have k622 := bx602.cell 1 rfl
    have k623 := bx602.cell 2 rfl
    clear k592
    clear k593
    clear k594
    have k624 := bx604.cell 0 rfl
    have k625 := bx604.cell 1 rfl
    have k626 := bx604.cell 2 rfl
    have k627 := bx610.cell 0 rfl
    have k628 := bx610.cell 1 rfl
    have k629 := bx610.cell 2 rfl
    go_wp2_with fail
    with_reducible refine (eqGraph_same _ _ _ _ res0 _ _ _ _ _ _ _ (OG.rg h606) (OG.rg h601) hlr0).mono ?_
    rintro e w19 ⟨rfl, md630⟩
    have bx631 := bx596.mid md630 (Or.inr (Nat.zero_le _))
    clear bx596
    have h632 := RG.mid h597 md630 (Or.inl (Nat.zero_le _))
    clear h597
    have bx633 := bx598.mid md630 (Or.inr (Nat.zero_le _))
    clear bx598
    have h634 := RG.mid h599 md630 (Or.inl (Nat.zero_le _))
    clear h599
    have bx635 := bx600.mid md630 (Or.inr (Nat.zero_le _))
    clear bx600
    have h636 := OG.mid h601 md630 (Or.inl (Nat.zero_le _))
    clear h601
    have bx637 := bx602.mid md630 (Or.inr (Nat.zero_le _))
    clear bx602
    have h638 := OG.mid h603 md630 (Or.inl (Nat.zero_le _))
    clear h603
    have bx639 := bx604.mid md630 (Or.inr (Nat.zero_le _))
    clear bx604
    have h640 := OG.mid h605 md630 (Or.inl (Nat.zero_le _))
    clear h605
    have bx641 := bx610.mid md630 (Or.inr (Nat.zero_le _))
    clear bx610
    have h642 := OG.mid h606 md630 (Or.inl (Nat.zero_le _))
    clear h606
    have b643 := below_mid b607 z608 md630 (Or.inr rfl)
    have z644 := b643.size
    have y645 := md630.size
    clear k612
    clear k613
    clear k614
    have k646 := bx631.cell 0 rfl
    have k647 := bx631.cell 1 rfl
    have k648 := bx631.cell 2 rfl
    clear k615
    clear k616
    clear k617
    have k649 := bx633.cell 0 rfl
    have k650 := bx633.cell 1 rfl
    have k651 := bx633.cell 2 rfl
    clear k618
    clear k619
    clear k620
    have k652 := bx635.cell 0 rfl
    have k653 := bx635.cell 1 rfl
    have k654 := bx635.cell 2 rfl
    clear k621
    clear k622
    clear k623
    have k655 := bx637.cell 0 rfl
    have k656 := bx637.cell 1 rfl
    have k657 := bx637.cell 2 rfl
    clear k624
    clear k625
    clear k626
    have k658 := bx639.cell 0 rfl
    have k659 := bx639.cell 1 rfl
    have k660 := bx639.cell 2 rfl
    clear k627
    clear k628
    clear k629
    have k661 := bx641.cell 0 rfl
    have k662 := bx641.cell 1 rfl
    have k663 := bx641.cell 2 rfl
    go_wp2_with fail
    have md664 : Mid 0 0 w19 w19.drew := Mid.drew1 _
    have bx665 := bx631.mid md664 (Or.inr (Nat.zero_le _))
    have h666 := RG.mid h632 md664 (Or.inl (Nat.zero_le _))
    have bx667 := bx633.mid md664 (Or.inr (Nat.zero_le _))
    have h668 := RG.mid h634 md664 (Or.inl (Nat.zero_le _))
    have bx669 := bx635.mid md664 (Or.inr (Nat.zero_le _))
    have h670 := OG.mid h636 md664 (Or.inl (Nat.zero_le _))
    have bx671 := bx637.mid md664 (Or.inr (Nat.zero_le _))
    have h672 := OG.mid h638 md664 (Or.inl (Nat.zero_le _))
    have bx673 := bx639.mid md664 (Or.inr (Nat.zero_le _))
    have h674 := OG.mid h640 md664 (Or.inl (Nat.zero_le _))
    have bx675 := bx641.mid md664 (Or.inr (Nat.zero_le _))
    have h676 := OG.mid h642 md664 (Or.inl (Nat.zero_le _))
    have b677 := below_mid b643 z644 md664 (Or.inr rfl)
    have z678 := b677.size
    have y679 := md664.size
    have k680 := bx665.cell 0 rfl
    have k681 := bx665.cell 1 rfl
    have k682 := bx665.cell 2 rfl
    have k683 := bx667.cell 0 rfl
    have k684 := bx667.cell 1 rfl
    have k685 := bx667.cell 2 rfl
    have k686 := bx669.cell 0 rfl
    have k687 := bx669.cell 1 rfl
    have k688 := bx669.cell 2 rfl
    have k689 := bx671.cell 0 rfl
    have k690 := bx671.cell 1 rfl
    have k691 := bx671.cell 2 rfl
    have k692 := bx673.cell 0 rfl
    have k693 := bx673.cell 1 rfl
    have k694 := bx673.cell 2 rfl
    have k695 := bx675.cell 0 rfl
    have k696 := bx675.cell 1 rfl
    have k697 := bx675.cell 2 rfl
    go_region_held3 (fun w' => w'.cell? ⟨w16.heap.size, 0, none⟩ = some (.int .i64 r0) ∧ w'.cell? ⟨w16.heap.size, 1, none⟩ = some (.int .i64 s0) ∧ w'.cell? ⟨w16.heap.size, 2, none⟩ = some (.slice AA458 d0.length cc459) ∧ w'.cell? ⟨w.heap.size, 0, none⟩ = some (.int .i64 r0) ∧ w'.cell? ⟨w.heap.size, 1, none⟩ = some (.int .i64 s0) ∧ w'.cell? ⟨w.heap.size, 2, none⟩ = some (.slice A0 d0.length c0)) (first | exact ⟨k655, k656, k657, k646, k647, k648⟩ | exact ⟨k689, k690, k691, k680, k681, k682⟩ | exact ⟨k726, k727, k728, k717, k718, k719⟩ | exact ⟨k761, k762, k763, k752, k753, k754⟩) (first | (go_at_call 11; with_reducible refine (toGraph_any r0 s0 _ d0 _ _ _ _ h666 hl0).mono ?_; rintro e w20 ⟨AA698, cc699, rfl, h700, md701⟩; have bx702 := bx665.mid md701 (Or.inr (Nat.zero_le _)); have h703 := RG.mid h666 md701 (Or.inl (Nat.zero_le _)); have bx704 := bx667.mid md701 (Or.inr (Nat.zero_le _)); have h705 := RG.mid h668 md701 (Or.inl (Nat.zero_le _)); have bx706 := bx669.mid md701 (Or.inr (Nat.zero_le _)); have h707 := OG.mid h670 md701 (Or.inl (Nat.zero_le _)); have bx708 := bx671.mid md701 (Or.inr (Nat.zero_le _)); have h709 := OG.mid h672 md701 (Or.inl (Nat.zero_le _)); have bx710 := bx673.mid md701 (Or.inr (Nat.zero_le _)); have h711 := OG.mid h674 md701 (Or.inl (Nat.zero_le _)); have bx712 := bx675.mid md701 (Or.inr (Nat.zero_le _)); have h713 := OG.mid h676 md701 (Or.inl (Nat.zero_le _)); have b714 := below_mid b677 z678 md701 (Or.inr rfl); have z715 := b714.size; have y716 := md701.size; have k717 := bx702.cell 0 rfl; have k718 := bx702.cell 1 rfl; have k719 := bx702.cell 2 rfl; have k720 := bx704.cell 0 rfl; have k721 := bx704.cell 1 rfl; have k722 := bx704.cell 2 rfl; have k723 := bx706.cell 0 rfl; have k724 := bx706.cell 1 rfl; have k725 := bx706.cell 2 rfl; have k726 := bx708.cell 0 rfl; have k727 := bx708.cell 1 rfl; have k728 := bx708.cell 2 rfl; have k729 := bx710.cell 0 rfl; have k730 := bx710.cell 1 rfl; have k731 := bx710.cell 2 rfl; have k732 := bx712.cell 0 rfl; have k733 := bx712.cell 1 rfl; have k734 := bx712.cell 2 rfl) | (go_at_call 14; with_reducible refine (eqGraph_same _ _ _ _ d0 _ _ _ _ _ _ _ (OG.rg h709) (OG.rg h700) hl0).mono ?_; rintro e w21 ⟨rfl, md735⟩; have bx736 := bx702.mid md735 (Or.inr (Nat.zero_le _)); have h737 := RG.mid h703 md735 (Or.inl (Nat.zero_le _)); have bx738 := bx704.mid md735 (Or.inr (Nat.zero_le _)); have h739 := RG.mid h705 md735 (Or.inl (Nat.zero_le _)); have bx740 := bx706.mid md735 (Or.inr (Nat.zero_le _)); have h741 := OG.mid h707 md735 (Or.inl (Nat.zero_le _)); have bx742 := bx708.mid md735 (Or.inr (Nat.zero_le _)); have h743 := OG.mid h709 md735 (Or.inl (Nat.zero_le _)); have bx744 := bx710.mid md735 (Or.inr (Nat.zero_le _)); have h745 := OG.mid h711 md735 (Or.inl (Nat.zero_le _)); have bx746 := bx712.mid md735 (Or.inr (Nat.zero_le _)); have h747 := OG.mid h713 md735 (Or.inl (Nat.zero_le _)); have h748 := OG.mid h700 md735 (Or.inl (Nat.zero_le _)); have b749 := below_mid b714 z715 md735 (Or.inr rfl); have z750 := b749.size; have y751 := md735.size; have k752 := bx736.cell 0 rfl; have k753 := bx736.cell 1 rfl; have k754 := bx736.cell 2 rfl; have k755 := bx738.cell 0 rfl; have k756 := bx738.cell 1 rfl; have k757 := bx738.cell 2 rfl; have k758 := bx740.cell 0 rfl; have k759 := bx740.cell 1 rfl; have k760 := bx740.cell 2 rfl; have k761 := bx742.cell 0 rfl; have k762 := bx742.cell 1 rfl; have k763 := bx742.cell 2 rfl; have k764 := bx744.cell 0 rfl; have k765 := bx744.cell 1 rfl; have k766 := bx744.cell 2 rfl; have k767 := bx746.cell 0 rfl; have k768 := bx746.cell 1 rfl; have k769 := bx746.cell 2 rfl))
    go_wp2_with fail
    have md770 : Mid 0 0 w21 w21.drew := Mid.drew1 _
    have bx771 := bx736.mid md770 (Or.inr (Nat.zero_le _))
    have h772 := RG.mid h737 md770 (Or.inl (Nat.zero_le _))
    have bx773 := bx738.mid md770 (Or.inr (Nat.zero_le _))
    have h774 := RG.mid h739 md770 (Or.inl (Nat.zero_le _))
    have bx775 := bx740.mid md770 (Or.inr (Nat.zero_le _))
    have h776 := OG.mid h741 md770 (Or.inl (Nat.zero_le _))
    have bx777 := bx742.mid md770 (Or.inr (Nat.zero_le _))
    have h778 := OG.mid h743 md770 (Or.inl (Nat.zero_le _))
    have bx779 := bx744.mid md770 (Or.inr (Nat.zero_le _))
    have h780 := OG.mid h745 md770 (Or.inl (Nat.zero_le _))
    have bx781 := bx746.mid md770 (Or.inr (Nat.zero_le _))
    have h782 := OG.mid h747 md770 (Or.inl (Nat.zero_le _))
    have b783 := below_mid b749 z750 md770 (Or.inr rfl)
    have z784 := b783.size
    have y785 := md770.size
    have k786 := bx771.cell 0 rfl
    have k787 := bx771.cell 1 rfl
    have k788 := bx771.cell 2 rfl
    have k789 := bx773.cell 0 rfl
    have k790 := bx773.cell 1 rfl
    have k791 := bx773.cell 2 rfl
    have k792 := bx775.cell 0 rfl
    have k793 := bx775.cell 1 rfl
    have k794 := bx775.cell 2 rfl
    have k795 := bx777.cell 0 rfl
    have k796 := bx777.cell 1 rfl
    have k797 := bx777.cell 2 rfl
    have k798 := bx779.cell 0 rfl
    have k799 := bx779.cell 1 rfl
    have k800 := bx779.cell 2 rfl
    have k801 := bx781.cell 0 rfl
    have k802 := bx781.cell 1 rfl
    have k803 := bx781.cell 2 rfl
    go_region_held3 (fun w' => w'.cell? ⟨w17.heap.size, 0, none⟩ = some (.int .i64 r1) ∧ w'.cell? ⟨w17.heap.size, 1, none⟩ = some (.int .i64 s1) ∧ w'.cell? ⟨w17.heap.size, 2, none⟩ = some (.slice AA505 d1.length cc506) ∧ w'.cell? ⟨w.heap.size + 1, 0, none⟩ = some (.int .i64 r1) ∧ w'.cell? ⟨w.heap.size + 1, 1, none⟩ = some (.int .i64 s1) ∧ w'.cell? ⟨w.heap.size + 1, 2, none⟩ = some (.slice A1 d1.length c1)) (first | exact ⟨k764, k765, k766, k755, k756, k757⟩ | exact ⟨k798, k799, k800, k789, k790, k791⟩ | exact ⟨k835, k836, k837, k826, k827, k828⟩ | exact ⟨k870, k871, k872, k861, k862, k863⟩) (first | (go_at_call 11; with_reducible refine (toGraph_any r1 s1 _ d1 _ _ _ _ h774 hl1).mono ?_; rintro e w22 ⟨AA804, cc805, rfl, h806, md807⟩; have bx808 := bx771.mid md807 (Or.inr (Nat.zero_le _)); have h809 := RG.mid h772 md807 (Or.inl (Nat.zero_le _)); have bx810 := bx773.mid md807 (Or.inr (Nat.zero_le _)); have h811 := RG.mid h774 md807 (Or.inl (Nat.zero_le _)); have bx812 := bx775.mid md807 (Or.inr (Nat.zero_le _)); have h813 := OG.mid h776 md807 (Or.inl (Nat.zero_le _)); have bx814 := bx777.mid md807 (Or.inr (Nat.zero_le _)); have h815 := OG.mid h778 md807 (Or.inl (Nat.zero_le _)); have bx816 := bx779.mid md807 (Or.inr (Nat.zero_le _)); have h817 := OG.mid h780 md807 (Or.inl (Nat.zero_le _)); have bx818 := bx781.mid md807 (Or.inr (Nat.zero_le _)); have h819 := OG.mid h782 md807 (Or.inl (Nat.zero_le _)); have b820 := below_mid b783 z784 md807 (Or.inr rfl); have z821 := b820.size; have y822 := md807.size; have k823 := bx808.cell 0 rfl; have k824 := bx808.cell 1 rfl; have k825 := bx808.cell 2 rfl; have k826 := bx810.cell 0 rfl; have k827 := bx810.cell 1 rfl; have k828 := bx810.cell 2 rfl; have k829 := bx812.cell 0 rfl; have k830 := bx812.cell 1 rfl; have k831 := bx812.cell 2 rfl; have k832 := bx814.cell 0 rfl; have k833 := bx814.cell 1 rfl; have k834 := bx814.cell 2 rfl; have k835 := bx816.cell 0 rfl; have k836 := bx816.cell 1 rfl; have k837 := bx816.cell 2 rfl; have k838 := bx818.cell 0 rfl; have k839 := bx818.cell 1 rfl; have k840 := bx818.cell 2 rfl) | (go_at_call 14; with_reducible refine (eqGraph_same _ _ _ _ d1 _ _ _ _ _ _ _ (OG.rg h817) (OG.rg h806) hl1).mono ?_; rintro e w23 ⟨rfl, md841⟩; have bx842 := bx808.mid md841 (Or.inr (Nat.zero_le _)); have h843 := RG.mid h809 md841 (Or.inl (Nat.zero_le _)); have bx844 := bx810.mid md841 (Or.inr (Nat.zero_le _)); have h845 := RG.mid h811 md841 (Or.inl (Nat.zero_le _)); have bx846 := bx812.mid md841 (Or.inr (Nat.zero_le _)); have h847 := OG.mid h813 md841 (Or.inl (Nat.zero_le _)); have bx848 := bx814.mid md841 (Or.inr (Nat.zero_le _)); have h849 := OG.mid h815 md841 (Or.inl (Nat.zero_le _)); have bx850 := bx816.mid md841 (Or.inr (Nat.zero_le _)); have h851 := OG.mid h817 md841 (Or.inl (Nat.zero_le _)); have bx852 := bx818.mid md841 (Or.inr (Nat.zero_le _)); have h853 := OG.mid h819 md841 (Or.inl (Nat.zero_le _)); have h854 := OG.mid h806 md841 (Or.inl (Nat.zero_le _)); have b855 := below_mid b820 z821 md841 (Or.inr rfl); have z856 := b855.size; have y857 := md841.size; have k858 := bx842.cell 0 rfl; have k859 := bx842.cell 1 rfl; have k860 := bx842.cell 2 rfl; have k861 := bx844.cell 0 rfl; have k862 := bx844.cell 1 rfl; have k863 := bx844.cell 2 rfl; have k864 := bx846.cell 0 rfl; have k865 := bx846.cell 1 rfl; have k866 := bx846.cell 2 rfl; have k867 := bx848.cell 0 rfl; have k868 := bx848.cell 1 rfl; have k869 := bx848.cell 2 rfl; have k870 := bx850.cell 0 rfl; have k871 := bx850.cell 1 rfl; have k872 := bx850.cell 2 rfl; have k873 := bx852.cell 0 rfl; have k874 := bx852.cell 1 rfl; have k875 := bx852.cell 2 rfl))
    go_wp2_with fail
    with_reducible refine (markGraph_any _ _ _ d0 _ 1 _ _ _ h849 (by omega) (by omega) hl0).mono ?_
    rintro e w24 ⟨rfl, h876, md877⟩
    have bx878 := bx842.mid md877 (by omega)
    clear bx842
    have h879 := RG.mid h843 md877 (by omega)
    clear h843
    have bx880 := bx844.mid md877 (by omega)
    clear bx844
    have h881 := RG.mid h845 md877 (by omega)
    clear h845
    have bx882 := bx846.mid md877 (by omega)
    clear bx846
    have h883 := OG.mid h847 md877 (by omega)
    clear h847
    have bx884 := bx848.mid md877 (by omega)
    clear bx848
    have bx885 := bx850.mid md877 (by omega)
    clear bx850
    have h886 := OG.mid h851 md877 (by omega)
    clear h851
    have bx887 := bx852.mid md877 (by omega)
    clear bx852
    have h888 := OG.mid h853 md877 (by omega)
    clear h853
    have b889 := below_mid b855 z856 md877 (by omega)
    have z890 := b889.size
    have y891 := md877.size
    clear h849
    clear k858
    clear k859
    clear k860
    have k892 := bx878.cell 0 rfl
    have k893 := bx878.cell 1 rfl
    have k894 := bx878.cell 2 rfl
    clear k861
    clear k862
    clear k863
    have k895 := bx880.cell 0 rfl
    have k896 := bx880.cell 1 rfl
    have k897 := bx880.cell 2 rfl
    clear k864
    clear k865
    clear k866
    have k898 := bx882.cell 0 rfl
    have k899 := bx882.cell 1 rfl
    have k900 := bx882.cell 2 rfl
    clear k867
    clear k868
    clear k869
    have k901 := bx884.cell 0 rfl
    have k902 := bx884.cell 1 rfl
    have k903 := bx884.cell 2 rfl
    clear k870
    clear k871
    clear k872
    have k904 := bx885.cell 0 rfl
    have k905 := bx885.cell 1 rfl
    have k906 := bx885.cell 2 rfl
    clear k873
    clear k874
    clear k875
    have k907 := bx887.cell 0 rfl
    have k908 := bx887.cell 1 rfl
    have k909 := bx887.cell 2 rfl
    go_wp2_with fail
    with_reducible refine (markGraph_any _ _ _ d1 _ (1 + 3 * (d0.length : Int)) _ _ _ h886 (by omega) (by omega) hl1).mono ?_
    rintro e w25 ⟨rfl, h910, md911⟩
    have bx912 := bx878.mid md911 (by omega)
    clear bx878
    have h913 := RG.mid h879 md911 (by omega)
    clear h879
    have bx914 := bx880.mid md911 (by omega)
    clear bx880
    have h915 := RG.mid h881 md911 (by omega)
    clear h881
    have bx916 := bx882.mid md911 (by omega)
    clear bx882
    have h917 := OG.mid h883 md911 (by omega)
    clear h883
    have bx918 := bx884.mid md911 (by omega)
    clear bx884
    have h919 := OG.mid h876 md911 (by omega)
    clear h876
    have bx920 := bx885.mid md911 (by omega)
    clear bx885
    have bx921 := bx887.mid md911 (by omega)
    clear bx887
    have h922 := OG.mid h888 md911 (by omega)
    clear h888
    have b923 := below_mid b889 z890 md911 (by omega)
    have z924 := b923.size
    have y925 := md911.size
    clear h886
    clear k892
    clear k893
    clear k894
    have k926 := bx912.cell 0 rfl
    have k927 := bx912.cell 1 rfl
    have k928 := bx912.cell 2 rfl
    clear k895
    clear k896
    clear k897
    have k929 := bx914.cell 0 rfl
    have k930 := bx914.cell 1 rfl
    have k931 := bx914.cell 2 rfl
    clear k898
    clear k899
    clear k900
    have k932 := bx916.cell 0 rfl
    have k933 := bx916.cell 1 rfl
    have k934 := bx916.cell 2 rfl
    clear k901
    clear k902
    clear k903
    have k935 := bx918.cell 0 rfl
    have k936 := bx918.cell 1 rfl
    have k937 := bx918.cell 2 rfl
    clear k904
    clear k905
    clear k906
    have k938 := bx920.cell 0 rfl
    have k939 := bx920.cell 1 rfl
    have k940 := bx920.cell 2 rfl
    clear k907
    clear k908
    clear k909
    have k941 := bx921.cell 0 rfl
    have k942 := bx921.cell 1 rfl
    have k943 := bx921.cell 2 rfl
    go_wp2_with fail
    with_reducible refine (eqGraph_same _ _ _ _ res0 _ _ _ _ _ _ _ (OG.rg h922) (OG.rg h917) hlr0).mono ?_
    rintro e w26 ⟨rfl, md944⟩
    have bx945 := bx912.mid md944 (Or.inr (Nat.zero_le _))
    clear bx912
    have h946 := RG.mid h913 md944 (Or.inl (Nat.zero_le _))
    clear h913
    have bx947 := bx914.mid md944 (Or.inr (Nat.zero_le _))
    clear bx914
    have h948 := RG.mid h915 md944 (Or.inl (Nat.zero_le _))
    clear h915
    have bx949 := bx916.mid md944 (Or.inr (Nat.zero_le _))
    clear bx916
    have h950 := OG.mid h917 md944 (Or.inl (Nat.zero_le _))
    clear h917
    have bx951 := bx921.mid md944 (Or.inr (Nat.zero_le _))
    clear bx921
    have h952 := OG.mid h922 md944 (Or.inl (Nat.zero_le _))
    clear h922
    have b953 := below_mid b923 z924 md944 (Or.inr rfl)
    have z954 := b953.size
    have y955 := md944.size
    clear k926
    clear k927
    clear k928
    have k956 := bx945.cell 0 rfl
    have k957 := bx945.cell 1 rfl
    have k958 := bx945.cell 2 rfl
    clear k929
    clear k930
    clear k931
    have k959 := bx947.cell 0 rfl
    have k960 := bx947.cell 1 rfl
    have k961 := bx947.cell 2 rfl
    clear k932
    clear k933
    clear k934
    have k962 := bx949.cell 0 rfl
    have k963 := bx949.cell 1 rfl
    have k964 := bx949.cell 2 rfl
    clear k941
    clear k942
    clear k943
    have k965 := bx951.cell 0 rfl
    have k966 := bx951.cell 1 rfl
    have k967 := bx951.cell 2 rfl
    go_wp2_with fail
    with_reducible refine (markGraph_any _ _ _ res0 _ 1 _ _ _ h952 (by omega) (by omega) hlr0).mono ?_
    rintro e w27 ⟨rfl, h968, md969⟩
    have bx970 := bx945.mid md969 (by omega)
    clear bx945
    have h971 := RG.mid h946 md969 (by omega)
    clear h946
    have bx972 := bx947.mid md969 (by omega)
    clear bx947
    have h973 := RG.mid h948 md969 (by omega)
    clear h948
    have bx974 := bx949.mid md969 (by omega)
    clear bx949
    have h975 := OG.mid h950 md969 (by omega)
    clear h950
    have bx976 := bx951.mid md969 (by omega)
    clear bx951
    have b977 := below_mid b953 z954 md969 (by omega)
    have z978 := b977.size
    have y979 := md969.size
    clear h952
    clear k956
    clear k957
    clear k958
    have k980 := bx970.cell 0 rfl
    have k981 := bx970.cell 1 rfl
    have k982 := bx970.cell 2 rfl
    clear k959
    clear k960
    clear k961
    have k983 := bx972.cell 0 rfl
    have k984 := bx972.cell 1 rfl
    have k985 := bx972.cell 2 rfl
    clear k962
    clear k963
    clear k964
    have k986 := bx974.cell 0 rfl
    have k987 := bx974.cell 1 rfl
    have k988 := bx974.cell 2 rfl
    clear k965
    clear k966
    clear k967
    have k989 := bx976.cell 0 rfl
    have k990 := bx976.cell 1 rfl
    have k991 := bx976.cell 2 rfl
    go_wp2_with fail
    with_reducible refine (heldGraph_any _ _ _ res0.length _ 1 _ _ _ h968 (by omega) (by omega) hlr0).mono ?_
    rintro e w28 ⟨rfl, md992⟩
    have bx993 := bx970.mid md992 (Or.inr (Nat.zero_le _))
    clear bx970
    have h994 := RG.mid h971 md992 (Or.inl (Nat.zero_le _))
    clear h971
    have bx995 := bx972.mid md992 (Or.inr (Nat.zero_le _))
    clear bx972
    have h996 := RG.mid h973 md992 (Or.inl (Nat.zero_le _))
    clear h973
    have bx997 := bx974.mid md992 (Or.inr (Nat.zero_le _))
    clear bx974
    have h998 := OG.mid h975 md992 (Or.inl (Nat.zero_le _))
    clear h975
    have bx999 := bx976.mid md992 (Or.inr (Nat.zero_le _))
    clear bx976
    have h1000 := OG.mid h968 md992 (Or.inl (Nat.zero_le _))
    clear h968
    have b1001 := below_mid b977 z978 md992 (Or.inr rfl)
    have z1002 := b1001.size
    have y1003 := md992.size
    clear k980
    clear k981
    clear k982
    have k1004 := bx993.cell 0 rfl
    have k1005 := bx993.cell 1 rfl
    have k1006 := bx993.cell 2 rfl
    clear k983
    clear k984
    clear k985
    have k1007 := bx995.cell 0 rfl
    have k1008 := bx995.cell 1 rfl
    have k1009 := bx995.cell 2 rfl
    clear k986
    clear k987
    clear k988
    have k1010 := bx997.cell 0 rfl
    have k1011 := bx997.cell 1 rfl
    have k1012 := bx997.cell 2 rfl
    clear k989
    clear k990
    clear k991
    have k1013 := bx999.cell 0 rfl
    have k1014 := bx999.cell 1 rfl
    have k1015 := bx999.cell 2 rfl
    go_upto_region 31 with fail
    go_cut [15,16] (fun s15 s16 wx => ∃ (g : Nat) (A0' : Option Addr) (c0' : Nat), s15 = .pointer (some ⟨g, 0, none⟩) ∧ s16 = .bool res1 ∧ Box wx g [.int .i64 rr0, .int .i64 rs0, .slice A0' res0.length c0'] ∧ OG wx w28.heap.size (wx.heap.size) A0' c0' res0 ∧ Mid 0 0 w28 wx ∧ w28.heap.size ≤ g)
    case first =>
      have md1016 : Mid 0 0 w28 w28.drew := Mid.drew1 _
      have bx1017 := bx993.mid md1016 (Or.inr (Nat.zero_le _))
      have h1018 := RG.mid h994 md1016 (Or.inl (Nat.zero_le _))
      have bx1019 := bx995.mid md1016 (Or.inr (Nat.zero_le _))
      have h1020 := RG.mid h996 md1016 (Or.inl (Nat.zero_le _))
      have bx1021 := bx997.mid md1016 (Or.inr (Nat.zero_le _))
      have h1022 := OG.mid h998 md1016 (Or.inl (Nat.zero_le _))
      have bx1023 := bx999.mid md1016 (Or.inr (Nat.zero_le _))
      have h1024 := OG.mid h1000 md1016 (Or.inl (Nat.zero_le _))
      have b1025 := below_mid b1001 z1002 md1016 (Or.inr rfl)
      have z1026 := b1025.size
      have y1027 := md1016.size
      have k1028 := bx1017.cell 0 rfl
      have k1029 := bx1017.cell 1 rfl
      have k1030 := bx1017.cell 2 rfl
      have k1031 := bx1019.cell 0 rfl
      have k1032 := bx1019.cell 1 rfl
      have k1033 := bx1019.cell 2 rfl
      have k1034 := bx1021.cell 0 rfl
      have k1035 := bx1021.cell 1 rfl
      have k1036 := bx1021.cell 2 rfl
      have k1037 := bx1023.cell 0 rfl
      have k1038 := bx1023.cell 1 rfl
      have k1039 := bx1023.cell 2 rfl
      have y1040 : w28.drew.heap.size = w28.heap.size := rfl
      go_region_held3 (fun w' => w'.cell? ⟨w.heap.size, 0, none⟩ = some (.int .i64 r0) ∧ w'.cell? ⟨w.heap.size, 1, none⟩ = some (.int .i64 s0) ∧ w'.cell? ⟨w.heap.size, 2, none⟩ = some (.slice A0 d0.length c0) ∧ w'.cell? ⟨w.heap.size + 1, 0, none⟩ = some (.int .i64 r1) ∧ w'.cell? ⟨w.heap.size + 1, 1, none⟩ = some (.int .i64 s1) ∧ w'.cell? ⟨w.heap.size + 1, 2, none⟩ = some (.slice A1 d1.length c1)) (first | exact ⟨k1004, k1005, k1006, k1007, k1008, k1009⟩ | exact ⟨k1028, k1029, k1030, k1031, k1032, k1033⟩ | exact ⟨k1057, k1058, k1059, k1060, k1061, k1062⟩ | exact ⟨k1086, k1087, k1088, k1089, k1090, k1091⟩ | exact ⟨k1117, k1118, k1119, k1120, k1121, k1122⟩ | exact ⟨(bx1103.mid (Mid.alloc _ _) (Or.inr (Nat.zero_le _))).cell 0 rfl, (bx1103.mid (Mid.alloc _ _) (Or.inr (Nat.zero_le _))).cell 1 rfl, (bx1103.mid (Mid.alloc _ _) (Or.inr (Nat.zero_le _))).cell 2 rfl, (bx1105.mid (Mid.alloc _ _) (Or.inr (Nat.zero_le _))).cell 0 rfl, (bx1105.mid (Mid.alloc _ _) (Or.inr (Nat.zero_le _))).cell 1 rfl, (bx1105.mid (Mid.alloc _ _) (Or.inr (Nat.zero_le _))).cell 2 rfl⟩ | exact ⟨(bx1073.mid (Mid.alloc _ _) (Or.inr (Nat.zero_le _))).cell 0 rfl, (bx1073.mid (Mid.alloc _ _) (Or.inr (Nat.zero_le _))).cell 1 rfl, (bx1073.mid (Mid.alloc _ _) (Or.inr (Nat.zero_le _))).cell 2 rfl, (bx1075.mid (Mid.alloc _ _) (Or.inr (Nat.zero_le _))).cell 0 rfl, (bx1075.mid (Mid.alloc _ _) (Or.inr (Nat.zero_le _))).cell 1 rfl, (bx1075.mid (Mid.alloc _ _) (Or.inr (Nat.zero_le _))).cell 2 rfl⟩ | exact ⟨k1182, k1183, k1184, k1185, k1186, k1187⟩ | exact ⟨(((bx1167.mid (Mid.setCell w32 (lo := w30.heap.size) (hi := w30.heap.size + 1) (p := ⟨w30.heap.size, 0, none⟩) (.int .i64 rr0) (by simp) (by simp)) (by omega)).mid (Mid.setCell (w32.setCell ⟨w30.heap.size, 0, none⟩ (.int .i64 rr0)) (lo := w30.heap.size) (hi := w30.heap.size + 1) (p := ⟨w30.heap.size, 1, none⟩) (.int .i64 rs0) (by simp) (by simp)) (by omega)).mid (Mid.setCell ((w32.setCell ⟨w30.heap.size, 0, none⟩ (.int .i64 rr0)).setCell ⟨w30.heap.size, 1, none⟩ (.int .i64 rs0)) (lo := w30.heap.size) (hi := w30.heap.size + 1) (p := ⟨w30.heap.size, 2, none⟩) (.slice AA1163 res0.length cc1164) (by simp) (by simp)) (by omega)).cell 0 rfl, (((bx1167.mid (Mid.setCell w32 (lo := w30.heap.size) (hi := w30.heap.size + 1) (p := ⟨w30.heap.size, 0, none⟩) (.int .i64 rr0) (by simp) (by simp)) (by omega)).mid (Mid.setCell (w32.setCell ⟨w30.heap.size, 0, none⟩ (.int .i64 rr0)) (lo := w30.heap.size) (hi := w30.heap.size + 1) (p := ⟨w30.heap.size, 1, none⟩) (.int .i64 rs0) (by simp) (by simp)) (by omega)).mid (Mid.setCell ((w32.setCell ⟨w30.heap.size, 0, none⟩ (.int .i64 rr0)).setCell ⟨w30.heap.size, 1, none⟩ (.int .i64 rs0)) (lo := w30.heap.size) (hi := w30.heap.size + 1) (p := ⟨w30.heap.size, 2, none⟩) (.slice AA1163 res0.length cc1164) (by simp) (by simp)) (by omega)).cell 1 rfl, (((bx1167.mid (Mid.setCell w32 (lo := w30.heap.size) (hi := w30.heap.size + 1) (p := ⟨w30.heap.size, 0, none⟩) (.int .i64 rr0) (by simp) (by simp)) (by omega)).mid (Mid.setCell (w32.setCell ⟨w30.heap.size, 0, none⟩ (.int .i64 rr0)) (lo := w30.heap.size) (hi := w30.heap.size + 1) (p := ⟨w30.heap.size, 1, none⟩) (.int .i64 rs0) (by simp) (by simp)) (by omega)).mid (Mid.setCell ((w32.setCell ⟨w30.heap.size, 0, none⟩ (.int .i64 rr0)).setCell ⟨w30.heap.size, 1, none⟩ (.int .i64 rs0)) (lo := w30.heap.size) (hi := w30.heap.size + 1) (p := ⟨w30.heap.size, 2, none⟩) (.slice AA1163 res0.length cc1164) (by simp) (by simp)) (by omega)).cell 2 rfl, (((bx1169.mid (Mid.setCell w32 (lo := w30.heap.size) (hi := w30.heap.size + 1) (p := ⟨w30.heap.size, 0, none⟩) (.int .i64 rr0) (by simp) (by simp)) (by omega)).mid (Mid.setCell (w32.setCell ⟨w30.heap.size, 0, none⟩ (.int .i64 rr0)) (lo := w30.heap.size) (hi := w30.heap.size + 1) (p := ⟨w30.heap.size, 1, none⟩) (.int .i64 rs0) (by simp) (by simp)) (by omega)).mid (Mid.setCell ((w32.setCell ⟨w30.heap.size, 0, none⟩ (.int .i64 rr0)).setCell ⟨w30.heap.size, 1, none⟩ (.int .i64 rs0)) (lo := w30.heap.size) (hi := w30.heap.size + 1) (p := ⟨w30.heap.size, 2, none⟩) (.slice AA1163 res0.length cc1164) (by simp) (by simp)) (by omega)).cell 0 rfl, (((bx1169.mid (Mid.setCell w32 (lo := w30.heap.size) (hi := w30.heap.size + 1) (p := ⟨w30.heap.size, 0, none⟩) (.int .i64 rr0) (by simp) (by simp)) (by omega)).mid (Mid.setCell (w32.setCell ⟨w30.heap.size, 0, none⟩ (.int .i64 rr0)) (lo := w30.heap.size) (hi := w30.heap.size + 1) (p := ⟨w30.heap.size, 1, none⟩) (.int .i64 rs0) (by simp) (by simp)) (by omega)).mid (Mid.setCell ((w32.setCell ⟨w30.heap.size, 0, none⟩ (.int .i64 rr0)).setCell ⟨w30.heap.size, 1, none⟩ (.int .i64 rs0)) (lo := w30.heap.size) (hi := w30.heap.size + 1) (p := ⟨w30.heap.size, 2, none⟩) (.slice AA1163 res0.length cc1164) (by simp) (by simp)) (by omega)).cell 1 rfl, (((bx1169.mid (Mid.setCell w32 (lo := w30.heap.size) (hi := w30.heap.size + 1) (p := ⟨w30.heap.size, 0, none⟩) (.int .i64 rr0) (by simp) (by simp)) (by omega)).mid (Mid.setCell (w32.setCell ⟨w30.heap.size, 0, none⟩ (.int .i64 rr0)) (lo := w30.heap.size) (hi := w30.heap.size + 1) (p := ⟨w30.heap.size, 1, none⟩) (.int .i64 rs0) (by simp) (by simp)) (by omega)).mid (Mid.setCell ((w32.setCell ⟨w30.heap.size, 0, none⟩ (.int .i64 rr0)).setCell ⟨w30.heap.size, 1, none⟩ (.int .i64 rs0)) (lo := w30.heap.size) (hi := w30.heap.size + 1) (p := ⟨w30.heap.size, 2, none⟩) (.slice AA1163 res0.length cc1164) (by simp) (by simp)) (by omega)).cell 2 rfl⟩ | exact ⟨(bx1045.mid (Mid.alloc _ _) (Or.inr (Nat.zero_le _))).cell 0 rfl, (bx1045.mid (Mid.alloc _ _) (Or.inr (Nat.zero_le _))).cell 1 rfl, (bx1045.mid (Mid.alloc _ _) (Or.inr (Nat.zero_le _))).cell 2 rfl, (bx1047.mid (Mid.alloc _ _) (Or.inr (Nat.zero_le _))).cell 0 rfl, (bx1047.mid (Mid.alloc _ _) (Or.inr (Nat.zero_le _))).cell 1 rfl, (bx1047.mid (Mid.alloc _ _) (Or.inr (Nat.zero_le _))).cell 2 rfl⟩ | exact ⟨k1248, k1249, k1250, k1251, k1252, k1253⟩ | exact ⟨k1284, k1285, k1286, k1287, k1288, k1289⟩ | exact ⟨(((bx1269.mid (Mid.setCell w34 (lo := w29.heap.size) (hi := w29.heap.size + 1) (p := ⟨w29.heap.size, 0, none⟩) (.int .i64 rr0) (by simp) (by simp)) (by omega)).mid (Mid.setCell (w34.setCell ⟨w29.heap.size, 0, none⟩ (.int .i64 rr0)) (lo := w29.heap.size) (hi := w29.heap.size + 1) (p := ⟨w29.heap.size, 1, none⟩) (.int .i64 rs0) (by simp) (by simp)) (by omega)).mid (Mid.setCell ((w34.setCell ⟨w29.heap.size, 0, none⟩ (.int .i64 rr0)).setCell ⟨w29.heap.size, 1, none⟩ (.int .i64 rs0)) (lo := w29.heap.size) (hi := w29.heap.size + 1) (p := ⟨w29.heap.size, 2, none⟩) (.slice AA1265 res0.length cc1266) (by simp) (by simp)) (by omega)).cell 0 rfl, (((bx1269.mid (Mid.setCell w34 (lo := w29.heap.size) (hi := w29.heap.size + 1) (p := ⟨w29.heap.size, 0, none⟩) (.int .i64 rr0) (by simp) (by simp)) (by omega)).mid (Mid.setCell (w34.setCell ⟨w29.heap.size, 0, none⟩ (.int .i64 rr0)) (lo := w29.heap.size) (hi := w29.heap.size + 1) (p := ⟨w29.heap.size, 1, none⟩) (.int .i64 rs0) (by simp) (by simp)) (by omega)).mid (Mid.setCell ((w34.setCell ⟨w29.heap.size, 0, none⟩ (.int .i64 rr0)).setCell ⟨w29.heap.size, 1, none⟩ (.int .i64 rs0)) (lo := w29.heap.size) (hi := w29.heap.size + 1) (p := ⟨w29.heap.size, 2, none⟩) (.slice AA1265 res0.length cc1266) (by simp) (by simp)) (by omega)).cell 1 rfl, (((bx1269.mid (Mid.setCell w34 (lo := w29.heap.size) (hi := w29.heap.size + 1) (p := ⟨w29.heap.size, 0, none⟩) (.int .i64 rr0) (by simp) (by simp)) (by omega)).mid (Mid.setCell (w34.setCell ⟨w29.heap.size, 0, none⟩ (.int .i64 rr0)) (lo := w29.heap.size) (hi := w29.heap.size + 1) (p := ⟨w29.heap.size, 1, none⟩) (.int .i64 rs0) (by simp) (by simp)) (by omega)).mid (Mid.setCell ((w34.setCell ⟨w29.heap.size, 0, none⟩ (.int .i64 rr0)).setCell ⟨w29.heap.size, 1, none⟩ (.int .i64 rs0)) (lo := w29.heap.size) (hi := w29.heap.size + 1) (p := ⟨w29.heap.size, 2, none⟩) (.slice AA1265 res0.length cc1266) (by simp) (by simp)) (by omega)).cell 2 rfl, (((bx1271.mid (Mid.setCell w34 (lo := w29.heap.size) (hi := w29.heap.size + 1) (p := ⟨w29.heap.size, 0, none⟩) (.int .i64 rr0) (by simp) (by simp)) (by omega)).mid (Mid.setCell (w34.setCell ⟨w29.heap.size, 0, none⟩ (.int .i64 rr0)) (lo := w29.heap.size) (hi := w29.heap.size + 1) (p := ⟨w29.heap.size, 1, none⟩) (.int .i64 rs0) (by simp) (by simp)) (by omega)).mid (Mid.setCell ((w34.setCell ⟨w29.heap.size, 0, none⟩ (.int .i64 rr0)).setCell ⟨w29.heap.size, 1, none⟩ (.int .i64 rs0)) (lo := w29.heap.size) (hi := w29.heap.size + 1) (p := ⟨w29.heap.size, 2, none⟩) (.slice AA1265 res0.length cc1266) (by simp) (by simp)) (by omega)).cell 0 rfl, (((bx1271.mid (Mid.setCell w34 (lo := w29.heap.size) (hi := w29.heap.size + 1) (p := ⟨w29.heap.size, 0, none⟩) (.int .i64 rr0) (by simp) (by simp)) (by omega)).mid (Mid.setCell (w34.setCell ⟨w29.heap.size, 0, none⟩ (.int .i64 rr0)) (lo := w29.heap.size) (hi := w29.heap.size + 1) (p := ⟨w29.heap.size, 1, none⟩) (.int .i64 rs0) (by simp) (by simp)) (by omega)).mid (Mid.setCell ((w34.setCell ⟨w29.heap.size, 0, none⟩ (.int .i64 rr0)).setCell ⟨w29.heap.size, 1, none⟩ (.int .i64 rs0)) (lo := w29.heap.size) (hi := w29.heap.size + 1) (p := ⟨w29.heap.size, 2, none⟩) (.slice AA1265 res0.length cc1266) (by simp) (by simp)) (by omega)).cell 1 rfl, (((bx1271.mid (Mid.setCell w34 (lo := w29.heap.size) (hi := w29.heap.size + 1) (p := ⟨w29.heap.size, 0, none⟩) (.int .i64 rr0) (by simp) (by simp)) (by omega)).mid (Mid.setCell (w34.setCell ⟨w29.heap.size, 0, none⟩ (.int .i64 rr0)) (lo := w29.heap.size) (hi := w29.heap.size + 1) (p := ⟨w29.heap.size, 1, none⟩) (.int .i64 rs0) (by simp) (by simp)) (by omega)).mid (Mid.setCell ((w34.setCell ⟨w29.heap.size, 0, none⟩ (.int .i64 rr0)).setCell ⟨w29.heap.size, 1, none⟩ (.int .i64 rs0)) (lo := w29.heap.size) (hi := w29.heap.size + 1) (p := ⟨w29.heap.size, 2, none⟩) (.slice AA1265 res0.length cc1266) (by simp) (by simp)) (by omega)).cell 2 rfl⟩ | exact ⟨(bx993.mid (Mid.alloc _ _) (Or.inr (Nat.zero_le _))).cell 0 rfl, (bx993.mid (Mid.alloc _ _) (Or.inr (Nat.zero_le _))).cell 1 rfl, (bx993.mid (Mid.alloc _ _) (Or.inr (Nat.zero_le _))).cell 2 rfl, (bx995.mid (Mid.alloc _ _) (Or.inr (Nat.zero_le _))).cell 0 rfl, (bx995.mid (Mid.alloc _ _) (Or.inr (Nat.zero_le _))).cell 1 rfl, (bx995.mid (Mid.alloc _ _) (Or.inr (Nat.zero_le _))).cell 2 rfl⟩ | exact ⟨bx1302.cell 0 rfl, bx1302.cell 1 rfl, bx1302.cell 2 rfl, bx1304.cell 0 rfl, bx1304.cell 1 rfl, bx1304.cell 2 rfl⟩ | exact ⟨k1348, k1349, k1350, k1351, k1352, k1353⟩ | exact ⟨k1382, k1383, k1384, k1385, k1386, k1387⟩ | exact ⟨k1418, k1419, k1420, k1421, k1422, k1423⟩ | exact ⟨(((bx1403.mid (Mid.setCell w37 (lo := w28.heap.size) (hi := w28.heap.size + 1) (p := ⟨w28.heap.size, 0, none⟩) (.int .i64 rr0) (by simp) (by simp)) (by omega)).mid (Mid.setCell (w37.setCell ⟨w28.heap.size, 0, none⟩ (.int .i64 rr0)) (lo := w28.heap.size) (hi := w28.heap.size + 1) (p := ⟨w28.heap.size, 1, none⟩) (.int .i64 rs0) (by simp) (by simp)) (by omega)).mid (Mid.setCell ((w37.setCell ⟨w28.heap.size, 0, none⟩ (.int .i64 rr0)).setCell ⟨w28.heap.size, 1, none⟩ (.int .i64 rs0)) (lo := w28.heap.size) (hi := w28.heap.size + 1) (p := ⟨w28.heap.size, 2, none⟩) (.slice AA1399 res0.length cc1400) (by simp) (by simp)) (by omega)).cell 0 rfl, (((bx1403.mid (Mid.setCell w37 (lo := w28.heap.size) (hi := w28.heap.size + 1) (p := ⟨w28.heap.size, 0, none⟩) (.int .i64 rr0) (by simp) (by simp)) (by omega)).mid (Mid.setCell (w37.setCell ⟨w28.heap.size, 0, none⟩ (.int .i64 rr0)) (lo := w28.heap.size) (hi := w28.heap.size + 1) (p := ⟨w28.heap.size, 1, none⟩) (.int .i64 rs0) (by simp) (by simp)) (by omega)).mid (Mid.setCell ((w37.setCell ⟨w28.heap.size, 0, none⟩ (.int .i64 rr0)).setCell ⟨w28.heap.size, 1, none⟩ (.int .i64 rs0)) (lo := w28.heap.size) (hi := w28.heap.size + 1) (p := ⟨w28.heap.size, 2, none⟩) (.slice AA1399 res0.length cc1400) (by simp) (by simp)) (by omega)).cell 1 rfl, (((bx1403.mid (Mid.setCell w37 (lo := w28.heap.size) (hi := w28.heap.size + 1) (p := ⟨w28.heap.size, 0, none⟩) (.int .i64 rr0) (by simp) (by simp)) (by omega)).mid (Mid.setCell (w37.setCell ⟨w28.heap.size, 0, none⟩ (.int .i64 rr0)) (lo := w28.heap.size) (hi := w28.heap.size + 1) (p := ⟨w28.heap.size, 1, none⟩) (.int .i64 rs0) (by simp) (by simp)) (by omega)).mid (Mid.setCell ((w37.setCell ⟨w28.heap.size, 0, none⟩ (.int .i64 rr0)).setCell ⟨w28.heap.size, 1, none⟩ (.int .i64 rs0)) (lo := w28.heap.size) (hi := w28.heap.size + 1) (p := ⟨w28.heap.size, 2, none⟩) (.slice AA1399 res0.length cc1400) (by simp) (by simp)) (by omega)).cell 2 rfl, (((bx1405.mid (Mid.setCell w37 (lo := w28.heap.size) (hi := w28.heap.size + 1) (p := ⟨w28.heap.size, 0, none⟩) (.int .i64 rr0) (by simp) (by simp)) (by omega)).mid (Mid.setCell (w37.setCell ⟨w28.heap.size, 0, none⟩ (.int .i64 rr0)) (lo := w28.heap.size) (hi := w28.heap.size + 1) (p := ⟨w28.heap.size, 1, none⟩) (.int .i64 rs0) (by simp) (by simp)) (by omega)).mid (Mid.setCell ((w37.setCell ⟨w28.heap.size, 0, none⟩ (.int .i64 rr0)).setCell ⟨w28.heap.size, 1, none⟩ (.int .i64 rs0)) (lo := w28.heap.size) (hi := w28.heap.size + 1) (p := ⟨w28.heap.size, 2, none⟩) (.slice AA1399 res0.length cc1400) (by simp) (by simp)) (by omega)).cell 0 rfl, (((bx1405.mid (Mid.setCell w37 (lo := w28.heap.size) (hi := w28.heap.size + 1) (p := ⟨w28.heap.size, 0, none⟩) (.int .i64 rr0) (by simp) (by simp)) (by omega)).mid (Mid.setCell (w37.setCell ⟨w28.heap.size, 0, none⟩ (.int .i64 rr0)) (lo := w28.heap.size) (hi := w28.heap.size + 1) (p := ⟨w28.heap.size, 1, none⟩) (.int .i64 rs0) (by simp) (by simp)) (by omega)).mid (Mid.setCell ((w37.setCell ⟨w28.heap.size, 0, none⟩ (.int .i64 rr0)).setCell ⟨w28.heap.size, 1, none⟩ (.int .i64 rs0)) (lo := w28.heap.size) (hi := w28.heap.size + 1) (p := ⟨w28.heap.size, 2, none⟩) (.slice AA1399 res0.length cc1400) (by simp) (by simp)) (by omega)).cell 1 rfl, (((bx1405.mid (Mid.setCell w37 (lo := w28.heap.size) (hi := w28.heap.size + 1) (p := ⟨w28.heap.size, 0, none⟩) (.int .i64 rr0) (by simp) (by simp)) (by omega)).mid (Mid.setCell (w37.setCell ⟨w28.heap.size, 0, none⟩ (.int .i64 rr0)) (lo := w28.heap.size) (hi := w28.heap.size + 1) (p := ⟨w28.heap.size, 1, none⟩) (.int .i64 rs0) (by simp) (by simp)) (by omega)).mid (Mid.setCell ((w37.setCell ⟨w28.heap.size, 0, none⟩ (.int .i64 rr0)).setCell ⟨w28.heap.size, 1, none⟩ (.int .i64 rs0)) (lo := w28.heap.size) (hi := w28.heap.size + 1) (p := ⟨w28.heap.size, 2, none⟩) (.slice AA1399 res0.length cc1400) (by simp) (by simp)) (by omega)).cell 2 rfl⟩) (first | (go_at_call 11; with_reducible refine (toGraph_any r0 s0 _ d0 _ _ _ _ h1018 hl0).mono ?_; rintro e w29 ⟨AA1041, cc1042, rfl, h1043, md1044⟩; have bx1045 := bx1017.mid md1044 (Or.inr (Nat.zero_le _)); have h1046 := RG.mid h1018 md1044 (Or.inl (Nat.zero_le _)); have bx1047 := bx1019.mid md1044 (Or.inr (Nat.zero_le _)); have h1048 := RG.mid h1020 md1044 (Or.inl (Nat.zero_le _)); have bx1049 := bx1021.mid md1044 (Or.inr (Nat.zero_le _)); have h1050 := OG.mid h1022 md1044 (Or.inl (Nat.zero_le _)); have bx1051 := bx1023.mid md1044 (Or.inr (Nat.zero_le _)); have h1052 := OG.mid h1024 md1044 (Or.inl (Nat.zero_le _)); have b1053 := below_mid b1025 z1026 md1044 (Or.inr rfl); have z1054 := b1053.size; have y1055 := md1044.size; have tt1056 := md1016.trans md1044; have k1057 := bx1045.cell 0 rfl; have k1058 := bx1045.cell 1 rfl; have k1059 := bx1045.cell 2 rfl; have k1060 := bx1047.cell 0 rfl; have k1061 := bx1047.cell 1 rfl; have k1062 := bx1047.cell 2 rfl; have k1063 := bx1049.cell 0 rfl; have k1064 := bx1049.cell 1 rfl; have k1065 := bx1049.cell 2 rfl; have k1066 := bx1051.cell 0 rfl; have k1067 := bx1051.cell 1 rfl; have k1068 := bx1051.cell 2 rfl) | (go_at_call 11; with_reducible refine (toGraph_any r1 s1 _ d1 _ _ _ _ h1048 hl1).mono ?_; rintro e w30 ⟨AA1069, cc1070, rfl, h1071, md1072⟩; have bx1073 := bx1045.mid md1072 (Or.inr (Nat.zero_le _)); have h1074 := RG.mid h1046 md1072 (Or.inl (Nat.zero_le _)); have bx1075 := bx1047.mid md1072 (Or.inr (Nat.zero_le _)); have h1076 := RG.mid h1048 md1072 (Or.inl (Nat.zero_le _)); have bx1077 := bx1049.mid md1072 (Or.inr (Nat.zero_le _)); have h1078 := OG.mid h1050 md1072 (Or.inl (Nat.zero_le _)); have bx1079 := bx1051.mid md1072 (Or.inr (Nat.zero_le _)); have h1080 := OG.mid h1052 md1072 (Or.inl (Nat.zero_le _)); have h1081 := OG.mid h1043 md1072 (Or.inl (Nat.zero_le _)); have b1082 := below_mid b1053 z1054 md1072 (Or.inr rfl); have z1083 := b1082.size; have y1084 := md1072.size; have tt1085 := tt1056.trans md1072; have k1086 := bx1073.cell 0 rfl; have k1087 := bx1073.cell 1 rfl; have k1088 := bx1073.cell 2 rfl; have k1089 := bx1075.cell 0 rfl; have k1090 := bx1075.cell 1 rfl; have k1091 := bx1075.cell 2 rfl; have k1092 := bx1077.cell 0 rfl; have k1093 := bx1077.cell 1 rfl; have k1094 := bx1077.cell 2 rfl; have k1095 := bx1079.cell 0 rfl; have k1096 := bx1079.cell 1 rfl; have k1097 := bx1079.cell 2 rfl) | (go_at_call 36; with_reducible refine (simpl_IntersectionOf r0 s0 _ d0 _ r1 s1 _ d1 _ _ _ _ h1081  hl0 _ _ h1071  hl1 rr0 rs0 res0 res1 HRES.out).mono ?_; rintro e w31 ⟨AA1099, cc1100, rfl, h1101, md1098⟩; have bx1103 := bx1073.mid md1098 (Or.inr (Nat.zero_le _)); have h1104 := RG.mid h1074 md1098 (Or.inl (Nat.zero_le _)); have bx1105 := bx1075.mid md1098 (Or.inr (Nat.zero_le _)); have h1106 := RG.mid h1076 md1098 (Or.inl (Nat.zero_le _)); have bx1107 := bx1077.mid md1098 (Or.inr (Nat.zero_le _)); have h1108 := OG.mid h1078 md1098 (Or.inl (Nat.zero_le _)); have bx1109 := bx1079.mid md1098 (Or.inr (Nat.zero_le _)); have h1110 := OG.mid h1080 md1098 (Or.inl (Nat.zero_le _)); have h1111 := OG.mid h1081 md1098 (Or.inl (Nat.zero_le _)); have h1112 := OG.mid h1071 md1098 (Or.inl (Nat.zero_le _)); have b1113 := below_mid b1082 z1083 md1098 (Or.inr rfl); have z1114 := b1113.size; have y1115 := md1098.size; have tt1116 := tt1085.trans md1098; have k1117 := bx1103.cell 0 rfl; have k1118 := bx1103.cell 1 rfl; have k1119 := bx1103.cell 2 rfl; have k1120 := bx1105.cell 0 rfl; have k1121 := bx1105.cell 1 rfl; have k1122 := bx1105.cell 2 rfl; have k1123 := bx1107.cell 0 rfl; have k1124 := bx1107.cell 1 rfl; have k1125 := bx1107.cell 2 rfl; have k1126 := bx1109.cell 0 rfl; have k1127 := bx1109.cell 1 rfl; have k1128 := bx1109.cell 2 rfl) | (go_at_call 36; have md1129 : Mid 0 0 w30 (w30.alloc (.cells #[.int .i64 0, .int .i64 0, .slice none 0 0] 29)) := Mid.alloc _ _; have bx1130 := bx1073.mid md1129 (Or.inr (Nat.zero_le _)); have h1131 := RG.mid h1074 md1129 (Or.inl (Nat.zero_le _)); have bx1132 := bx1075.mid md1129 (Or.inr (Nat.zero_le _)); have h1133 := RG.mid h1076 md1129 (Or.inl (Nat.zero_le _)); have bx1134 := bx1077.mid md1129 (Or.inr (Nat.zero_le _)); have h1135 := OG.mid h1078 md1129 (Or.inl (Nat.zero_le _)); have bx1136 := bx1079.mid md1129 (Or.inr (Nat.zero_le _)); have h1137 := OG.mid h1080 md1129 (Or.inl (Nat.zero_le _)); have h1138 := OG.mid h1081 md1129 (Or.inl (Nat.zero_le _)); have h1139 := OG.mid h1071 md1129 (Or.inl (Nat.zero_le _)); have b1140 := below_mid b1082 z1083 md1129 (Or.inr rfl); have z1141 := b1140.size; have y1142 := md1129.size; have tt1143 := tt1085.trans md1129; have bz1144 : Box (w30.alloc (.cells #[.int .i64 0, .int .i64 0, .slice none 0 0] 29)) (w30.heap.size) [.int .i64 0, .int .i64 0, .slice none 0 0] := Box.new w30 #[.int .i64 0, .int .i64 0, .slice none 0 0] 29; have y1145 : w30.heap.size + 1 ≤ (w30.alloc (.cells #[.int .i64 0, .int .i64 0, .slice none 0 0] 29)).heap.size := (by simp); have k1146 := bx1130.cell 0 rfl; have k1147 := bx1130.cell 1 rfl; have k1148 := bx1130.cell 2 rfl; have k1149 := bx1132.cell 0 rfl; have k1150 := bx1132.cell 1 rfl; have k1151 := bx1132.cell 2 rfl; have k1152 := bx1134.cell 0 rfl; have k1153 := bx1134.cell 1 rfl; have k1154 := bx1134.cell 2 rfl; have k1155 := bx1136.cell 0 rfl; have k1156 := bx1136.cell 1 rfl; have k1157 := bx1136.cell 2 rfl; have k1158 := bz1144.cell 0 rfl; have k1159 := bz1144.cell 1 rfl; have k1160 := bz1144.cell 2 rfl; have f1161 := frz_IntersectionOf bz1144; with_reducible refine (simpl_IntersectionOf r0 s0 _ d0 _ r1 s1 _ d1 _ _ _ _ h1138  hl0 _ _ h1139  hl1 rr0 rs0 res0 res1 HRES.out).mono ?_; rintro e w32 ⟨AA1163, cc1164, rfl, h1165, md1162⟩; have bx1167 := bx1130.mid md1162 (Or.inr (Nat.zero_le _)); have h1168 := RG.mid h1131 md1162 (Or.inl (Nat.zero_le _)); have bx1169 := bx1132.mid md1162 (Or.inr (Nat.zero_le _)); have h1170 := RG.mid h1133 md1162 (Or.inl (Nat.zero_le _)); have bx1171 := bx1134.mid md1162 (Or.inr (Nat.zero_le _)); have h1172 := OG.mid h1135 md1162 (Or.inl (Nat.zero_le _)); have bx1173 := bx1136.mid md1162 (Or.inr (Nat.zero_le _)); have h1174 := OG.mid h1137 md1162 (Or.inl (Nat.zero_le _)); have h1175 := OG.mid h1138 md1162 (Or.inl (Nat.zero_le _)); have h1176 := OG.mid h1139 md1162 (Or.inl (Nat.zero_le _)); have bx1177 := bz1144.mid md1162 (Or.inr (Nat.zero_le _)); have b1178 := below_mid b1140 z1141 md1162 (Or.inr rfl); have z1179 := b1178.size; have y1180 := md1162.size; have tt1181 := tt1143.trans md1162; have k1182 := bx1167.cell 0 rfl; have k1183 := bx1167.cell 1 rfl; have k1184 := bx1167.cell 2 rfl; have k1185 := bx1169.cell 0 rfl; have k1186 := bx1169.cell 1 rfl; have k1187 := bx1169.cell 2 rfl; have k1188 := bx1171.cell 0 rfl; have k1189 := bx1171.cell 1 rfl; have k1190 := bx1171.cell 2 rfl; have k1191 := bx1173.cell 0 rfl; have k1192 := bx1173.cell 1 rfl; have k1193 := bx1173.cell 2 rfl; have k1194 := bx1177.cell 0 rfl; have k1195 := bx1177.cell 1 rfl; have k1196 := bx1177.cell 2 rfl; have f1197 := frz_IntersectionOf bx1177) | (go_at_call 11; have md1198 : Mid 0 0 w29 (w29.alloc (.cells #[.int .i64 0, .int .i64 0, .slice none 0 0] 29)) := Mid.alloc _ _; have bx1199 := bx1045.mid md1198 (Or.inr (Nat.zero_le _)); have h1200 := RG.mid h1046 md1198 (Or.inl (Nat.zero_le _)); have bx1201 := bx1047.mid md1198 (Or.inr (Nat.zero_le _)); have h1202 := RG.mid h1048 md1198 (Or.inl (Nat.zero_le _)); have bx1203 := bx1049.mid md1198 (Or.inr (Nat.zero_le _)); have h1204 := OG.mid h1050 md1198 (Or.inl (Nat.zero_le _)); have bx1205 := bx1051.mid md1198 (Or.inr (Nat.zero_le _)); have h1206 := OG.mid h1052 md1198 (Or.inl (Nat.zero_le _)); have h1207 := OG.mid h1043 md1198 (Or.inl (Nat.zero_le _)); have b1208 := below_mid b1053 z1054 md1198 (Or.inr rfl); have z1209 := b1208.size; have y1210 := md1198.size; have tt1211 := tt1056.trans md1198; have bz1212 : Box (w29.alloc (.cells #[.int .i64 0, .int .i64 0, .slice none 0 0] 29)) (w29.heap.size) [.int .i64 0, .int .i64 0, .slice none 0 0] := Box.new w29 #[.int .i64 0, .int .i64 0, .slice none 0 0] 29; have y1213 : w29.heap.size + 1 ≤ (w29.alloc (.cells #[.int .i64 0, .int .i64 0, .slice none 0 0] 29)).heap.size := (by simp); have k1214 := bx1199.cell 0 rfl; have k1215 := bx1199.cell 1 rfl; have k1216 := bx1199.cell 2 rfl; have k1217 := bx1201.cell 0 rfl; have k1218 := bx1201.cell 1 rfl; have k1219 := bx1201.cell 2 rfl; have k1220 := bx1203.cell 0 rfl; have k1221 := bx1203.cell 1 rfl; have k1222 := bx1203.cell 2 rfl; have k1223 := bx1205.cell 0 rfl; have k1224 := bx1205.cell 1 rfl; have k1225 := bx1205.cell 2 rfl; have k1226 := bz1212.cell 0 rfl; have k1227 := bz1212.cell 1 rfl; have k1228 := bz1212.cell 2 rfl; have f1229 := frz_IntersectionOf bz1212; with_reducible refine (toGraph_any r1 s1 _ d1 _ _ _ _ h1202 hl1).mono ?_; rintro e w33 ⟨AA1230, cc1231, rfl, h1232, md1233⟩; have bx1234 := bx1199.mid md1233 (Or.inr (Nat.zero_le _)); have h1235 := RG.mid h1200 md1233 (Or.inl (Nat.zero_le _)); have bx1236 := bx1201.mid md1233 (Or.inr (Nat.zero_le _)); have h1237 := RG.mid h1202 md1233 (Or.inl (Nat.zero_le _)); have bx1238 := bx1203.mid md1233 (Or.inr (Nat.zero_le _)); have h1239 := OG.mid h1204 md1233 (Or.inl (Nat.zero_le _)); have bx1240 := bx1205.mid md1233 (Or.inr (Nat.zero_le _)); have h1241 := OG.mid h1206 md1233 (Or.inl (Nat.zero_le _)); have h1242 := OG.mid h1207 md1233 (Or.inl (Nat.zero_le _)); have bx1243 := bz1212.mid md1233 (Or.inr (Nat.zero_le _)); have b1244 := below_mid b1208 z1209 md1233 (Or.inr rfl); have z1245 := b1244.size; have y1246 := md1233.size; have tt1247 := tt1211.trans md1233; have k1248 := bx1234.cell 0 rfl; have k1249 := bx1234.cell 1 rfl; have k1250 := bx1234.cell 2 rfl; have k1251 := bx1236.cell 0 rfl; have k1252 := bx1236.cell 1 rfl; have k1253 := bx1236.cell 2 rfl; have k1254 := bx1238.cell 0 rfl; have k1255 := bx1238.cell 1 rfl; have k1256 := bx1238.cell 2 rfl; have k1257 := bx1240.cell 0 rfl; have k1258 := bx1240.cell 1 rfl; have k1259 := bx1240.cell 2 rfl; have k1260 := bx1243.cell 0 rfl; have k1261 := bx1243.cell 1 rfl; have k1262 := bx1243.cell 2 rfl; have f1263 := frz_IntersectionOf bx1243) | (go_at_call 36; with_reducible refine (simpl_IntersectionOf r0 s0 _ d0 _ r1 s1 _ d1 _ _ _ _ h1242  hl0 _ _ h1232  hl1 rr0 rs0 res0 res1 HRES.out).mono ?_; rintro e w34 ⟨AA1265, cc1266, rfl, h1267, md1264⟩; have bx1269 := bx1234.mid md1264 (Or.inr (Nat.zero_le _)); have h1270 := RG.mid h1235 md1264 (Or.inl (Nat.zero_le _)); have bx1271 := bx1236.mid md1264 (Or.inr (Nat.zero_le _)); have h1272 := RG.mid h1237 md1264 (Or.inl (Nat.zero_le _)); have bx1273 := bx1238.mid md1264 (Or.inr (Nat.zero_le _)); have h1274 := OG.mid h1239 md1264 (Or.inl (Nat.zero_le _)); have bx1275 := bx1240.mid md1264 (Or.inr (Nat.zero_le _)); have h1276 := OG.mid h1241 md1264 (Or.inl (Nat.zero_le _)); have h1277 := OG.mid h1242 md1264 (Or.inl (Nat.zero_le _)); have bx1278 := bx1243.mid md1264 (Or.inr (Nat.zero_le _)); have h1279 := OG.mid h1232 md1264 (Or.inl (Nat.zero_le _)); have b1280 := below_mid b1244 z1245 md1264 (Or.inr rfl); have z1281 := b1280.size; have y1282 := md1264.size; have tt1283 := tt1247.trans md1264; have k1284 := bx1269.cell 0 rfl; have k1285 := bx1269.cell 1 rfl; have k1286 := bx1269.cell 2 rfl; have k1287 := bx1271.cell 0 rfl; have k1288 := bx1271.cell 1 rfl; have k1289 := bx1271.cell 2 rfl; have k1290 := bx1273.cell 0 rfl; have k1291 := bx1273.cell 1 rfl; have k1292 := bx1273.cell 2 rfl; have k1293 := bx1275.cell 0 rfl; have k1294 := bx1275.cell 1 rfl; have k1295 := bx1275.cell 2 rfl; have k1296 := bx1278.cell 0 rfl; have k1297 := bx1278.cell 1 rfl; have k1298 := bx1278.cell 2 rfl; have f1299 := frz_IntersectionOf bx1278) | (go_at_call 11; have md1300 : Mid 0 0 w28 (w28.alloc (.cells #[.int .i64 0, .int .i64 0, .slice none 0 0] 29)) := Mid.alloc _ _; have md1301 : Mid 0 0 w28 (w28.alloc (.cells #[.int .i64 0, .int .i64 0, .slice none 0 0] 29)).drew := md1300.trans (Mid.drew1 _); have bx1302 := bx993.mid md1301 (Or.inr (Nat.zero_le _)); have h1303 := RG.mid h994 md1301 (Or.inl (Nat.zero_le _)); have bx1304 := bx995.mid md1301 (Or.inr (Nat.zero_le _)); have h1305 := RG.mid h996 md1301 (Or.inl (Nat.zero_le _)); have bx1306 := bx997.mid md1301 (Or.inr (Nat.zero_le _)); have h1307 := OG.mid h998 md1301 (Or.inl (Nat.zero_le _)); have bx1308 := bx999.mid md1301 (Or.inr (Nat.zero_le _)); have h1309 := OG.mid h1000 md1301 (Or.inl (Nat.zero_le _)); have b1310 := below_mid b1001 z1002 md1301 (Or.inr rfl); have z1311 := b1310.size; have y1312 := md1301.size; have bz1313 : Box (w28.alloc (.cells #[.int .i64 0, .int .i64 0, .slice none 0 0] 29)).drew (w28.heap.size) [.int .i64 0, .int .i64 0, .slice none 0 0] := Box.new w28 #[.int .i64 0, .int .i64 0, .slice none 0 0] 29; have y1314 : w28.heap.size + 1 ≤ (w28.alloc (.cells #[.int .i64 0, .int .i64 0, .slice none 0 0] 29)).drew.heap.size := (by simp); have k1315 := bx1302.cell 0 rfl; have k1316 := bx1302.cell 1 rfl; have k1317 := bx1302.cell 2 rfl; have k1318 := bx1304.cell 0 rfl; have k1319 := bx1304.cell 1 rfl; have k1320 := bx1304.cell 2 rfl; have k1321 := bx1306.cell 0 rfl; have k1322 := bx1306.cell 1 rfl; have k1323 := bx1306.cell 2 rfl; have k1324 := bx1308.cell 0 rfl; have k1325 := bx1308.cell 1 rfl; have k1326 := bx1308.cell 2 rfl; have k1327 := bz1313.cell 0 rfl; have k1328 := bz1313.cell 1 rfl; have k1329 := bz1313.cell 2 rfl; have f1330 := frz_IntersectionOf bz1313; with_reducible refine (toGraph_any r0 s0 _ d0 _ _ _ _ h1303 hl0).mono ?_; rintro e w35 ⟨AA1331, cc1332, rfl, h1333, md1334⟩; have bx1335 := bx1302.mid md1334 (Or.inr (Nat.zero_le _)); have h1336 := RG.mid h1303 md1334 (Or.inl (Nat.zero_le _)); have bx1337 := bx1304.mid md1334 (Or.inr (Nat.zero_le _)); have h1338 := RG.mid h1305 md1334 (Or.inl (Nat.zero_le _)); have bx1339 := bx1306.mid md1334 (Or.inr (Nat.zero_le _)); have h1340 := OG.mid h1307 md1334 (Or.inl (Nat.zero_le _)); have bx1341 := bx1308.mid md1334 (Or.inr (Nat.zero_le _)); have h1342 := OG.mid h1309 md1334 (Or.inl (Nat.zero_le _)); have bx1343 := bz1313.mid md1334 (Or.inr (Nat.zero_le _)); have b1344 := below_mid b1310 z1311 md1334 (Or.inr rfl); have z1345 := b1344.size; have y1346 := md1334.size; have tt1347 := md1301.trans md1334; have k1348 := bx1335.cell 0 rfl; have k1349 := bx1335.cell 1 rfl; have k1350 := bx1335.cell 2 rfl; have k1351 := bx1337.cell 0 rfl; have k1352 := bx1337.cell 1 rfl; have k1353 := bx1337.cell 2 rfl; have k1354 := bx1339.cell 0 rfl; have k1355 := bx1339.cell 1 rfl; have k1356 := bx1339.cell 2 rfl; have k1357 := bx1341.cell 0 rfl; have k1358 := bx1341.cell 1 rfl; have k1359 := bx1341.cell 2 rfl; have k1360 := bx1343.cell 0 rfl; have k1361 := bx1343.cell 1 rfl; have k1362 := bx1343.cell 2 rfl; have f1363 := frz_IntersectionOf bx1343) | (go_at_call 11; with_reducible refine (toGraph_any r1 s1 _ d1 _ _ _ _ h1338 hl1).mono ?_; rintro e w36 ⟨AA1364, cc1365, rfl, h1366, md1367⟩; have bx1368 := bx1335.mid md1367 (Or.inr (Nat.zero_le _)); have h1369 := RG.mid h1336 md1367 (Or.inl (Nat.zero_le _)); have bx1370 := bx1337.mid md1367 (Or.inr (Nat.zero_le _)); have h1371 := RG.mid h1338 md1367 (Or.inl (Nat.zero_le _)); have bx1372 := bx1339.mid md1367 (Or.inr (Nat.zero_le _)); have h1373 := OG.mid h1340 md1367 (Or.inl (Nat.zero_le _)); have bx1374 := bx1341.mid md1367 (Or.inr (Nat.zero_le _)); have h1375 := OG.mid h1342 md1367 (Or.inl (Nat.zero_le _)); have bx1376 := bx1343.mid md1367 (Or.inr (Nat.zero_le _)); have h1377 := OG.mid h1333 md1367 (Or.inl (Nat.zero_le _)); have b1378 := below_mid b1344 z1345 md1367 (Or.inr rfl); have z1379 := b1378.size; have y1380 := md1367.size; have tt1381 := tt1347.trans md1367; have k1382 := bx1368.cell 0 rfl; have k1383 := bx1368.cell 1 rfl; have k1384 := bx1368.cell 2 rfl; have k1385 := bx1370.cell 0 rfl; have k1386 := bx1370.cell 1 rfl; have k1387 := bx1370.cell 2 rfl; have k1388 := bx1372.cell 0 rfl; have k1389 := bx1372.cell 1 rfl; have k1390 := bx1372.cell 2 rfl; have k1391 := bx1374.cell 0 rfl; have k1392 := bx1374.cell 1 rfl; have k1393 := bx1374.cell 2 rfl; have k1394 := bx1376.cell 0 rfl; have k1395 := bx1376.cell 1 rfl; have k1396 := bx1376.cell 2 rfl; have f1397 := frz_IntersectionOf bx1376) | (go_at_call 36; with_reducible refine (simpl_IntersectionOf r0 s0 _ d0 _ r1 s1 _ d1 _ _ _ _ h1377  hl0 _ _ h1366  hl1 rr0 rs0 res0 res1 HRES.out).mono ?_; rintro e w37 ⟨AA1399, cc1400, rfl, h1401, md1398⟩; have bx1403 := bx1368.mid md1398 (Or.inr (Nat.zero_le _)); have h1404 := RG.mid h1369 md1398 (Or.inl (Nat.zero_le _)); have bx1405 := bx1370.mid md1398 (Or.inr (Nat.zero_le _)); have h1406 := RG.mid h1371 md1398 (Or.inl (Nat.zero_le _)); have bx1407 := bx1372.mid md1398 (Or.inr (Nat.zero_le _)); have h1408 := OG.mid h1373 md1398 (Or.inl (Nat.zero_le _)); have bx1409 := bx1374.mid md1398 (Or.inr (Nat.zero_le _)); have h1410 := OG.mid h1375 md1398 (Or.inl (Nat.zero_le _)); have bx1411 := bx1376.mid md1398 (Or.inr (Nat.zero_le _)); have h1412 := OG.mid h1377 md1398 (Or.inl (Nat.zero_le _)); have h1413 := OG.mid h1366 md1398 (Or.inl (Nat.zero_le _)); have b1414 := below_mid b1378 z1379 md1398 (Or.inr rfl); have z1415 := b1414.size; have y1416 := md1398.size; have tt1417 := tt1381.trans md1398; have k1418 := bx1403.cell 0 rfl; have k1419 := bx1403.cell 1 rfl; have k1420 := bx1403.cell 2 rfl; have k1421 := bx1405.cell 0 rfl; have k1422 := bx1405.cell 1 rfl; have k1423 := bx1405.cell 2 rfl; have k1424 := bx1407.cell 0 rfl; have k1425 := bx1407.cell 1 rfl; have k1426 := bx1407.cell 2 rfl; have k1427 := bx1409.cell 0 rfl; have k1428 := bx1409.cell 1 rfl; have k1429 := bx1409.cell 2 rfl; have k1430 := bx1411.cell 0 rfl; have k1431 := bx1411.cell 1 rfl; have k1432 := bx1411.cell 2 rfl; have f1433 := frz_IntersectionOf bx1411))
      all_goals (go_wp2_with fail; go_meet; first | exact ⟨w31.heap.size, AA1099, cc1100, rfl, rfl, Box.new w31 #[.int .i64 rr0, .int .i64 rs0, .slice AA1099 res0.length cc1100] 29, OG.wide (OG.mid h1101 (Mid.alloc w31 (.cells #[.int .i64 rr0, .int .i64 rs0, .slice AA1099 res0.length cc1100] 29)) (Or.inl (Nat.zero_le _))) (by omega) (by simp) (Nat.le_refl _), tt1116.trans (Mid.alloc w31 (.cells #[.int .i64 rr0, .int .i64 rs0, .slice AA1099 res0.length cc1100] 29)), by omega⟩ | exact ⟨w30.heap.size, AA1163, cc1164, rfl, rfl, (((bx1177.set 0 _ (by simp) rfl).set 1 _ (by simp) rfl).set 2 _ (by simp) rfl), OG.wide (OG.mid (OG.mid (OG.mid h1165 (Mid.setCell w32 (lo := w30.heap.size) (hi := w30.heap.size + 1) (p := ⟨w30.heap.size, 0, none⟩) (.int .i64 rr0) (by simp) (by simp)) (by omega)) (Mid.setCell (w32.setCell ⟨w30.heap.size, 0, none⟩ (.int .i64 rr0)) (lo := w30.heap.size) (hi := w30.heap.size + 1) (p := ⟨w30.heap.size, 1, none⟩) (.int .i64 rs0) (by simp) (by simp)) (by omega)) (Mid.setCell ((w32.setCell ⟨w30.heap.size, 0, none⟩ (.int .i64 rr0)).setCell ⟨w30.heap.size, 1, none⟩ (.int .i64 rs0)) (lo := w30.heap.size) (hi := w30.heap.size + 1) (p := ⟨w30.heap.size, 2, none⟩) (.slice AA1163 res0.length cc1164) (by simp) (by simp)) (by omega)) (by omega) (by simp) (Nat.le_refl _), (((tt1181.storeNew (by simp <;> omega) _).storeNew (by simp <;> omega) _).storeNew (by simp <;> omega) _), by omega⟩ | exact ⟨w29.heap.size, AA1265, cc1266, rfl, rfl, (((bx1278.set 0 _ (by simp) rfl).set 1 _ (by simp) rfl).set 2 _ (by simp) rfl), OG.wide (OG.mid (OG.mid (OG.mid h1267 (Mid.setCell w34 (lo := w29.heap.size) (hi := w29.heap.size + 1) (p := ⟨w29.heap.size, 0, none⟩) (.int .i64 rr0) (by simp) (by simp)) (by omega)) (Mid.setCell (w34.setCell ⟨w29.heap.size, 0, none⟩ (.int .i64 rr0)) (lo := w29.heap.size) (hi := w29.heap.size + 1) (p := ⟨w29.heap.size, 1, none⟩) (.int .i64 rs0) (by simp) (by simp)) (by omega)) (Mid.setCell ((w34.setCell ⟨w29.heap.size, 0, none⟩ (.int .i64 rr0)).setCell ⟨w29.heap.size, 1, none⟩ (.int .i64 rs0)) (lo := w29.heap.size) (hi := w29.heap.size + 1) (p := ⟨w29.heap.size, 2, none⟩) (.slice AA1265 res0.length cc1266) (by simp) (by simp)) (by omega)) (by omega) (by simp) (Nat.le_refl _), (((tt1283.storeNew (by simp <;> omega) _).storeNew (by simp <;> omega) _).storeNew (by simp <;> omega) _), by omega⟩ | exact ⟨w28.heap.size, AA1399, cc1400, rfl, rfl, (((bx1411.set 0 _ (by simp) rfl).set 1 _ (by simp) rfl).set 2 _ (by simp) rfl), OG.wide (OG.mid (OG.mid (OG.mid h1401 (Mid.setCell w37 (lo := w28.heap.size) (hi := w28.heap.size + 1) (p := ⟨w28.heap.size, 0, none⟩) (.int .i64 rr0) (by simp) (by simp)) (by omega)) (Mid.setCell (w37.setCell ⟨w28.heap.size, 0, none⟩ (.int .i64 rr0)) (lo := w28.heap.size) (hi := w28.heap.size + 1) (p := ⟨w28.heap.size, 1, none⟩) (.int .i64 rs0) (by simp) (by simp)) (by omega)) (Mid.setCell ((w37.setCell ⟨w28.heap.size, 0, none⟩ (.int .i64 rr0)).setCell ⟨w28.heap.size, 1, none⟩ (.int .i64 rs0)) (lo := w28.heap.size) (hi := w28.heap.size + 1) (p := ⟨w28.heap.size, 2, none⟩) (.slice AA1399 res0.length cc1400) (by simp) (by simp)) (by omega)) (by omega) (by simp) (Nat.le_refl _), (((tt1417.storeNew (by simp <;> omega) _).storeNew (by simp <;> omega) _).storeNew (by simp <;> omega) _), by omega⟩)
    case rest =>
      obtain ⟨g1434, AA1439, cc1440, rfl, rfl, bx1435, h1436, md1437, y1438⟩ := hcut
      obtain ⟨w38, rfl⟩ : ∃ x, x = wc := ⟨_, rfl⟩
      have bx1441 := bx993.mid md1437 (Or.inr (Nat.zero_le _))
      clear bx993
      have h1442 := RG.mid h994 md1437 (Or.inl (Nat.zero_le _))
      clear h994
      have bx1443 := bx995.mid md1437 (Or.inr (Nat.zero_le _))
      clear bx995
      have h1444 := RG.mid h996 md1437 (Or.inl (Nat.zero_le _))
      clear h996
      have bx1445 := bx997.mid md1437 (Or.inr (Nat.zero_le _))
      clear bx997
      have h1446 := OG.mid h998 md1437 (Or.inl (Nat.zero_le _))
      clear h998
      have bx1447 := bx999.mid md1437 (Or.inr (Nat.zero_le _))
      clear bx999
      have h1448 := OG.mid h1000 md1437 (Or.inl (Nat.zero_le _))
      clear h1000
      have b1449 := below_mid b1001 z1002 md1437 (Or.inr rfl)
      have z1450 := b1449.size
      have y1451 := md1437.size
      have y1452 := bx1435.1
      clear k1004
      clear k1005
      clear k1006
      have k1453 := bx1441.cell 0 rfl
      have k1454 := bx1441.cell 1 rfl
      have k1455 := bx1441.cell 2 rfl
      clear k1007
      clear k1008
      clear k1009
      have k1456 := bx1443.cell 0 rfl
      have k1457 := bx1443.cell 1 rfl
      have k1458 := bx1443.cell 2 rfl
      clear k1010
      clear k1011
      clear k1012
      have k1459 := bx1445.cell 0 rfl
      have k1460 := bx1445.cell 1 rfl
      have k1461 := bx1445.cell 2 rfl
      clear k1013
      clear k1014
      clear k1015
      have k1462 := bx1447.cell 0 rfl
      have k1463 := bx1447.cell 1 rfl
      have k1464 := bx1447.cell 2 rfl
      have k1465 := bx1435.cell 0 rfl
      have k1466 := bx1435.cell 1 rfl
      have k1467 := bx1435.cell 2 rfl
      go_wp2_with fail
      with_reducible refine (eqGraph_same _ _ _ _ res0 _ _ _ _ _ _ _ (OG.rg h1436) (OG.rg h1446) hlr0).mono ?_
      rintro e w39 ⟨rfl, md1468⟩
      have bx1469 := bx1441.mid md1468 (Or.inr (Nat.zero_le _))
      clear bx1441
      have h1470 := RG.mid h1442 md1468 (Or.inl (Nat.zero_le _))
      clear h1442
      have bx1471 := bx1443.mid md1468 (Or.inr (Nat.zero_le _))
      clear bx1443
      have h1472 := RG.mid h1444 md1468 (Or.inl (Nat.zero_le _))
      clear h1444
      have bx1473 := bx1445.mid md1468 (Or.inr (Nat.zero_le _))
      clear bx1445
      have h1474 := OG.mid h1446 md1468 (Or.inl (Nat.zero_le _))
      clear h1446
      have bx1475 := bx1447.mid md1468 (Or.inr (Nat.zero_le _))
      clear bx1447
      have h1476 := OG.mid h1448 md1468 (Or.inl (Nat.zero_le _))
      clear h1448
      have bx1477 := bx1435.mid md1468 (Or.inr (Nat.zero_le _))
      clear bx1435
      have h1478 := OG.mid h1436 md1468 (Or.inl (Nat.zero_le _))
      clear h1436
      have b1479 := below_mid b1449 z1450 md1468 (Or.inr rfl)
      have z1480 := b1479.size
      have y1481 := md1468.size
      clear k1453
      clear k1454
      clear k1455
      have k1482 := bx1469.cell 0 rfl
      have k1483 := bx1469.cell 1 rfl
      have k1484 := bx1469.cell 2 rfl
      clear k1456
      clear k1457
      clear k1458
      have k1485 := bx1471.cell 0 rfl
      have k1486 := bx1471.cell 1 rfl
      have k1487 := bx1471.cell 2 rfl
      clear k1459
      clear k1460
      clear k1461
      have k1488 := bx1473.cell 0 rfl
      have k1489 := bx1473.cell 1 rfl
      have k1490 := bx1473.cell 2 rfl
      clear k1462
      clear k1463
      clear k1464
      have k1491 := bx1475.cell 0 rfl
      have k1492 := bx1475.cell 1 rfl
      have k1493 := bx1475.cell 2 rfl
      clear k1465
      clear k1466
      clear k1467
      have k1494 := bx1477.cell 0 rfl
      have k1495 := bx1477.cell 1 rfl
      have k1496 := bx1477.cell 2 rfl
      go_wp2_with fail
      with_reducible refine (heldGraph_any _ _ _ res0.length _ 1 _ _ _ h1476 (by omega) (by omega) hlr0).mono ?_
      rintro e w40 ⟨rfl, md1497⟩
      have bx1498 := bx1469.mid md1497 (Or.inr (Nat.zero_le _))
      clear bx1469
      have h1499 := RG.mid h1470 md1497 (Or.inl (Nat.zero_le _))
      clear h1470
      have bx1500 := bx1471.mid md1497 (Or.inr (Nat.zero_le _))
      clear bx1471
      have h1501 := RG.mid h1472 md1497 (Or.inl (Nat.zero_le _))
      clear h1472
      have bx1502 := bx1473.mid md1497 (Or.inr (Nat.zero_le _))
      clear bx1473
      have h1503 := OG.mid h1474 md1497 (Or.inl (Nat.zero_le _))
      clear h1474
      have bx1504 := bx1475.mid md1497 (Or.inr (Nat.zero_le _))
      clear bx1475
      have h1505 := OG.mid h1476 md1497 (Or.inl (Nat.zero_le _))
      clear h1476
      have bx1506 := bx1477.mid md1497 (Or.inr (Nat.zero_le _))
      clear bx1477
      have h1507 := OG.mid h1478 md1497 (Or.inl (Nat.zero_le _))
      clear h1478
      have b1508 := below_mid b1479 z1480 md1497 (Or.inr rfl)
      have z1509 := b1508.size
      have y1510 := md1497.size
      clear k1482
      clear k1483
      clear k1484
      have k1511 := bx1498.cell 0 rfl
      have k1512 := bx1498.cell 1 rfl
      have k1513 := bx1498.cell 2 rfl
      clear k1485
      clear k1486
      clear k1487
      have k1514 := bx1500.cell 0 rfl
      have k1515 := bx1500.cell 1 rfl
      have k1516 := bx1500.cell 2 rfl
      clear k1488
      clear k1489
      clear k1490
      have k1517 := bx1502.cell 0 rfl
      have k1518 := bx1502.cell 1 rfl
      have k1519 := bx1502.cell 2 rfl
      clear k1491
      clear k1492
      clear k1493
      have k1520 := bx1504.cell 0 rfl
      have k1521 := bx1504.cell 1 rfl
      have k1522 := bx1504.cell 2 rfl
      clear k1494
      clear k1495
      clear k1496
      have k1523 := bx1506.cell 0 rfl
      have k1524 := bx1506.cell 1 rfl
      have k1525 := bx1506.cell 2 rfl
      go_wp2_with fail
      go_ret
      exact ⟨rfl, b1508⟩
end Go.Proofs.YtimmnnncgnnkgaaGreat
