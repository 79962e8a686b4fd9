
import Derived.Test.YtimmnnncgnnkgaaGreatMc7
import Derived.Deep.RegionHeld3
import Derived.Deep.DeepCutAuto

/- The walk of the law FnExactMeetConjugate: it returns true at every input, and turns nothing that was there. -/
namespace Go.Proofs.YtimmnnncgnnkgaaGreat
open Go.RowKit
set_option linter.unusedVariables false
set_option linter.unusedSimpArgs false

theorem frz_MeetConjugate {w : World} {b : Nat} {cs : List Value} (h : Box w b cs) : ∀ i, w.frozen? ⟨b, i, none⟩ = false := h.2.2
set_option maxRecDepth 100000 in
set_option maxHeartbeats 40000000 in
theorem walk_MeetConjugate (r0 s0 : Int) (A0 : Option Addr) (d0 : List Ed) (c0 : Nat) (r1 s1 : Int) (A1 : Option Addr) (d1 : List Ed) (c1 : Nat) (A2 : Option Addr) (d2 : List Int) (c2 : Nat) (w : World) (_b0 : (Lit.int .i64 r0).wf = true) (_e0 : (Lit.int .i64 s0).wf = true) (m0 : RG w 0 w.heap.size A0 d0) (_o0 : OkI (edI d0)) (_l0 : d0.length ≤ 9223372036854775807) (_b1 : (Lit.int .i64 r1).wf = true) (_e1 : (Lit.int .i64 s1).wf = true) (m1 : RG w 0 w.heap.size A1 d1) (_o1 : OkI (edI d1)) (_l1 : d1.length ≤ 9223372036854775807) (r2 : RI w 0 w.heap.size A2 d2) (_o2 : OkI d2) (_l2 : d2.length ≤ 9223372036854775807) :
    Calls Tryz.prog 6 #[.agg #[.int .i64 r0, .int .i64 s0, .slice A0 d0.length c0], .agg #[.int .i64 r1, .int .i64 s1, .slice A1 d1.length c1], .slice A2 d2.length c2] w fun e w' => e = .returned (.bool true) ∧ Below w.heap.size w w' := by
  by_cases hbig2 : ¬ (d2.length ≤ 1048576)
  · skip
    have hh1 := m0
    have hh2 := m1
    have hh3 := r2
    go_enter Tryz.func6, Tryz.ntmps6
    have md4 : Mid 0 0 w (w.alloc (.cells #[.int .i64 r0, .int .i64 s0, .slice A0 d0.length c0] 24)) := Mid.alloc _ _
    have h5 := RG.mid hh1 md4 (Or.inl (Nat.zero_le _))
    clear hh1
    have h6 := RG.mid hh2 md4 (Or.inl (Nat.zero_le _))
    clear hh2
    have h7 := RI.mid hh3 md4 (Or.inl (Nat.zero_le _))
    clear hh3
    have b8 := below_mid (Below.refl w.heap.size w) (Nat.le_refl w.heap.size) md4 (Or.inr rfl)
    have z9 := b8.size
    have y10 := md4.size
    have bx11 := Box.new w #[.int .i64 r0, .int .i64 s0, .slice A0 d0.length c0] 24
    have y12 : w.heap.size + 1 ≤ (w.alloc (.cells #[.int .i64 r0, .int .i64 s0, .slice A0 d0.length c0] 24)).heap.size := (by simp)
    have md13 : Mid 0 0 (w.alloc (.cells #[.int .i64 r0, .int .i64 s0, .slice A0 d0.length c0] 24)) ((w.alloc (.cells #[.int .i64 r0, .int .i64 s0, .slice A0 d0.length c0] 24)).alloc (.cells #[.int .i64 r1, .int .i64 s1, .slice A1 d1.length c1] 24)) := Mid.alloc _ _
    have bx14 := bx11.mid md13 (Or.inr (Nat.zero_le _))
    clear bx11
    have h15 := RG.mid h5 md13 (Or.inl (Nat.zero_le _))
    clear h5
    have h16 := RG.mid h6 md13 (Or.inl (Nat.zero_le _))
    clear h6
    have h17 := RI.mid h7 md13 (Or.inl (Nat.zero_le _))
    clear h7
    have b18 := below_mid b8 z9 md13 (Or.inr rfl)
    have z19 := b18.size
    have y20 := md13.size
    have bx21 := Box.new (w.alloc (.cells #[.int .i64 r0, .int .i64 s0, .slice A0 d0.length c0] 24)) #[.int .i64 r1, .int .i64 s1, .slice A1 d1.length c1] 24
    have y22 : (w.alloc (.cells #[.int .i64 r0, .int .i64 s0, .slice A0 d0.length c0] 24)).heap.size + 1 ≤ ((w.alloc (.cells #[.int .i64 r0, .int .i64 s0, .slice A0 d0.length c0] 24)).alloc (.cells #[.int .i64 r1, .int .i64 s1, .slice A1 d1.length c1] 24)).heap.size := (by simp)
    simp only [World.size_alloc, Nat.add_assoc, Nat.reduceAdd] at bx21
    have k23 := bx14.cell 0 rfl
    have k24 := bx14.cell 1 rfl
    have k25 := bx14.cell 2 rfl
    have k26 := bx21.cell 0 rfl
    have k27 := bx21.cell 1 rfl
    have k28 := bx21.cell 2 rfl
    go_wp2_with fail
    go_ret
    exact ⟨rfl, b18⟩
  have hl2 : d2.length ≤ 1048576 := by omega
  clear hbig2
  obtain ⟨z0, hz0⟩ : ∃ z, z = szI 1048576 d0.length := ⟨_, rfl⟩
  have E0 := Lib.hid hz0.symm
  rcases szI_case 1048576 d0.length with hs0 | ⟨hs0, hs0'⟩
  · obtain rfl : z0 = -1 := hz0.trans hs0
    clear hs0 hz0
    have hh29 := m0
    have hh30 := m1
    have hh31 := r2
    go_enter Tryz.func6, Tryz.ntmps6
    have md32 : Mid 0 0 w (w.alloc (.cells #[.int .i64 r0, .int .i64 s0, .slice A0 d0.length c0] 24)) := Mid.alloc _ _
    have h33 := RG.mid hh29 md32 (Or.inl (Nat.zero_le _))
    clear hh29
    have h34 := RG.mid hh30 md32 (Or.inl (Nat.zero_le _))
    clear hh30
    have h35 := RI.mid hh31 md32 (Or.inl (Nat.zero_le _))
    clear hh31
    have b36 := below_mid (Below.refl w.heap.size w) (Nat.le_refl w.heap.size) md32 (Or.inr rfl)
    have z37 := b36.size
    have y38 := md32.size
    have bx39 := Box.new w #[.int .i64 r0, .int .i64 s0, .slice A0 d0.length c0] 24
    have y40 : w.heap.size + 1 ≤ (w.alloc (.cells #[.int .i64 r0, .int .i64 s0, .slice A0 d0.length c0] 24)).heap.size := (by simp)
    have md41 : Mid 0 0 (w.alloc (.cells #[.int .i64 r0, .int .i64 s0, .slice A0 d0.length c0] 24)) ((w.alloc (.cells #[.int .i64 r0, .int .i64 s0, .slice A0 d0.length c0] 24)).alloc (.cells #[.int .i64 r1, .int .i64 s1, .slice A1 d1.length c1] 24)) := Mid.alloc _ _
    have bx42 := bx39.mid md41 (Or.inr (Nat.zero_le _))
    clear bx39
    have h43 := RG.mid h33 md41 (Or.inl (Nat.zero_le _))
    clear h33
    have h44 := RG.mid h34 md41 (Or.inl (Nat.zero_le _))
    clear h34
    have h45 := RI.mid h35 md41 (Or.inl (Nat.zero_le _))
    clear h35
    have b46 := below_mid b36 z37 md41 (Or.inr rfl)
    have z47 := b46.size
    have y48 := md41.size
    have bx49 := Box.new (w.alloc (.cells #[.int .i64 r0, .int .i64 s0, .slice A0 d0.length c0] 24)) #[.int .i64 r1, .int .i64 s1, .slice A1 d1.length c1] 24
    have y50 : (w.alloc (.cells #[.int .i64 r0, .int .i64 s0, .slice A0 d0.length c0] 24)).heap.size + 1 ≤ ((w.alloc (.cells #[.int .i64 r0, .int .i64 s0, .slice A0 d0.length c0] 24)).alloc (.cells #[.int .i64 r1, .int .i64 s1, .slice A1 d1.length c1] 24)).heap.size := (by simp)
    simp only [World.size_alloc, Nat.add_assoc, Nat.reduceAdd] at bx49
    have k51 := bx42.cell 0 rfl
    have k52 := bx42.cell 1 rfl
    have k53 := bx42.cell 2 rfl
    have k54 := bx49.cell 0 rfl
    have k55 := bx49.cell 1 rfl
    have k56 := bx49.cell 2 rfl
    go_wp2_with fail
    with_reducible refine (szGraph_any _ _ _ d0 _ 1048576 _ _l0 (by omega) (by omega)).mono ?_
    rintro e w1 ⟨rfl, md57⟩
    rw [E0.out]
    have bx58 := bx42.mid md57 (Or.inr (Nat.zero_le _))
    clear bx42
    have h59 := RG.mid h43 md57 (Or.inl (Nat.zero_le _))
    clear h43
    have bx60 := bx49.mid md57 (Or.inr (Nat.zero_le _))
    clear bx49
    have h61 := RG.mid h44 md57 (Or.inl (Nat.zero_le _))
    clear h44
    have h62 := RI.mid h45 md57 (Or.inl (Nat.zero_le _))
    clear h45
    have b63 := below_mid b46 z47 md57 (Or.inr rfl)
    have z64 := b63.size
    have y65 := md57.size
    clear k51
    clear k52
    clear k53
    have k66 := bx58.cell 0 rfl
    have k67 := bx58.cell 1 rfl
    have k68 := bx58.cell 2 rfl
    clear k54
    clear k55
    clear k56
    have k69 := bx60.cell 0 rfl
    have k70 := bx60.cell 1 rfl
    have k71 := bx60.cell 2 rfl
    go_wp2_with fail
    go_ret
    exact ⟨rfl, b63⟩
  rw [hs0'] at hz0
  have hp0 : 0 ≤ z0 := by omega
  have hq0 : z0 ≤ 1048576 := by omega
  have hl0 : d0.length ≤ 1048576 := by omega
  clear hs0 hs0' hz0
  obtain ⟨z1, hz1⟩ : ∃ z, z = szI z0 d1.length := ⟨_, rfl⟩
  have E1 := Lib.hid hz1.symm
  rcases szI_case z0 d1.length with hs1 | ⟨hs1, hs1'⟩
  · obtain rfl : z1 = -1 := hz1.trans hs1
    clear hs1 hz1
    have hh72 := m0
    have hh73 := m1
    have hh74 := r2
    go_enter Tryz.func6, Tryz.ntmps6
    have md75 : Mid 0 0 w (w.alloc (.cells #[.int .i64 r0, .int .i64 s0, .slice A0 d0.length c0] 24)) := Mid.alloc _ _
    have h76 := RG.mid hh72 md75 (Or.inl (Nat.zero_le _))
    clear hh72
    have h77 := RG.mid hh73 md75 (Or.inl (Nat.zero_le _))
    clear hh73
    have h78 := RI.mid hh74 md75 (Or.inl (Nat.zero_le _))
    clear hh74
    have b79 := below_mid (Below.refl w.heap.size w) (Nat.le_refl w.heap.size) md75 (Or.inr rfl)
    have z80 := b79.size
    have y81 := md75.size
    have bx82 := Box.new w #[.int .i64 r0, .int .i64 s0, .slice A0 d0.length c0] 24
    have y83 : w.heap.size + 1 ≤ (w.alloc (.cells #[.int .i64 r0, .int .i64 s0, .slice A0 d0.length c0] 24)).heap.size := (by simp)
    have md84 : Mid 0 0 (w.alloc (.cells #[.int .i64 r0, .int .i64 s0, .slice A0 d0.length c0] 24)) ((w.alloc (.cells #[.int .i64 r0, .int .i64 s0, .slice A0 d0.length c0] 24)).alloc (.cells #[.int .i64 r1, .int .i64 s1, .slice A1 d1.length c1] 24)) := Mid.alloc _ _
    have bx85 := bx82.mid md84 (Or.inr (Nat.zero_le _))
    clear bx82
    have h86 := RG.mid h76 md84 (Or.inl (Nat.zero_le _))
    clear h76
    have h87 := RG.mid h77 md84 (Or.inl (Nat.zero_le _))
    clear h77
    have h88 := RI.mid h78 md84 (Or.inl (Nat.zero_le _))
    clear h78
    have b89 := below_mid b79 z80 md84 (Or.inr rfl)
    have z90 := b89.size
    have y91 := md84.size
    have bx92 := Box.new (w.alloc (.cells #[.int .i64 r0, .int .i64 s0, .slice A0 d0.length c0] 24)) #[.int .i64 r1, .int .i64 s1, .slice A1 d1.length c1] 24
    have y93 : (w.alloc (.cells #[.int .i64 r0, .int .i64 s0, .slice A0 d0.length c0] 24)).heap.size + 1 ≤ ((w.alloc (.cells #[.int .i64 r0, .int .i64 s0, .slice A0 d0.length c0] 24)).alloc (.cells #[.int .i64 r1, .int .i64 s1, .slice A1 d1.length c1] 24)).heap.size := (by simp)
    simp only [World.size_alloc, Nat.add_assoc, Nat.reduceAdd] at bx92
    have k94 := bx85.cell 0 rfl
    have k95 := bx85.cell 1 rfl
    have k96 := bx85.cell 2 rfl
    have k97 := bx92.cell 0 rfl
    have k98 := bx92.cell 1 rfl
    have k99 := bx92.cell 2 rfl
    go_wp2_with fail
    with_reducible refine (szGraph_any _ _ _ d0 _ 1048576 _ _l0 (by omega) (by omega)).mono ?_
    rintro e w2 ⟨rfl, md100⟩
    rw [E0.out]
    have bx101 := bx85.mid md100 (Or.inr (Nat.zero_le _))
    clear bx85
    have h102 := RG.mid h86 md100 (Or.inl (Nat.zero_le _))
    clear h86
    have bx103 := bx92.mid md100 (Or.inr (Nat.zero_le _))
    clear bx92
    have h104 := RG.mid h87 md100 (Or.inl (Nat.zero_le _))
    clear h87
    have h105 := RI.mid h88 md100 (Or.inl (Nat.zero_le _))
    clear h88
    have b106 := below_mid b89 z90 md100 (Or.inr rfl)
    have z107 := b106.size
    have y108 := md100.size
    clear k94
    clear k95
    clear k96
    have k109 := bx101.cell 0 rfl
    have k110 := bx101.cell 1 rfl
    have k111 := bx101.cell 2 rfl
    clear k97
    clear k98
    clear k99
    have k112 := bx103.cell 0 rfl
    have k113 := bx103.cell 1 rfl
    have k114 := bx103.cell 2 rfl
    go_wp2_with fail
    with_reducible refine (szGraph_any _ _ _ d1 _ z0 _ _l1 (by omega) (by omega)).mono ?_
    rintro e w3 ⟨rfl, md115⟩
    rw [E1.out]
    have bx116 := bx101.mid md115 (Or.inr (Nat.zero_le _))
    clear bx101
    have h117 := RG.mid h102 md115 (Or.inl (Nat.zero_le _))
    clear h102
    have bx118 := bx103.mid md115 (Or.inr (Nat.zero_le _))
    clear bx103
    have h119 := RG.mid h104 md115 (Or.inl (Nat.zero_le _))
    clear h104
    have h120 := RI.mid h105 md115 (Or.inl (Nat.zero_le _))
    clear h105
    have b121 := below_mid b106 z107 md115 (Or.inr rfl)
    have z122 := b121.size
    have y123 := md115.size
    clear k109
    clear k110
    clear k111
    have k124 := bx116.cell 0 rfl
    have k125 := bx116.cell 1 rfl
    have k126 := bx116.cell 2 rfl
    clear k112
    clear k113
    clear k114
    have k127 := bx118.cell 0 rfl
    have k128 := bx118.cell 1 rfl
    have k129 := bx118.cell 2 rfl
    go_wp2_with fail
    go_ret
    exact ⟨rfl, b121⟩
  rw [hs1'] at hz1
  have hp1 : 0 ≤ z1 := by omega
  have hq1 : z1 ≤ 1048576 := by omega
  have hl1 : d1.length ≤ 1048576 := by omega
  clear hs1 hs1' hz1
  obtain ⟨rr0, rs0, res0, res1, HRES⟩ : ∃ rr0 rs0 res0 res1, MeetConjugateIs r0 s0 d0 r1 s1 d1 d2 rr0 rs0 res0 res1 := MeetConjugateIs_ex r0 s0 d0 r1 s1 d1 d2 hl0 hl1 _o2 hl2
  have hlr0 := MeetConjugateIs_len HRES hl0 hl1 _o2 hl2
  have HRES := Lib.hid HRES
  have hh130 := m0
  have hh131 := m1
  have hh132 := r2
  go_enter Tryz.func6, Tryz.ntmps6
  have md133 : Mid 0 0 w (w.alloc (.cells #[.int .i64 r0, .int .i64 s0, .slice A0 d0.length c0] 24)) := Mid.alloc _ _
  have h134 := RG.mid hh130 md133 (Or.inl (Nat.zero_le _))
  clear hh130
  have h135 := RG.mid hh131 md133 (Or.inl (Nat.zero_le _))
  clear hh131
  have h136 := RI.mid hh132 md133 (Or.inl (Nat.zero_le _))
  clear hh132
  have b137 := below_mid (Below.refl w.heap.size w) (Nat.le_refl w.heap.size) md133 (Or.inr rfl)
  have z138 := b137.size
  have y139 := md133.size
  have bx140 := Box.new w #[.int .i64 r0, .int .i64 s0, .slice A0 d0.length c0] 24
  have y141 : w.heap.size + 1 ≤ (w.alloc (.cells #[.int .i64 r0, .int .i64 s0, .slice A0 d0.length c0] 24)).heap.size := (by simp)
  have md142 : Mid 0 0 (w.alloc (.cells #[.int .i64 r0, .int .i64 s0, .slice A0 d0.length c0] 24)) ((w.alloc (.cells #[.int .i64 r0, .int .i64 s0, .slice A0 d0.length c0] 24)).alloc (.cells #[.int .i64 r1, .int .i64 s1, .slice A1 d1.length c1] 24)) := Mid.alloc _ _
  have bx143 := bx140.mid md142 (Or.inr (Nat.zero_le _))
  clear bx140
  have h144 := RG.mid h134 md142 (Or.inl (Nat.zero_le _))
  clear h134
  have h145 := RG.mid h135 md142 (Or.inl (Nat.zero_le _))
  clear h135
  have h146 := RI.mid h136 md142 (Or.inl (Nat.zero_le _))
  clear h136
  have b147 := below_mid b137 z138 md142 (Or.inr rfl)
  have z148 := b147.size
  have y149 := md142.size
  have bx150 := Box.new (w.alloc (.cells #[.int .i64 r0, .int .i64 s0, .slice A0 d0.length c0] 24)) #[.int .i64 r1, .int .i64 s1, .slice A1 d1.length c1] 24
  have y151 : (w.alloc (.cells #[.int .i64 r0, .int .i64 s0, .slice A0 d0.length c0] 24)).heap.size + 1 ≤ ((w.alloc (.cells #[.int .i64 r0, .int .i64 s0, .slice A0 d0.length c0] 24)).alloc (.cells #[.int .i64 r1, .int .i64 s1, .slice A1 d1.length c1] 24)).heap.size := (by simp)
  simp only [World.size_alloc, Nat.add_assoc, Nat.reduceAdd] at bx150
  have k152 := bx143.cell 0 rfl
  have k153 := bx143.cell 1 rfl
  have k154 := bx143.cell 2 rfl
  have k155 := bx150.cell 0 rfl
  have k156 := bx150.cell 1 rfl
  have k157 := bx150.cell 2 rfl
  go_wp2_with fail
  with_reducible refine (szGraph_any _ _ _ d0 _ 1048576 _ _l0 (by omega) (by omega)).mono ?_
  rintro e w4 ⟨rfl, md158⟩
  rw [E0.out]
  have bx159 := bx143.mid md158 (Or.inr (Nat.zero_le _))
  clear bx143
  have h160 := RG.mid h144 md158 (Or.inl (Nat.zero_le _))
  clear h144
  have bx161 := bx150.mid md158 (Or.inr (Nat.zero_le _))
  clear bx150
  have h162 := RG.mid h145 md158 (Or.inl (Nat.zero_le _))
  clear h145
  have h163 := RI.mid h146 md158 (Or.inl (Nat.zero_le _))
  clear h146
  have b164 := below_mid b147 z148 md158 (Or.inr rfl)
  have z165 := b164.size
  have y166 := md158.size
  clear k152
  clear k153
  clear k154
  have k167 := bx159.cell 0 rfl
  have k168 := bx159.cell 1 rfl
  have k169 := bx159.cell 2 rfl
  clear k155
  clear k156
  clear k157
  have k170 := bx161.cell 0 rfl
  have k171 := bx161.cell 1 rfl
  have k172 := bx161.cell 2 rfl
  go_wp2_with fail
  with_reducible refine (szGraph_any _ _ _ d1 _ z0 _ _l1 (by omega) (by omega)).mono ?_
  rintro e w5 ⟨rfl, md173⟩
  rw [E1.out]
  have bx174 := bx159.mid md173 (Or.inr (Nat.zero_le _))
  clear bx159
  have h175 := RG.mid h160 md173 (Or.inl (Nat.zero_le _))
  clear h160
  have bx176 := bx161.mid md173 (Or.inr (Nat.zero_le _))
  clear bx161
  have h177 := RG.mid h162 md173 (Or.inl (Nat.zero_le _))
  clear h162
  have h178 := RI.mid h163 md173 (Or.inl (Nat.zero_le _))
  clear h163
  have b179 := below_mid b164 z165 md173 (Or.inr rfl)
  have z180 := b179.size
  have y181 := md173.size
  clear k167
  clear k168
  clear k169
  have k182 := bx174.cell 0 rfl
  have k183 := bx174.cell 1 rfl
  have k184 := bx174.cell 2 rfl
  clear k170
  clear k171
  clear k172
  have k185 := bx176.cell 0 rfl
  have k186 := bx176.cell 1 rfl
  have k187 := bx176.cell 2 rfl
  go_upto_region 10 with fail
  go_cut [8,9] (fun s8 s9 wx => ∃ (g : Nat) (A0' : Option Addr) (c0' : Nat), s8 = .pointer (some ⟨g, 0, none⟩) ∧ s9 = .bool res1 ∧ Box wx g [.int .i64 rr0, .int .i64 rs0, .slice A0' res0.length c0'] ∧ OG wx w5.heap.size (wx.heap.size) A0' c0' res0 ∧ Mid 0 0 w5 wx ∧ w5.heap.size ≤ g)
  case first =>
    have md188 : Mid 0 0 w5 w5.drew := Mid.drew1 _
    have bx189 := bx174.mid md188 (Or.inr (Nat.zero_le _))
    have h190 := RG.mid h175 md188 (Or.inl (Nat.zero_le _))
    have bx191 := bx176.mid md188 (Or.inr (Nat.zero_le _))
    have h192 := RG.mid h177 md188 (Or.inl (Nat.zero_le _))
    have h193 := RI.mid h178 md188 (Or.inl (Nat.zero_le _))
    have b194 := below_mid b179 z180 md188 (Or.inr rfl)
    have z195 := b194.size
    have y196 := md188.size
    have k197 := bx189.cell 0 rfl
    have k198 := bx189.cell 1 rfl
    have k199 := bx189.cell 2 rfl
    have k200 := bx191.cell 0 rfl
    have k201 := bx191.cell 1 rfl
    have k202 := bx191.cell 2 rfl
    have y203 : w5.drew.heap.size = w5.heap.size := rfl
    go_region_held3 (fun w' => w'.cell? ⟨w.heap.size, 0, none⟩ = some (.int .i64 r0) ∧ w'.cell? ⟨w.heap.size, 1, none⟩ = some (.int .i64 s0) ∧ w'.cell? ⟨w.heap.size, 2, none⟩ = some (.slice A0 d0.length c0) ∧ w'.cell? ⟨w.heap.size + 1, 0, none⟩ = some (.int .i64 r1) ∧ w'.cell? ⟨w.heap.size + 1, 1, none⟩ = some (.int .i64 s1) ∧ w'.cell? ⟨w.heap.size + 1, 2, none⟩ = some (.slice A1 d1.length c1)) (first | exact ⟨k182, k183, k184, k185, k186, k187⟩ | exact ⟨k197, k198, k199, k200, k201, k202⟩ | exact ⟨k217, k218, k219, k220, k221, k222⟩ | exact ⟨k237, k238, k239, k240, k241, k242⟩ | exact ⟨k258, k259, k260, k261, k262, k263⟩ | exact ⟨k281, k282, k283, k284, k285, k286⟩ | exact ⟨(bx269.mid (Mid.alloc _ _) (Or.inr (Nat.zero_le _))).cell 0 rfl, (bx269.mid (Mid.alloc _ _) (Or.inr (Nat.zero_le _))).cell 1 rfl, (bx269.mid (Mid.alloc _ _) (Or.inr (Nat.zero_le _))).cell 2 rfl, (bx271.mid (Mid.alloc _ _) (Or.inr (Nat.zero_le _))).cell 0 rfl, (bx271.mid (Mid.alloc _ _) (Or.inr (Nat.zero_le _))).cell 1 rfl, (bx271.mid (Mid.alloc _ _) (Or.inr (Nat.zero_le _))).cell 2 rfl⟩ | exact ⟨(bx247.mid (Mid.alloc _ _) (Or.inr (Nat.zero_le _))).cell 0 rfl, (bx247.mid (Mid.alloc _ _) (Or.inr (Nat.zero_le _))).cell 1 rfl, (bx247.mid (Mid.alloc _ _) (Or.inr (Nat.zero_le _))).cell 2 rfl, (bx249.mid (Mid.alloc _ _) (Or.inr (Nat.zero_le _))).cell 0 rfl, (bx249.mid (Mid.alloc _ _) (Or.inr (Nat.zero_le _))).cell 1 rfl, (bx249.mid (Mid.alloc _ _) (Or.inr (Nat.zero_le _))).cell 2 rfl⟩ | exact ⟨k330, k331, k332, k333, k334, k335⟩ | exact ⟨(((bx317.mid (Mid.setCell w10 (lo := w8.heap.size) (hi := w8.heap.size + 1) (p := ⟨w8.heap.size, 0, none⟩) (.int .i64 rr0) (by simp) (by simp)) (by omega)).mid (Mid.setCell (w10.setCell ⟨w8.heap.size, 0, none⟩ (.int .i64 rr0)) (lo := w8.heap.size) (hi := w8.heap.size + 1) (p := ⟨w8.heap.size, 1, none⟩) (.int .i64 rs0) (by simp) (by simp)) (by omega)).mid (Mid.setCell ((w10.setCell ⟨w8.heap.size, 0, none⟩ (.int .i64 rr0)).setCell ⟨w8.heap.size, 1, none⟩ (.int .i64 rs0)) (lo := w8.heap.size) (hi := w8.heap.size + 1) (p := ⟨w8.heap.size, 2, none⟩) (.slice AA313 res0.length cc314) (by simp) (by simp)) (by omega)).cell 0 rfl, (((bx317.mid (Mid.setCell w10 (lo := w8.heap.size) (hi := w8.heap.size + 1) (p := ⟨w8.heap.size, 0, none⟩) (.int .i64 rr0) (by simp) (by simp)) (by omega)).mid (Mid.setCell (w10.setCell ⟨w8.heap.size, 0, none⟩ (.int .i64 rr0)) (lo := w8.heap.size) (hi := w8.heap.size + 1) (p := ⟨w8.heap.size, 1, none⟩) (.int .i64 rs0) (by simp) (by simp)) (by omega)).mid (Mid.setCell ((w10.setCell ⟨w8.heap.size, 0, none⟩ (.int .i64 rr0)).setCell ⟨w8.heap.size, 1, none⟩ (.int .i64 rs0)) (lo := w8.heap.size) (hi := w8.heap.size + 1) (p := ⟨w8.heap.size, 2, none⟩) (.slice AA313 res0.length cc314) (by simp) (by simp)) (by omega)).cell 1 rfl, (((bx317.mid (Mid.setCell w10 (lo := w8.heap.size) (hi := w8.heap.size + 1) (p := ⟨w8.heap.size, 0, none⟩) (.int .i64 rr0) (by simp) (by simp)) (by omega)).mid (Mid.setCell (w10.setCell ⟨w8.heap.size, 0, none⟩ (.int .i64 rr0)) (lo := w8.heap.size) (hi := w8.heap.size + 1) (p := ⟨w8.heap.size, 1, none⟩) (.int .i64 rs0) (by simp) (by simp)) (by omega)).mid (Mid.setCell ((w10.setCell ⟨w8.heap.size, 0, none⟩ (.int .i64 rr0)).setCell ⟨w8.heap.size, 1, none⟩ (.int .i64 rs0)) (lo := w8.heap.size) (hi := w8.heap.size + 1) (p := ⟨w8.heap.size, 2, none⟩) (.slice AA313 res0.length cc314) (by simp) (by simp)) (by omega)).cell 2 rfl, (((bx319.mid (Mid.setCell w10 (lo := w8.heap.size) (hi := w8.heap.size + 1) (p := ⟨w8.heap.size, 0, none⟩) (.int .i64 rr0) (by simp) (by simp)) (by omega)).mid (Mid.setCell (w10.setCell ⟨w8.heap.size, 0, none⟩ (.int .i64 rr0)) (lo := w8.heap.size) (hi := w8.heap.size + 1) (p := ⟨w8.heap.size, 1, none⟩) (.int .i64 rs0) (by simp) (by simp)) (by omega)).mid (Mid.setCell ((w10.setCell ⟨w8.heap.size, 0, none⟩ (.int .i64 rr0)).setCell ⟨w8.heap.size, 1, none⟩ (.int .i64 rs0)) (lo := w8.heap.size) (hi := w8.heap.size + 1) (p := ⟨w8.heap.size, 2, none⟩) (.slice AA313 res0.length cc314) (by simp) (by simp)) (by omega)).cell 0 rfl, (((bx319.mid (Mid.setCell w10 (lo := w8.heap.size) (hi := w8.heap.size + 1) (p := ⟨w8.heap.size, 0, none⟩) (.int .i64 rr0) (by simp) (by simp)) (by omega)).mid (Mid.setCell (w10.setCell ⟨w8.heap.size, 0, none⟩ (.int .i64 rr0)) (lo := w8.heap.size) (hi := w8.heap.size + 1) (p := ⟨w8.heap.size, 1, none⟩) (.int .i64 rs0) (by simp) (by simp)) (by omega)).mid (Mid.setCell ((w10.setCell ⟨w8.heap.size, 0, none⟩ (.int .i64 rr0)).setCell ⟨w8.heap.size, 1, none⟩ (.int .i64 rs0)) (lo := w8.heap.size) (hi := w8.heap.size + 1) (p := ⟨w8.heap.size, 2, none⟩) (.slice AA313 res0.length cc314) (by simp) (by simp)) (by omega)).cell 1 rfl, (((bx319.mid (Mid.setCell w10 (lo := w8.heap.size) (hi := w8.heap.size + 1) (p := ⟨w8.heap.size, 0, none⟩) (.int .i64 rr0) (by simp) (by simp)) (by omega)).mid (Mid.setCell (w10.setCell ⟨w8.heap.size, 0, none⟩ (.int .i64 rr0)) (lo := w8.heap.size) (hi := w8.heap.size + 1) (p := ⟨w8.heap.size, 1, none⟩) (.int .i64 rs0) (by simp) (by simp)) (by omega)).mid (Mid.setCell ((w10.setCell ⟨w8.heap.size, 0, none⟩ (.int .i64 rr0)).setCell ⟨w8.heap.size, 1, none⟩ (.int .i64 rs0)) (lo := w8.heap.size) (hi := w8.heap.size + 1) (p := ⟨w8.heap.size, 2, none⟩) (.slice AA313 res0.length cc314) (by simp) (by simp)) (by omega)).cell 2 rfl⟩ | exact ⟨(bx227.mid (Mid.alloc _ _) (Or.inr (Nat.zero_le _))).cell 0 rfl, (bx227.mid (Mid.alloc _ _) (Or.inr (Nat.zero_le _))).cell 1 rfl, (bx227.mid (Mid.alloc _ _) (Or.inr (Nat.zero_le _))).cell 2 rfl, (bx229.mid (Mid.alloc _ _) (Or.inr (Nat.zero_le _))).cell 0 rfl, (bx229.mid (Mid.alloc _ _) (Or.inr (Nat.zero_le _))).cell 1 rfl, (bx229.mid (Mid.alloc _ _) (Or.inr (Nat.zero_le _))).cell 2 rfl⟩ | exact ⟨k380, k381, k382, k383, k384, k385⟩ | exact ⟨k408, k409, k410, k411, k412, k413⟩ | exact ⟨(((bx395.mid (Mid.setCell w12 (lo := w7.heap.size) (hi := w7.heap.size + 1) (p := ⟨w7.heap.size, 0, none⟩) (.int .i64 rr0) (by simp) (by simp)) (by omega)).mid (Mid.setCell (w12.setCell ⟨w7.heap.size, 0, none⟩ (.int .i64 rr0)) (lo := w7.heap.size) (hi := w7.heap.size + 1) (p := ⟨w7.heap.size, 1, none⟩) (.int .i64 rs0) (by simp) (by simp)) (by omega)).mid (Mid.setCell ((w12.setCell ⟨w7.heap.size, 0, none⟩ (.int .i64 rr0)).setCell ⟨w7.heap.size, 1, none⟩ (.int .i64 rs0)) (lo := w7.heap.size) (hi := w7.heap.size + 1) (p := ⟨w7.heap.size, 2, none⟩) (.slice AA391 res0.length cc392) (by simp) (by simp)) (by omega)).cell 0 rfl, (((bx395.mid (Mid.setCell w12 (lo := w7.heap.size) (hi := w7.heap.size + 1) (p := ⟨w7.heap.size, 0, none⟩) (.int .i64 rr0) (by simp) (by simp)) (by omega)).mid (Mid.setCell (w12.setCell ⟨w7.heap.size, 0, none⟩ (.int .i64 rr0)) (lo := w7.heap.size) (hi := w7.heap.size + 1) (p := ⟨w7.heap.size, 1, none⟩) (.int .i64 rs0) (by simp) (by simp)) (by omega)).mid (Mid.setCell ((w12.setCell ⟨w7.heap.size, 0, none⟩ (.int .i64 rr0)).setCell ⟨w7.heap.size, 1, none⟩ (.int .i64 rs0)) (lo := w7.heap.size) (hi := w7.heap.size + 1) (p := ⟨w7.heap.size, 2, none⟩) (.slice AA391 res0.length cc392) (by simp) (by simp)) (by omega)).cell 1 rfl, (((bx395.mid (Mid.setCell w12 (lo := w7.heap.size) (hi := w7.heap.size + 1) (p := ⟨w7.heap.size, 0, none⟩) (.int .i64 rr0) (by simp) (by simp)) (by omega)).mid (Mid.setCell (w12.setCell ⟨w7.heap.size, 0, none⟩ (.int .i64 rr0)) (lo := w7.heap.size) (hi := w7.heap.size + 1) (p := ⟨w7.heap.size, 1, none⟩) (.int .i64 rs0) (by simp) (by simp)) (by omega)).mid (Mid.setCell ((w12.setCell ⟨w7.heap.size, 0, none⟩ (.int .i64 rr0)).setCell ⟨w7.heap.size, 1, none⟩ (.int .i64 rs0)) (lo := w7.heap.size) (hi := w7.heap.size + 1) (p := ⟨w7.heap.size, 2, none⟩) (.slice AA391 res0.length cc392) (by simp) (by simp)) (by omega)).cell 2 rfl, (((bx397.mid (Mid.setCell w12 (lo := w7.heap.size) (hi := w7.heap.size + 1) (p := ⟨w7.heap.size, 0, none⟩) (.int .i64 rr0) (by simp) (by simp)) (by omega)).mid (Mid.setCell (w12.setCell ⟨w7.heap.size, 0, none⟩ (.int .i64 rr0)) (lo := w7.heap.size) (hi := w7.heap.size + 1) (p := ⟨w7.heap.size, 1, none⟩) (.int .i64 rs0) (by simp) (by simp)) (by omega)).mid (Mid.setCell ((w12.setCell ⟨w7.heap.size, 0, none⟩ (.int .i64 rr0)).setCell ⟨w7.heap.size, 1, none⟩ (.int .i64 rs0)) (lo := w7.heap.size) (hi := w7.heap.size + 1) (p := ⟨w7.heap.size, 2, none⟩) (.slice AA391 res0.length cc392) (by simp) (by simp)) (by omega)).cell 0 rfl, (((bx397.mid (Mid.setCell w12 (lo := w7.heap.size) (hi := w7.heap.size + 1) (p := ⟨w7.heap.size, 0, none⟩) (.int .i64 rr0) (by simp) (by simp)) (by omega)).mid (Mid.setCell (w12.setCell ⟨w7.heap.size, 0, none⟩ (.int .i64 rr0)) (lo := w7.heap.size) (hi := w7.heap.size + 1) (p := ⟨w7.heap.size, 1, none⟩) (.int .i64 rs0) (by simp) (by simp)) (by omega)).mid (Mid.setCell ((w12.setCell ⟨w7.heap.size, 0, none⟩ (.int .i64 rr0)).setCell ⟨w7.heap.size, 1, none⟩ (.int .i64 rs0)) (lo := w7.heap.size) (hi := w7.heap.size + 1) (p := ⟨w7.heap.size, 2, none⟩) (.slice AA391 res0.length cc392) (by simp) (by simp)) (by omega)).cell 1 rfl, (((bx397.mid (Mid.setCell w12 (lo := w7.heap.size) (hi := w7.heap.size + 1) (p := ⟨w7.heap.size, 0, none⟩) (.int .i64 rr0) (by simp) (by simp)) (by omega)).mid (Mid.setCell (w12.setCell ⟨w7.heap.size, 0, none⟩ (.int .i64 rr0)) (lo := w7.heap.size) (hi := w7.heap.size + 1) (p := ⟨w7.heap.size, 1, none⟩) (.int .i64 rs0) (by simp) (by simp)) (by omega)).mid (Mid.setCell ((w12.setCell ⟨w7.heap.size, 0, none⟩ (.int .i64 rr0)).setCell ⟨w7.heap.size, 1, none⟩ (.int .i64 rs0)) (lo := w7.heap.size) (hi := w7.heap.size + 1) (p := ⟨w7.heap.size, 2, none⟩) (.slice AA391 res0.length cc392) (by simp) (by simp)) (by omega)).cell 2 rfl⟩ | exact ⟨(bx208.mid (Mid.alloc _ _) (Or.inr (Nat.zero_le _))).cell 0 rfl, (bx208.mid (Mid.alloc _ _) (Or.inr (Nat.zero_le _))).cell 1 rfl, (bx208.mid (Mid.alloc _ _) (Or.inr (Nat.zero_le _))).cell 2 rfl, (bx210.mid (Mid.alloc _ _) (Or.inr (Nat.zero_le _))).cell 0 rfl, (bx210.mid (Mid.alloc _ _) (Or.inr (Nat.zero_le _))).cell 1 rfl, (bx210.mid (Mid.alloc _ _) (Or.inr (Nat.zero_le _))).cell 2 rfl⟩ | exact ⟨k456, k457, k458, k459, k460, k461⟩ | exact ⟨k482, k483, k484, k485, k486, k487⟩ | exact ⟨k510, k511, k512, k513, k514, k515⟩ | exact ⟨(((bx497.mid (Mid.setCell w15 (lo := w6.heap.size) (hi := w6.heap.size + 1) (p := ⟨w6.heap.size, 0, none⟩) (.int .i64 rr0) (by simp) (by simp)) (by omega)).mid (Mid.setCell (w15.setCell ⟨w6.heap.size, 0, none⟩ (.int .i64 rr0)) (lo := w6.heap.size) (hi := w6.heap.size + 1) (p := ⟨w6.heap.size, 1, none⟩) (.int .i64 rs0) (by simp) (by simp)) (by omega)).mid (Mid.setCell ((w15.setCell ⟨w6.heap.size, 0, none⟩ (.int .i64 rr0)).setCell ⟨w6.heap.size, 1, none⟩ (.int .i64 rs0)) (lo := w6.heap.size) (hi := w6.heap.size + 1) (p := ⟨w6.heap.size, 2, none⟩) (.slice AA493 res0.length cc494) (by simp) (by simp)) (by omega)).cell 0 rfl, (((bx497.mid (Mid.setCell w15 (lo := w6.heap.size) (hi := w6.heap.size + 1) (p := ⟨w6.heap.size, 0, none⟩) (.int .i64 rr0) (by simp) (by simp)) (by omega)).mid (Mid.setCell (w15.setCell ⟨w6.heap.size, 0, none⟩ (.int .i64 rr0)) (lo := w6.heap.size) (hi := w6.heap.size + 1) (p := ⟨w6.heap.size, 1, none⟩) (.int .i64 rs0) (by simp) (by simp)) (by omega)).mid (Mid.setCell ((w15.setCell ⟨w6.heap.size, 0, none⟩ (.int .i64 rr0)).setCell ⟨w6.heap.size, 1, none⟩ (.int .i64 rs0)) (lo := w6.heap.size) (hi := w6.heap.size + 1) (p := ⟨w6.heap.size, 2, none⟩) (.slice AA493 res0.length cc494) (by simp) (by simp)) (by omega)).cell 1 rfl, (((bx497.mid (Mid.setCell w15 (lo := w6.heap.size) (hi := w6.heap.size + 1) (p := ⟨w6.heap.size, 0, none⟩) (.int .i64 rr0) (by simp) (by simp)) (by omega)).mid (Mid.setCell (w15.setCell ⟨w6.heap.size, 0, none⟩ (.int .i64 rr0)) (lo := w6.heap.size) (hi := w6.heap.size + 1) (p := ⟨w6.heap.size, 1, none⟩) (.int .i64 rs0) (by simp) (by simp)) (by omega)).mid (Mid.setCell ((w15.setCell ⟨w6.heap.size, 0, none⟩ (.int .i64 rr0)).setCell ⟨w6.heap.size, 1, none⟩ (.int .i64 rs0)) (lo := w6.heap.size) (hi := w6.heap.size + 1) (p := ⟨w6.heap.size, 2, none⟩) (.slice AA493 res0.length cc494) (by simp) (by simp)) (by omega)).cell 2 rfl, (((bx499.mid (Mid.setCell w15 (lo := w6.heap.size) (hi := w6.heap.size + 1) (p := ⟨w6.heap.size, 0, none⟩) (.int .i64 rr0) (by simp) (by simp)) (by omega)).mid (Mid.setCell (w15.setCell ⟨w6.heap.size, 0, none⟩ (.int .i64 rr0)) (lo := w6.heap.size) (hi := w6.heap.size + 1) (p := ⟨w6.heap.size, 1, none⟩) (.int .i64 rs0) (by simp) (by simp)) (by omega)).mid (Mid.setCell ((w15.setCell ⟨w6.heap.size, 0, none⟩ (.int .i64 rr0)).setCell ⟨w6.heap.size, 1, none⟩ (.int .i64 rs0)) (lo := w6.heap.size) (hi := w6.heap.size + 1) (p := ⟨w6.heap.size, 2, none⟩) (.slice AA493 res0.length cc494) (by simp) (by simp)) (by omega)).cell 0 rfl, (((bx499.mid (Mid.setCell w15 (lo := w6.heap.size) (hi := w6.heap.size + 1) (p := ⟨w6.heap.size, 0, none⟩) (.int .i64 rr0) (by simp) (by simp)) (by omega)).mid (Mid.setCell (w15.setCell ⟨w6.heap.size, 0, none⟩ (.int .i64 rr0)) (lo := w6.heap.size) (hi := w6.heap.size + 1) (p := ⟨w6.heap.size, 1, none⟩) (.int .i64 rs0) (by simp) (by simp)) (by omega)).mid (Mid.setCell ((w15.setCell ⟨w6.heap.size, 0, none⟩ (.int .i64 rr0)).setCell ⟨w6.heap.size, 1, none⟩ (.int .i64 rs0)) (lo := w6.heap.size) (hi := w6.heap.size + 1) (p := ⟨w6.heap.size, 2, none⟩) (.slice AA493 res0.length cc494) (by simp) (by simp)) (by omega)).cell 1 rfl, (((bx499.mid (Mid.setCell w15 (lo := w6.heap.size) (hi := w6.heap.size + 1) (p := ⟨w6.heap.size, 0, none⟩) (.int .i64 rr0) (by simp) (by simp)) (by omega)).mid (Mid.setCell (w15.setCell ⟨w6.heap.size, 0, none⟩ (.int .i64 rr0)) (lo := w6.heap.size) (hi := w6.heap.size + 1) (p := ⟨w6.heap.size, 1, none⟩) (.int .i64 rs0) (by simp) (by simp)) (by omega)).mid (Mid.setCell ((w15.setCell ⟨w6.heap.size, 0, none⟩ (.int .i64 rr0)).setCell ⟨w6.heap.size, 1, none⟩ (.int .i64 rs0)) (lo := w6.heap.size) (hi := w6.heap.size + 1) (p := ⟨w6.heap.size, 2, none⟩) (.slice AA493 res0.length cc494) (by simp) (by simp)) (by omega)).cell 2 rfl⟩ | exact ⟨(bx174.mid (Mid.alloc _ _) (Or.inr (Nat.zero_le _))).cell 0 rfl, (bx174.mid (Mid.alloc _ _) (Or.inr (Nat.zero_le _))).cell 1 rfl, (bx174.mid (Mid.alloc _ _) (Or.inr (Nat.zero_le _))).cell 2 rfl, (bx176.mid (Mid.alloc _ _) (Or.inr (Nat.zero_le _))).cell 0 rfl, (bx176.mid (Mid.alloc _ _) (Or.inr (Nat.zero_le _))).cell 1 rfl, (bx176.mid (Mid.alloc _ _) (Or.inr (Nat.zero_le _))).cell 2 rfl⟩ | exact ⟨bx522.cell 0 rfl, bx522.cell 1 rfl, bx522.cell 2 rfl, bx524.cell 0 rfl, bx524.cell 1 rfl, bx524.cell 2 rfl⟩ | exact ⟨k556, k557, k558, k559, k560, k561⟩ | exact ⟨k581, k582, k583, k584, k585, k586⟩ | exact ⟨k607, k608, k609, k610, k611, k612⟩ | exact ⟨k635, k636, k637, k638, k639, k640⟩ | exact ⟨(((bx622.mid (Mid.setCell w19 (lo := w5.heap.size) (hi := w5.heap.size + 1) (p := ⟨w5.heap.size, 0, none⟩) (.int .i64 rr0) (by simp) (by simp)) (by omega)).mid (Mid.setCell (w19.setCell ⟨w5.heap.size, 0, none⟩ (.int .i64 rr0)) (lo := w5.heap.size) (hi := w5.heap.size + 1) (p := ⟨w5.heap.size, 1, none⟩) (.int .i64 rs0) (by simp) (by simp)) (by omega)).mid (Mid.setCell ((w19.setCell ⟨w5.heap.size, 0, none⟩ (.int .i64 rr0)).setCell ⟨w5.heap.size, 1, none⟩ (.int .i64 rs0)) (lo := w5.heap.size) (hi := w5.heap.size + 1) (p := ⟨w5.heap.size, 2, none⟩) (.slice AA618 res0.length cc619) (by simp) (by simp)) (by omega)).cell 0 rfl, (((bx622.mid (Mid.setCell w19 (lo := w5.heap.size) (hi := w5.heap.size + 1) (p := ⟨w5.heap.size, 0, none⟩) (.int .i64 rr0) (by simp) (by simp)) (by omega)).mid (Mid.setCell (w19.setCell ⟨w5.heap.size, 0, none⟩ (.int .i64 rr0)) (lo := w5.heap.size) (hi := w5.heap.size + 1) (p := ⟨w5.heap.size, 1, none⟩) (.int .i64 rs0) (by simp) (by simp)) (by omega)).mid (Mid.setCell ((w19.setCell ⟨w5.heap.size, 0, none⟩ (.int .i64 rr0)).setCell ⟨w5.heap.size, 1, none⟩ (.int .i64 rs0)) (lo := w5.heap.size) (hi := w5.heap.size + 1) (p := ⟨w5.heap.size, 2, none⟩) (.slice AA618 res0.length cc619) (by simp) (by simp)) (by omega)).cell 1 rfl, (((bx622.mid (Mid.setCell w19 (lo := w5.heap.size) (hi := w5.heap.size + 1) (p := ⟨w5.heap.size, 0, none⟩) (.int .i64 rr0) (by simp) (by simp)) (by omega)).mid (Mid.setCell (w19.setCell ⟨w5.heap.size, 0, none⟩ (.int .i64 rr0)) (lo := w5.heap.size) (hi := w5.heap.size + 1) (p := ⟨w5.heap.size, 1, none⟩) (.int .i64 rs0) (by simp) (by simp)) (by omega)).mid (Mid.setCell ((w19.setCell ⟨w5.heap.size, 0, none⟩ (.int .i64 rr0)).setCell ⟨w5.heap.size, 1, none⟩ (.int .i64 rs0)) (lo := w5.heap.size) (hi := w5.heap.size + 1) (p := ⟨w5.heap.size, 2, none⟩) (.slice AA618 res0.length cc619) (by simp) (by simp)) (by omega)).cell 2 rfl, (((bx624.mid (Mid.setCell w19 (lo := w5.heap.size) (hi := w5.heap.size + 1) (p := ⟨w5.heap.size, 0, none⟩) (.int .i64 rr0) (by simp) (by simp)) (by omega)).mid (Mid.setCell (w19.setCell ⟨w5.heap.size, 0, none⟩ (.int .i64 rr0)) (lo := w5.heap.size) (hi := w5.heap.size + 1) (p := ⟨w5.heap.size, 1, none⟩) (.int .i64 rs0) (by simp) (by simp)) (by omega)).mid (Mid.setCell ((w19.setCell ⟨w5.heap.size, 0, none⟩ (.int .i64 rr0)).setCell ⟨w5.heap.size, 1, none⟩ (.int .i64 rs0)) (lo := w5.heap.size) (hi := w5.heap.size + 1) (p := ⟨w5.heap.size, 2, none⟩) (.slice AA618 res0.length cc619) (by simp) (by simp)) (by omega)).cell 0 rfl, (((bx624.mid (Mid.setCell w19 (lo := w5.heap.size) (hi := w5.heap.size + 1) (p := ⟨w5.heap.size, 0, none⟩) (.int .i64 rr0) (by simp) (by simp)) (by omega)).mid (Mid.setCell (w19.setCell ⟨w5.heap.size, 0, none⟩ (.int .i64 rr0)) (lo := w5.heap.size) (hi := w5.heap.size + 1) (p := ⟨w5.heap.size, 1, none⟩) (.int .i64 rs0) (by simp) (by simp)) (by omega)).mid (Mid.setCell ((w19.setCell ⟨w5.heap.size, 0, none⟩ (.int .i64 rr0)).setCell ⟨w5.heap.size, 1, none⟩ (.int .i64 rs0)) (lo := w5.heap.size) (hi := w5.heap.size + 1) (p := ⟨w5.heap.size, 2, none⟩) (.slice AA618 res0.length cc619) (by simp) (by simp)) (by omega)).cell 1 rfl, (((bx624.mid (Mid.setCell w19 (lo := w5.heap.size) (hi := w5.heap.size + 1) (p := ⟨w5.heap.size, 0, none⟩) (.int .i64 rr0) (by simp) (by simp)) (by omega)).mid (Mid.setCell (w19.setCell ⟨w5.heap.size, 0, none⟩ (.int .i64 rr0)) (lo := w5.heap.size) (hi := w5.heap.size + 1) (p := ⟨w5.heap.size, 1, none⟩) (.int .i64 rs0) (by simp) (by simp)) (by omega)).mid (Mid.setCell ((w19.setCell ⟨w5.heap.size, 0, none⟩ (.int .i64 rr0)).setCell ⟨w5.heap.size, 1, none⟩ (.int .i64 rs0)) (lo := w5.heap.size) (hi := w5.heap.size + 1) (p := ⟨w5.heap.size, 2, none⟩) (.slice AA618 res0.length cc619) (by simp) (by simp)) (by omega)).cell 2 rfl⟩) (first | (go_at_call 11; with_reducible refine (toGraph_any r0 s0 _ d0 _ _ _ _ h190 hl0).mono ?_; rintro e w6 ⟨AA204, cc205, rfl, h206, md207⟩; have bx208 := bx189.mid md207 (Or.inr (Nat.zero_le _)); have h209 := RG.mid h190 md207 (Or.inl (Nat.zero_le _)); have bx210 := bx191.mid md207 (Or.inr (Nat.zero_le _)); have h211 := RG.mid h192 md207 (Or.inl (Nat.zero_le _)); have h212 := RI.mid h193 md207 (Or.inl (Nat.zero_le _)); have b213 := below_mid b194 z195 md207 (Or.inr rfl); have z214 := b213.size; have y215 := md207.size; have tt216 := md188.trans md207; have k217 := bx208.cell 0 rfl; have k218 := bx208.cell 1 rfl; have k219 := bx208.cell 2 rfl; have k220 := bx210.cell 0 rfl; have k221 := bx210.cell 1 rfl; have k222 := bx210.cell 2 rfl) | (go_at_call 11; with_reducible refine (toGraph_any r1 s1 _ d1 _ _ _ _ h211 hl1).mono ?_; rintro e w7 ⟨AA223, cc224, rfl, h225, md226⟩; have bx227 := bx208.mid md226 (Or.inr (Nat.zero_le _)); have h228 := RG.mid h209 md226 (Or.inl (Nat.zero_le _)); have bx229 := bx210.mid md226 (Or.inr (Nat.zero_le _)); have h230 := RG.mid h211 md226 (Or.inl (Nat.zero_le _)); have h231 := RI.mid h212 md226 (Or.inl (Nat.zero_le _)); have h232 := OG.mid h206 md226 (Or.inl (Nat.zero_le _)); have b233 := below_mid b213 z214 md226 (Or.inr rfl); have z234 := b233.size; have y235 := md226.size; have tt236 := tt216.trans md226; have k237 := bx227.cell 0 rfl; have k238 := bx227.cell 1 rfl; have k239 := bx227.cell 2 rfl; have k240 := bx229.cell 0 rfl; have k241 := bx229.cell 1 rfl; have k242 := bx229.cell 2 rfl) | (go_at_call 12; with_reducible refine (toI _ d2 _ _ _ _ h231 hl2).mono ?_; rintro e w8 ⟨AA243, cc244, rfl, h245, md246⟩; have bx247 := bx227.mid md246 (Or.inr (Nat.zero_le _)); have h248 := RG.mid h228 md246 (Or.inl (Nat.zero_le _)); have bx249 := bx229.mid md246 (Or.inr (Nat.zero_le _)); have h250 := RG.mid h230 md246 (Or.inl (Nat.zero_le _)); have h251 := RI.mid h231 md246 (Or.inl (Nat.zero_le _)); have h252 := OG.mid h232 md246 (Or.inl (Nat.zero_le _)); have h253 := OG.mid h225 md246 (Or.inl (Nat.zero_le _)); have b254 := below_mid b233 z234 md246 (Or.inr rfl); have z255 := b254.size; have y256 := md246.size; have tt257 := tt236.trans md246; have k258 := bx247.cell 0 rfl; have k259 := bx247.cell 1 rfl; have k260 := bx247.cell 2 rfl; have k261 := bx249.cell 0 rfl; have k262 := bx249.cell 1 rfl; have k263 := bx249.cell 2 rfl) | (go_at_call 31; with_reducible refine (sspec_MeetConjugate r0 s0 _ d0 _ r1 s1 _ d1 _ _ d2 _ _ _ _ h252  hl0 _ _ h253  hl1 _ _ h245 _o2 hl2 rr0 rs0 res0 res1 HRES.out).mono ?_; rintro e w9 ⟨AA265, cc266, rfl, h267, md264⟩; have bx269 := bx247.mid md264 (Or.inr (Nat.zero_le _)); have h270 := RG.mid h248 md264 (Or.inl (Nat.zero_le _)); have bx271 := bx249.mid md264 (Or.inr (Nat.zero_le _)); have h272 := RG.mid h250 md264 (Or.inl (Nat.zero_le _)); have h273 := RI.mid h251 md264 (Or.inl (Nat.zero_le _)); have h274 := OG.mid h252 md264 (Or.inl (Nat.zero_le _)); have h275 := OG.mid h253 md264 (Or.inl (Nat.zero_le _)); have h276 := OI.mid h245 md264 (Or.inl (Nat.zero_le _)); have b277 := below_mid b254 z255 md264 (Or.inr rfl); have z278 := b277.size; have y279 := md264.size; have tt280 := tt257.trans md264; have k281 := bx269.cell 0 rfl; have k282 := bx269.cell 1 rfl; have k283 := bx269.cell 2 rfl; have k284 := bx271.cell 0 rfl; have k285 := bx271.cell 1 rfl; have k286 := bx271.cell 2 rfl) | (go_at_call 31; have md287 : Mid 0 0 w8 (w8.alloc (.cells #[.int .i64 0, .int .i64 0, .slice none 0 0] 29)) := Mid.alloc _ _; have bx288 := bx247.mid md287 (Or.inr (Nat.zero_le _)); have h289 := RG.mid h248 md287 (Or.inl (Nat.zero_le _)); have bx290 := bx249.mid md287 (Or.inr (Nat.zero_le _)); have h291 := RG.mid h250 md287 (Or.inl (Nat.zero_le _)); have h292 := RI.mid h251 md287 (Or.inl (Nat.zero_le _)); have h293 := OG.mid h252 md287 (Or.inl (Nat.zero_le _)); have h294 := OG.mid h253 md287 (Or.inl (Nat.zero_le _)); have h295 := OI.mid h245 md287 (Or.inl (Nat.zero_le _)); have b296 := below_mid b254 z255 md287 (Or.inr rfl); have z297 := b296.size; have y298 := md287.size; have tt299 := tt257.trans md287; have bz300 : Box (w8.alloc (.cells #[.int .i64 0, .int .i64 0, .slice none 0 0] 29)) (w8.heap.size) [.int .i64 0, .int .i64 0, .slice none 0 0] := Box.new w8 #[.int .i64 0, .int .i64 0, .slice none 0 0] 29; have y301 : w8.heap.size + 1 ≤ (w8.alloc (.cells #[.int .i64 0, .int .i64 0, .slice none 0 0] 29)).heap.size := (by simp); have k302 := bx288.cell 0 rfl; have k303 := bx288.cell 1 rfl; have k304 := bx288.cell 2 rfl; have k305 := bx290.cell 0 rfl; have k306 := bx290.cell 1 rfl; have k307 := bx290.cell 2 rfl; have k308 := bz300.cell 0 rfl; have k309 := bz300.cell 1 rfl; have k310 := bz300.cell 2 rfl; have f311 := frz_MeetConjugate bz300; with_reducible refine (sspec_MeetConjugate r0 s0 _ d0 _ r1 s1 _ d1 _ _ d2 _ _ _ _ h293  hl0 _ _ h294  hl1 _ _ h295 _o2 hl2 rr0 rs0 res0 res1 HRES.out).mono ?_; rintro e w10 ⟨AA313, cc314, rfl, h315, md312⟩; have bx317 := bx288.mid md312 (Or.inr (Nat.zero_le _)); have h318 := RG.mid h289 md312 (Or.inl (Nat.zero_le _)); have bx319 := bx290.mid md312 (Or.inr (Nat.zero_le _)); have h320 := RG.mid h291 md312 (Or.inl (Nat.zero_le _)); have h321 := RI.mid h292 md312 (Or.inl (Nat.zero_le _)); have h322 := OG.mid h293 md312 (Or.inl (Nat.zero_le _)); have h323 := OG.mid h294 md312 (Or.inl (Nat.zero_le _)); have h324 := OI.mid h295 md312 (Or.inl (Nat.zero_le _)); have bx325 := bz300.mid md312 (Or.inr (Nat.zero_le _)); have b326 := below_mid b296 z297 md312 (Or.inr rfl); have z327 := b326.size; have y328 := md312.size; have tt329 := tt299.trans md312; have k330 := bx317.cell 0 rfl; have k331 := bx317.cell 1 rfl; have k332 := bx317.cell 2 rfl; have k333 := bx319.cell 0 rfl; have k334 := bx319.cell 1 rfl; have k335 := bx319.cell 2 rfl; have k336 := bx325.cell 0 rfl; have k337 := bx325.cell 1 rfl; have k338 := bx325.cell 2 rfl; have f339 := frz_MeetConjugate bx325) | (go_at_call 12; have md340 : Mid 0 0 w7 (w7.alloc (.cells #[.int .i64 0, .int .i64 0, .slice none 0 0] 29)) := Mid.alloc _ _; have bx341 := bx227.mid md340 (Or.inr (Nat.zero_le _)); have h342 := RG.mid h228 md340 (Or.inl (Nat.zero_le _)); have bx343 := bx229.mid md340 (Or.inr (Nat.zero_le _)); have h344 := RG.mid h230 md340 (Or.inl (Nat.zero_le _)); have h345 := RI.mid h231 md340 (Or.inl (Nat.zero_le _)); have h346 := OG.mid h232 md340 (Or.inl (Nat.zero_le _)); have h347 := OG.mid h225 md340 (Or.inl (Nat.zero_le _)); have b348 := below_mid b233 z234 md340 (Or.inr rfl); have z349 := b348.size; have y350 := md340.size; have tt351 := tt236.trans md340; have bz352 : Box (w7.alloc (.cells #[.int .i64 0, .int .i64 0, .slice none 0 0] 29)) (w7.heap.size) [.int .i64 0, .int .i64 0, .slice none 0 0] := Box.new w7 #[.int .i64 0, .int .i64 0, .slice none 0 0] 29; have y353 : w7.heap.size + 1 ≤ (w7.alloc (.cells #[.int .i64 0, .int .i64 0, .slice none 0 0] 29)).heap.size := (by simp); have k354 := bx341.cell 0 rfl; have k355 := bx341.cell 1 rfl; have k356 := bx341.cell 2 rfl; have k357 := bx343.cell 0 rfl; have k358 := bx343.cell 1 rfl; have k359 := bx343.cell 2 rfl; have k360 := bz352.cell 0 rfl; have k361 := bz352.cell 1 rfl; have k362 := bz352.cell 2 rfl; have f363 := frz_MeetConjugate bz352; with_reducible refine (toI _ d2 _ _ _ _ h345 hl2).mono ?_; rintro e w11 ⟨AA364, cc365, rfl, h366, md367⟩; have bx368 := bx341.mid md367 (Or.inr (Nat.zero_le _)); have h369 := RG.mid h342 md367 (Or.inl (Nat.zero_le _)); have bx370 := bx343.mid md367 (Or.inr (Nat.zero_le _)); have h371 := RG.mid h344 md367 (Or.inl (Nat.zero_le _)); have h372 := RI.mid h345 md367 (Or.inl (Nat.zero_le _)); have h373 := OG.mid h346 md367 (Or.inl (Nat.zero_le _)); have h374 := OG.mid h347 md367 (Or.inl (Nat.zero_le _)); have bx375 := bz352.mid md367 (Or.inr (Nat.zero_le _)); have b376 := below_mid b348 z349 md367 (Or.inr rfl); have z377 := b376.size; have y378 := md367.size; have tt379 := tt351.trans md367; have k380 := bx368.cell 0 rfl; have k381 := bx368.cell 1 rfl; have k382 := bx368.cell 2 rfl; have k383 := bx370.cell 0 rfl; have k384 := bx370.cell 1 rfl; have k385 := bx370.cell 2 rfl; have k386 := bx375.cell 0 rfl; have k387 := bx375.cell 1 rfl; have k388 := bx375.cell 2 rfl; have f389 := frz_MeetConjugate bx375) | (go_at_call 31; with_reducible refine (sspec_MeetConjugate r0 s0 _ d0 _ r1 s1 _ d1 _ _ d2 _ _ _ _ h373  hl0 _ _ h374  hl1 _ _ h366 _o2 hl2 rr0 rs0 res0 res1 HRES.out).mono ?_; rintro e w12 ⟨AA391, cc392, rfl, h393, md390⟩; have bx395 := bx368.mid md390 (Or.inr (Nat.zero_le _)); have h396 := RG.mid h369 md390 (Or.inl (Nat.zero_le _)); have bx397 := bx370.mid md390 (Or.inr (Nat.zero_le _)); have h398 := RG.mid h371 md390 (Or.inl (Nat.zero_le _)); have h399 := RI.mid h372 md390 (Or.inl (Nat.zero_le _)); have h400 := OG.mid h373 md390 (Or.inl (Nat.zero_le _)); have h401 := OG.mid h374 md390 (Or.inl (Nat.zero_le _)); have bx402 := bx375.mid md390 (Or.inr (Nat.zero_le _)); have h403 := OI.mid h366 md390 (Or.inl (Nat.zero_le _)); have b404 := below_mid b376 z377 md390 (Or.inr rfl); have z405 := b404.size; have y406 := md390.size; have tt407 := tt379.trans md390; have k408 := bx395.cell 0 rfl; have k409 := bx395.cell 1 rfl; have k410 := bx395.cell 2 rfl; have k411 := bx397.cell 0 rfl; have k412 := bx397.cell 1 rfl; have k413 := bx397.cell 2 rfl; have k414 := bx402.cell 0 rfl; have k415 := bx402.cell 1 rfl; have k416 := bx402.cell 2 rfl; have f417 := frz_MeetConjugate bx402) | (go_at_call 11; have md418 : Mid 0 0 w6 (w6.alloc (.cells #[.int .i64 0, .int .i64 0, .slice none 0 0] 29)) := Mid.alloc _ _; have bx419 := bx208.mid md418 (Or.inr (Nat.zero_le _)); have h420 := RG.mid h209 md418 (Or.inl (Nat.zero_le _)); have bx421 := bx210.mid md418 (Or.inr (Nat.zero_le _)); have h422 := RG.mid h211 md418 (Or.inl (Nat.zero_le _)); have h423 := RI.mid h212 md418 (Or.inl (Nat.zero_le _)); have h424 := OG.mid h206 md418 (Or.inl (Nat.zero_le _)); have b425 := below_mid b213 z214 md418 (Or.inr rfl); have z426 := b425.size; have y427 := md418.size; have tt428 := tt216.trans md418; have bz429 : Box (w6.alloc (.cells #[.int .i64 0, .int .i64 0, .slice none 0 0] 29)) (w6.heap.size) [.int .i64 0, .int .i64 0, .slice none 0 0] := Box.new w6 #[.int .i64 0, .int .i64 0, .slice none 0 0] 29; have y430 : w6.heap.size + 1 ≤ (w6.alloc (.cells #[.int .i64 0, .int .i64 0, .slice none 0 0] 29)).heap.size := (by simp); have k431 := bx419.cell 0 rfl; have k432 := bx419.cell 1 rfl; have k433 := bx419.cell 2 rfl; have k434 := bx421.cell 0 rfl; have k435 := bx421.cell 1 rfl; have k436 := bx421.cell 2 rfl; have k437 := bz429.cell 0 rfl; have k438 := bz429.cell 1 rfl; have k439 := bz429.cell 2 rfl; have f440 := frz_MeetConjugate bz429; with_reducible refine (toGraph_any r1 s1 _ d1 _ _ _ _ h422 hl1).mono ?_; rintro e w13 ⟨AA441, cc442, rfl, h443, md444⟩; have bx445 := bx419.mid md444 (Or.inr (Nat.zero_le _)); have h446 := RG.mid h420 md444 (Or.inl (Nat.zero_le _)); have bx447 := bx421.mid md444 (Or.inr (Nat.zero_le _)); have h448 := RG.mid h422 md444 (Or.inl (Nat.zero_le _)); have h449 := RI.mid h423 md444 (Or.inl (Nat.zero_le _)); have h450 := OG.mid h424 md444 (Or.inl (Nat.zero_le _)); have bx451 := bz429.mid md444 (Or.inr (Nat.zero_le _)); have b452 := below_mid b425 z426 md444 (Or.inr rfl); have z453 := b452.size; have y454 := md444.size; have tt455 := tt428.trans md444; have k456 := bx445.cell 0 rfl; have k457 := bx445.cell 1 rfl; have k458 := bx445.cell 2 rfl; have k459 := bx447.cell 0 rfl; have k460 := bx447.cell 1 rfl; have k461 := bx447.cell 2 rfl; have k462 := bx451.cell 0 rfl; have k463 := bx451.cell 1 rfl; have k464 := bx451.cell 2 rfl; have f465 := frz_MeetConjugate bx451) | (go_at_call 12; with_reducible refine (toI _ d2 _ _ _ _ h449 hl2).mono ?_; rintro e w14 ⟨AA466, cc467, rfl, h468, md469⟩; have bx470 := bx445.mid md469 (Or.inr (Nat.zero_le _)); have h471 := RG.mid h446 md469 (Or.inl (Nat.zero_le _)); have bx472 := bx447.mid md469 (Or.inr (Nat.zero_le _)); have h473 := RG.mid h448 md469 (Or.inl (Nat.zero_le _)); have h474 := RI.mid h449 md469 (Or.inl (Nat.zero_le _)); have h475 := OG.mid h450 md469 (Or.inl (Nat.zero_le _)); have bx476 := bx451.mid md469 (Or.inr (Nat.zero_le _)); have h477 := OG.mid h443 md469 (Or.inl (Nat.zero_le _)); have b478 := below_mid b452 z453 md469 (Or.inr rfl); have z479 := b478.size; have y480 := md469.size; have tt481 := tt455.trans md469; have k482 := bx470.cell 0 rfl; have k483 := bx470.cell 1 rfl; have k484 := bx470.cell 2 rfl; have k485 := bx472.cell 0 rfl; have k486 := bx472.cell 1 rfl; have k487 := bx472.cell 2 rfl; have k488 := bx476.cell 0 rfl; have k489 := bx476.cell 1 rfl; have k490 := bx476.cell 2 rfl; have f491 := frz_MeetConjugate bx476) | (go_at_call 31; with_reducible refine (sspec_MeetConjugate r0 s0 _ d0 _ r1 s1 _ d1 _ _ d2 _ _ _ _ h475  hl0 _ _ h477  hl1 _ _ h468 _o2 hl2 rr0 rs0 res0 res1 HRES.out).mono ?_; rintro e w15 ⟨AA493, cc494, rfl, h495, md492⟩; have bx497 := bx470.mid md492 (Or.inr (Nat.zero_le _)); have h498 := RG.mid h471 md492 (Or.inl (Nat.zero_le _)); have bx499 := bx472.mid md492 (Or.inr (Nat.zero_le _)); have h500 := RG.mid h473 md492 (Or.inl (Nat.zero_le _)); have h501 := RI.mid h474 md492 (Or.inl (Nat.zero_le _)); have h502 := OG.mid h475 md492 (Or.inl (Nat.zero_le _)); have bx503 := bx476.mid md492 (Or.inr (Nat.zero_le _)); have h504 := OG.mid h477 md492 (Or.inl (Nat.zero_le _)); have h505 := OI.mid h468 md492 (Or.inl (Nat.zero_le _)); have b506 := below_mid b478 z479 md492 (Or.inr rfl); have z507 := b506.size; have y508 := md492.size; have tt509 := tt481.trans md492; have k510 := bx497.cell 0 rfl; have k511 := bx497.cell 1 rfl; have k512 := bx497.cell 2 rfl; have k513 := bx499.cell 0 rfl; have k514 := bx499.cell 1 rfl; have k515 := bx499.cell 2 rfl; have k516 := bx503.cell 0 rfl; have k517 := bx503.cell 1 rfl; have k518 := bx503.cell 2 rfl; have f519 := frz_MeetConjugate bx503) | (go_at_call 11; have md520 : Mid 0 0 w5 (w5.alloc (.cells #[.int .i64 0, .int .i64 0, .slice none 0 0] 29)) := Mid.alloc _ _; have md521 : Mid 0 0 w5 (w5.alloc (.cells #[.int .i64 0, .int .i64 0, .slice none 0 0] 29)).drew := md520.trans (Mid.drew1 _); have bx522 := bx174.mid md521 (Or.inr (Nat.zero_le _)); have h523 := RG.mid h175 md521 (Or.inl (Nat.zero_le _)); have bx524 := bx176.mid md521 (Or.inr (Nat.zero_le _)); have h525 := RG.mid h177 md521 (Or.inl (Nat.zero_le _)); have h526 := RI.mid h178 md521 (Or.inl (Nat.zero_le _)); have b527 := below_mid b179 z180 md521 (Or.inr rfl); have z528 := b527.size; have y529 := md521.size; have bz530 : Box (w5.alloc (.cells #[.int .i64 0, .int .i64 0, .slice none 0 0] 29)).drew (w5.heap.size) [.int .i64 0, .int .i64 0, .slice none 0 0] := Box.new w5 #[.int .i64 0, .int .i64 0, .slice none 0 0] 29; have y531 : w5.heap.size + 1 ≤ (w5.alloc (.cells #[.int .i64 0, .int .i64 0, .slice none 0 0] 29)).drew.heap.size := (by simp); have k532 := bx522.cell 0 rfl; have k533 := bx522.cell 1 rfl; have k534 := bx522.cell 2 rfl; have k535 := bx524.cell 0 rfl; have k536 := bx524.cell 1 rfl; have k537 := bx524.cell 2 rfl; have k538 := bz530.cell 0 rfl; have k539 := bz530.cell 1 rfl; have k540 := bz530.cell 2 rfl; have f541 := frz_MeetConjugate bz530; with_reducible refine (toGraph_any r0 s0 _ d0 _ _ _ _ h523 hl0).mono ?_; rintro e w16 ⟨AA542, cc543, rfl, h544, md545⟩; have bx546 := bx522.mid md545 (Or.inr (Nat.zero_le _)); have h547 := RG.mid h523 md545 (Or.inl (Nat.zero_le _)); have bx548 := bx524.mid md545 (Or.inr (Nat.zero_le _)); have h549 := RG.mid h525 md545 (Or.inl (Nat.zero_le _)); have h550 := RI.mid h526 md545 (Or.inl (Nat.zero_le _)); have bx551 := bz530.mid md545 (Or.inr (Nat.zero_le _)); have b552 := below_mid b527 z528 md545 (Or.inr rfl); have z553 := b552.size; have y554 := md545.size; have tt555 := md521.trans md545; have k556 := bx546.cell 0 rfl; have k557 := bx546.cell 1 rfl; have k558 := bx546.cell 2 rfl; have k559 := bx548.cell 0 rfl; have k560 := bx548.cell 1 rfl; have k561 := bx548.cell 2 rfl; have k562 := bx551.cell 0 rfl; have k563 := bx551.cell 1 rfl; have k564 := bx551.cell 2 rfl; have f565 := frz_MeetConjugate bx551) | (go_at_call 11; with_reducible refine (toGraph_any r1 s1 _ d1 _ _ _ _ h549 hl1).mono ?_; rintro e w17 ⟨AA566, cc567, rfl, h568, md569⟩; have bx570 := bx546.mid md569 (Or.inr (Nat.zero_le _)); have h571 := RG.mid h547 md569 (Or.inl (Nat.zero_le _)); have bx572 := bx548.mid md569 (Or.inr (Nat.zero_le _)); have h573 := RG.mid h549 md569 (Or.inl (Nat.zero_le _)); have h574 := RI.mid h550 md569 (Or.inl (Nat.zero_le _)); have bx575 := bx551.mid md569 (Or.inr (Nat.zero_le _)); have h576 := OG.mid h544 md569 (Or.inl (Nat.zero_le _)); have b577 := below_mid b552 z553 md569 (Or.inr rfl); have z578 := b577.size; have y579 := md569.size; have tt580 := tt555.trans md569; have k581 := bx570.cell 0 rfl; have k582 := bx570.cell 1 rfl; have k583 := bx570.cell 2 rfl; have k584 := bx572.cell 0 rfl; have k585 := bx572.cell 1 rfl; have k586 := bx572.cell 2 rfl; have k587 := bx575.cell 0 rfl; have k588 := bx575.cell 1 rfl; have k589 := bx575.cell 2 rfl; have f590 := frz_MeetConjugate bx575) | (go_at_call 12; with_reducible refine (toI _ d2 _ _ _ _ h574 hl2).mono ?_; rintro e w18 ⟨AA591, cc592, rfl, h593, md594⟩; have bx595 := bx570.mid md594 (Or.inr (Nat.zero_le _)); have h596 := RG.mid h571 md594 (Or.inl (Nat.zero_le _)); have bx597 := bx572.mid md594 (Or.inr (Nat.zero_le _)); have h598 := RG.mid h573 md594 (Or.inl (Nat.zero_le _)); have h599 := RI.mid h574 md594 (Or.inl (Nat.zero_le _)); have bx600 := bx575.mid md594 (Or.inr (Nat.zero_le _)); have h601 := OG.mid h576 md594 (Or.inl (Nat.zero_le _)); have h602 := OG.mid h568 md594 (Or.inl (Nat.zero_le _)); have b603 := below_mid b577 z578 md594 (Or.inr rfl); have z604 := b603.size; have y605 := md594.size; have tt606 := tt580.trans md594; have k607 := bx595.cell 0 rfl; have k608 := bx595.cell 1 rfl; have k609 := bx595.cell 2 rfl; have k610 := bx597.cell 0 rfl; have k611 := bx597.cell 1 rfl; have k612 := bx597.cell 2 rfl; have k613 := bx600.cell 0 rfl; have k614 := bx600.cell 1 rfl; have k615 := bx600.cell 2 rfl; have f616 := frz_MeetConjugate bx600) | (go_at_call 31; with_reducible refine (sspec_MeetConjugate r0 s0 _ d0 _ r1 s1 _ d1 _ _ d2 _ _ _ _ h601  hl0 _ _ h602  hl1 _ _ h593 _o2 hl2 rr0 rs0 res0 res1 HRES.out).mono ?_; rintro e w19 ⟨AA618, cc619, rfl, h620, md617⟩; have bx622 := bx595.mid md617 (Or.inr (Nat.zero_le _)); have h623 := RG.mid h596 md617 (Or.inl (Nat.zero_le _)); have bx624 := bx597.mid md617 (Or.inr (Nat.zero_le _)); have h625 := RG.mid h598 md617 (Or.inl (Nat.zero_le _)); have h626 := RI.mid h599 md617 (Or.inl (Nat.zero_le _)); have bx627 := bx600.mid md617 (Or.inr (Nat.zero_le _)); have h628 := OG.mid h601 md617 (Or.inl (Nat.zero_le _)); have h629 := OG.mid h602 md617 (Or.inl (Nat.zero_le _)); have h630 := OI.mid h593 md617 (Or.inl (Nat.zero_le _)); have b631 := below_mid b603 z604 md617 (Or.inr rfl); have z632 := b631.size; have y633 := md617.size; have tt634 := tt606.trans md617; have k635 := bx622.cell 0 rfl; have k636 := bx622.cell 1 rfl; have k637 := bx622.cell 2 rfl; have k638 := bx624.cell 0 rfl; have k639 := bx624.cell 1 rfl; have k640 := bx624.cell 2 rfl; have k641 := bx627.cell 0 rfl; have k642 := bx627.cell 1 rfl; have k643 := bx627.cell 2 rfl; have f644 := frz_MeetConjugate bx627))
    all_goals (go_wp2_with fail; go_meet; first | exact ⟨w9.heap.size, AA265, cc266, rfl, rfl, Box.new w9 #[.int .i64 rr0, .int .i64 rs0, .slice AA265 res0.length cc266] 29, OG.wide (OG.mid h267 (Mid.alloc w9 (.cells #[.int .i64 rr0, .int .i64 rs0, .slice AA265 res0.length cc266] 29)) (Or.inl (Nat.zero_le _))) (by omega) (by simp) (Nat.le_refl _), tt280.trans (Mid.alloc w9 (.cells #[.int .i64 rr0, .int .i64 rs0, .slice AA265 res0.length cc266] 29)), by omega⟩ | exact ⟨w8.heap.size, AA313, cc314, rfl, rfl, (((bx325.set 0 _ (by simp) rfl).set 1 _ (by simp) rfl).set 2 _ (by simp) rfl), OG.wide (OG.mid (OG.mid (OG.mid h315 (Mid.setCell w10 (lo := w8.heap.size) (hi := w8.heap.size + 1) (p := ⟨w8.heap.size, 0, none⟩) (.int .i64 rr0) (by simp) (by simp)) (by omega)) (Mid.setCell (w10.setCell ⟨w8.heap.size, 0, none⟩ (.int .i64 rr0)) (lo := w8.heap.size) (hi := w8.heap.size + 1) (p := ⟨w8.heap.size, 1, none⟩) (.int .i64 rs0) (by simp) (by simp)) (by omega)) (Mid.setCell ((w10.setCell ⟨w8.heap.size, 0, none⟩ (.int .i64 rr0)).setCell ⟨w8.heap.size, 1, none⟩ (.int .i64 rs0)) (lo := w8.heap.size) (hi := w8.heap.size + 1) (p := ⟨w8.heap.size, 2, none⟩) (.slice AA313 res0.length cc314) (by simp) (by simp)) (by omega)) (by omega) (by simp) (Nat.le_refl _), (((tt329.storeNew (by simp <;> omega) _).storeNew (by simp <;> omega) _).storeNew (by simp <;> omega) _), by omega⟩ | exact ⟨w7.heap.size, AA391, cc392, rfl, rfl, (((bx402.set 0 _ (by simp) rfl).set 1 _ (by simp) rfl).set 2 _ (by simp) rfl), OG.wide (OG.mid (OG.mid (OG.mid h393 (Mid.setCell w12 (lo := w7.heap.size) (hi := w7.heap.size + 1) (p := ⟨w7.heap.size, 0, none⟩) (.int .i64 rr0) (by simp) (by simp)) (by omega)) (Mid.setCell (w12.setCell ⟨w7.heap.size, 0, none⟩ (.int .i64 rr0)) (lo := w7.heap.size) (hi := w7.heap.size + 1) (p := ⟨w7.heap.size, 1, none⟩) (.int .i64 rs0) (by simp) (by simp)) (by omega)) (Mid.setCell ((w12.setCell ⟨w7.heap.size, 0, none⟩ (.int .i64 rr0)).setCell ⟨w7.heap.size, 1, none⟩ (.int .i64 rs0)) (lo := w7.heap.size) (hi := w7.heap.size + 1) (p := ⟨w7.heap.size, 2, none⟩) (.slice AA391 res0.length cc392) (by simp) (by simp)) (by omega)) (by omega) (by simp) (Nat.le_refl _), (((tt407.storeNew (by simp <;> omega) _).storeNew (by simp <;> omega) _).storeNew (by simp <;> omega) _), by omega⟩ | exact ⟨w6.heap.size, AA493, cc494, rfl, rfl, (((bx503.set 0 _ (by simp) rfl).set 1 _ (by simp) rfl).set 2 _ (by simp) rfl), OG.wide (OG.mid (OG.mid (OG.mid h495 (Mid.setCell w15 (lo := w6.heap.size) (hi := w6.heap.size + 1) (p := ⟨w6.heap.size, 0, none⟩) (.int .i64 rr0) (by simp) (by simp)) (by omega)) (Mid.setCell (w15.setCell ⟨w6.heap.size, 0, none⟩ (.int .i64 rr0)) (lo := w6.heap.size) (hi := w6.heap.size + 1) (p := ⟨w6.heap.size, 1, none⟩) (.int .i64 rs0) (by simp) (by simp)) (by omega)) (Mid.setCell ((w15.setCell ⟨w6.heap.size, 0, none⟩ (.int .i64 rr0)).setCell ⟨w6.heap.size, 1, none⟩ (.int .i64 rs0)) (lo := w6.heap.size) (hi := w6.heap.size + 1) (p := ⟨w6.heap.size, 2, none⟩) (.slice AA493 res0.length cc494) (by simp) (by simp)) (by omega)) (by omega) (by simp) (Nat.le_refl _), (((tt509.storeNew (by simp <;> omega) _).storeNew (by simp <;> omega) _).storeNew (by simp <;> omega) _), by omega⟩ | exact ⟨w5.heap.size, AA618, cc619, rfl, rfl, (((bx627.set 0 _ (by simp) rfl).set 1 _ (by simp) rfl).set 2 _ (by simp) rfl), OG.wide (OG.mid (OG.mid (OG.mid h620 (Mid.setCell w19 (lo := w5.heap.size) (hi := w5.heap.size + 1) (p := ⟨w5.heap.size, 0, none⟩) (.int .i64 rr0) (by simp) (by simp)) (by omega)) (Mid.setCell (w19.setCell ⟨w5.heap.size, 0, none⟩ (.int .i64 rr0)) (lo := w5.heap.size) (hi := w5.heap.size + 1) (p := ⟨w5.heap.size, 1, none⟩) (.int .i64 rs0) (by simp) (by simp)) (by omega)) (Mid.setCell ((w19.setCell ⟨w5.heap.size, 0, none⟩ (.int .i64 rr0)).setCell ⟨w5.heap.size, 1, none⟩ (.int .i64 rs0)) (lo := w5.heap.size) (hi := w5.heap.size + 1) (p := ⟨w5.heap.size, 2, none⟩) (.slice AA618 res0.length cc619) (by simp) (by simp)) (by omega)) (by omega) (by simp) (Nat.le_refl _), (((tt634.storeNew (by simp <;> omega) _).storeNew (by simp <;> omega) _).storeNew (by simp <;> omega) _), by omega⟩)
  case rest =>
    obtain ⟨g645, AA650, cc651, rfl, rfl, bx646, h647, md648, y649⟩ := hcut
    obtain ⟨w20, rfl⟩ : ∃ x, x = wc := ⟨_, rfl⟩
    have bx652 := bx174.mid md648 (Or.inr (Nat.zero_le _))
    clear bx174
    have h653 := RG.mid h175 md648 (Or.inl (Nat.zero_le _))
    clear h175
    have bx654 := bx176.mid md648 (Or.inr (Nat.zero_le _))
    clear bx176
    have h655 := RG.mid h177 md648 (Or.inl (Nat.zero_le _))
    clear h177
    have h656 := RI.mid h178 md648 (Or.inl (Nat.zero_le _))
    clear h178
    have b657 := below_mid b179 z180 md648 (Or.inr rfl)
    have z658 := b657.size
    have y659 := md648.size
    have y660 := bx646.1
    clear k182
    clear k183
    clear k184
    have k661 := bx652.cell 0 rfl
    have k662 := bx652.cell 1 rfl
    have k663 := bx652.cell 2 rfl
    clear k185
    clear k186
    clear k187
    have k664 := bx654.cell 0 rfl
    have k665 := bx654.cell 1 rfl
    have k666 := bx654.cell 2 rfl
    have k667 := bx646.cell 0 rfl
    have k668 := bx646.cell 1 rfl
    have k669 := bx646.cell 2 rfl
    go_wp2_with fail
    with_reducible refine (toGraph_any r0 s0 _ d0 _ _ _ _ h653 hl0).mono ?_
    rintro e w21 ⟨AA670, cc671, rfl, h672, md673⟩
    have bx674 := bx652.mid md673 (Or.inr (Nat.zero_le _))
    clear bx652
    have h675 := RG.mid h653 md673 (Or.inl (Nat.zero_le _))
    clear h653
    have bx676 := bx654.mid md673 (Or.inr (Nat.zero_le _))
    clear bx654
    have h677 := RG.mid h655 md673 (Or.inl (Nat.zero_le _))
    clear h655
    have h678 := RI.mid h656 md673 (Or.inl (Nat.zero_le _))
    clear h656
    have bx679 := bx646.mid md673 (Or.inr (Nat.zero_le _))
    clear bx646
    have h680 := OG.mid h647 md673 (Or.inl (Nat.zero_le _))
    clear h647
    have b681 := below_mid b657 z658 md673 (Or.inr rfl)
    have z682 := b681.size
    have y683 := md673.size
    clear k661
    clear k662
    clear k663
    have k684 := bx674.cell 0 rfl
    have k685 := bx674.cell 1 rfl
    have k686 := bx674.cell 2 rfl
    clear k664
    clear k665
    clear k666
    have k687 := bx676.cell 0 rfl
    have k688 := bx676.cell 1 rfl
    have k689 := bx676.cell 2 rfl
    clear k667
    clear k668
    clear k669
    have k690 := bx679.cell 0 rfl
    have k691 := bx679.cell 1 rfl
    have k692 := bx679.cell 2 rfl
    have md693 : Mid 0 0 w21 (w21.alloc (.cells #[.int .i64 r0, .int .i64 s0, .slice AA670 d0.length cc671] 29)) := Mid.alloc _ _
    have bx694 := bx674.mid md693 (Or.inr (Nat.zero_le _))
    clear bx674
    have h695 := RG.mid h675 md693 (Or.inl (Nat.zero_le _))
    clear h675
    have bx696 := bx676.mid md693 (Or.inr (Nat.zero_le _))
    clear bx676
    have h697 := RG.mid h677 md693 (Or.inl (Nat.zero_le _))
    clear h677
    have h698 := RI.mid h678 md693 (Or.inl (Nat.zero_le _))
    clear h678
    have bx699 := bx679.mid md693 (Or.inr (Nat.zero_le _))
    clear bx679
    have h700 := OG.mid h680 md693 (Or.inl (Nat.zero_le _))
    clear h680
    have h701 := OG.mid h672 md693 (Or.inl (Nat.zero_le _))
    clear h672
    have b702 := below_mid b681 z682 md693 (Or.inr rfl)
    have z703 := b702.size
    have y704 := md693.size
    have bx705 := Box.new w21 #[.int .i64 r0, .int .i64 s0, .slice AA670 d0.length cc671] 29
    have y706 : w21.heap.size + 1 ≤ (w21.alloc (.cells #[.int .i64 r0, .int .i64 s0, .slice AA670 d0.length cc671] 29)).heap.size := (by simp)
    clear k684
    clear k685
    clear k686
    have k707 := bx694.cell 0 rfl
    have k708 := bx694.cell 1 rfl
    have k709 := bx694.cell 2 rfl
    clear k687
    clear k688
    clear k689
    have k710 := bx696.cell 0 rfl
    have k711 := bx696.cell 1 rfl
    have k712 := bx696.cell 2 rfl
    clear k690
    clear k691
    clear k692
    have k713 := bx699.cell 0 rfl
    have k714 := bx699.cell 1 rfl
    have k715 := bx699.cell 2 rfl
    have k716 := bx705.cell 0 rfl
    have k717 := bx705.cell 1 rfl
    have k718 := bx705.cell 2 rfl
    go_wp2_with fail
    with_reducible refine (toGraph_any r1 s1 _ d1 _ _ _ _ h697 hl1).mono ?_
    rintro e w22 ⟨AA719, cc720, rfl, h721, md722⟩
    have bx723 := bx694.mid md722 (Or.inr (Nat.zero_le _))
    clear bx694
    have h724 := RG.mid h695 md722 (Or.inl (Nat.zero_le _))
    clear h695
    have bx725 := bx696.mid md722 (Or.inr (Nat.zero_le _))
    clear bx696
    have h726 := RG.mid h697 md722 (Or.inl (Nat.zero_le _))
    clear h697
    have h727 := RI.mid h698 md722 (Or.inl (Nat.zero_le _))
    clear h698
    have bx728 := bx699.mid md722 (Or.inr (Nat.zero_le _))
    clear bx699
    have h729 := OG.mid h700 md722 (Or.inl (Nat.zero_le _))
    clear h700
    have bx730 := bx705.mid md722 (Or.inr (Nat.zero_le _))
    clear bx705
    have h731 := OG.mid h701 md722 (Or.inl (Nat.zero_le _))
    clear h701
    have b732 := below_mid b702 z703 md722 (Or.inr rfl)
    have z733 := b732.size
    have y734 := md722.size
    clear k707
    clear k708
    clear k709
    have k735 := bx723.cell 0 rfl
    have k736 := bx723.cell 1 rfl
    have k737 := bx723.cell 2 rfl
    clear k710
    clear k711
    clear k712
    have k738 := bx725.cell 0 rfl
    have k739 := bx725.cell 1 rfl
    have k740 := bx725.cell 2 rfl
    clear k713
    clear k714
    clear k715
    have k741 := bx728.cell 0 rfl
    have k742 := bx728.cell 1 rfl
    have k743 := bx728.cell 2 rfl
    clear k716
    clear k717
    clear k718
    have k744 := bx730.cell 0 rfl
    have k745 := bx730.cell 1 rfl
    have k746 := bx730.cell 2 rfl
    have md747 : Mid 0 0 w22 (w22.alloc (.cells #[.int .i64 r1, .int .i64 s1, .slice AA719 d1.length cc720] 29)) := Mid.alloc _ _
    have bx748 := bx723.mid md747 (Or.inr (Nat.zero_le _))
    clear bx723
    have h749 := RG.mid h724 md747 (Or.inl (Nat.zero_le _))
    clear h724
    have bx750 := bx725.mid md747 (Or.inr (Nat.zero_le _))
    clear bx725
    have h751 := RG.mid h726 md747 (Or.inl (Nat.zero_le _))
    clear h726
    have h752 := RI.mid h727 md747 (Or.inl (Nat.zero_le _))
    clear h727
    have bx753 := bx728.mid md747 (Or.inr (Nat.zero_le _))
    clear bx728
    have h754 := OG.mid h729 md747 (Or.inl (Nat.zero_le _))
    clear h729
    have bx755 := bx730.mid md747 (Or.inr (Nat.zero_le _))
    clear bx730
    have h756 := OG.mid h731 md747 (Or.inl (Nat.zero_le _))
    clear h731
    have h757 := OG.mid h721 md747 (Or.inl (Nat.zero_le _))
    clear h721
    have b758 := below_mid b732 z733 md747 (Or.inr rfl)
    have z759 := b758.size
    have y760 := md747.size
    have bx761 := Box.new w22 #[.int .i64 r1, .int .i64 s1, .slice AA719 d1.length cc720] 29
    have y762 : w22.heap.size + 1 ≤ (w22.alloc (.cells #[.int .i64 r1, .int .i64 s1, .slice AA719 d1.length cc720] 29)).heap.size := (by simp)
    clear k735
    clear k736
    clear k737
    have k763 := bx748.cell 0 rfl
    have k764 := bx748.cell 1 rfl
    have k765 := bx748.cell 2 rfl
    clear k738
    clear k739
    clear k740
    have k766 := bx750.cell 0 rfl
    have k767 := bx750.cell 1 rfl
    have k768 := bx750.cell 2 rfl
    clear k741
    clear k742
    clear k743
    have k769 := bx753.cell 0 rfl
    have k770 := bx753.cell 1 rfl
    have k771 := bx753.cell 2 rfl
    clear k744
    clear k745
    clear k746
    have k772 := bx755.cell 0 rfl
    have k773 := bx755.cell 1 rfl
    have k774 := bx755.cell 2 rfl
    have k775 := bx761.cell 0 rfl
    have k776 := bx761.cell 1 rfl
    have k777 := bx761.cell 2 rfl
    go_wp2_with fail
    with_reducible refine (toI _ d2 _ _ _ _ h752 hl2).mono ?_
    rintro e w23 ⟨AA778, cc779, rfl, h780, md781⟩
    have bx782 := bx748.mid md781 (Or.inr (Nat.zero_le _))
    clear bx748
    have h783 := RG.mid h749 md781 (Or.inl (Nat.zero_le _))
    clear h749
    have bx784 := bx750.mid md781 (Or.inr (Nat.zero_le _))
    clear bx750
    have h785 := RG.mid h751 md781 (Or.inl (Nat.zero_le _))
    clear h751
    have h786 := RI.mid h752 md781 (Or.inl (Nat.zero_le _))
    clear h752
    have bx787 := bx753.mid md781 (Or.inr (Nat.zero_le _))
    clear bx753
    have h788 := OG.mid h754 md781 (Or.inl (Nat.zero_le _))
    clear h754
    have bx789 := bx755.mid md781 (Or.inr (Nat.zero_le _))
    clear bx755
    have h790 := OG.mid h756 md781 (Or.inl (Nat.zero_le _))
    clear h756
    have bx791 := bx761.mid md781 (Or.inr (Nat.zero_le _))
    clear bx761
    have h792 := OG.mid h757 md781 (Or.inl (Nat.zero_le _))
    clear h757
    have b793 := below_mid b758 z759 md781 (Or.inr rfl)
    have z794 := b793.size
    have y795 := md781.size
    clear k763
    clear k764
    clear k765
    have k796 := bx782.cell 0 rfl
    have k797 := bx782.cell 1 rfl
    have k798 := bx782.cell 2 rfl
    clear k766
    clear k767
    clear k768
    have k799 := bx784.cell 0 rfl
    have k800 := bx784.cell 1 rfl
    have k801 := bx784.cell 2 rfl
    clear k769
    clear k770
    clear k771
    have k802 := bx787.cell 0 rfl
    have k803 := bx787.cell 1 rfl
    have k804 := bx787.cell 2 rfl
    clear k772
    clear k773
    clear k774
    have k805 := bx789.cell 0 rfl
    have k806 := bx789.cell 1 rfl
    have k807 := bx789.cell 2 rfl
    clear k775
    clear k776
    clear k777
    have k808 := bx791.cell 0 rfl
    have k809 := bx791.cell 1 rfl
    have k810 := bx791.cell 2 rfl
    go_wp2_with fail
    with_reducible refine (simpl_MeetConjugate r0 s0 _ d0 _ r1 s1 _ d1 _ _ d2 _ _ _ _ h790  hl0 _ _ h792  hl1 _ _ h780 _o2 hl2 rr0 rs0 res0 res1 HRES.out).mono ?_
    rintro e w24 ⟨AA812, cc813, rfl, h814, md811⟩
    have bx816 := bx782.mid md811 (Or.inr (Nat.zero_le _))
    clear bx782
    have h817 := RG.mid h783 md811 (Or.inl (Nat.zero_le _))
    clear h783
    have bx818 := bx784.mid md811 (Or.inr (Nat.zero_le _))
    clear bx784
    have h819 := RG.mid h785 md811 (Or.inl (Nat.zero_le _))
    clear h785
    have h820 := RI.mid h786 md811 (Or.inl (Nat.zero_le _))
    clear h786
    have bx821 := bx787.mid md811 (Or.inr (Nat.zero_le _))
    clear bx787
    have h822 := OG.mid h788 md811 (Or.inl (Nat.zero_le _))
    clear h788
    have bx823 := bx789.mid md811 (Or.inr (Nat.zero_le _))
    clear bx789
    have h824 := OG.mid h790 md811 (Or.inl (Nat.zero_le _))
    clear h790
    have bx825 := bx791.mid md811 (Or.inr (Nat.zero_le _))
    clear bx791
    have h826 := OG.mid h792 md811 (Or.inl (Nat.zero_le _))
    clear h792
    have h827 := OI.mid h780 md811 (Or.inl (Nat.zero_le _))
    clear h780
    have b828 := below_mid b793 z794 md811 (Or.inr rfl)
    have z829 := b828.size
    have y830 := md811.size
    clear k796
    clear k797
    clear k798
    have k831 := bx816.cell 0 rfl
    have k832 := bx816.cell 1 rfl
    have k833 := bx816.cell 2 rfl
    clear k799
    clear k800
    clear k801
    have k834 := bx818.cell 0 rfl
    have k835 := bx818.cell 1 rfl
    have k836 := bx818.cell 2 rfl
    clear k802
    clear k803
    clear k804
    have k837 := bx821.cell 0 rfl
    have k838 := bx821.cell 1 rfl
    have k839 := bx821.cell 2 rfl
    clear k805
    clear k806
    clear k807
    have k840 := bx823.cell 0 rfl
    have k841 := bx823.cell 1 rfl
    have k842 := bx823.cell 2 rfl
    clear k808
    clear k809
    clear k810
    have k843 := bx825.cell 0 rfl
    have k844 := bx825.cell 1 rfl
    have k845 := bx825.cell 2 rfl
    have md846 : Mid 0 0 w24 (w24.alloc (.cells #[.int .i64 rr0, .int .i64 rs0, .slice AA812 res0.length cc813] 29)) := Mid.alloc _ _
    have bx847 := bx816.mid md846 (Or.inr (Nat.zero_le _))
    clear bx816
    have h848 := RG.mid h817 md846 (Or.inl (Nat.zero_le _))
    clear h817
    have bx849 := bx818.mid md846 (Or.inr (Nat.zero_le _))
    clear bx818
    have h850 := RG.mid h819 md846 (Or.inl (Nat.zero_le _))
    clear h819
    have h851 := RI.mid h820 md846 (Or.inl (Nat.zero_le _))
    clear h820
    have bx852 := bx821.mid md846 (Or.inr (Nat.zero_le _))
    clear bx821
    have h853 := OG.mid h822 md846 (Or.inl (Nat.zero_le _))
    clear h822
    have bx854 := bx823.mid md846 (Or.inr (Nat.zero_le _))
    clear bx823
    have h855 := OG.mid h824 md846 (Or.inl (Nat.zero_le _))
    clear h824
    have bx856 := bx825.mid md846 (Or.inr (Nat.zero_le _))
    clear bx825
    have h857 := OG.mid h826 md846 (Or.inl (Nat.zero_le _))
    clear h826
    have h858 := OI.mid h827 md846 (Or.inl (Nat.zero_le _))
    clear h827
    have h859 := OG.mid h814 md846 (Or.inl (Nat.zero_le _))
    clear h814
    have b860 := below_mid b828 z829 md846 (Or.inr rfl)
    have z861 := b860.size
    have y862 := md846.size
    have bx863 := Box.new w24 #[.int .i64 rr0, .int .i64 rs0, .slice AA812 res0.length cc813] 29
    have y864 : w24.heap.size + 1 ≤ (w24.alloc (.cells #[.int .i64 rr0, .int .i64 rs0, .slice AA812 res0.length cc813] 29)).heap.size := (by simp)
    clear k831
    clear k832
    clear k833
    have k865 := bx847.cell 0 rfl
    have k866 := bx847.cell 1 rfl
    have k867 := bx847.cell 2 rfl
    clear k834
    clear k835
    clear k836
    have k868 := bx849.cell 0 rfl
    have k869 := bx849.cell 1 rfl
    have k870 := bx849.cell 2 rfl
    clear k837
    clear k838
    clear k839
    have k871 := bx852.cell 0 rfl
    have k872 := bx852.cell 1 rfl
    have k873 := bx852.cell 2 rfl
    clear k840
    clear k841
    clear k842
    have k874 := bx854.cell 0 rfl
    have k875 := bx854.cell 1 rfl
    have k876 := bx854.cell 2 rfl
    clear k843
    clear k844
    clear k845
    have k877 := bx856.cell 0 rfl
    have k878 := bx856.cell 1 rfl
    have k879 := bx856.cell 2 rfl
    have k880 := bx863.cell 0 rfl
    have k881 := bx863.cell 1 rfl
    have k882 := bx863.cell 2 rfl
    go_wp2_with fail
    with_reducible refine (eqGraph_same _ _ _ _ res0 _ _ _ _ _ _ _ (OG.rg h859) (OG.rg h853) hlr0).mono ?_
    rintro e w25 ⟨rfl, md883⟩
    have bx884 := bx847.mid md883 (Or.inr (Nat.zero_le _))
    clear bx847
    have h885 := RG.mid h848 md883 (Or.inl (Nat.zero_le _))
    clear h848
    have bx886 := bx849.mid md883 (Or.inr (Nat.zero_le _))
    clear bx849
    have h887 := RG.mid h850 md883 (Or.inl (Nat.zero_le _))
    clear h850
    have h888 := RI.mid h851 md883 (Or.inl (Nat.zero_le _))
    clear h851
    have bx889 := bx852.mid md883 (Or.inr (Nat.zero_le _))
    clear bx852
    have h890 := OG.mid h853 md883 (Or.inl (Nat.zero_le _))
    clear h853
    have bx891 := bx854.mid md883 (Or.inr (Nat.zero_le _))
    clear bx854
    have h892 := OG.mid h855 md883 (Or.inl (Nat.zero_le _))
    clear h855
    have bx893 := bx856.mid md883 (Or.inr (Nat.zero_le _))
    clear bx856
    have h894 := OG.mid h857 md883 (Or.inl (Nat.zero_le _))
    clear h857
    have h895 := OI.mid h858 md883 (Or.inl (Nat.zero_le _))
    clear h858
    have bx896 := bx863.mid md883 (Or.inr (Nat.zero_le _))
    clear bx863
    have h897 := OG.mid h859 md883 (Or.inl (Nat.zero_le _))
    clear h859
    have b898 := below_mid b860 z861 md883 (Or.inr rfl)
    have z899 := b898.size
    have y900 := md883.size
    clear k865
    clear k866
    clear k867
    have k901 := bx884.cell 0 rfl
    have k902 := bx884.cell 1 rfl
    have k903 := bx884.cell 2 rfl
    clear k868
    clear k869
    clear k870
    have k904 := bx886.cell 0 rfl
    have k905 := bx886.cell 1 rfl
    have k906 := bx886.cell 2 rfl
    clear k871
    clear k872
    clear k873
    have k907 := bx889.cell 0 rfl
    have k908 := bx889.cell 1 rfl
    have k909 := bx889.cell 2 rfl
    clear k874
    clear k875
    clear k876
    have k910 := bx891.cell 0 rfl
    have k911 := bx891.cell 1 rfl
    have k912 := bx891.cell 2 rfl
    clear k877
    clear k878
    clear k879
    have k913 := bx893.cell 0 rfl
    have k914 := bx893.cell 1 rfl
    have k915 := bx893.cell 2 rfl
    clear k880
    clear k881
    clear k882
    have k916 := bx896.cell 0 rfl
    have k917 := bx896.cell 1 rfl
    have k918 := bx896.cell 2 rfl
    go_wp2_with fail
    have md919 : Mid 0 0 w25 w25.drew := Mid.drew1 _
    have bx920 := bx884.mid md919 (Or.inr (Nat.zero_le _))
    have h921 := RG.mid h885 md919 (Or.inl (Nat.zero_le _))
    have bx922 := bx886.mid md919 (Or.inr (Nat.zero_le _))
    have h923 := RG.mid h887 md919 (Or.inl (Nat.zero_le _))
    have h924 := RI.mid h888 md919 (Or.inl (Nat.zero_le _))
    have bx925 := bx889.mid md919 (Or.inr (Nat.zero_le _))
    have h926 := OG.mid h890 md919 (Or.inl (Nat.zero_le _))
    have bx927 := bx891.mid md919 (Or.inr (Nat.zero_le _))
    have h928 := OG.mid h892 md919 (Or.inl (Nat.zero_le _))
    have bx929 := bx893.mid md919 (Or.inr (Nat.zero_le _))
    have h930 := OG.mid h894 md919 (Or.inl (Nat.zero_le _))
    have h931 := OI.mid h895 md919 (Or.inl (Nat.zero_le _))
    have bx932 := bx896.mid md919 (Or.inr (Nat.zero_le _))
    have h933 := OG.mid h897 md919 (Or.inl (Nat.zero_le _))
    have b934 := below_mid b898 z899 md919 (Or.inr rfl)
    have z935 := b934.size
    have y936 := md919.size
    have k937 := bx920.cell 0 rfl
    have k938 := bx920.cell 1 rfl
    have k939 := bx920.cell 2 rfl
    have k940 := bx922.cell 0 rfl
    have k941 := bx922.cell 1 rfl
    have k942 := bx922.cell 2 rfl
    have k943 := bx925.cell 0 rfl
    have k944 := bx925.cell 1 rfl
    have k945 := bx925.cell 2 rfl
    have k946 := bx927.cell 0 rfl
    have k947 := bx927.cell 1 rfl
    have k948 := bx927.cell 2 rfl
    have k949 := bx929.cell 0 rfl
    have k950 := bx929.cell 1 rfl
    have k951 := bx929.cell 2 rfl
    have k952 := bx932.cell 0 rfl
    have k953 := bx932.cell 1 rfl
    have k954 := bx932.cell 2 rfl
    go_region_held3 (fun w' => w'.cell? ⟨w21.heap.size, 0, none⟩ = some (.int .i64 r0) ∧ w'.cell? ⟨w21.heap.size, 1, none⟩ = some (.int .i64 s0) ∧ w'.cell? ⟨w21.heap.size, 2, none⟩ = some (.slice AA670 d0.length cc671) ∧ w'.cell? ⟨w.heap.size, 0, none⟩ = some (.int .i64 r0) ∧ w'.cell? ⟨w.heap.size, 1, none⟩ = some (.int .i64 s0) ∧ w'.cell? ⟨w.heap.size, 2, none⟩ = some (.slice A0 d0.length c0)) (first | exact ⟨k910, k911, k912, k901, k902, k903⟩ | exact ⟨k946, k947, k948, k937, k938, k939⟩ | exact ⟨k985, k986, k987, k976, k977, k978⟩ | exact ⟨k1022, k1023, k1024, k1013, k1014, k1015⟩) (first | (go_at_call 11; with_reducible refine (toGraph_any r0 s0 _ d0 _ _ _ _ h921 hl0).mono ?_; rintro e w26 ⟨AA955, cc956, rfl, h957, md958⟩; have bx959 := bx920.mid md958 (Or.inr (Nat.zero_le _)); have h960 := RG.mid h921 md958 (Or.inl (Nat.zero_le _)); have bx961 := bx922.mid md958 (Or.inr (Nat.zero_le _)); have h962 := RG.mid h923 md958 (Or.inl (Nat.zero_le _)); have h963 := RI.mid h924 md958 (Or.inl (Nat.zero_le _)); have bx964 := bx925.mid md958 (Or.inr (Nat.zero_le _)); have h965 := OG.mid h926 md958 (Or.inl (Nat.zero_le _)); have bx966 := bx927.mid md958 (Or.inr (Nat.zero_le _)); have h967 := OG.mid h928 md958 (Or.inl (Nat.zero_le _)); have bx968 := bx929.mid md958 (Or.inr (Nat.zero_le _)); have h969 := OG.mid h930 md958 (Or.inl (Nat.zero_le _)); have h970 := OI.mid h931 md958 (Or.inl (Nat.zero_le _)); have bx971 := bx932.mid md958 (Or.inr (Nat.zero_le _)); have h972 := OG.mid h933 md958 (Or.inl (Nat.zero_le _)); have b973 := below_mid b934 z935 md958 (Or.inr rfl); have z974 := b973.size; have y975 := md958.size; have k976 := bx959.cell 0 rfl; have k977 := bx959.cell 1 rfl; have k978 := bx959.cell 2 rfl; have k979 := bx961.cell 0 rfl; have k980 := bx961.cell 1 rfl; have k981 := bx961.cell 2 rfl; have k982 := bx964.cell 0 rfl; have k983 := bx964.cell 1 rfl; have k984 := bx964.cell 2 rfl; have k985 := bx966.cell 0 rfl; have k986 := bx966.cell 1 rfl; have k987 := bx966.cell 2 rfl; have k988 := bx968.cell 0 rfl; have k989 := bx968.cell 1 rfl; have k990 := bx968.cell 2 rfl; have k991 := bx971.cell 0 rfl; have k992 := bx971.cell 1 rfl; have k993 := bx971.cell 2 rfl) | (go_at_call 14; with_reducible refine (eqGraph_same _ _ _ _ d0 _ _ _ _ _ _ _ (OG.rg h967) (OG.rg h957) hl0).mono ?_; rintro e w27 ⟨rfl, md994⟩; have bx995 := bx959.mid md994 (Or.inr (Nat.zero_le _)); have h996 := RG.mid h960 md994 (Or.inl (Nat.zero_le _)); have bx997 := bx961.mid md994 (Or.inr (Nat.zero_le _)); have h998 := RG.mid h962 md994 (Or.inl (Nat.zero_le _)); have h999 := RI.mid h963 md994 (Or.inl (Nat.zero_le _)); have bx1000 := bx964.mid md994 (Or.inr (Nat.zero_le _)); have h1001 := OG.mid h965 md994 (Or.inl (Nat.zero_le _)); have bx1002 := bx966.mid md994 (Or.inr (Nat.zero_le _)); have h1003 := OG.mid h967 md994 (Or.inl (Nat.zero_le _)); have bx1004 := bx968.mid md994 (Or.inr (Nat.zero_le _)); have h1005 := OG.mid h969 md994 (Or.inl (Nat.zero_le _)); have h1006 := OI.mid h970 md994 (Or.inl (Nat.zero_le _)); have bx1007 := bx971.mid md994 (Or.inr (Nat.zero_le _)); have h1008 := OG.mid h972 md994 (Or.inl (Nat.zero_le _)); have h1009 := OG.mid h957 md994 (Or.inl (Nat.zero_le _)); have b1010 := below_mid b973 z974 md994 (Or.inr rfl); have z1011 := b1010.size; have y1012 := md994.size; have k1013 := bx995.cell 0 rfl; have k1014 := bx995.cell 1 rfl; have k1015 := bx995.cell 2 rfl; have k1016 := bx997.cell 0 rfl; have k1017 := bx997.cell 1 rfl; have k1018 := bx997.cell 2 rfl; have k1019 := bx1000.cell 0 rfl; have k1020 := bx1000.cell 1 rfl; have k1021 := bx1000.cell 2 rfl; have k1022 := bx1002.cell 0 rfl; have k1023 := bx1002.cell 1 rfl; have k1024 := bx1002.cell 2 rfl; have k1025 := bx1004.cell 0 rfl; have k1026 := bx1004.cell 1 rfl; have k1027 := bx1004.cell 2 rfl; have k1028 := bx1007.cell 0 rfl; have k1029 := bx1007.cell 1 rfl; have k1030 := bx1007.cell 2 rfl))
    go_wp2_with fail
    have md1031 : Mid 0 0 w27 w27.drew := Mid.drew1 _
    have bx1032 := bx995.mid md1031 (Or.inr (Nat.zero_le _))
    have h1033 := RG.mid h996 md1031 (Or.inl (Nat.zero_le _))
    have bx1034 := bx997.mid md1031 (Or.inr (Nat.zero_le _))
    have h1035 := RG.mid h998 md1031 (Or.inl (Nat.zero_le _))
    have h1036 := RI.mid h999 md1031 (Or.inl (Nat.zero_le _))
    have bx1037 := bx1000.mid md1031 (Or.inr (Nat.zero_le _))
    have h1038 := OG.mid h1001 md1031 (Or.inl (Nat.zero_le _))
    have bx1039 := bx1002.mid md1031 (Or.inr (Nat.zero_le _))
    have h1040 := OG.mid h1003 md1031 (Or.inl (Nat.zero_le _))
    have bx1041 := bx1004.mid md1031 (Or.inr (Nat.zero_le _))
    have h1042 := OG.mid h1005 md1031 (Or.inl (Nat.zero_le _))
    have h1043 := OI.mid h1006 md1031 (Or.inl (Nat.zero_le _))
    have bx1044 := bx1007.mid md1031 (Or.inr (Nat.zero_le _))
    have h1045 := OG.mid h1008 md1031 (Or.inl (Nat.zero_le _))
    have b1046 := below_mid b1010 z1011 md1031 (Or.inr rfl)
    have z1047 := b1046.size
    have y1048 := md1031.size
    have k1049 := bx1032.cell 0 rfl
    have k1050 := bx1032.cell 1 rfl
    have k1051 := bx1032.cell 2 rfl
    have k1052 := bx1034.cell 0 rfl
    have k1053 := bx1034.cell 1 rfl
    have k1054 := bx1034.cell 2 rfl
    have k1055 := bx1037.cell 0 rfl
    have k1056 := bx1037.cell 1 rfl
    have k1057 := bx1037.cell 2 rfl
    have k1058 := bx1039.cell 0 rfl
    have k1059 := bx1039.cell 1 rfl
    have k1060 := bx1039.cell 2 rfl
    have k1061 := bx1041.cell 0 rfl
    have k1062 := bx1041.cell 1 rfl
    have k1063 := bx1041.cell 2 rfl
    have k1064 := bx1044.cell 0 rfl
    have k1065 := bx1044.cell 1 rfl
    have k1066 := bx1044.cell 2 rfl
    go_region_held3 (fun w' => w'.cell? ⟨w22.heap.size, 0, none⟩ = some (.int .i64 r1) ∧ w'.cell? ⟨w22.heap.size, 1, none⟩ = some (.int .i64 s1) ∧ w'.cell? ⟨w22.heap.size, 2, none⟩ = some (.slice AA719 d1.length cc720) ∧ w'.cell? ⟨w.heap.size + 1, 0, none⟩ = some (.int .i64 r1) ∧ w'.cell? ⟨w.heap.size + 1, 1, none⟩ = some (.int .i64 s1) ∧ w'.cell? ⟨w.heap.size + 1, 2, none⟩ = some (.slice A1 d1.length c1)) (first | exact ⟨k1025, k1026, k1027, k1016, k1017, k1018⟩ | exact ⟨k1061, k1062, k1063, k1052, k1053, k1054⟩ | exact ⟨k1100, k1101, k1102, k1091, k1092, k1093⟩ | exact ⟨k1137, k1138, k1139, k1128, k1129, k1130⟩) (first | (go_at_call 11; with_reducible refine (toGraph_any r1 s1 _ d1 _ _ _ _ h1035 hl1).mono ?_; rintro e w28 ⟨AA1067, cc1068, rfl, h1069, md1070⟩; have bx1071 := bx1032.mid md1070 (Or.inr (Nat.zero_le _)); have h1072 := RG.mid h1033 md1070 (Or.inl (Nat.zero_le _)); have bx1073 := bx1034.mid md1070 (Or.inr (Nat.zero_le _)); have h1074 := RG.mid h1035 md1070 (Or.inl (Nat.zero_le _)); have h1075 := RI.mid h1036 md1070 (Or.inl (Nat.zero_le _)); have bx1076 := bx1037.mid md1070 (Or.inr (Nat.zero_le _)); have h1077 := OG.mid h1038 md1070 (Or.inl (Nat.zero_le _)); have bx1078 := bx1039.mid md1070 (Or.inr (Nat.zero_le _)); have h1079 := OG.mid h1040 md1070 (Or.inl (Nat.zero_le _)); have bx1080 := bx1041.mid md1070 (Or.inr (Nat.zero_le _)); have h1081 := OG.mid h1042 md1070 (Or.inl (Nat.zero_le _)); have h1082 := OI.mid h1043 md1070 (Or.inl (Nat.zero_le _)); have bx1083 := bx1044.mid md1070 (Or.inr (Nat.zero_le _)); have h1084 := OG.mid h1045 md1070 (Or.inl (Nat.zero_le _)); have b1085 := below_mid b1046 z1047 md1070 (Or.inr rfl); have z1086 := b1085.size; have y1087 := md1070.size; have k1088 := bx1071.cell 0 rfl; have k1089 := bx1071.cell 1 rfl; have k1090 := bx1071.cell 2 rfl; have k1091 := bx1073.cell 0 rfl; have k1092 := bx1073.cell 1 rfl; have k1093 := bx1073.cell 2 rfl; have k1094 := bx1076.cell 0 rfl; have k1095 := bx1076.cell 1 rfl; have k1096 := bx1076.cell 2 rfl; have k1097 := bx1078.cell 0 rfl; have k1098 := bx1078.cell 1 rfl; have k1099 := bx1078.cell 2 rfl; have k1100 := bx1080.cell 0 rfl; have k1101 := bx1080.cell 1 rfl; have k1102 := bx1080.cell 2 rfl; have k1103 := bx1083.cell 0 rfl; have k1104 := bx1083.cell 1 rfl; have k1105 := bx1083.cell 2 rfl) | (go_at_call 14; with_reducible refine (eqGraph_same _ _ _ _ d1 _ _ _ _ _ _ _ (OG.rg h1081) (OG.rg h1069) hl1).mono ?_; rintro e w29 ⟨rfl, md1106⟩; have bx1107 := bx1071.mid md1106 (Or.inr (Nat.zero_le _)); have h1108 := RG.mid h1072 md1106 (Or.inl (Nat.zero_le _)); have bx1109 := bx1073.mid md1106 (Or.inr (Nat.zero_le _)); have h1110 := RG.mid h1074 md1106 (Or.inl (Nat.zero_le _)); have h1111 := RI.mid h1075 md1106 (Or.inl (Nat.zero_le _)); have bx1112 := bx1076.mid md1106 (Or.inr (Nat.zero_le _)); have h1113 := OG.mid h1077 md1106 (Or.inl (Nat.zero_le _)); have bx1114 := bx1078.mid md1106 (Or.inr (Nat.zero_le _)); have h1115 := OG.mid h1079 md1106 (Or.inl (Nat.zero_le _)); have bx1116 := bx1080.mid md1106 (Or.inr (Nat.zero_le _)); have h1117 := OG.mid h1081 md1106 (Or.inl (Nat.zero_le _)); have h1118 := OI.mid h1082 md1106 (Or.inl (Nat.zero_le _)); have bx1119 := bx1083.mid md1106 (Or.inr (Nat.zero_le _)); have h1120 := OG.mid h1084 md1106 (Or.inl (Nat.zero_le _)); have h1121 := OG.mid h1069 md1106 (Or.inl (Nat.zero_le _)); have b1122 := below_mid b1085 z1086 md1106 (Or.inr rfl); have z1123 := b1122.size; have y1124 := md1106.size; have k1125 := bx1107.cell 0 rfl; have k1126 := bx1107.cell 1 rfl; have k1127 := bx1107.cell 2 rfl; have k1128 := bx1109.cell 0 rfl; have k1129 := bx1109.cell 1 rfl; have k1130 := bx1109.cell 2 rfl; have k1131 := bx1112.cell 0 rfl; have k1132 := bx1112.cell 1 rfl; have k1133 := bx1112.cell 2 rfl; have k1134 := bx1114.cell 0 rfl; have k1135 := bx1114.cell 1 rfl; have k1136 := bx1114.cell 2 rfl; have k1137 := bx1116.cell 0 rfl; have k1138 := bx1116.cell 1 rfl; have k1139 := bx1116.cell 2 rfl; have k1140 := bx1119.cell 0 rfl; have k1141 := bx1119.cell 1 rfl; have k1142 := bx1119.cell 2 rfl))
    go_wp2_with fail
    with_reducible refine (toI _ d2 _ _ _ _ h1111 hl2).mono ?_
    rintro e w30 ⟨AA1143, cc1144, rfl, h1145, md1146⟩
    have bx1147 := bx1107.mid md1146 (Or.inr (Nat.zero_le _))
    clear bx1107
    have h1148 := RG.mid h1108 md1146 (Or.inl (Nat.zero_le _))
    clear h1108
    have bx1149 := bx1109.mid md1146 (Or.inr (Nat.zero_le _))
    clear bx1109
    have h1150 := RG.mid h1110 md1146 (Or.inl (Nat.zero_le _))
    clear h1110
    have h1151 := RI.mid h1111 md1146 (Or.inl (Nat.zero_le _))
    clear h1111
    have bx1152 := bx1112.mid md1146 (Or.inr (Nat.zero_le _))
    clear bx1112
    have h1153 := OG.mid h1113 md1146 (Or.inl (Nat.zero_le _))
    clear h1113
    have bx1154 := bx1114.mid md1146 (Or.inr (Nat.zero_le _))
    clear bx1114
    have h1155 := OG.mid h1115 md1146 (Or.inl (Nat.zero_le _))
    clear h1115
    have bx1156 := bx1116.mid md1146 (Or.inr (Nat.zero_le _))
    clear bx1116
    have h1157 := OG.mid h1117 md1146 (Or.inl (Nat.zero_le _))
    clear h1117
    have h1158 := OI.mid h1118 md1146 (Or.inl (Nat.zero_le _))
    clear h1118
    have bx1159 := bx1119.mid md1146 (Or.inr (Nat.zero_le _))
    clear bx1119
    have h1160 := OG.mid h1120 md1146 (Or.inl (Nat.zero_le _))
    clear h1120
    have b1161 := below_mid b1122 z1123 md1146 (Or.inr rfl)
    have z1162 := b1161.size
    have y1163 := md1146.size
    clear k1125
    clear k1126
    clear k1127
    have k1164 := bx1147.cell 0 rfl
    have k1165 := bx1147.cell 1 rfl
    have k1166 := bx1147.cell 2 rfl
    clear k1128
    clear k1129
    clear k1130
    have k1167 := bx1149.cell 0 rfl
    have k1168 := bx1149.cell 1 rfl
    have k1169 := bx1149.cell 2 rfl
    clear k1131
    clear k1132
    clear k1133
    have k1170 := bx1152.cell 0 rfl
    have k1171 := bx1152.cell 1 rfl
    have k1172 := bx1152.cell 2 rfl
    clear k1134
    clear k1135
    clear k1136
    have k1173 := bx1154.cell 0 rfl
    have k1174 := bx1154.cell 1 rfl
    have k1175 := bx1154.cell 2 rfl
    clear k1137
    clear k1138
    clear k1139
    have k1176 := bx1156.cell 0 rfl
    have k1177 := bx1156.cell 1 rfl
    have k1178 := bx1156.cell 2 rfl
    clear k1140
    clear k1141
    clear k1142
    have k1179 := bx1159.cell 0 rfl
    have k1180 := bx1159.cell 1 rfl
    have k1181 := bx1159.cell 2 rfl
    go_wp2_with fail
    with_reducible refine (eqI _ _ d2 _ _ _ _ _ _ _ (OI.ri h1158) (OI.ri h1145) hl2).mono ?_
    rintro e w31 ⟨rfl, md1182⟩
    have bx1183 := bx1147.mid md1182 (Or.inr (Nat.zero_le _))
    clear bx1147
    have h1184 := RG.mid h1148 md1182 (Or.inl (Nat.zero_le _))
    clear h1148
    have bx1185 := bx1149.mid md1182 (Or.inr (Nat.zero_le _))
    clear bx1149
    have h1186 := RG.mid h1150 md1182 (Or.inl (Nat.zero_le _))
    clear h1150
    have h1187 := RI.mid h1151 md1182 (Or.inl (Nat.zero_le _))
    clear h1151
    have bx1188 := bx1152.mid md1182 (Or.inr (Nat.zero_le _))
    clear bx1152
    have h1189 := OG.mid h1153 md1182 (Or.inl (Nat.zero_le _))
    clear h1153
    have bx1190 := bx1154.mid md1182 (Or.inr (Nat.zero_le _))
    clear bx1154
    have h1191 := OG.mid h1155 md1182 (Or.inl (Nat.zero_le _))
    clear h1155
    have bx1192 := bx1156.mid md1182 (Or.inr (Nat.zero_le _))
    clear bx1156
    have h1193 := OG.mid h1157 md1182 (Or.inl (Nat.zero_le _))
    clear h1157
    have h1194 := OI.mid h1158 md1182 (Or.inl (Nat.zero_le _))
    clear h1158
    have bx1195 := bx1159.mid md1182 (Or.inr (Nat.zero_le _))
    clear bx1159
    have h1196 := OG.mid h1160 md1182 (Or.inl (Nat.zero_le _))
    clear h1160
    have h1197 := OI.mid h1145 md1182 (Or.inl (Nat.zero_le _))
    clear h1145
    have b1198 := below_mid b1161 z1162 md1182 (Or.inr rfl)
    have z1199 := b1198.size
    have y1200 := md1182.size
    clear k1164
    clear k1165
    clear k1166
    have k1201 := bx1183.cell 0 rfl
    have k1202 := bx1183.cell 1 rfl
    have k1203 := bx1183.cell 2 rfl
    clear k1167
    clear k1168
    clear k1169
    have k1204 := bx1185.cell 0 rfl
    have k1205 := bx1185.cell 1 rfl
    have k1206 := bx1185.cell 2 rfl
    clear k1170
    clear k1171
    clear k1172
    have k1207 := bx1188.cell 0 rfl
    have k1208 := bx1188.cell 1 rfl
    have k1209 := bx1188.cell 2 rfl
    clear k1173
    clear k1174
    clear k1175
    have k1210 := bx1190.cell 0 rfl
    have k1211 := bx1190.cell 1 rfl
    have k1212 := bx1190.cell 2 rfl
    clear k1176
    clear k1177
    clear k1178
    have k1213 := bx1192.cell 0 rfl
    have k1214 := bx1192.cell 1 rfl
    have k1215 := bx1192.cell 2 rfl
    clear k1179
    clear k1180
    clear k1181
    have k1216 := bx1195.cell 0 rfl
    have k1217 := bx1195.cell 1 rfl
    have k1218 := bx1195.cell 2 rfl
    go_wp2_with fail
    with_reducible refine (markGraph_any _ _ _ d0 _ 1 _ _ _ h1191 (by omega) (by omega) hl0).mono ?_
    rintro e w32 ⟨rfl, h1219, md1220⟩
    have bx1221 := bx1183.mid md1220 (by omega)
    clear bx1183
    have h1222 := RG.mid h1184 md1220 (by omega)
    clear h1184
    have bx1223 := bx1185.mid md1220 (by omega)
    clear bx1185
    have h1224 := RG.mid h1186 md1220 (by omega)
    clear h1186
    have h1225 := RI.mid h1187 md1220 (by omega)
    clear h1187
    have bx1226 := bx1188.mid md1220 (by omega)
    clear bx1188
    have h1227 := OG.mid h1189 md1220 (by omega)
    clear h1189
    have bx1228 := bx1190.mid md1220 (by omega)
    clear bx1190
    have bx1229 := bx1192.mid md1220 (by omega)
    clear bx1192
    have h1230 := OG.mid h1193 md1220 (by omega)
    clear h1193
    have h1231 := OI.mid h1194 md1220 (by omega)
    clear h1194
    have bx1232 := bx1195.mid md1220 (by omega)
    clear bx1195
    have h1233 := OG.mid h1196 md1220 (by omega)
    clear h1196
    have b1234 := below_mid b1198 z1199 md1220 (by omega)
    have z1235 := b1234.size
    have y1236 := md1220.size
    clear h1191
    clear k1201
    clear k1202
    clear k1203
    have k1237 := bx1221.cell 0 rfl
    have k1238 := bx1221.cell 1 rfl
    have k1239 := bx1221.cell 2 rfl
    clear k1204
    clear k1205
    clear k1206
    have k1240 := bx1223.cell 0 rfl
    have k1241 := bx1223.cell 1 rfl
    have k1242 := bx1223.cell 2 rfl
    clear k1207
    clear k1208
    clear k1209
    have k1243 := bx1226.cell 0 rfl
    have k1244 := bx1226.cell 1 rfl
    have k1245 := bx1226.cell 2 rfl
    clear k1210
    clear k1211
    clear k1212
    have k1246 := bx1228.cell 0 rfl
    have k1247 := bx1228.cell 1 rfl
    have k1248 := bx1228.cell 2 rfl
    clear k1213
    clear k1214
    clear k1215
    have k1249 := bx1229.cell 0 rfl
    have k1250 := bx1229.cell 1 rfl
    have k1251 := bx1229.cell 2 rfl
    clear k1216
    clear k1217
    clear k1218
    have k1252 := bx1232.cell 0 rfl
    have k1253 := bx1232.cell 1 rfl
    have k1254 := bx1232.cell 2 rfl
    go_wp2_with fail
    with_reducible refine (markGraph_any _ _ _ d1 _ (1 + 3 * (d0.length : Int)) _ _ _ h1230 (by omega) (by omega) hl1).mono ?_
    rintro e w33 ⟨rfl, h1255, md1256⟩
    have bx1257 := bx1221.mid md1256 (by omega)
    clear bx1221
    have h1258 := RG.mid h1222 md1256 (by omega)
    clear h1222
    have bx1259 := bx1223.mid md1256 (by omega)
    clear bx1223
    have h1260 := RG.mid h1224 md1256 (by omega)
    clear h1224
    have h1261 := RI.mid h1225 md1256 (by omega)
    clear h1225
    have bx1262 := bx1226.mid md1256 (by omega)
    clear bx1226
    have h1263 := OG.mid h1227 md1256 (by omega)
    clear h1227
    have bx1264 := bx1228.mid md1256 (by omega)
    clear bx1228
    have h1265 := OG.mid h1219 md1256 (by omega)
    clear h1219
    have bx1266 := bx1229.mid md1256 (by omega)
    clear bx1229
    have h1267 := OI.mid h1231 md1256 (by omega)
    clear h1231
    have bx1268 := bx1232.mid md1256 (by omega)
    clear bx1232
    have h1269 := OG.mid h1233 md1256 (by omega)
    clear h1233
    have b1270 := below_mid b1234 z1235 md1256 (by omega)
    have z1271 := b1270.size
    have y1272 := md1256.size
    clear h1230
    clear k1237
    clear k1238
    clear k1239
    have k1273 := bx1257.cell 0 rfl
    have k1274 := bx1257.cell 1 rfl
    have k1275 := bx1257.cell 2 rfl
    clear k1240
    clear k1241
    clear k1242
    have k1276 := bx1259.cell 0 rfl
    have k1277 := bx1259.cell 1 rfl
    have k1278 := bx1259.cell 2 rfl
    clear k1243
    clear k1244
    clear k1245
    have k1279 := bx1262.cell 0 rfl
    have k1280 := bx1262.cell 1 rfl
    have k1281 := bx1262.cell 2 rfl
    clear k1246
    clear k1247
    clear k1248
    have k1282 := bx1264.cell 0 rfl
    have k1283 := bx1264.cell 1 rfl
    have k1284 := bx1264.cell 2 rfl
    clear k1249
    clear k1250
    clear k1251
    have k1285 := bx1266.cell 0 rfl
    have k1286 := bx1266.cell 1 rfl
    have k1287 := bx1266.cell 2 rfl
    clear k1252
    clear k1253
    clear k1254
    have k1288 := bx1268.cell 0 rfl
    have k1289 := bx1268.cell 1 rfl
    have k1290 := bx1268.cell 2 rfl
    go_wp2_with fail
    with_reducible refine (markI _ d2 _ ((1 + 3 * (d0.length : Int)) + 3 * (d1.length : Int)) _ _ _ h1267 (by omega) (by omega) hl2).mono ?_
    rintro e w34 ⟨rfl, h1291, md1292⟩
    have bx1293 := bx1257.mid md1292 (by omega)
    clear bx1257
    have h1294 := RG.mid h1258 md1292 (by omega)
    clear h1258
    have bx1295 := bx1259.mid md1292 (by omega)
    clear bx1259
    have h1296 := RG.mid h1260 md1292 (by omega)
    clear h1260
    have h1297 := RI.mid h1261 md1292 (by omega)
    clear h1261
    have bx1298 := bx1262.mid md1292 (by omega)
    clear bx1262
    have h1299 := OG.mid h1263 md1292 (by omega)
    clear h1263
    have bx1300 := bx1264.mid md1292 (by omega)
    clear bx1264
    have h1301 := OG.mid h1265 md1292 (by omega)
    clear h1265
    have bx1302 := bx1266.mid md1292 (by omega)
    clear bx1266
    have h1303 := OG.mid h1255 md1292 (by omega)
    clear h1255
    have bx1304 := bx1268.mid md1292 (by omega)
    clear bx1268
    have h1305 := OG.mid h1269 md1292 (by omega)
    clear h1269
    have b1306 := below_mid b1270 z1271 md1292 (by omega)
    have z1307 := b1306.size
    have y1308 := md1292.size
    clear h1267
    clear k1273
    clear k1274
    clear k1275
    have k1309 := bx1293.cell 0 rfl
    have k1310 := bx1293.cell 1 rfl
    have k1311 := bx1293.cell 2 rfl
    clear k1276
    clear k1277
    clear k1278
    have k1312 := bx1295.cell 0 rfl
    have k1313 := bx1295.cell 1 rfl
    have k1314 := bx1295.cell 2 rfl
    clear k1279
    clear k1280
    clear k1281
    have k1315 := bx1298.cell 0 rfl
    have k1316 := bx1298.cell 1 rfl
    have k1317 := bx1298.cell 2 rfl
    clear k1282
    clear k1283
    clear k1284
    have k1318 := bx1300.cell 0 rfl
    have k1319 := bx1300.cell 1 rfl
    have k1320 := bx1300.cell 2 rfl
    clear k1285
    clear k1286
    clear k1287
    have k1321 := bx1302.cell 0 rfl
    have k1322 := bx1302.cell 1 rfl
    have k1323 := bx1302.cell 2 rfl
    clear k1288
    clear k1289
    clear k1290
    have k1324 := bx1304.cell 0 rfl
    have k1325 := bx1304.cell 1 rfl
    have k1326 := bx1304.cell 2 rfl
    go_wp2_with fail
    with_reducible refine (eqGraph_same _ _ _ _ res0 _ _ _ _ _ _ _ (OG.rg h1305) (OG.rg h1299) hlr0).mono ?_
    rintro e w35 ⟨rfl, md1327⟩
    have bx1328 := bx1293.mid md1327 (Or.inr (Nat.zero_le _))
    clear bx1293
    have h1329 := RG.mid h1294 md1327 (Or.inl (Nat.zero_le _))
    clear h1294
    have bx1330 := bx1295.mid md1327 (Or.inr (Nat.zero_le _))
    clear bx1295
    have h1331 := RG.mid h1296 md1327 (Or.inl (Nat.zero_le _))
    clear h1296
    have h1332 := RI.mid h1297 md1327 (Or.inl (Nat.zero_le _))
    clear h1297
    have bx1333 := bx1298.mid md1327 (Or.inr (Nat.zero_le _))
    clear bx1298
    have h1334 := OG.mid h1299 md1327 (Or.inl (Nat.zero_le _))
    clear h1299
    have bx1335 := bx1304.mid md1327 (Or.inr (Nat.zero_le _))
    clear bx1304
    have h1336 := OG.mid h1305 md1327 (Or.inl (Nat.zero_le _))
    clear h1305
    have b1337 := below_mid b1306 z1307 md1327 (Or.inr rfl)
    have z1338 := b1337.size
    have y1339 := md1327.size
    clear k1309
    clear k1310
    clear k1311
    have k1340 := bx1328.cell 0 rfl
    have k1341 := bx1328.cell 1 rfl
    have k1342 := bx1328.cell 2 rfl
    clear k1312
    clear k1313
    clear k1314
    have k1343 := bx1330.cell 0 rfl
    have k1344 := bx1330.cell 1 rfl
    have k1345 := bx1330.cell 2 rfl
    clear k1315
    clear k1316
    clear k1317
    have k1346 := bx1333.cell 0 rfl
    have k1347 := bx1333.cell 1 rfl
    have k1348 := bx1333.cell 2 rfl
    clear k1324
    clear k1325
    clear k1326
    have k1349 := bx1335.cell 0 rfl
    have k1350 := bx1335.cell 1 rfl
    have k1351 := bx1335.cell 2 rfl
    go_wp2_with fail
    with_reducible refine (markGraph_any _ _ _ res0 _ 1 _ _ _ h1336 (by omega) (by omega) hlr0).mono ?_
    rintro e w36 ⟨rfl, h1352, md1353⟩
    have bx1354 := bx1328.mid md1353 (by omega)
    clear bx1328
    have h1355 := RG.mid h1329 md1353 (by omega)
    clear h1329
    have bx1356 := bx1330.mid md1353 (by omega)
    clear bx1330
    have h1357 := RG.mid h1331 md1353 (by omega)
    clear h1331
    have h1358 := RI.mid h1332 md1353 (by omega)
    clear h1332
    have bx1359 := bx1333.mid md1353 (by omega)
    clear bx1333
    have h1360 := OG.mid h1334 md1353 (by omega)
    clear h1334
    have bx1361 := bx1335.mid md1353 (by omega)
    clear bx1335
    have b1362 := below_mid b1337 z1338 md1353 (by omega)
    have z1363 := b1362.size
    have y1364 := md1353.size
    clear h1336
    clear k1340
    clear k1341
    clear k1342
    have k1365 := bx1354.cell 0 rfl
    have k1366 := bx1354.cell 1 rfl
    have k1367 := bx1354.cell 2 rfl
    clear k1343
    clear k1344
    clear k1345
    have k1368 := bx1356.cell 0 rfl
    have k1369 := bx1356.cell 1 rfl
    have k1370 := bx1356.cell 2 rfl
    clear k1346
    clear k1347
    clear k1348
    have k1371 := bx1359.cell 0 rfl
    have k1372 := bx1359.cell 1 rfl
    have k1373 := bx1359.cell 2 rfl
    clear k1349
    clear k1350
    clear k1351
    have k1374 := bx1361.cell 0 rfl
    have k1375 := bx1361.cell 1 rfl
    have k1376 := bx1361.cell 2 rfl
    go_wp2_with fail
    with_reducible refine (heldGraph_any _ _ _ res0.length _ 1 _ _ _ h1352 (by omega) (by omega) hlr0).mono ?_
    rintro e w37 ⟨rfl, md1377⟩
    have bx1378 := bx1354.mid md1377 (Or.inr (Nat.zero_le _))
    clear bx1354
    have h1379 := RG.mid h1355 md1377 (Or.inl (Nat.zero_le _))
    clear h1355
    have bx1380 := bx1356.mid md1377 (Or.inr (Nat.zero_le _))
    clear bx1356
    have h1381 := RG.mid h1357 md1377 (Or.inl (Nat.zero_le _))
    clear h1357
    have h1382 := RI.mid h1358 md1377 (Or.inl (Nat.zero_le _))
    clear h1358
    have bx1383 := bx1359.mid md1377 (Or.inr (Nat.zero_le _))
    clear bx1359
    have h1384 := OG.mid h1360 md1377 (Or.inl (Nat.zero_le _))
    clear h1360
    have bx1385 := bx1361.mid md1377 (Or.inr (Nat.zero_le _))
    clear bx1361
    have h1386 := OG.mid h1352 md1377 (Or.inl (Nat.zero_le _))
    clear h1352
    have b1387 := below_mid b1362 z1363 md1377 (Or.inr rfl)
    have z1388 := b1387.size
    have y1389 := md1377.size
    clear k1365
    clear k1366
    clear k1367
    have k1390 := bx1378.cell 0 rfl
    have k1391 := bx1378.cell 1 rfl
    have k1392 := bx1378.cell 2 rfl
    clear k1368
    clear k1369
    clear k1370
    have k1393 := bx1380.cell 0 rfl
    have k1394 := bx1380.cell 1 rfl
    have k1395 := bx1380.cell 2 rfl
    clear k1371
    clear k1372
    clear k1373
    have k1396 := bx1383.cell 0 rfl
    have k1397 := bx1383.cell 1 rfl
    have k1398 := bx1383.cell 2 rfl
    clear k1374
    clear k1375
    clear k1376
    have k1399 := bx1385.cell 0 rfl
    have k1400 := bx1385.cell 1 rfl
    have k1401 := bx1385.cell 2 rfl
    go_upto_region 37 with fail
    go_cut [18,19] (fun s18 s19 wx => ∃ (g : Nat) (A0' : Option Addr) (c0' : Nat), s18 = .pointer (some ⟨g, 0, none⟩) ∧ s19 = .bool res1 ∧ Box wx g [.int .i64 rr0, .int .i64 rs0, .slice A0' res0.length c0'] ∧ OG wx w37.heap.size (wx.heap.size) A0' c0' res0 ∧ Mid 0 0 w37 wx ∧ w37.heap.size ≤ g)
    case first =>
      have md1402 : Mid 0 0 w37 w37.drew := Mid.drew1 _
      have bx1403 := bx1378.mid md1402 (Or.inr (Nat.zero_le _))
      have h1404 := RG.mid h1379 md1402 (Or.inl (Nat.zero_le _))
      have bx1405 := bx1380.mid md1402 (Or.inr (Nat.zero_le _))
      have h1406 := RG.mid h1381 md1402 (Or.inl (Nat.zero_le _))
      have h1407 := RI.mid h1382 md1402 (Or.inl (Nat.zero_le _))
      have bx1408 := bx1383.mid md1402 (Or.inr (Nat.zero_le _))
      have h1409 := OG.mid h1384 md1402 (Or.inl (Nat.zero_le _))
      have bx1410 := bx1385.mid md1402 (Or.inr (Nat.zero_le _))
      have h1411 := OG.mid h1386 md1402 (Or.inl (Nat.zero_le _))
      have b1412 := below_mid b1387 z1388 md1402 (Or.inr rfl)
      have z1413 := b1412.size
      have y1414 := md1402.size
      have k1415 := bx1403.cell 0 rfl
      have k1416 := bx1403.cell 1 rfl
      have k1417 := bx1403.cell 2 rfl
      have k1418 := bx1405.cell 0 rfl
      have k1419 := bx1405.cell 1 rfl
      have k1420 := bx1405.cell 2 rfl
      have k1421 := bx1408.cell 0 rfl
      have k1422 := bx1408.cell 1 rfl
      have k1423 := bx1408.cell 2 rfl
      have k1424 := bx1410.cell 0 rfl
      have k1425 := bx1410.cell 1 rfl
      have k1426 := bx1410.cell 2 rfl
      have y1427 : w37.drew.heap.size = w37.heap.size := rfl
      go_region_held3 (fun w' => w'.cell? ⟨w.heap.size, 0, none⟩ = some (.int .i64 r0) ∧ w'.cell? ⟨w.heap.size, 1, none⟩ = some (.int .i64 s0) ∧ w'.cell? ⟨w.heap.size, 2, none⟩ = some (.slice A0 d0.length c0) ∧ w'.cell? ⟨w.heap.size + 1, 0, none⟩ = some (.int .i64 r1) ∧ w'.cell? ⟨w.heap.size + 1, 1, none⟩ = some (.int .i64 s1) ∧ w'.cell? ⟨w.heap.size + 1, 2, none⟩ = some (.slice A1 d1.length c1)) (first | exact ⟨k1390, k1391, k1392, k1393, k1394, k1395⟩ | exact ⟨k1415, k1416, k1417, k1418, k1419, k1420⟩ | exact ⟨k1445, k1446, k1447, k1448, k1449, k1450⟩ | exact ⟨k1475, k1476, k1477, k1478, k1479, k1480⟩ | exact ⟨k1506, k1507, k1508, k1509, k1510, k1511⟩ | exact ⟨k1539, k1540, k1541, k1542, k1543, k1544⟩ | exact ⟨(bx1523.mid (Mid.alloc _ _) (Or.inr (Nat.zero_le _))).cell 0 rfl, (bx1523.mid (Mid.alloc _ _) (Or.inr (Nat.zero_le _))).cell 1 rfl, (bx1523.mid (Mid.alloc _ _) (Or.inr (Nat.zero_le _))).cell 2 rfl, (bx1525.mid (Mid.alloc _ _) (Or.inr (Nat.zero_le _))).cell 0 rfl, (bx1525.mid (Mid.alloc _ _) (Or.inr (Nat.zero_le _))).cell 1 rfl, (bx1525.mid (Mid.alloc _ _) (Or.inr (Nat.zero_le _))).cell 2 rfl⟩ | exact ⟨(bx1491.mid (Mid.alloc _ _) (Or.inr (Nat.zero_le _))).cell 0 rfl, (bx1491.mid (Mid.alloc _ _) (Or.inr (Nat.zero_le _))).cell 1 rfl, (bx1491.mid (Mid.alloc _ _) (Or.inr (Nat.zero_le _))).cell 2 rfl, (bx1493.mid (Mid.alloc _ _) (Or.inr (Nat.zero_le _))).cell 0 rfl, (bx1493.mid (Mid.alloc _ _) (Or.inr (Nat.zero_le _))).cell 1 rfl, (bx1493.mid (Mid.alloc _ _) (Or.inr (Nat.zero_le _))).cell 2 rfl⟩ | exact ⟨k1608, k1609, k1610, k1611, k1612, k1613⟩ | exact ⟨(((bx1591.mid (Mid.setCell w42 (lo := w40.heap.size) (hi := w40.heap.size + 1) (p := ⟨w40.heap.size, 0, none⟩) (.int .i64 rr0) (by simp) (by simp)) (by omega)).mid (Mid.setCell (w42.setCell ⟨w40.heap.size, 0, none⟩ (.int .i64 rr0)) (lo := w40.heap.size) (hi := w40.heap.size + 1) (p := ⟨w40.heap.size, 1, none⟩) (.int .i64 rs0) (by simp) (by simp)) (by omega)).mid (Mid.setCell ((w42.setCell ⟨w40.heap.size, 0, none⟩ (.int .i64 rr0)).setCell ⟨w40.heap.size, 1, none⟩ (.int .i64 rs0)) (lo := w40.heap.size) (hi := w40.heap.size + 1) (p := ⟨w40.heap.size, 2, none⟩) (.slice AA1587 res0.length cc1588) (by simp) (by simp)) (by omega)).cell 0 rfl, (((bx1591.mid (Mid.setCell w42 (lo := w40.heap.size) (hi := w40.heap.size + 1) (p := ⟨w40.heap.size, 0, none⟩) (.int .i64 rr0) (by simp) (by simp)) (by omega)).mid (Mid.setCell (w42.setCell ⟨w40.heap.size, 0, none⟩ (.int .i64 rr0)) (lo := w40.heap.size) (hi := w40.heap.size + 1) (p := ⟨w40.heap.size, 1, none⟩) (.int .i64 rs0) (by simp) (by simp)) (by omega)).mid (Mid.setCell ((w42.setCell ⟨w40.heap.size, 0, none⟩ (.int .i64 rr0)).setCell ⟨w40.heap.size, 1, none⟩ (.int .i64 rs0)) (lo := w40.heap.size) (hi := w40.heap.size + 1) (p := ⟨w40.heap.size, 2, none⟩) (.slice AA1587 res0.length cc1588) (by simp) (by simp)) (by omega)).cell 1 rfl, (((bx1591.mid (Mid.setCell w42 (lo := w40.heap.size) (hi := w40.heap.size + 1) (p := ⟨w40.heap.size, 0, none⟩) (.int .i64 rr0) (by simp) (by simp)) (by omega)).mid (Mid.setCell (w42.setCell ⟨w40.heap.size, 0, none⟩ (.int .i64 rr0)) (lo := w40.heap.size) (hi := w40.heap.size + 1) (p := ⟨w40.heap.size, 1, none⟩) (.int .i64 rs0) (by simp) (by simp)) (by omega)).mid (Mid.setCell ((w42.setCell ⟨w40.heap.size, 0, none⟩ (.int .i64 rr0)).setCell ⟨w40.heap.size, 1, none⟩ (.int .i64 rs0)) (lo := w40.heap.size) (hi := w40.heap.size + 1) (p := ⟨w40.heap.size, 2, none⟩) (.slice AA1587 res0.length cc1588) (by simp) (by simp)) (by omega)).cell 2 rfl, (((bx1593.mid (Mid.setCell w42 (lo := w40.heap.size) (hi := w40.heap.size + 1) (p := ⟨w40.heap.size, 0, none⟩) (.int .i64 rr0) (by simp) (by simp)) (by omega)).mid (Mid.setCell (w42.setCell ⟨w40.heap.size, 0, none⟩ (.int .i64 rr0)) (lo := w40.heap.size) (hi := w40.heap.size + 1) (p := ⟨w40.heap.size, 1, none⟩) (.int .i64 rs0) (by simp) (by simp)) (by omega)).mid (Mid.setCell ((w42.setCell ⟨w40.heap.size, 0, none⟩ (.int .i64 rr0)).setCell ⟨w40.heap.size, 1, none⟩ (.int .i64 rs0)) (lo := w40.heap.size) (hi := w40.heap.size + 1) (p := ⟨w40.heap.size, 2, none⟩) (.slice AA1587 res0.length cc1588) (by simp) (by simp)) (by omega)).cell 0 rfl, (((bx1593.mid (Mid.setCell w42 (lo := w40.heap.size) (hi := w40.heap.size + 1) (p := ⟨w40.heap.size, 0, none⟩) (.int .i64 rr0) (by simp) (by simp)) (by omega)).mid (Mid.setCell (w42.setCell ⟨w40.heap.size, 0, none⟩ (.int .i64 rr0)) (lo := w40.heap.size) (hi := w40.heap.size + 1) (p := ⟨w40.heap.size, 1, none⟩) (.int .i64 rs0) (by simp) (by simp)) (by omega)).mid (Mid.setCell ((w42.setCell ⟨w40.heap.size, 0, none⟩ (.int .i64 rr0)).setCell ⟨w40.heap.size, 1, none⟩ (.int .i64 rs0)) (lo := w40.heap.size) (hi := w40.heap.size + 1) (p := ⟨w40.heap.size, 2, none⟩) (.slice AA1587 res0.length cc1588) (by simp) (by simp)) (by omega)).cell 1 rfl, (((bx1593.mid (Mid.setCell w42 (lo := w40.heap.size) (hi := w40.heap.size + 1) (p := ⟨w40.heap.size, 0, none⟩) (.int .i64 rr0) (by simp) (by simp)) (by omega)).mid (Mid.setCell (w42.setCell ⟨w40.heap.size, 0, none⟩ (.int .i64 rr0)) (lo := w40.heap.size) (hi := w40.heap.size + 1) (p := ⟨w40.heap.size, 1, none⟩) (.int .i64 rs0) (by simp) (by simp)) (by omega)).mid (Mid.setCell ((w42.setCell ⟨w40.heap.size, 0, none⟩ (.int .i64 rr0)).setCell ⟨w40.heap.size, 1, none⟩ (.int .i64 rs0)) (lo := w40.heap.size) (hi := w40.heap.size + 1) (p := ⟨w40.heap.size, 2, none⟩) (.slice AA1587 res0.length cc1588) (by simp) (by simp)) (by omega)).cell 2 rfl⟩ | exact ⟨(bx1461.mid (Mid.alloc _ _) (Or.inr (Nat.zero_le _))).cell 0 rfl, (bx1461.mid (Mid.alloc _ _) (Or.inr (Nat.zero_le _))).cell 1 rfl, (bx1461.mid (Mid.alloc _ _) (Or.inr (Nat.zero_le _))).cell 2 rfl, (bx1463.mid (Mid.alloc _ _) (Or.inr (Nat.zero_le _))).cell 0 rfl, (bx1463.mid (Mid.alloc _ _) (Or.inr (Nat.zero_le _))).cell 1 rfl, (bx1463.mid (Mid.alloc _ _) (Or.inr (Nat.zero_le _))).cell 2 rfl⟩ | exact ⟨k1678, k1679, k1680, k1681, k1682, k1683⟩ | exact ⟨k1716, k1717, k1718, k1719, k1720, k1721⟩ | exact ⟨(((bx1699.mid (Mid.setCell w44 (lo := w39.heap.size) (hi := w39.heap.size + 1) (p := ⟨w39.heap.size, 0, none⟩) (.int .i64 rr0) (by simp) (by simp)) (by omega)).mid (Mid.setCell (w44.setCell ⟨w39.heap.size, 0, none⟩ (.int .i64 rr0)) (lo := w39.heap.size) (hi := w39.heap.size + 1) (p := ⟨w39.heap.size, 1, none⟩) (.int .i64 rs0) (by simp) (by simp)) (by omega)).mid (Mid.setCell ((w44.setCell ⟨w39.heap.size, 0, none⟩ (.int .i64 rr0)).setCell ⟨w39.heap.size, 1, none⟩ (.int .i64 rs0)) (lo := w39.heap.size) (hi := w39.heap.size + 1) (p := ⟨w39.heap.size, 2, none⟩) (.slice AA1695 res0.length cc1696) (by simp) (by simp)) (by omega)).cell 0 rfl, (((bx1699.mid (Mid.setCell w44 (lo := w39.heap.size) (hi := w39.heap.size + 1) (p := ⟨w39.heap.size, 0, none⟩) (.int .i64 rr0) (by simp) (by simp)) (by omega)).mid (Mid.setCell (w44.setCell ⟨w39.heap.size, 0, none⟩ (.int .i64 rr0)) (lo := w39.heap.size) (hi := w39.heap.size + 1) (p := ⟨w39.heap.size, 1, none⟩) (.int .i64 rs0) (by simp) (by simp)) (by omega)).mid (Mid.setCell ((w44.setCell ⟨w39.heap.size, 0, none⟩ (.int .i64 rr0)).setCell ⟨w39.heap.size, 1, none⟩ (.int .i64 rs0)) (lo := w39.heap.size) (hi := w39.heap.size + 1) (p := ⟨w39.heap.size, 2, none⟩) (.slice AA1695 res0.length cc1696) (by simp) (by simp)) (by omega)).cell 1 rfl, (((bx1699.mid (Mid.setCell w44 (lo := w39.heap.size) (hi := w39.heap.size + 1) (p := ⟨w39.heap.size, 0, none⟩) (.int .i64 rr0) (by simp) (by simp)) (by omega)).mid (Mid.setCell (w44.setCell ⟨w39.heap.size, 0, none⟩ (.int .i64 rr0)) (lo := w39.heap.size) (hi := w39.heap.size + 1) (p := ⟨w39.heap.size, 1, none⟩) (.int .i64 rs0) (by simp) (by simp)) (by omega)).mid (Mid.setCell ((w44.setCell ⟨w39.heap.size, 0, none⟩ (.int .i64 rr0)).setCell ⟨w39.heap.size, 1, none⟩ (.int .i64 rs0)) (lo := w39.heap.size) (hi := w39.heap.size + 1) (p := ⟨w39.heap.size, 2, none⟩) (.slice AA1695 res0.length cc1696) (by simp) (by simp)) (by omega)).cell 2 rfl, (((bx1701.mid (Mid.setCell w44 (lo := w39.heap.size) (hi := w39.heap.size + 1) (p := ⟨w39.heap.size, 0, none⟩) (.int .i64 rr0) (by simp) (by simp)) (by omega)).mid (Mid.setCell (w44.setCell ⟨w39.heap.size, 0, none⟩ (.int .i64 rr0)) (lo := w39.heap.size) (hi := w39.heap.size + 1) (p := ⟨w39.heap.size, 1, none⟩) (.int .i64 rs0) (by simp) (by simp)) (by omega)).mid (Mid.setCell ((w44.setCell ⟨w39.heap.size, 0, none⟩ (.int .i64 rr0)).setCell ⟨w39.heap.size, 1, none⟩ (.int .i64 rs0)) (lo := w39.heap.size) (hi := w39.heap.size + 1) (p := ⟨w39.heap.size, 2, none⟩) (.slice AA1695 res0.length cc1696) (by simp) (by simp)) (by omega)).cell 0 rfl, (((bx1701.mid (Mid.setCell w44 (lo := w39.heap.size) (hi := w39.heap.size + 1) (p := ⟨w39.heap.size, 0, none⟩) (.int .i64 rr0) (by simp) (by simp)) (by omega)).mid (Mid.setCell (w44.setCell ⟨w39.heap.size, 0, none⟩ (.int .i64 rr0)) (lo := w39.heap.size) (hi := w39.heap.size + 1) (p := ⟨w39.heap.size, 1, none⟩) (.int .i64 rs0) (by simp) (by simp)) (by omega)).mid (Mid.setCell ((w44.setCell ⟨w39.heap.size, 0, none⟩ (.int .i64 rr0)).setCell ⟨w39.heap.size, 1, none⟩ (.int .i64 rs0)) (lo := w39.heap.size) (hi := w39.heap.size + 1) (p := ⟨w39.heap.size, 2, none⟩) (.slice AA1695 res0.length cc1696) (by simp) (by simp)) (by omega)).cell 1 rfl, (((bx1701.mid (Mid.setCell w44 (lo := w39.heap.size) (hi := w39.heap.size + 1) (p := ⟨w39.heap.size, 0, none⟩) (.int .i64 rr0) (by simp) (by simp)) (by omega)).mid (Mid.setCell (w44.setCell ⟨w39.heap.size, 0, none⟩ (.int .i64 rr0)) (lo := w39.heap.size) (hi := w39.heap.size + 1) (p := ⟨w39.heap.size, 1, none⟩) (.int .i64 rs0) (by simp) (by simp)) (by omega)).mid (Mid.setCell ((w44.setCell ⟨w39.heap.size, 0, none⟩ (.int .i64 rr0)).setCell ⟨w39.heap.size, 1, none⟩ (.int .i64 rs0)) (lo := w39.heap.size) (hi := w39.heap.size + 1) (p := ⟨w39.heap.size, 2, none⟩) (.slice AA1695 res0.length cc1696) (by simp) (by simp)) (by omega)).cell 2 rfl⟩ | exact ⟨(bx1432.mid (Mid.alloc _ _) (Or.inr (Nat.zero_le _))).cell 0 rfl, (bx1432.mid (Mid.alloc _ _) (Or.inr (Nat.zero_le _))).cell 1 rfl, (bx1432.mid (Mid.alloc _ _) (Or.inr (Nat.zero_le _))).cell 2 rfl, (bx1434.mid (Mid.alloc _ _) (Or.inr (Nat.zero_le _))).cell 0 rfl, (bx1434.mid (Mid.alloc _ _) (Or.inr (Nat.zero_le _))).cell 1 rfl, (bx1434.mid (Mid.alloc _ _) (Or.inr (Nat.zero_le _))).cell 2 rfl⟩ | exact ⟨k1784, k1785, k1786, k1787, k1788, k1789⟩ | exact ⟨k1820, k1821, k1822, k1823, k1824, k1825⟩ | exact ⟨k1858, k1859, k1860, k1861, k1862, k1863⟩ | exact ⟨(((bx1841.mid (Mid.setCell w47 (lo := w38.heap.size) (hi := w38.heap.size + 1) (p := ⟨w38.heap.size, 0, none⟩) (.int .i64 rr0) (by simp) (by simp)) (by omega)).mid (Mid.setCell (w47.setCell ⟨w38.heap.size, 0, none⟩ (.int .i64 rr0)) (lo := w38.heap.size) (hi := w38.heap.size + 1) (p := ⟨w38.heap.size, 1, none⟩) (.int .i64 rs0) (by simp) (by simp)) (by omega)).mid (Mid.setCell ((w47.setCell ⟨w38.heap.size, 0, none⟩ (.int .i64 rr0)).setCell ⟨w38.heap.size, 1, none⟩ (.int .i64 rs0)) (lo := w38.heap.size) (hi := w38.heap.size + 1) (p := ⟨w38.heap.size, 2, none⟩) (.slice AA1837 res0.length cc1838) (by simp) (by simp)) (by omega)).cell 0 rfl, (((bx1841.mid (Mid.setCell w47 (lo := w38.heap.size) (hi := w38.heap.size + 1) (p := ⟨w38.heap.size, 0, none⟩) (.int .i64 rr0) (by simp) (by simp)) (by omega)).mid (Mid.setCell (w47.setCell ⟨w38.heap.size, 0, none⟩ (.int .i64 rr0)) (lo := w38.heap.size) (hi := w38.heap.size + 1) (p := ⟨w38.heap.size, 1, none⟩) (.int .i64 rs0) (by simp) (by simp)) (by omega)).mid (Mid.setCell ((w47.setCell ⟨w38.heap.size, 0, none⟩ (.int .i64 rr0)).setCell ⟨w38.heap.size, 1, none⟩ (.int .i64 rs0)) (lo := w38.heap.size) (hi := w38.heap.size + 1) (p := ⟨w38.heap.size, 2, none⟩) (.slice AA1837 res0.length cc1838) (by simp) (by simp)) (by omega)).cell 1 rfl, (((bx1841.mid (Mid.setCell w47 (lo := w38.heap.size) (hi := w38.heap.size + 1) (p := ⟨w38.heap.size, 0, none⟩) (.int .i64 rr0) (by simp) (by simp)) (by omega)).mid (Mid.setCell (w47.setCell ⟨w38.heap.size, 0, none⟩ (.int .i64 rr0)) (lo := w38.heap.size) (hi := w38.heap.size + 1) (p := ⟨w38.heap.size, 1, none⟩) (.int .i64 rs0) (by simp) (by simp)) (by omega)).mid (Mid.setCell ((w47.setCell ⟨w38.heap.size, 0, none⟩ (.int .i64 rr0)).setCell ⟨w38.heap.size, 1, none⟩ (.int .i64 rs0)) (lo := w38.heap.size) (hi := w38.heap.size + 1) (p := ⟨w38.heap.size, 2, none⟩) (.slice AA1837 res0.length cc1838) (by simp) (by simp)) (by omega)).cell 2 rfl, (((bx1843.mid (Mid.setCell w47 (lo := w38.heap.size) (hi := w38.heap.size + 1) (p := ⟨w38.heap.size, 0, none⟩) (.int .i64 rr0) (by simp) (by simp)) (by omega)).mid (Mid.setCell (w47.setCell ⟨w38.heap.size, 0, none⟩ (.int .i64 rr0)) (lo := w38.heap.size) (hi := w38.heap.size + 1) (p := ⟨w38.heap.size, 1, none⟩) (.int .i64 rs0) (by simp) (by simp)) (by omega)).mid (Mid.setCell ((w47.setCell ⟨w38.heap.size, 0, none⟩ (.int .i64 rr0)).setCell ⟨w38.heap.size, 1, none⟩ (.int .i64 rs0)) (lo := w38.heap.size) (hi := w38.heap.size + 1) (p := ⟨w38.heap.size, 2, none⟩) (.slice AA1837 res0.length cc1838) (by simp) (by simp)) (by omega)).cell 0 rfl, (((bx1843.mid (Mid.setCell w47 (lo := w38.heap.size) (hi := w38.heap.size + 1) (p := ⟨w38.heap.size, 0, none⟩) (.int .i64 rr0) (by simp) (by simp)) (by omega)).mid (Mid.setCell (w47.setCell ⟨w38.heap.size, 0, none⟩ (.int .i64 rr0)) (lo := w38.heap.size) (hi := w38.heap.size + 1) (p := ⟨w38.heap.size, 1, none⟩) (.int .i64 rs0) (by simp) (by simp)) (by omega)).mid (Mid.setCell ((w47.setCell ⟨w38.heap.size, 0, none⟩ (.int .i64 rr0)).setCell ⟨w38.heap.size, 1, none⟩ (.int .i64 rs0)) (lo := w38.heap.size) (hi := w38.heap.size + 1) (p := ⟨w38.heap.size, 2, none⟩) (.slice AA1837 res0.length cc1838) (by simp) (by simp)) (by omega)).cell 1 rfl, (((bx1843.mid (Mid.setCell w47 (lo := w38.heap.size) (hi := w38.heap.size + 1) (p := ⟨w38.heap.size, 0, none⟩) (.int .i64 rr0) (by simp) (by simp)) (by omega)).mid (Mid.setCell (w47.setCell ⟨w38.heap.size, 0, none⟩ (.int .i64 rr0)) (lo := w38.heap.size) (hi := w38.heap.size + 1) (p := ⟨w38.heap.size, 1, none⟩) (.int .i64 rs0) (by simp) (by simp)) (by omega)).mid (Mid.setCell ((w47.setCell ⟨w38.heap.size, 0, none⟩ (.int .i64 rr0)).setCell ⟨w38.heap.size, 1, none⟩ (.int .i64 rs0)) (lo := w38.heap.size) (hi := w38.heap.size + 1) (p := ⟨w38.heap.size, 2, none⟩) (.slice AA1837 res0.length cc1838) (by simp) (by simp)) (by omega)).cell 2 rfl⟩ | exact ⟨(bx1378.mid (Mid.alloc _ _) (Or.inr (Nat.zero_le _))).cell 0 rfl, (bx1378.mid (Mid.alloc _ _) (Or.inr (Nat.zero_le _))).cell 1 rfl, (bx1378.mid (Mid.alloc _ _) (Or.inr (Nat.zero_le _))).cell 2 rfl, (bx1380.mid (Mid.alloc _ _) (Or.inr (Nat.zero_le _))).cell 0 rfl, (bx1380.mid (Mid.alloc _ _) (Or.inr (Nat.zero_le _))).cell 1 rfl, (bx1380.mid (Mid.alloc _ _) (Or.inr (Nat.zero_le _))).cell 2 rfl⟩ | exact ⟨bx1876.cell 0 rfl, bx1876.cell 1 rfl, bx1876.cell 2 rfl, bx1878.cell 0 rfl, bx1878.cell 1 rfl, bx1878.cell 2 rfl⟩ | exact ⟨k1924, k1925, k1926, k1927, k1928, k1929⟩ | exact ⟨k1959, k1960, k1961, k1962, k1963, k1964⟩ | exact ⟨k1995, k1996, k1997, k1998, k1999, k2000⟩ | exact ⟨k2033, k2034, k2035, k2036, k2037, k2038⟩ | exact ⟨(((bx2016.mid (Mid.setCell w51 (lo := w37.heap.size) (hi := w37.heap.size + 1) (p := ⟨w37.heap.size, 0, none⟩) (.int .i64 rr0) (by simp) (by simp)) (by omega)).mid (Mid.setCell (w51.setCell ⟨w37.heap.size, 0, none⟩ (.int .i64 rr0)) (lo := w37.heap.size) (hi := w37.heap.size + 1) (p := ⟨w37.heap.size, 1, none⟩) (.int .i64 rs0) (by simp) (by simp)) (by omega)).mid (Mid.setCell ((w51.setCell ⟨w37.heap.size, 0, none⟩ (.int .i64 rr0)).setCell ⟨w37.heap.size, 1, none⟩ (.int .i64 rs0)) (lo := w37.heap.size) (hi := w37.heap.size + 1) (p := ⟨w37.heap.size, 2, none⟩) (.slice AA2012 res0.length cc2013) (by simp) (by simp)) (by omega)).cell 0 rfl, (((bx2016.mid (Mid.setCell w51 (lo := w37.heap.size) (hi := w37.heap.size + 1) (p := ⟨w37.heap.size, 0, none⟩) (.int .i64 rr0) (by simp) (by simp)) (by omega)).mid (Mid.setCell (w51.setCell ⟨w37.heap.size, 0, none⟩ (.int .i64 rr0)) (lo := w37.heap.size) (hi := w37.heap.size + 1) (p := ⟨w37.heap.size, 1, none⟩) (.int .i64 rs0) (by simp) (by simp)) (by omega)).mid (Mid.setCell ((w51.setCell ⟨w37.heap.size, 0, none⟩ (.int .i64 rr0)).setCell ⟨w37.heap.size, 1, none⟩ (.int .i64 rs0)) (lo := w37.heap.size) (hi := w37.heap.size + 1) (p := ⟨w37.heap.size, 2, none⟩) (.slice AA2012 res0.length cc2013) (by simp) (by simp)) (by omega)).cell 1 rfl, (((bx2016.mid (Mid.setCell w51 (lo := w37.heap.size) (hi := w37.heap.size + 1) (p := ⟨w37.heap.size, 0, none⟩) (.int .i64 rr0) (by simp) (by simp)) (by omega)).mid (Mid.setCell (w51.setCell ⟨w37.heap.size, 0, none⟩ (.int .i64 rr0)) (lo := w37.heap.size) (hi := w37.heap.size + 1) (p := ⟨w37.heap.size, 1, none⟩) (.int .i64 rs0) (by simp) (by simp)) (by omega)).mid (Mid.setCell ((w51.setCell ⟨w37.heap.size, 0, none⟩ (.int .i64 rr0)).setCell ⟨w37.heap.size, 1, none⟩ (.int .i64 rs0)) (lo := w37.heap.size) (hi := w37.heap.size + 1) (p := ⟨w37.heap.size, 2, none⟩) (.slice AA2012 res0.length cc2013) (by simp) (by simp)) (by omega)).cell 2 rfl, (((bx2018.mid (Mid.setCell w51 (lo := w37.heap.size) (hi := w37.heap.size + 1) (p := ⟨w37.heap.size, 0, none⟩) (.int .i64 rr0) (by simp) (by simp)) (by omega)).mid (Mid.setCell (w51.setCell ⟨w37.heap.size, 0, none⟩ (.int .i64 rr0)) (lo := w37.heap.size) (hi := w37.heap.size + 1) (p := ⟨w37.heap.size, 1, none⟩) (.int .i64 rs0) (by simp) (by simp)) (by omega)).mid (Mid.setCell ((w51.setCell ⟨w37.heap.size, 0, none⟩ (.int .i64 rr0)).setCell ⟨w37.heap.size, 1, none⟩ (.int .i64 rs0)) (lo := w37.heap.size) (hi := w37.heap.size + 1) (p := ⟨w37.heap.size, 2, none⟩) (.slice AA2012 res0.length cc2013) (by simp) (by simp)) (by omega)).cell 0 rfl, (((bx2018.mid (Mid.setCell w51 (lo := w37.heap.size) (hi := w37.heap.size + 1) (p := ⟨w37.heap.size, 0, none⟩) (.int .i64 rr0) (by simp) (by simp)) (by omega)).mid (Mid.setCell (w51.setCell ⟨w37.heap.size, 0, none⟩ (.int .i64 rr0)) (lo := w37.heap.size) (hi := w37.heap.size + 1) (p := ⟨w37.heap.size, 1, none⟩) (.int .i64 rs0) (by simp) (by simp)) (by omega)).mid (Mid.setCell ((w51.setCell ⟨w37.heap.size, 0, none⟩ (.int .i64 rr0)).setCell ⟨w37.heap.size, 1, none⟩ (.int .i64 rs0)) (lo := w37.heap.size) (hi := w37.heap.size + 1) (p := ⟨w37.heap.size, 2, none⟩) (.slice AA2012 res0.length cc2013) (by simp) (by simp)) (by omega)).cell 1 rfl, (((bx2018.mid (Mid.setCell w51 (lo := w37.heap.size) (hi := w37.heap.size + 1) (p := ⟨w37.heap.size, 0, none⟩) (.int .i64 rr0) (by simp) (by simp)) (by omega)).mid (Mid.setCell (w51.setCell ⟨w37.heap.size, 0, none⟩ (.int .i64 rr0)) (lo := w37.heap.size) (hi := w37.heap.size + 1) (p := ⟨w37.heap.size, 1, none⟩) (.int .i64 rs0) (by simp) (by simp)) (by omega)).mid (Mid.setCell ((w51.setCell ⟨w37.heap.size, 0, none⟩ (.int .i64 rr0)).setCell ⟨w37.heap.size, 1, none⟩ (.int .i64 rs0)) (lo := w37.heap.size) (hi := w37.heap.size + 1) (p := ⟨w37.heap.size, 2, none⟩) (.slice AA2012 res0.length cc2013) (by simp) (by simp)) (by omega)).cell 2 rfl⟩) (first | (go_at_call 11; with_reducible refine (toGraph_any r0 s0 _ d0 _ _ _ _ h1404 hl0).mono ?_; rintro e w38 ⟨AA1428, cc1429, rfl, h1430, md1431⟩; have bx1432 := bx1403.mid md1431 (Or.inr (Nat.zero_le _)); have h1433 := RG.mid h1404 md1431 (Or.inl (Nat.zero_le _)); have bx1434 := bx1405.mid md1431 (Or.inr (Nat.zero_le _)); have h1435 := RG.mid h1406 md1431 (Or.inl (Nat.zero_le _)); have h1436 := RI.mid h1407 md1431 (Or.inl (Nat.zero_le _)); have bx1437 := bx1408.mid md1431 (Or.inr (Nat.zero_le _)); have h1438 := OG.mid h1409 md1431 (Or.inl (Nat.zero_le _)); have bx1439 := bx1410.mid md1431 (Or.inr (Nat.zero_le _)); have h1440 := OG.mid h1411 md1431 (Or.inl (Nat.zero_le _)); have b1441 := below_mid b1412 z1413 md1431 (Or.inr rfl); have z1442 := b1441.size; have y1443 := md1431.size; have tt1444 := md1402.trans md1431; have k1445 := bx1432.cell 0 rfl; have k1446 := bx1432.cell 1 rfl; have k1447 := bx1432.cell 2 rfl; have k1448 := bx1434.cell 0 rfl; have k1449 := bx1434.cell 1 rfl; have k1450 := bx1434.cell 2 rfl; have k1451 := bx1437.cell 0 rfl; have k1452 := bx1437.cell 1 rfl; have k1453 := bx1437.cell 2 rfl; have k1454 := bx1439.cell 0 rfl; have k1455 := bx1439.cell 1 rfl; have k1456 := bx1439.cell 2 rfl) | (go_at_call 11; with_reducible refine (toGraph_any r1 s1 _ d1 _ _ _ _ h1435 hl1).mono ?_; rintro e w39 ⟨AA1457, cc1458, rfl, h1459, md1460⟩; have bx1461 := bx1432.mid md1460 (Or.inr (Nat.zero_le _)); have h1462 := RG.mid h1433 md1460 (Or.inl (Nat.zero_le _)); have bx1463 := bx1434.mid md1460 (Or.inr (Nat.zero_le _)); have h1464 := RG.mid h1435 md1460 (Or.inl (Nat.zero_le _)); have h1465 := RI.mid h1436 md1460 (Or.inl (Nat.zero_le _)); have bx1466 := bx1437.mid md1460 (Or.inr (Nat.zero_le _)); have h1467 := OG.mid h1438 md1460 (Or.inl (Nat.zero_le _)); have bx1468 := bx1439.mid md1460 (Or.inr (Nat.zero_le _)); have h1469 := OG.mid h1440 md1460 (Or.inl (Nat.zero_le _)); have h1470 := OG.mid h1430 md1460 (Or.inl (Nat.zero_le _)); have b1471 := below_mid b1441 z1442 md1460 (Or.inr rfl); have z1472 := b1471.size; have y1473 := md1460.size; have tt1474 := tt1444.trans md1460; have k1475 := bx1461.cell 0 rfl; have k1476 := bx1461.cell 1 rfl; have k1477 := bx1461.cell 2 rfl; have k1478 := bx1463.cell 0 rfl; have k1479 := bx1463.cell 1 rfl; have k1480 := bx1463.cell 2 rfl; have k1481 := bx1466.cell 0 rfl; have k1482 := bx1466.cell 1 rfl; have k1483 := bx1466.cell 2 rfl; have k1484 := bx1468.cell 0 rfl; have k1485 := bx1468.cell 1 rfl; have k1486 := bx1468.cell 2 rfl) | (go_at_call 12; with_reducible refine (toI _ d2 _ _ _ _ h1465 hl2).mono ?_; rintro e w40 ⟨AA1487, cc1488, rfl, h1489, md1490⟩; have bx1491 := bx1461.mid md1490 (Or.inr (Nat.zero_le _)); have h1492 := RG.mid h1462 md1490 (Or.inl (Nat.zero_le _)); have bx1493 := bx1463.mid md1490 (Or.inr (Nat.zero_le _)); have h1494 := RG.mid h1464 md1490 (Or.inl (Nat.zero_le _)); have h1495 := RI.mid h1465 md1490 (Or.inl (Nat.zero_le _)); have bx1496 := bx1466.mid md1490 (Or.inr (Nat.zero_le _)); have h1497 := OG.mid h1467 md1490 (Or.inl (Nat.zero_le _)); have bx1498 := bx1468.mid md1490 (Or.inr (Nat.zero_le _)); have h1499 := OG.mid h1469 md1490 (Or.inl (Nat.zero_le _)); have h1500 := OG.mid h1470 md1490 (Or.inl (Nat.zero_le _)); have h1501 := OG.mid h1459 md1490 (Or.inl (Nat.zero_le _)); have b1502 := below_mid b1471 z1472 md1490 (Or.inr rfl); have z1503 := b1502.size; have y1504 := md1490.size; have tt1505 := tt1474.trans md1490; have k1506 := bx1491.cell 0 rfl; have k1507 := bx1491.cell 1 rfl; have k1508 := bx1491.cell 2 rfl; have k1509 := bx1493.cell 0 rfl; have k1510 := bx1493.cell 1 rfl; have k1511 := bx1493.cell 2 rfl; have k1512 := bx1496.cell 0 rfl; have k1513 := bx1496.cell 1 rfl; have k1514 := bx1496.cell 2 rfl; have k1515 := bx1498.cell 0 rfl; have k1516 := bx1498.cell 1 rfl; have k1517 := bx1498.cell 2 rfl) | (go_at_call 32; with_reducible refine (simpl_MeetConjugate r0 s0 _ d0 _ r1 s1 _ d1 _ _ d2 _ _ _ _ h1500  hl0 _ _ h1501  hl1 _ _ h1489 _o2 hl2 rr0 rs0 res0 res1 HRES.out).mono ?_; rintro e w41 ⟨AA1519, cc1520, rfl, h1521, md1518⟩; have bx1523 := bx1491.mid md1518 (Or.inr (Nat.zero_le _)); have h1524 := RG.mid h1492 md1518 (Or.inl (Nat.zero_le _)); have bx1525 := bx1493.mid md1518 (Or.inr (Nat.zero_le _)); have h1526 := RG.mid h1494 md1518 (Or.inl (Nat.zero_le _)); have h1527 := RI.mid h1495 md1518 (Or.inl (Nat.zero_le _)); have bx1528 := bx1496.mid md1518 (Or.inr (Nat.zero_le _)); have h1529 := OG.mid h1497 md1518 (Or.inl (Nat.zero_le _)); have bx1530 := bx1498.mid md1518 (Or.inr (Nat.zero_le _)); have h1531 := OG.mid h1499 md1518 (Or.inl (Nat.zero_le _)); have h1532 := OG.mid h1500 md1518 (Or.inl (Nat.zero_le _)); have h1533 := OG.mid h1501 md1518 (Or.inl (Nat.zero_le _)); have h1534 := OI.mid h1489 md1518 (Or.inl (Nat.zero_le _)); have b1535 := below_mid b1502 z1503 md1518 (Or.inr rfl); have z1536 := b1535.size; have y1537 := md1518.size; have tt1538 := tt1505.trans md1518; have k1539 := bx1523.cell 0 rfl; have k1540 := bx1523.cell 1 rfl; have k1541 := bx1523.cell 2 rfl; have k1542 := bx1525.cell 0 rfl; have k1543 := bx1525.cell 1 rfl; have k1544 := bx1525.cell 2 rfl; have k1545 := bx1528.cell 0 rfl; have k1546 := bx1528.cell 1 rfl; have k1547 := bx1528.cell 2 rfl; have k1548 := bx1530.cell 0 rfl; have k1549 := bx1530.cell 1 rfl; have k1550 := bx1530.cell 2 rfl) | (go_at_call 32; have md1551 : Mid 0 0 w40 (w40.alloc (.cells #[.int .i64 0, .int .i64 0, .slice none 0 0] 29)) := Mid.alloc _ _; have bx1552 := bx1491.mid md1551 (Or.inr (Nat.zero_le _)); have h1553 := RG.mid h1492 md1551 (Or.inl (Nat.zero_le _)); have bx1554 := bx1493.mid md1551 (Or.inr (Nat.zero_le _)); have h1555 := RG.mid h1494 md1551 (Or.inl (Nat.zero_le _)); have h1556 := RI.mid h1495 md1551 (Or.inl (Nat.zero_le _)); have bx1557 := bx1496.mid md1551 (Or.inr (Nat.zero_le _)); have h1558 := OG.mid h1497 md1551 (Or.inl (Nat.zero_le _)); have bx1559 := bx1498.mid md1551 (Or.inr (Nat.zero_le _)); have h1560 := OG.mid h1499 md1551 (Or.inl (Nat.zero_le _)); have h1561 := OG.mid h1500 md1551 (Or.inl (Nat.zero_le _)); have h1562 := OG.mid h1501 md1551 (Or.inl (Nat.zero_le _)); have h1563 := OI.mid h1489 md1551 (Or.inl (Nat.zero_le _)); have b1564 := below_mid b1502 z1503 md1551 (Or.inr rfl); have z1565 := b1564.size; have y1566 := md1551.size; have tt1567 := tt1505.trans md1551; have bz1568 : Box (w40.alloc (.cells #[.int .i64 0, .int .i64 0, .slice none 0 0] 29)) (w40.heap.size) [.int .i64 0, .int .i64 0, .slice none 0 0] := Box.new w40 #[.int .i64 0, .int .i64 0, .slice none 0 0] 29; have y1569 : w40.heap.size + 1 ≤ (w40.alloc (.cells #[.int .i64 0, .int .i64 0, .slice none 0 0] 29)).heap.size := (by simp); have k1570 := bx1552.cell 0 rfl; have k1571 := bx1552.cell 1 rfl; have k1572 := bx1552.cell 2 rfl; have k1573 := bx1554.cell 0 rfl; have k1574 := bx1554.cell 1 rfl; have k1575 := bx1554.cell 2 rfl; have k1576 := bx1557.cell 0 rfl; have k1577 := bx1557.cell 1 rfl; have k1578 := bx1557.cell 2 rfl; have k1579 := bx1559.cell 0 rfl; have k1580 := bx1559.cell 1 rfl; have k1581 := bx1559.cell 2 rfl; have k1582 := bz1568.cell 0 rfl; have k1583 := bz1568.cell 1 rfl; have k1584 := bz1568.cell 2 rfl; have f1585 := frz_MeetConjugate bz1568; with_reducible refine (simpl_MeetConjugate r0 s0 _ d0 _ r1 s1 _ d1 _ _ d2 _ _ _ _ h1561  hl0 _ _ h1562  hl1 _ _ h1563 _o2 hl2 rr0 rs0 res0 res1 HRES.out).mono ?_; rintro e w42 ⟨AA1587, cc1588, rfl, h1589, md1586⟩; have bx1591 := bx1552.mid md1586 (Or.inr (Nat.zero_le _)); have h1592 := RG.mid h1553 md1586 (Or.inl (Nat.zero_le _)); have bx1593 := bx1554.mid md1586 (Or.inr (Nat.zero_le _)); have h1594 := RG.mid h1555 md1586 (Or.inl (Nat.zero_le _)); have h1595 := RI.mid h1556 md1586 (Or.inl (Nat.zero_le _)); have bx1596 := bx1557.mid md1586 (Or.inr (Nat.zero_le _)); have h1597 := OG.mid h1558 md1586 (Or.inl (Nat.zero_le _)); have bx1598 := bx1559.mid md1586 (Or.inr (Nat.zero_le _)); have h1599 := OG.mid h1560 md1586 (Or.inl (Nat.zero_le _)); have h1600 := OG.mid h1561 md1586 (Or.inl (Nat.zero_le _)); have h1601 := OG.mid h1562 md1586 (Or.inl (Nat.zero_le _)); have h1602 := OI.mid h1563 md1586 (Or.inl (Nat.zero_le _)); have bx1603 := bz1568.mid md1586 (Or.inr (Nat.zero_le _)); have b1604 := below_mid b1564 z1565 md1586 (Or.inr rfl); have z1605 := b1604.size; have y1606 := md1586.size; have tt1607 := tt1567.trans md1586; have k1608 := bx1591.cell 0 rfl; have k1609 := bx1591.cell 1 rfl; have k1610 := bx1591.cell 2 rfl; have k1611 := bx1593.cell 0 rfl; have k1612 := bx1593.cell 1 rfl; have k1613 := bx1593.cell 2 rfl; have k1614 := bx1596.cell 0 rfl; have k1615 := bx1596.cell 1 rfl; have k1616 := bx1596.cell 2 rfl; have k1617 := bx1598.cell 0 rfl; have k1618 := bx1598.cell 1 rfl; have k1619 := bx1598.cell 2 rfl; have k1620 := bx1603.cell 0 rfl; have k1621 := bx1603.cell 1 rfl; have k1622 := bx1603.cell 2 rfl; have f1623 := frz_MeetConjugate bx1603) | (go_at_call 12; have md1624 : Mid 0 0 w39 (w39.alloc (.cells #[.int .i64 0, .int .i64 0, .slice none 0 0] 29)) := Mid.alloc _ _; have bx1625 := bx1461.mid md1624 (Or.inr (Nat.zero_le _)); have h1626 := RG.mid h1462 md1624 (Or.inl (Nat.zero_le _)); have bx1627 := bx1463.mid md1624 (Or.inr (Nat.zero_le _)); have h1628 := RG.mid h1464 md1624 (Or.inl (Nat.zero_le _)); have h1629 := RI.mid h1465 md1624 (Or.inl (Nat.zero_le _)); have bx1630 := bx1466.mid md1624 (Or.inr (Nat.zero_le _)); have h1631 := OG.mid h1467 md1624 (Or.inl (Nat.zero_le _)); have bx1632 := bx1468.mid md1624 (Or.inr (Nat.zero_le _)); have h1633 := OG.mid h1469 md1624 (Or.inl (Nat.zero_le _)); have h1634 := OG.mid h1470 md1624 (Or.inl (Nat.zero_le _)); have h1635 := OG.mid h1459 md1624 (Or.inl (Nat.zero_le _)); have b1636 := below_mid b1471 z1472 md1624 (Or.inr rfl); have z1637 := b1636.size; have y1638 := md1624.size; have tt1639 := tt1474.trans md1624; have bz1640 : Box (w39.alloc (.cells #[.int .i64 0, .int .i64 0, .slice none 0 0] 29)) (w39.heap.size) [.int .i64 0, .int .i64 0, .slice none 0 0] := Box.new w39 #[.int .i64 0, .int .i64 0, .slice none 0 0] 29; have y1641 : w39.heap.size + 1 ≤ (w39.alloc (.cells #[.int .i64 0, .int .i64 0, .slice none 0 0] 29)).heap.size := (by simp); have k1642 := bx1625.cell 0 rfl; have k1643 := bx1625.cell 1 rfl; have k1644 := bx1625.cell 2 rfl; have k1645 := bx1627.cell 0 rfl; have k1646 := bx1627.cell 1 rfl; have k1647 := bx1627.cell 2 rfl; have k1648 := bx1630.cell 0 rfl; have k1649 := bx1630.cell 1 rfl; have k1650 := bx1630.cell 2 rfl; have k1651 := bx1632.cell 0 rfl; have k1652 := bx1632.cell 1 rfl; have k1653 := bx1632.cell 2 rfl; have k1654 := bz1640.cell 0 rfl; have k1655 := bz1640.cell 1 rfl; have k1656 := bz1640.cell 2 rfl; have f1657 := frz_MeetConjugate bz1640; with_reducible refine (toI _ d2 _ _ _ _ h1629 hl2).mono ?_; rintro e w43 ⟨AA1658, cc1659, rfl, h1660, md1661⟩; have bx1662 := bx1625.mid md1661 (Or.inr (Nat.zero_le _)); have h1663 := RG.mid h1626 md1661 (Or.inl (Nat.zero_le _)); have bx1664 := bx1627.mid md1661 (Or.inr (Nat.zero_le _)); have h1665 := RG.mid h1628 md1661 (Or.inl (Nat.zero_le _)); have h1666 := RI.mid h1629 md1661 (Or.inl (Nat.zero_le _)); have bx1667 := bx1630.mid md1661 (Or.inr (Nat.zero_le _)); have h1668 := OG.mid h1631 md1661 (Or.inl (Nat.zero_le _)); have bx1669 := bx1632.mid md1661 (Or.inr (Nat.zero_le _)); have h1670 := OG.mid h1633 md1661 (Or.inl (Nat.zero_le _)); have h1671 := OG.mid h1634 md1661 (Or.inl (Nat.zero_le _)); have h1672 := OG.mid h1635 md1661 (Or.inl (Nat.zero_le _)); have bx1673 := bz1640.mid md1661 (Or.inr (Nat.zero_le _)); have b1674 := below_mid b1636 z1637 md1661 (Or.inr rfl); have z1675 := b1674.size; have y1676 := md1661.size; have tt1677 := tt1639.trans md1661; have k1678 := bx1662.cell 0 rfl; have k1679 := bx1662.cell 1 rfl; have k1680 := bx1662.cell 2 rfl; have k1681 := bx1664.cell 0 rfl; have k1682 := bx1664.cell 1 rfl; have k1683 := bx1664.cell 2 rfl; have k1684 := bx1667.cell 0 rfl; have k1685 := bx1667.cell 1 rfl; have k1686 := bx1667.cell 2 rfl; have k1687 := bx1669.cell 0 rfl; have k1688 := bx1669.cell 1 rfl; have k1689 := bx1669.cell 2 rfl; have k1690 := bx1673.cell 0 rfl; have k1691 := bx1673.cell 1 rfl; have k1692 := bx1673.cell 2 rfl; have f1693 := frz_MeetConjugate bx1673) | (go_at_call 32; with_reducible refine (simpl_MeetConjugate r0 s0 _ d0 _ r1 s1 _ d1 _ _ d2 _ _ _ _ h1671  hl0 _ _ h1672  hl1 _ _ h1660 _o2 hl2 rr0 rs0 res0 res1 HRES.out).mono ?_; rintro e w44 ⟨AA1695, cc1696, rfl, h1697, md1694⟩; have bx1699 := bx1662.mid md1694 (Or.inr (Nat.zero_le _)); have h1700 := RG.mid h1663 md1694 (Or.inl (Nat.zero_le _)); have bx1701 := bx1664.mid md1694 (Or.inr (Nat.zero_le _)); have h1702 := RG.mid h1665 md1694 (Or.inl (Nat.zero_le _)); have h1703 := RI.mid h1666 md1694 (Or.inl (Nat.zero_le _)); have bx1704 := bx1667.mid md1694 (Or.inr (Nat.zero_le _)); have h1705 := OG.mid h1668 md1694 (Or.inl (Nat.zero_le _)); have bx1706 := bx1669.mid md1694 (Or.inr (Nat.zero_le _)); have h1707 := OG.mid h1670 md1694 (Or.inl (Nat.zero_le _)); have h1708 := OG.mid h1671 md1694 (Or.inl (Nat.zero_le _)); have h1709 := OG.mid h1672 md1694 (Or.inl (Nat.zero_le _)); have bx1710 := bx1673.mid md1694 (Or.inr (Nat.zero_le _)); have h1711 := OI.mid h1660 md1694 (Or.inl (Nat.zero_le _)); have b1712 := below_mid b1674 z1675 md1694 (Or.inr rfl); have z1713 := b1712.size; have y1714 := md1694.size; have tt1715 := tt1677.trans md1694; have k1716 := bx1699.cell 0 rfl; have k1717 := bx1699.cell 1 rfl; have k1718 := bx1699.cell 2 rfl; have k1719 := bx1701.cell 0 rfl; have k1720 := bx1701.cell 1 rfl; have k1721 := bx1701.cell 2 rfl; have k1722 := bx1704.cell 0 rfl; have k1723 := bx1704.cell 1 rfl; have k1724 := bx1704.cell 2 rfl; have k1725 := bx1706.cell 0 rfl; have k1726 := bx1706.cell 1 rfl; have k1727 := bx1706.cell 2 rfl; have k1728 := bx1710.cell 0 rfl; have k1729 := bx1710.cell 1 rfl; have k1730 := bx1710.cell 2 rfl; have f1731 := frz_MeetConjugate bx1710) | (go_at_call 11; have md1732 : Mid 0 0 w38 (w38.alloc (.cells #[.int .i64 0, .int .i64 0, .slice none 0 0] 29)) := Mid.alloc _ _; have bx1733 := bx1432.mid md1732 (Or.inr (Nat.zero_le _)); have h1734 := RG.mid h1433 md1732 (Or.inl (Nat.zero_le _)); have bx1735 := bx1434.mid md1732 (Or.inr (Nat.zero_le _)); have h1736 := RG.mid h1435 md1732 (Or.inl (Nat.zero_le _)); have h1737 := RI.mid h1436 md1732 (Or.inl (Nat.zero_le _)); have bx1738 := bx1437.mid md1732 (Or.inr (Nat.zero_le _)); have h1739 := OG.mid h1438 md1732 (Or.inl (Nat.zero_le _)); have bx1740 := bx1439.mid md1732 (Or.inr (Nat.zero_le _)); have h1741 := OG.mid h1440 md1732 (Or.inl (Nat.zero_le _)); have h1742 := OG.mid h1430 md1732 (Or.inl (Nat.zero_le _)); have b1743 := below_mid b1441 z1442 md1732 (Or.inr rfl); have z1744 := b1743.size; have y1745 := md1732.size; have tt1746 := tt1444.trans md1732; have bz1747 : Box (w38.alloc (.cells #[.int .i64 0, .int .i64 0, .slice none 0 0] 29)) (w38.heap.size) [.int .i64 0, .int .i64 0, .slice none 0 0] := Box.new w38 #[.int .i64 0, .int .i64 0, .slice none 0 0] 29; have y1748 : w38.heap.size + 1 ≤ (w38.alloc (.cells #[.int .i64 0, .int .i64 0, .slice none 0 0] 29)).heap.size := (by simp); have k1749 := bx1733.cell 0 rfl; have k1750 := bx1733.cell 1 rfl; have k1751 := bx1733.cell 2 rfl; have k1752 := bx1735.cell 0 rfl; have k1753 := bx1735.cell 1 rfl; have k1754 := bx1735.cell 2 rfl; have k1755 := bx1738.cell 0 rfl; have k1756 := bx1738.cell 1 rfl; have k1757 := bx1738.cell 2 rfl; have k1758 := bx1740.cell 0 rfl; have k1759 := bx1740.cell 1 rfl; have k1760 := bx1740.cell 2 rfl; have k1761 := bz1747.cell 0 rfl; have k1762 := bz1747.cell 1 rfl; have k1763 := bz1747.cell 2 rfl; have f1764 := frz_MeetConjugate bz1747; with_reducible refine (toGraph_any r1 s1 _ d1 _ _ _ _ h1736 hl1).mono ?_; rintro e w45 ⟨AA1765, cc1766, rfl, h1767, md1768⟩; have bx1769 := bx1733.mid md1768 (Or.inr (Nat.zero_le _)); have h1770 := RG.mid h1734 md1768 (Or.inl (Nat.zero_le _)); have bx1771 := bx1735.mid md1768 (Or.inr (Nat.zero_le _)); have h1772 := RG.mid h1736 md1768 (Or.inl (Nat.zero_le _)); have h1773 := RI.mid h1737 md1768 (Or.inl (Nat.zero_le _)); have bx1774 := bx1738.mid md1768 (Or.inr (Nat.zero_le _)); have h1775 := OG.mid h1739 md1768 (Or.inl (Nat.zero_le _)); have bx1776 := bx1740.mid md1768 (Or.inr (Nat.zero_le _)); have h1777 := OG.mid h1741 md1768 (Or.inl (Nat.zero_le _)); have h1778 := OG.mid h1742 md1768 (Or.inl (Nat.zero_le _)); have bx1779 := bz1747.mid md1768 (Or.inr (Nat.zero_le _)); have b1780 := below_mid b1743 z1744 md1768 (Or.inr rfl); have z1781 := b1780.size; have y1782 := md1768.size; have tt1783 := tt1746.trans md1768; have k1784 := bx1769.cell 0 rfl; have k1785 := bx1769.cell 1 rfl; have k1786 := bx1769.cell 2 rfl; have k1787 := bx1771.cell 0 rfl; have k1788 := bx1771.cell 1 rfl; have k1789 := bx1771.cell 2 rfl; have k1790 := bx1774.cell 0 rfl; have k1791 := bx1774.cell 1 rfl; have k1792 := bx1774.cell 2 rfl; have k1793 := bx1776.cell 0 rfl; have k1794 := bx1776.cell 1 rfl; have k1795 := bx1776.cell 2 rfl; have k1796 := bx1779.cell 0 rfl; have k1797 := bx1779.cell 1 rfl; have k1798 := bx1779.cell 2 rfl; have f1799 := frz_MeetConjugate bx1779) | (go_at_call 12; with_reducible refine (toI _ d2 _ _ _ _ h1773 hl2).mono ?_; rintro e w46 ⟨AA1800, cc1801, rfl, h1802, md1803⟩; have bx1804 := bx1769.mid md1803 (Or.inr (Nat.zero_le _)); have h1805 := RG.mid h1770 md1803 (Or.inl (Nat.zero_le _)); have bx1806 := bx1771.mid md1803 (Or.inr (Nat.zero_le _)); have h1807 := RG.mid h1772 md1803 (Or.inl (Nat.zero_le _)); have h1808 := RI.mid h1773 md1803 (Or.inl (Nat.zero_le _)); have bx1809 := bx1774.mid md1803 (Or.inr (Nat.zero_le _)); have h1810 := OG.mid h1775 md1803 (Or.inl (Nat.zero_le _)); have bx1811 := bx1776.mid md1803 (Or.inr (Nat.zero_le _)); have h1812 := OG.mid h1777 md1803 (Or.inl (Nat.zero_le _)); have h1813 := OG.mid h1778 md1803 (Or.inl (Nat.zero_le _)); have bx1814 := bx1779.mid md1803 (Or.inr (Nat.zero_le _)); have h1815 := OG.mid h1767 md1803 (Or.inl (Nat.zero_le _)); have b1816 := below_mid b1780 z1781 md1803 (Or.inr rfl); have z1817 := b1816.size; have y1818 := md1803.size; have tt1819 := tt1783.trans md1803; have k1820 := bx1804.cell 0 rfl; have k1821 := bx1804.cell 1 rfl; have k1822 := bx1804.cell 2 rfl; have k1823 := bx1806.cell 0 rfl; have k1824 := bx1806.cell 1 rfl; have k1825 := bx1806.cell 2 rfl; have k1826 := bx1809.cell 0 rfl; have k1827 := bx1809.cell 1 rfl; have k1828 := bx1809.cell 2 rfl; have k1829 := bx1811.cell 0 rfl; have k1830 := bx1811.cell 1 rfl; have k1831 := bx1811.cell 2 rfl; have k1832 := bx1814.cell 0 rfl; have k1833 := bx1814.cell 1 rfl; have k1834 := bx1814.cell 2 rfl; have f1835 := frz_MeetConjugate bx1814) | (go_at_call 32; with_reducible refine (simpl_MeetConjugate r0 s0 _ d0 _ r1 s1 _ d1 _ _ d2 _ _ _ _ h1813  hl0 _ _ h1815  hl1 _ _ h1802 _o2 hl2 rr0 rs0 res0 res1 HRES.out).mono ?_; rintro e w47 ⟨AA1837, cc1838, rfl, h1839, md1836⟩; have bx1841 := bx1804.mid md1836 (Or.inr (Nat.zero_le _)); have h1842 := RG.mid h1805 md1836 (Or.inl (Nat.zero_le _)); have bx1843 := bx1806.mid md1836 (Or.inr (Nat.zero_le _)); have h1844 := RG.mid h1807 md1836 (Or.inl (Nat.zero_le _)); have h1845 := RI.mid h1808 md1836 (Or.inl (Nat.zero_le _)); have bx1846 := bx1809.mid md1836 (Or.inr (Nat.zero_le _)); have h1847 := OG.mid h1810 md1836 (Or.inl (Nat.zero_le _)); have bx1848 := bx1811.mid md1836 (Or.inr (Nat.zero_le _)); have h1849 := OG.mid h1812 md1836 (Or.inl (Nat.zero_le _)); have h1850 := OG.mid h1813 md1836 (Or.inl (Nat.zero_le _)); have bx1851 := bx1814.mid md1836 (Or.inr (Nat.zero_le _)); have h1852 := OG.mid h1815 md1836 (Or.inl (Nat.zero_le _)); have h1853 := OI.mid h1802 md1836 (Or.inl (Nat.zero_le _)); have b1854 := below_mid b1816 z1817 md1836 (Or.inr rfl); have z1855 := b1854.size; have y1856 := md1836.size; have tt1857 := tt1819.trans md1836; have k1858 := bx1841.cell 0 rfl; have k1859 := bx1841.cell 1 rfl; have k1860 := bx1841.cell 2 rfl; have k1861 := bx1843.cell 0 rfl; have k1862 := bx1843.cell 1 rfl; have k1863 := bx1843.cell 2 rfl; have k1864 := bx1846.cell 0 rfl; have k1865 := bx1846.cell 1 rfl; have k1866 := bx1846.cell 2 rfl; have k1867 := bx1848.cell 0 rfl; have k1868 := bx1848.cell 1 rfl; have k1869 := bx1848.cell 2 rfl; have k1870 := bx1851.cell 0 rfl; have k1871 := bx1851.cell 1 rfl; have k1872 := bx1851.cell 2 rfl; have f1873 := frz_MeetConjugate bx1851) | (go_at_call 11; have md1874 : Mid 0 0 w37 (w37.alloc (.cells #[.int .i64 0, .int .i64 0, .slice none 0 0] 29)) := Mid.alloc _ _; have md1875 : Mid 0 0 w37 (w37.alloc (.cells #[.int .i64 0, .int .i64 0, .slice none 0 0] 29)).drew := md1874.trans (Mid.drew1 _); have bx1876 := bx1378.mid md1875 (Or.inr (Nat.zero_le _)); have h1877 := RG.mid h1379 md1875 (Or.inl (Nat.zero_le _)); have bx1878 := bx1380.mid md1875 (Or.inr (Nat.zero_le _)); have h1879 := RG.mid h1381 md1875 (Or.inl (Nat.zero_le _)); have h1880 := RI.mid h1382 md1875 (Or.inl (Nat.zero_le _)); have bx1881 := bx1383.mid md1875 (Or.inr (Nat.zero_le _)); have h1882 := OG.mid h1384 md1875 (Or.inl (Nat.zero_le _)); have bx1883 := bx1385.mid md1875 (Or.inr (Nat.zero_le _)); have h1884 := OG.mid h1386 md1875 (Or.inl (Nat.zero_le _)); have b1885 := below_mid b1387 z1388 md1875 (Or.inr rfl); have z1886 := b1885.size; have y1887 := md1875.size; have bz1888 : Box (w37.alloc (.cells #[.int .i64 0, .int .i64 0, .slice none 0 0] 29)).drew (w37.heap.size) [.int .i64 0, .int .i64 0, .slice none 0 0] := Box.new w37 #[.int .i64 0, .int .i64 0, .slice none 0 0] 29; have y1889 : w37.heap.size + 1 ≤ (w37.alloc (.cells #[.int .i64 0, .int .i64 0, .slice none 0 0] 29)).drew.heap.size := (by simp); have k1890 := bx1876.cell 0 rfl; have k1891 := bx1876.cell 1 rfl; have k1892 := bx1876.cell 2 rfl; have k1893 := bx1878.cell 0 rfl; have k1894 := bx1878.cell 1 rfl; have k1895 := bx1878.cell 2 rfl; have k1896 := bx1881.cell 0 rfl; have k1897 := bx1881.cell 1 rfl; have k1898 := bx1881.cell 2 rfl; have k1899 := bx1883.cell 0 rfl; have k1900 := bx1883.cell 1 rfl; have k1901 := bx1883.cell 2 rfl; have k1902 := bz1888.cell 0 rfl; have k1903 := bz1888.cell 1 rfl; have k1904 := bz1888.cell 2 rfl; have f1905 := frz_MeetConjugate bz1888; with_reducible refine (toGraph_any r0 s0 _ d0 _ _ _ _ h1877 hl0).mono ?_; rintro e w48 ⟨AA1906, cc1907, rfl, h1908, md1909⟩; have bx1910 := bx1876.mid md1909 (Or.inr (Nat.zero_le _)); have h1911 := RG.mid h1877 md1909 (Or.inl (Nat.zero_le _)); have bx1912 := bx1878.mid md1909 (Or.inr (Nat.zero_le _)); have h1913 := RG.mid h1879 md1909 (Or.inl (Nat.zero_le _)); have h1914 := RI.mid h1880 md1909 (Or.inl (Nat.zero_le _)); have bx1915 := bx1881.mid md1909 (Or.inr (Nat.zero_le _)); have h1916 := OG.mid h1882 md1909 (Or.inl (Nat.zero_le _)); have bx1917 := bx1883.mid md1909 (Or.inr (Nat.zero_le _)); have h1918 := OG.mid h1884 md1909 (Or.inl (Nat.zero_le _)); have bx1919 := bz1888.mid md1909 (Or.inr (Nat.zero_le _)); have b1920 := below_mid b1885 z1886 md1909 (Or.inr rfl); have z1921 := b1920.size; have y1922 := md1909.size; have tt1923 := md1875.trans md1909; have k1924 := bx1910.cell 0 rfl; have k1925 := bx1910.cell 1 rfl; have k1926 := bx1910.cell 2 rfl; have k1927 := bx1912.cell 0 rfl; have k1928 := bx1912.cell 1 rfl; have k1929 := bx1912.cell 2 rfl; have k1930 := bx1915.cell 0 rfl; have k1931 := bx1915.cell 1 rfl; have k1932 := bx1915.cell 2 rfl; have k1933 := bx1917.cell 0 rfl; have k1934 := bx1917.cell 1 rfl; have k1935 := bx1917.cell 2 rfl; have k1936 := bx1919.cell 0 rfl; have k1937 := bx1919.cell 1 rfl; have k1938 := bx1919.cell 2 rfl; have f1939 := frz_MeetConjugate bx1919) | (go_at_call 11; with_reducible refine (toGraph_any r1 s1 _ d1 _ _ _ _ h1913 hl1).mono ?_; rintro e w49 ⟨AA1940, cc1941, rfl, h1942, md1943⟩; have bx1944 := bx1910.mid md1943 (Or.inr (Nat.zero_le _)); have h1945 := RG.mid h1911 md1943 (Or.inl (Nat.zero_le _)); have bx1946 := bx1912.mid md1943 (Or.inr (Nat.zero_le _)); have h1947 := RG.mid h1913 md1943 (Or.inl (Nat.zero_le _)); have h1948 := RI.mid h1914 md1943 (Or.inl (Nat.zero_le _)); have bx1949 := bx1915.mid md1943 (Or.inr (Nat.zero_le _)); have h1950 := OG.mid h1916 md1943 (Or.inl (Nat.zero_le _)); have bx1951 := bx1917.mid md1943 (Or.inr (Nat.zero_le _)); have h1952 := OG.mid h1918 md1943 (Or.inl (Nat.zero_le _)); have bx1953 := bx1919.mid md1943 (Or.inr (Nat.zero_le _)); have h1954 := OG.mid h1908 md1943 (Or.inl (Nat.zero_le _)); have b1955 := below_mid b1920 z1921 md1943 (Or.inr rfl); have z1956 := b1955.size; have y1957 := md1943.size; have tt1958 := tt1923.trans md1943; have k1959 := bx1944.cell 0 rfl; have k1960 := bx1944.cell 1 rfl; have k1961 := bx1944.cell 2 rfl; have k1962 := bx1946.cell 0 rfl; have k1963 := bx1946.cell 1 rfl; have k1964 := bx1946.cell 2 rfl; have k1965 := bx1949.cell 0 rfl; have k1966 := bx1949.cell 1 rfl; have k1967 := bx1949.cell 2 rfl; have k1968 := bx1951.cell 0 rfl; have k1969 := bx1951.cell 1 rfl; have k1970 := bx1951.cell 2 rfl; have k1971 := bx1953.cell 0 rfl; have k1972 := bx1953.cell 1 rfl; have k1973 := bx1953.cell 2 rfl; have f1974 := frz_MeetConjugate bx1953) | (go_at_call 12; with_reducible refine (toI _ d2 _ _ _ _ h1948 hl2).mono ?_; rintro e w50 ⟨AA1975, cc1976, rfl, h1977, md1978⟩; have bx1979 := bx1944.mid md1978 (Or.inr (Nat.zero_le _)); have h1980 := RG.mid h1945 md1978 (Or.inl (Nat.zero_le _)); have bx1981 := bx1946.mid md1978 (Or.inr (Nat.zero_le _)); have h1982 := RG.mid h1947 md1978 (Or.inl (Nat.zero_le _)); have h1983 := RI.mid h1948 md1978 (Or.inl (Nat.zero_le _)); have bx1984 := bx1949.mid md1978 (Or.inr (Nat.zero_le _)); have h1985 := OG.mid h1950 md1978 (Or.inl (Nat.zero_le _)); have bx1986 := bx1951.mid md1978 (Or.inr (Nat.zero_le _)); have h1987 := OG.mid h1952 md1978 (Or.inl (Nat.zero_le _)); have bx1988 := bx1953.mid md1978 (Or.inr (Nat.zero_le _)); have h1989 := OG.mid h1954 md1978 (Or.inl (Nat.zero_le _)); have h1990 := OG.mid h1942 md1978 (Or.inl (Nat.zero_le _)); have b1991 := below_mid b1955 z1956 md1978 (Or.inr rfl); have z1992 := b1991.size; have y1993 := md1978.size; have tt1994 := tt1958.trans md1978; have k1995 := bx1979.cell 0 rfl; have k1996 := bx1979.cell 1 rfl; have k1997 := bx1979.cell 2 rfl; have k1998 := bx1981.cell 0 rfl; have k1999 := bx1981.cell 1 rfl; have k2000 := bx1981.cell 2 rfl; have k2001 := bx1984.cell 0 rfl; have k2002 := bx1984.cell 1 rfl; have k2003 := bx1984.cell 2 rfl; have k2004 := bx1986.cell 0 rfl; have k2005 := bx1986.cell 1 rfl; have k2006 := bx1986.cell 2 rfl; have k2007 := bx1988.cell 0 rfl; have k2008 := bx1988.cell 1 rfl; have k2009 := bx1988.cell 2 rfl; have f2010 := frz_MeetConjugate bx1988) | (go_at_call 32; with_reducible refine (simpl_MeetConjugate r0 s0 _ d0 _ r1 s1 _ d1 _ _ d2 _ _ _ _ h1989  hl0 _ _ h1990  hl1 _ _ h1977 _o2 hl2 rr0 rs0 res0 res1 HRES.out).mono ?_; rintro e w51 ⟨AA2012, cc2013, rfl, h2014, md2011⟩; have bx2016 := bx1979.mid md2011 (Or.inr (Nat.zero_le _)); have h2017 := RG.mid h1980 md2011 (Or.inl (Nat.zero_le _)); have bx2018 := bx1981.mid md2011 (Or.inr (Nat.zero_le _)); have h2019 := RG.mid h1982 md2011 (Or.inl (Nat.zero_le _)); have h2020 := RI.mid h1983 md2011 (Or.inl (Nat.zero_le _)); have bx2021 := bx1984.mid md2011 (Or.inr (Nat.zero_le _)); have h2022 := OG.mid h1985 md2011 (Or.inl (Nat.zero_le _)); have bx2023 := bx1986.mid md2011 (Or.inr (Nat.zero_le _)); have h2024 := OG.mid h1987 md2011 (Or.inl (Nat.zero_le _)); have bx2025 := bx1988.mid md2011 (Or.inr (Nat.zero_le _)); have h2026 := OG.mid h1989 md2011 (Or.inl (Nat.zero_le _)); have h2027 := OG.mid h1990 md2011 (Or.inl (Nat.zero_le _)); have h2028 := OI.mid h1977 md2011 (Or.inl (Nat.zero_le _)); have b2029 := below_mid b1991 z1992 md2011 (Or.inr rfl); have z2030 := b2029.size; have y2031 := md2011.size; have tt2032 := tt1994.trans md2011; have k2033 := bx2016.cell 0 rfl; have k2034 := bx2016.cell 1 rfl; have k2035 := bx2016.cell 2 rfl; have k2036 := bx2018.cell 0 rfl; have k2037 := bx2018.cell 1 rfl; have k2038 := bx2018.cell 2 rfl; have k2039 := bx2021.cell 0 rfl; have k2040 := bx2021.cell 1 rfl; have k2041 := bx2021.cell 2 rfl; have k2042 := bx2023.cell 0 rfl; have k2043 := bx2023.cell 1 rfl; have k2044 := bx2023.cell 2 rfl; have k2045 := bx2025.cell 0 rfl; have k2046 := bx2025.cell 1 rfl; have k2047 := bx2025.cell 2 rfl; have f2048 := frz_MeetConjugate bx2025))
      all_goals (go_wp2_with fail; go_meet; first | exact ⟨w41.heap.size, AA1519, cc1520, rfl, rfl, Box.new w41 #[.int .i64 rr0, .int .i64 rs0, .slice AA1519 res0.length cc1520] 29, OG.wide (OG.mid h1521 (Mid.alloc w41 (.cells #[.int .i64 rr0, .int .i64 rs0, .slice AA1519 res0.length cc1520] 29)) (Or.inl (Nat.zero_le _))) (by omega) (by simp) (Nat.le_refl _), tt1538.trans (Mid.alloc w41 (.cells #[.int .i64 rr0, .int .i64 rs0, .slice AA1519 res0.length cc1520] 29)), by omega⟩ | exact ⟨w40.heap.size, AA1587, cc1588, rfl, rfl, (((bx1603.set 0 _ (by simp) rfl).set 1 _ (by simp) rfl).set 2 _ (by simp) rfl), OG.wide (OG.mid (OG.mid (OG.mid h1589 (Mid.setCell w42 (lo := w40.heap.size) (hi := w40.heap.size + 1) (p := ⟨w40.heap.size, 0, none⟩) (.int .i64 rr0) (by simp) (by simp)) (by omega)) (Mid.setCell (w42.setCell ⟨w40.heap.size, 0, none⟩ (.int .i64 rr0)) (lo := w40.heap.size) (hi := w40.heap.size + 1) (p := ⟨w40.heap.size, 1, none⟩) (.int .i64 rs0) (by simp) (by simp)) (by omega)) (Mid.setCell ((w42.setCell ⟨w40.heap.size, 0, none⟩ (.int .i64 rr0)).setCell ⟨w40.heap.size, 1, none⟩ (.int .i64 rs0)) (lo := w40.heap.size) (hi := w40.heap.size + 1) (p := ⟨w40.heap.size, 2, none⟩) (.slice AA1587 res0.length cc1588) (by simp) (by simp)) (by omega)) (by omega) (by simp) (Nat.le_refl _), (((tt1607.storeNew (by simp <;> omega) _).storeNew (by simp <;> omega) _).storeNew (by simp <;> omega) _), by omega⟩ | exact ⟨w39.heap.size, AA1695, cc1696, rfl, rfl, (((bx1710.set 0 _ (by simp) rfl).set 1 _ (by simp) rfl).set 2 _ (by simp) rfl), OG.wide (OG.mid (OG.mid (OG.mid h1697 (Mid.setCell w44 (lo := w39.heap.size) (hi := w39.heap.size + 1) (p := ⟨w39.heap.size, 0, none⟩) (.int .i64 rr0) (by simp) (by simp)) (by omega)) (Mid.setCell (w44.setCell ⟨w39.heap.size, 0, none⟩ (.int .i64 rr0)) (lo := w39.heap.size) (hi := w39.heap.size + 1) (p := ⟨w39.heap.size, 1, none⟩) (.int .i64 rs0) (by simp) (by simp)) (by omega)) (Mid.setCell ((w44.setCell ⟨w39.heap.size, 0, none⟩ (.int .i64 rr0)).setCell ⟨w39.heap.size, 1, none⟩ (.int .i64 rs0)) (lo := w39.heap.size) (hi := w39.heap.size + 1) (p := ⟨w39.heap.size, 2, none⟩) (.slice AA1695 res0.length cc1696) (by simp) (by simp)) (by omega)) (by omega) (by simp) (Nat.le_refl _), (((tt1715.storeNew (by simp <;> omega) _).storeNew (by simp <;> omega) _).storeNew (by simp <;> omega) _), by omega⟩ | exact ⟨w38.heap.size, AA1837, cc1838, rfl, rfl, (((bx1851.set 0 _ (by simp) rfl).set 1 _ (by simp) rfl).set 2 _ (by simp) rfl), OG.wide (OG.mid (OG.mid (OG.mid h1839 (Mid.setCell w47 (lo := w38.heap.size) (hi := w38.heap.size + 1) (p := ⟨w38.heap.size, 0, none⟩) (.int .i64 rr0) (by simp) (by simp)) (by omega)) (Mid.setCell (w47.setCell ⟨w38.heap.size, 0, none⟩ (.int .i64 rr0)) (lo := w38.heap.size) (hi := w38.heap.size + 1) (p := ⟨w38.heap.size, 1, none⟩) (.int .i64 rs0) (by simp) (by simp)) (by omega)) (Mid.setCell ((w47.setCell ⟨w38.heap.size, 0, none⟩ (.int .i64 rr0)).setCell ⟨w38.heap.size, 1, none⟩ (.int .i64 rs0)) (lo := w38.heap.size) (hi := w38.heap.size + 1) (p := ⟨w38.heap.size, 2, none⟩) (.slice AA1837 res0.length cc1838) (by simp) (by simp)) (by omega)) (by omega) (by simp) (Nat.le_refl _), (((tt1857.storeNew (by simp <;> omega) _).storeNew (by simp <;> omega) _).storeNew (by simp <;> omega) _), by omega⟩ | exact ⟨w37.heap.size, AA2012, cc2013, rfl, rfl, (((bx2025.set 0 _ (by simp) rfl).set 1 _ (by simp) rfl).set 2 _ (by simp) rfl), OG.wide (OG.mid (OG.mid (OG.mid h2014 (Mid.setCell w51 (lo := w37.heap.size) (hi := w37.heap.size + 1) (p := ⟨w37.heap.size, 0, none⟩) (.int .i64 rr0) (by simp) (by simp)) (by omega)) (Mid.setCell (w51.setCell ⟨w37.heap.size, 0, none⟩ (.int .i64 rr0)) (lo := w37.heap.size) (hi := w37.heap.size + 1) (p := ⟨w37.heap.size, 1, none⟩) (.int .i64 rs0) (by simp) (by simp)) (by omega)) (Mid.setCell ((w51.setCell ⟨w37.heap.size, 0, none⟩ (.int .i64 rr0)).setCell ⟨w37.heap.size, 1, none⟩ (.int .i64 rs0)) (lo := w37.heap.size) (hi := w37.heap.size + 1) (p := ⟨w37.heap.size, 2, none⟩) (.slice AA2012 res0.length cc2013) (by simp) (by simp)) (by omega)) (by omega) (by simp) (Nat.le_refl _), (((tt2032.storeNew (by simp <;> omega) _).storeNew (by simp <;> omega) _).storeNew (by simp <;> omega) _), by omega⟩)
    case rest =>
      obtain ⟨g2049, AA2054, cc2055, rfl, rfl, bx2050, h2051, md2052, y2053⟩ := hcut
      obtain ⟨w52, rfl⟩ : ∃ x, x = wc := ⟨_, rfl⟩
      have bx2056 := bx1378.mid md2052 (Or.inr (Nat.zero_le _))
      clear bx1378
      have h2057 := RG.mid h1379 md2052 (Or.inl (Nat.zero_le _))
      clear h1379
      have bx2058 := bx1380.mid md2052 (Or.inr (Nat.zero_le _))
      clear bx1380
      have h2059 := RG.mid h1381 md2052 (Or.inl (Nat.zero_le _))
      clear h1381
      have h2060 := RI.mid h1382 md2052 (Or.inl (Nat.zero_le _))
      clear h1382
      have bx2061 := bx1383.mid md2052 (Or.inr (Nat.zero_le _))
      clear bx1383
      have h2062 := OG.mid h1384 md2052 (Or.inl (Nat.zero_le _))
      clear h1384
      have bx2063 := bx1385.mid md2052 (Or.inr (Nat.zero_le _))
      clear bx1385
      have h2064 := OG.mid h1386 md2052 (Or.inl (Nat.zero_le _))
      clear h1386
      have b2065 := below_mid b1387 z1388 md2052 (Or.inr rfl)
      have z2066 := b2065.size
      have y2067 := md2052.size
      have y2068 := bx2050.1
      clear k1390
      clear k1391
      clear k1392
      have k2069 := bx2056.cell 0 rfl
      have k2070 := bx2056.cell 1 rfl
      have k2071 := bx2056.cell 2 rfl
      clear k1393
      clear k1394
      clear k1395
      have k2072 := bx2058.cell 0 rfl
      have k2073 := bx2058.cell 1 rfl
      have k2074 := bx2058.cell 2 rfl
      clear k1396
      clear k1397
      clear k1398
      have k2075 := bx2061.cell 0 rfl
      have k2076 := bx2061.cell 1 rfl
      have k2077 := bx2061.cell 2 rfl
      clear k1399
      clear k1400
      clear k1401
      have k2078 := bx2063.cell 0 rfl
      have k2079 := bx2063.cell 1 rfl
      have k2080 := bx2063.cell 2 rfl
      have k2081 := bx2050.cell 0 rfl
      have k2082 := bx2050.cell 1 rfl
      have k2083 := bx2050.cell 2 rfl
      go_wp2_with fail
      with_reducible refine (eqGraph_same _ _ _ _ res0 _ _ _ _ _ _ _ (OG.rg h2051) (OG.rg h2062) hlr0).mono ?_
      rintro e w53 ⟨rfl, md2084⟩
      have bx2085 := bx2056.mid md2084 (Or.inr (Nat.zero_le _))
      clear bx2056
      have h2086 := RG.mid h2057 md2084 (Or.inl (Nat.zero_le _))
      clear h2057
      have bx2087 := bx2058.mid md2084 (Or.inr (Nat.zero_le _))
      clear bx2058
      have h2088 := RG.mid h2059 md2084 (Or.inl (Nat.zero_le _))
      clear h2059
      have h2089 := RI.mid h2060 md2084 (Or.inl (Nat.zero_le _))
      clear h2060
      have bx2090 := bx2061.mid md2084 (Or.inr (Nat.zero_le _))
      clear bx2061
      have h2091 := OG.mid h2062 md2084 (Or.inl (Nat.zero_le _))
      clear h2062
      have bx2092 := bx2063.mid md2084 (Or.inr (Nat.zero_le _))
      clear bx2063
      have h2093 := OG.mid h2064 md2084 (Or.inl (Nat.zero_le _))
      clear h2064
      have bx2094 := bx2050.mid md2084 (Or.inr (Nat.zero_le _))
      clear bx2050
      have h2095 := OG.mid h2051 md2084 (Or.inl (Nat.zero_le _))
      clear h2051
      have b2096 := below_mid b2065 z2066 md2084 (Or.inr rfl)
      have z2097 := b2096.size
      have y2098 := md2084.size
      clear k2069
      clear k2070
      clear k2071
      have k2099 := bx2085.cell 0 rfl
      have k2100 := bx2085.cell 1 rfl
      have k2101 := bx2085.cell 2 rfl
      clear k2072
      clear k2073
      clear k2074
      have k2102 := bx2087.cell 0 rfl
      have k2103 := bx2087.cell 1 rfl
      have k2104 := bx2087.cell 2 rfl
      clear k2075
      clear k2076
      clear k2077
      have k2105 := bx2090.cell 0 rfl
      have k2106 := bx2090.cell 1 rfl
      have k2107 := bx2090.cell 2 rfl
      clear k2078
      clear k2079
      clear k2080
      have k2108 := bx2092.cell 0 rfl
      have k2109 := bx2092.cell 1 rfl
      have k2110 := bx2092.cell 2 rfl
      clear k2081
      clear k2082
      clear k2083
      have k2111 := bx2094.cell 0 rfl
      have k2112 := bx2094.cell 1 rfl
      have k2113 := bx2094.cell 2 rfl
      go_wp2_with fail
      with_reducible refine (heldGraph_any _ _ _ res0.length _ 1 _ _ _ h2093 (by omega) (by omega) hlr0).mono ?_
      rintro e w54 ⟨rfl, md2114⟩
      have bx2115 := bx2085.mid md2114 (Or.inr (Nat.zero_le _))
      clear bx2085
      have h2116 := RG.mid h2086 md2114 (Or.inl (Nat.zero_le _))
      clear h2086
      have bx2117 := bx2087.mid md2114 (Or.inr (Nat.zero_le _))
      clear bx2087
      have h2118 := RG.mid h2088 md2114 (Or.inl (Nat.zero_le _))
      clear h2088
      have h2119 := RI.mid h2089 md2114 (Or.inl (Nat.zero_le _))
      clear h2089
      have bx2120 := bx2090.mid md2114 (Or.inr (Nat.zero_le _))
      clear bx2090
      have h2121 := OG.mid h2091 md2114 (Or.inl (Nat.zero_le _))
      clear h2091
      have bx2122 := bx2092.mid md2114 (Or.inr (Nat.zero_le _))
      clear bx2092
      have h2123 := OG.mid h2093 md2114 (Or.inl (Nat.zero_le _))
      clear h2093
      have bx2124 := bx2094.mid md2114 (Or.inr (Nat.zero_le _))
      clear bx2094
      have h2125 := OG.mid h2095 md2114 (Or.inl (Nat.zero_le _))
      clear h2095
      have b2126 := below_mid b2096 z2097 md2114 (Or.inr rfl)
      have z2127 := b2126.size
      have y2128 := md2114.size
      clear k2099
      clear k2100
      clear k2101
      have k2129 := bx2115.cell 0 rfl
      have k2130 := bx2115.cell 1 rfl
      have k2131 := bx2115.cell 2 rfl
      clear k2102
      clear k2103
      clear k2104
      have k2132 := bx2117.cell 0 rfl
      have k2133 := bx2117.cell 1 rfl
      have k2134 := bx2117.cell 2 rfl
      clear k2105
      clear k2106
      clear k2107
      have k2135 := bx2120.cell 0 rfl
      have k2136 := bx2120.cell 1 rfl
      have k2137 := bx2120.cell 2 rfl
      clear k2108
      clear k2109
      clear k2110
      have k2138 := bx2122.cell 0 rfl
      have k2139 := bx2122.cell 1 rfl
      have k2140 := bx2122.cell 2 rfl
      clear k2111
      clear k2112
      clear k2113
      have k2141 := bx2124.cell 0 rfl
      have k2142 := bx2124.cell 1 rfl
      have k2143 := bx2124.cell 2 rfl
      go_wp2_with fail
      go_ret
      exact ⟨rfl, b2126⟩
end Go.Proofs.YtimmnnncgnnkgaaGreat
