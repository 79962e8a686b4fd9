
import Derived.Test.YtkaofcakelpnpaaGreatIm7
import Derived.Deep.RegionHeld3
import Derived.Deep.DeepCutAuto

/- The walk of the law FnExactImageOf: it returns true at every input, and turns nothing that was there. -/
namespace Go.Proofs.YtkaofcakelpnpaaGreat
open Go.RowKit
set_option linter.unusedVariables false
set_option linter.unusedSimpArgs false

theorem frz_ImageOf {w : World} {b : Nat} {cs : List Value} (h : Box w b cs) : ∀ i, w.frozen? ⟨b, i, none⟩ = false := h.2.2
set_option maxRecDepth 100000 in
set_option maxHeartbeats 8000000 in
theorem walk_ImageOf (r0 : Int) (A0 : Option Addr) (d0 : List (List Int)) (c0 : Nat) (r1 s1 : Int) (A1 : Option Addr) (d1 : List Ed) (c1 : Nat) (w : World) (_b0 : (Lit.int .i64 r0).wf = true) (m0 : RSS w 0 w.heap.size A0 d0) (_o0 : OkSS d0) (_b1 : (Lit.int .i64 r1).wf = true) (_e1 : (Lit.int .i64 s1).wf = true) (m1 : RG w 0 w.heap.size A1 d1) (_o1 : OkI (edI d1)) (_l1 : d1.length ≤ 9223372036854775807) :
    Calls Tryz.prog 3 #[.agg #[.int .i64 r0, .slice A0 d0.length c0], .agg #[.int .i64 r1, .int .i64 s1, .slice A1 d1.length c1]] w fun e w' => e = .returned (.bool true) ∧ Below w.heap.size w w' := by
  obtain ⟨z0, hz0⟩ : ∃ z, z = szI 1048576 (d0.length + sumL d0) := ⟨_, rfl⟩
  have E0 := Lib.hid hz0.symm
  rcases szI_case 1048576 (d0.length + sumL d0) with hs0 | ⟨hs0, hs0'⟩
  · obtain rfl : z0 = -1 := hz0.trans hs0
    clear hs0 hz0
    have hh1 := m0
    have hh2 := m1
    go_enter Tryz.func3, Tryz.ntmps3
    have md3 : Mid 0 0 w (w.alloc (.cells #[.int .i64 r0, .slice A0 d0.length c0] 24)) := Mid.alloc _ _
    have h4 := RSS.mid hh1 md3 (Or.inl (Nat.zero_le _))
    clear hh1
    have h5 := RG.mid hh2 md3 (Or.inl (Nat.zero_le _))
    clear hh2
    have b6 := below_mid (Below.refl w.heap.size w) (Nat.le_refl w.heap.size) md3 (Or.inr rfl)
    have z7 := b6.size
    have y8 := md3.size
    have bx9 := Box.new w #[.int .i64 r0, .slice A0 d0.length c0] 24
    have y10 : w.heap.size + 1 ≤ (w.alloc (.cells #[.int .i64 r0, .slice A0 d0.length c0] 24)).heap.size := (by simp)
    have md11 : Mid 0 0 (w.alloc (.cells #[.int .i64 r0, .slice A0 d0.length c0] 24)) ((w.alloc (.cells #[.int .i64 r0, .slice A0 d0.length c0] 24)).alloc (.cells #[.int .i64 r1, .int .i64 s1, .slice A1 d1.length c1] 27)) := Mid.alloc _ _
    have bx12 := bx9.mid md11 (Or.inr (Nat.zero_le _))
    clear bx9
    have h13 := RSS.mid h4 md11 (Or.inl (Nat.zero_le _))
    clear h4
    have h14 := RG.mid h5 md11 (Or.inl (Nat.zero_le _))
    clear h5
    have b15 := below_mid b6 z7 md11 (Or.inr rfl)
    have z16 := b15.size
    have y17 := md11.size
    have bx18 := Box.new (w.alloc (.cells #[.int .i64 r0, .slice A0 d0.length c0] 24)) #[.int .i64 r1, .int .i64 s1, .slice A1 d1.length c1] 27
    have y19 : (w.alloc (.cells #[.int .i64 r0, .slice A0 d0.length c0] 24)).heap.size + 1 ≤ ((w.alloc (.cells #[.int .i64 r0, .slice A0 d0.length c0] 24)).alloc (.cells #[.int .i64 r1, .int .i64 s1, .slice A1 d1.length c1] 27)).heap.size := (by simp)
    simp only [World.size_alloc, Nat.add_assoc, Nat.reduceAdd] at bx18
    have k20 := bx12.cell 0 rfl
    have k21 := bx12.cell 1 rfl
    have k22 := bx18.cell 0 rfl
    have k23 := bx18.cell 1 rfl
    have k24 := bx18.cell 2 rfl
    go_wp2_with fail
    with_reducible refine (szMorphism_any _ _ d0 _ 1048576 _ _ _ h13 (OkSS.len _o0) (by omega) (by omega)).mono ?_
    rintro e w1 ⟨rfl, md25⟩
    rw [E0.out]
    have bx26 := bx12.mid md25 (Or.inr (Nat.zero_le _))
    clear bx12
    have h27 := RSS.mid h13 md25 (Or.inl (Nat.zero_le _))
    clear h13
    have bx28 := bx18.mid md25 (Or.inr (Nat.zero_le _))
    clear bx18
    have h29 := RG.mid h14 md25 (Or.inl (Nat.zero_le _))
    clear h14
    have b30 := below_mid b15 z16 md25 (Or.inr rfl)
    have z31 := b30.size
    have y32 := md25.size
    clear k20
    clear k21
    have k33 := bx26.cell 0 rfl
    have k34 := bx26.cell 1 rfl
    clear k22
    clear k23
    clear k24
    have k35 := bx28.cell 0 rfl
    have k36 := bx28.cell 1 rfl
    have k37 := bx28.cell 2 rfl
    go_wp2_with fail
    go_ret
    exact ⟨rfl, b30⟩
  rw [hs0'] at hz0
  have hp0 : 0 ≤ z0 := by omega
  have hq0 : z0 ≤ 1048576 := by omega
  have hl0 : d0.length + sumL d0 ≤ 1048576 := by omega
  clear hs0 hs0' hz0
  obtain ⟨z1, hz1⟩ : ∃ z, z = szI z0 d1.length := ⟨_, rfl⟩
  have E1 := Lib.hid hz1.symm
  rcases szI_case z0 d1.length with hs1 | ⟨hs1, hs1'⟩
  · obtain rfl : z1 = -1 := hz1.trans hs1
    clear hs1 hz1
    have hh38 := m0
    have hh39 := m1
    go_enter Tryz.func3, Tryz.ntmps3
    have md40 : Mid 0 0 w (w.alloc (.cells #[.int .i64 r0, .slice A0 d0.length c0] 24)) := Mid.alloc _ _
    have h41 := RSS.mid hh38 md40 (Or.inl (Nat.zero_le _))
    clear hh38
    have h42 := RG.mid hh39 md40 (Or.inl (Nat.zero_le _))
    clear hh39
    have b43 := below_mid (Below.refl w.heap.size w) (Nat.le_refl w.heap.size) md40 (Or.inr rfl)
    have z44 := b43.size
    have y45 := md40.size
    have bx46 := Box.new w #[.int .i64 r0, .slice A0 d0.length c0] 24
    have y47 : w.heap.size + 1 ≤ (w.alloc (.cells #[.int .i64 r0, .slice A0 d0.length c0] 24)).heap.size := (by simp)
    have md48 : Mid 0 0 (w.alloc (.cells #[.int .i64 r0, .slice A0 d0.length c0] 24)) ((w.alloc (.cells #[.int .i64 r0, .slice A0 d0.length c0] 24)).alloc (.cells #[.int .i64 r1, .int .i64 s1, .slice A1 d1.length c1] 27)) := Mid.alloc _ _
    have bx49 := bx46.mid md48 (Or.inr (Nat.zero_le _))
    clear bx46
    have h50 := RSS.mid h41 md48 (Or.inl (Nat.zero_le _))
    clear h41
    have h51 := RG.mid h42 md48 (Or.inl (Nat.zero_le _))
    clear h42
    have b52 := below_mid b43 z44 md48 (Or.inr rfl)
    have z53 := b52.size
    have y54 := md48.size
    have bx55 := Box.new (w.alloc (.cells #[.int .i64 r0, .slice A0 d0.length c0] 24)) #[.int .i64 r1, .int .i64 s1, .slice A1 d1.length c1] 27
    have y56 : (w.alloc (.cells #[.int .i64 r0, .slice A0 d0.length c0] 24)).heap.size + 1 ≤ ((w.alloc (.cells #[.int .i64 r0, .slice A0 d0.length c0] 24)).alloc (.cells #[.int .i64 r1, .int .i64 s1, .slice A1 d1.length c1] 27)).heap.size := (by simp)
    simp only [World.size_alloc, Nat.add_assoc, Nat.reduceAdd] at bx55
    have k57 := bx49.cell 0 rfl
    have k58 := bx49.cell 1 rfl
    have k59 := bx55.cell 0 rfl
    have k60 := bx55.cell 1 rfl
    have k61 := bx55.cell 2 rfl
    go_wp2_with fail
    with_reducible refine (szMorphism_any _ _ d0 _ 1048576 _ _ _ h50 (OkSS.len _o0) (by omega) (by omega)).mono ?_
    rintro e w2 ⟨rfl, md62⟩
    rw [E0.out]
    have bx63 := bx49.mid md62 (Or.inr (Nat.zero_le _))
    clear bx49
    have h64 := RSS.mid h50 md62 (Or.inl (Nat.zero_le _))
    clear h50
    have bx65 := bx55.mid md62 (Or.inr (Nat.zero_le _))
    clear bx55
    have h66 := RG.mid h51 md62 (Or.inl (Nat.zero_le _))
    clear h51
    have b67 := below_mid b52 z53 md62 (Or.inr rfl)
    have z68 := b67.size
    have y69 := md62.size
    clear k57
    clear k58
    have k70 := bx63.cell 0 rfl
    have k71 := bx63.cell 1 rfl
    clear k59
    clear k60
    clear k61
    have k72 := bx65.cell 0 rfl
    have k73 := bx65.cell 1 rfl
    have k74 := bx65.cell 2 rfl
    go_wp2_with fail
    with_reducible refine (szGraph_any _ _ _ d1 _ z0 _ _l1 (by omega) (by omega)).mono ?_
    rintro e w3 ⟨rfl, md75⟩
    rw [E1.out]
    have bx76 := bx63.mid md75 (Or.inr (Nat.zero_le _))
    clear bx63
    have h77 := RSS.mid h64 md75 (Or.inl (Nat.zero_le _))
    clear h64
    have bx78 := bx65.mid md75 (Or.inr (Nat.zero_le _))
    clear bx65
    have h79 := RG.mid h66 md75 (Or.inl (Nat.zero_le _))
    clear h66
    have b80 := below_mid b67 z68 md75 (Or.inr rfl)
    have z81 := b80.size
    have y82 := md75.size
    clear k70
    clear k71
    have k83 := bx76.cell 0 rfl
    have k84 := bx76.cell 1 rfl
    clear k72
    clear k73
    clear k74
    have k85 := bx78.cell 0 rfl
    have k86 := bx78.cell 1 rfl
    have k87 := bx78.cell 2 rfl
    go_wp2_with fail
    go_ret
    exact ⟨rfl, b80⟩
  rw [hs1'] at hz1
  have hp1 : 0 ≤ z1 := by omega
  have hq1 : z1 ≤ 1048576 := by omega
  have hl1 : d1.length ≤ 1048576 := by omega
  clear hs1 hs1' hz1
  obtain ⟨rr0, rs0, res0, res1, HRES⟩ : ∃ rr0 rs0 res0 res1, ImageOfIs r0 d0 r1 s1 d1 rr0 rs0 res0 res1 := ImageOfIs_ex r0 d0 r1 s1 d1 _b0 _o0 hl0 hl1
  have hlr0 := ImageOfIs_len HRES _b0 _o0 hl0 hl1
  have HRES := Lib.hid HRES
  have hh88 := m0
  have hh89 := m1
  go_enter Tryz.func3, Tryz.ntmps3
  have md90 : Mid 0 0 w (w.alloc (.cells #[.int .i64 r0, .slice A0 d0.length c0] 24)) := Mid.alloc _ _
  have h91 := RSS.mid hh88 md90 (Or.inl (Nat.zero_le _))
  clear hh88
  have h92 := RG.mid hh89 md90 (Or.inl (Nat.zero_le _))
  clear hh89
  have b93 := below_mid (Below.refl w.heap.size w) (Nat.le_refl w.heap.size) md90 (Or.inr rfl)
  have z94 := b93.size
  have y95 := md90.size
  have bx96 := Box.new w #[.int .i64 r0, .slice A0 d0.length c0] 24
  have y97 : w.heap.size + 1 ≤ (w.alloc (.cells #[.int .i64 r0, .slice A0 d0.length c0] 24)).heap.size := (by simp)
  have md98 : Mid 0 0 (w.alloc (.cells #[.int .i64 r0, .slice A0 d0.length c0] 24)) ((w.alloc (.cells #[.int .i64 r0, .slice A0 d0.length c0] 24)).alloc (.cells #[.int .i64 r1, .int .i64 s1, .slice A1 d1.length c1] 27)) := Mid.alloc _ _
  have bx99 := bx96.mid md98 (Or.inr (Nat.zero_le _))
  clear bx96
  have h100 := RSS.mid h91 md98 (Or.inl (Nat.zero_le _))
  clear h91
  have h101 := RG.mid h92 md98 (Or.inl (Nat.zero_le _))
  clear h92
  have b102 := below_mid b93 z94 md98 (Or.inr rfl)
  have z103 := b102.size
  have y104 := md98.size
  have bx105 := Box.new (w.alloc (.cells #[.int .i64 r0, .slice A0 d0.length c0] 24)) #[.int .i64 r1, .int .i64 s1, .slice A1 d1.length c1] 27
  have y106 : (w.alloc (.cells #[.int .i64 r0, .slice A0 d0.length c0] 24)).heap.size + 1 ≤ ((w.alloc (.cells #[.int .i64 r0, .slice A0 d0.length c0] 24)).alloc (.cells #[.int .i64 r1, .int .i64 s1, .slice A1 d1.length c1] 27)).heap.size := (by simp)
  simp only [World.size_alloc, Nat.add_assoc, Nat.reduceAdd] at bx105
  have k107 := bx99.cell 0 rfl
  have k108 := bx99.cell 1 rfl
  have k109 := bx105.cell 0 rfl
  have k110 := bx105.cell 1 rfl
  have k111 := bx105.cell 2 rfl
  go_wp2_with fail
  with_reducible refine (szMorphism_any _ _ d0 _ 1048576 _ _ _ h100 (OkSS.len _o0) (by omega) (by omega)).mono ?_
  rintro e w4 ⟨rfl, md112⟩
  rw [E0.out]
  have bx113 := bx99.mid md112 (Or.inr (Nat.zero_le _))
  clear bx99
  have h114 := RSS.mid h100 md112 (Or.inl (Nat.zero_le _))
  clear h100
  have bx115 := bx105.mid md112 (Or.inr (Nat.zero_le _))
  clear bx105
  have h116 := RG.mid h101 md112 (Or.inl (Nat.zero_le _))
  clear h101
  have b117 := below_mid b102 z103 md112 (Or.inr rfl)
  have z118 := b117.size
  have y119 := md112.size
  clear k107
  clear k108
  have k120 := bx113.cell 0 rfl
  have k121 := bx113.cell 1 rfl
  clear k109
  clear k110
  clear k111
  have k122 := bx115.cell 0 rfl
  have k123 := bx115.cell 1 rfl
  have k124 := bx115.cell 2 rfl
  go_wp2_with fail
  with_reducible refine (szGraph_any _ _ _ d1 _ z0 _ _l1 (by omega) (by omega)).mono ?_
  rintro e w5 ⟨rfl, md125⟩
  rw [E1.out]
  have bx126 := bx113.mid md125 (Or.inr (Nat.zero_le _))
  clear bx113
  have h127 := RSS.mid h114 md125 (Or.inl (Nat.zero_le _))
  clear h114
  have bx128 := bx115.mid md125 (Or.inr (Nat.zero_le _))
  clear bx115
  have h129 := RG.mid h116 md125 (Or.inl (Nat.zero_le _))
  clear h116
  have b130 := below_mid b117 z118 md125 (Or.inr rfl)
  have z131 := b130.size
  have y132 := md125.size
  clear k120
  clear k121
  have k133 := bx126.cell 0 rfl
  have k134 := bx126.cell 1 rfl
  clear k122
  clear k123
  clear k124
  have k135 := bx128.cell 0 rfl
  have k136 := bx128.cell 1 rfl
  have k137 := bx128.cell 2 rfl
  go_upto_region 8 with fail
  go_cut [6,7] (fun s6 s7 wx => ∃ (g : Nat) (A0' : Option Addr) (c0' : Nat), s6 = .pointer (some ⟨g, 0, none⟩) ∧ s7 = .bool res1 ∧ Box wx g [.int .i64 rr0, .int .i64 rs0, .slice A0' res0.length c0'] ∧ OG wx w5.heap.size (wx.heap.size) A0' c0' res0 ∧ Mid 0 0 w5 wx ∧ w5.heap.size ≤ g)
  case first =>
    have md138 : Mid 0 0 w5 w5.drew := Mid.drew1 _
    have bx139 := bx126.mid md138 (Or.inr (Nat.zero_le _))
    have h140 := RSS.mid h127 md138 (Or.inl (Nat.zero_le _))
    have bx141 := bx128.mid md138 (Or.inr (Nat.zero_le _))
    have h142 := RG.mid h129 md138 (Or.inl (Nat.zero_le _))
    have b143 := below_mid b130 z131 md138 (Or.inr rfl)
    have z144 := b143.size
    have y145 := md138.size
    have k146 := bx139.cell 0 rfl
    have k147 := bx139.cell 1 rfl
    have k148 := bx141.cell 0 rfl
    have k149 := bx141.cell 1 rfl
    have k150 := bx141.cell 2 rfl
    have y151 : w5.drew.heap.size = w5.heap.size := rfl
    go_region_held3 (fun w' => w'.cell? ⟨w.heap.size, 0, none⟩ = some (.int .i64 r0) ∧ w'.cell? ⟨w.heap.size, 1, none⟩ = some (.slice A0 d0.length c0) ∧ w'.cell? ⟨w.heap.size + 1, 0, none⟩ = some (.int .i64 r1) ∧ w'.cell? ⟨w.heap.size + 1, 1, none⟩ = some (.int .i64 s1) ∧ w'.cell? ⟨w.heap.size + 1, 2, none⟩ = some (.slice A1 d1.length c1)) (first | exact ⟨k133, k134, k135, k136, k137⟩ | exact ⟨k146, k147, k148, k149, k150⟩ | exact ⟨k164, k165, k166, k167, k168⟩ | exact ⟨k182, k183, k184, k185, k186⟩ | exact ⟨k202, k203, k204, k205, k206⟩ | exact ⟨(bx192.mid (Mid.alloc _ _) (Or.inr (Nat.zero_le _))).cell 0 rfl, (bx192.mid (Mid.alloc _ _) (Or.inr (Nat.zero_le _))).cell 1 rfl, (bx194.mid (Mid.alloc _ _) (Or.inr (Nat.zero_le _))).cell 0 rfl, (bx194.mid (Mid.alloc _ _) (Or.inr (Nat.zero_le _))).cell 1 rfl, (bx194.mid (Mid.alloc _ _) (Or.inr (Nat.zero_le _))).cell 2 rfl⟩ | exact ⟨(bx173.mid (Mid.alloc _ _) (Or.inr (Nat.zero_le _))).cell 0 rfl, (bx173.mid (Mid.alloc _ _) (Or.inr (Nat.zero_le _))).cell 1 rfl, (bx175.mid (Mid.alloc _ _) (Or.inr (Nat.zero_le _))).cell 0 rfl, (bx175.mid (Mid.alloc _ _) (Or.inr (Nat.zero_le _))).cell 1 rfl, (bx175.mid (Mid.alloc _ _) (Or.inr (Nat.zero_le _))).cell 2 rfl⟩ | exact ⟨k245, k246, k247, k248, k249⟩ | exact ⟨(((bx234.mid (Mid.setCell w9 (lo := w7.heap.size) (hi := w7.heap.size + 1) (p := ⟨w7.heap.size, 0, none⟩) (.int .i64 rr0) (by simp) (by simp)) (by omega)).mid (Mid.setCell (w9.setCell ⟨w7.heap.size, 0, none⟩ (.int .i64 rr0)) (lo := w7.heap.size) (hi := w7.heap.size + 1) (p := ⟨w7.heap.size, 1, none⟩) (.int .i64 rs0) (by simp) (by simp)) (by omega)).mid (Mid.setCell ((w9.setCell ⟨w7.heap.size, 0, none⟩ (.int .i64 rr0)).setCell ⟨w7.heap.size, 1, none⟩ (.int .i64 rs0)) (lo := w7.heap.size) (hi := w7.heap.size + 1) (p := ⟨w7.heap.size, 2, none⟩) (.slice AA230 res0.length cc231) (by simp) (by simp)) (by omega)).cell 0 rfl, (((bx234.mid (Mid.setCell w9 (lo := w7.heap.size) (hi := w7.heap.size + 1) (p := ⟨w7.heap.size, 0, none⟩) (.int .i64 rr0) (by simp) (by simp)) (by omega)).mid (Mid.setCell (w9.setCell ⟨w7.heap.size, 0, none⟩ (.int .i64 rr0)) (lo := w7.heap.size) (hi := w7.heap.size + 1) (p := ⟨w7.heap.size, 1, none⟩) (.int .i64 rs0) (by simp) (by simp)) (by omega)).mid (Mid.setCell ((w9.setCell ⟨w7.heap.size, 0, none⟩ (.int .i64 rr0)).setCell ⟨w7.heap.size, 1, none⟩ (.int .i64 rs0)) (lo := w7.heap.size) (hi := w7.heap.size + 1) (p := ⟨w7.heap.size, 2, none⟩) (.slice AA230 res0.length cc231) (by simp) (by simp)) (by omega)).cell 1 rfl, (((bx236.mid (Mid.setCell w9 (lo := w7.heap.size) (hi := w7.heap.size + 1) (p := ⟨w7.heap.size, 0, none⟩) (.int .i64 rr0) (by simp) (by simp)) (by omega)).mid (Mid.setCell (w9.setCell ⟨w7.heap.size, 0, none⟩ (.int .i64 rr0)) (lo := w7.heap.size) (hi := w7.heap.size + 1) (p := ⟨w7.heap.size, 1, none⟩) (.int .i64 rs0) (by simp) (by simp)) (by omega)).mid (Mid.setCell ((w9.setCell ⟨w7.heap.size, 0, none⟩ (.int .i64 rr0)).setCell ⟨w7.heap.size, 1, none⟩ (.int .i64 rs0)) (lo := w7.heap.size) (hi := w7.heap.size + 1) (p := ⟨w7.heap.size, 2, none⟩) (.slice AA230 res0.length cc231) (by simp) (by simp)) (by omega)).cell 0 rfl, (((bx236.mid (Mid.setCell w9 (lo := w7.heap.size) (hi := w7.heap.size + 1) (p := ⟨w7.heap.size, 0, none⟩) (.int .i64 rr0) (by simp) (by simp)) (by omega)).mid (Mid.setCell (w9.setCell ⟨w7.heap.size, 0, none⟩ (.int .i64 rr0)) (lo := w7.heap.size) (hi := w7.heap.size + 1) (p := ⟨w7.heap.size, 1, none⟩) (.int .i64 rs0) (by simp) (by simp)) (by omega)).mid (Mid.setCell ((w9.setCell ⟨w7.heap.size, 0, none⟩ (.int .i64 rr0)).setCell ⟨w7.heap.size, 1, none⟩ (.int .i64 rs0)) (lo := w7.heap.size) (hi := w7.heap.size + 1) (p := ⟨w7.heap.size, 2, none⟩) (.slice AA230 res0.length cc231) (by simp) (by simp)) (by omega)).cell 1 rfl, (((bx236.mid (Mid.setCell w9 (lo := w7.heap.size) (hi := w7.heap.size + 1) (p := ⟨w7.heap.size, 0, none⟩) (.int .i64 rr0) (by simp) (by simp)) (by omega)).mid (Mid.setCell (w9.setCell ⟨w7.heap.size, 0, none⟩ (.int .i64 rr0)) (lo := w7.heap.size) (hi := w7.heap.size + 1) (p := ⟨w7.heap.size, 1, none⟩) (.int .i64 rs0) (by simp) (by simp)) (by omega)).mid (Mid.setCell ((w9.setCell ⟨w7.heap.size, 0, none⟩ (.int .i64 rr0)).setCell ⟨w7.heap.size, 1, none⟩ (.int .i64 rs0)) (lo := w7.heap.size) (hi := w7.heap.size + 1) (p := ⟨w7.heap.size, 2, none⟩) (.slice AA230 res0.length cc231) (by simp) (by simp)) (by omega)).cell 2 rfl⟩ | exact ⟨(bx156.mid (Mid.alloc _ _) (Or.inr (Nat.zero_le _))).cell 0 rfl, (bx156.mid (Mid.alloc _ _) (Or.inr (Nat.zero_le _))).cell 1 rfl, (bx158.mid (Mid.alloc _ _) (Or.inr (Nat.zero_le _))).cell 0 rfl, (bx158.mid (Mid.alloc _ _) (Or.inr (Nat.zero_le _))).cell 1 rfl, (bx158.mid (Mid.alloc _ _) (Or.inr (Nat.zero_le _))).cell 2 rfl⟩ | exact ⟨k289, k290, k291, k292, k293⟩ | exact ⟨k314, k315, k316, k317, k318⟩ | exact ⟨(((bx303.mid (Mid.setCell w11 (lo := w6.heap.size) (hi := w6.heap.size + 1) (p := ⟨w6.heap.size, 0, none⟩) (.int .i64 rr0) (by simp) (by simp)) (by omega)).mid (Mid.setCell (w11.setCell ⟨w6.heap.size, 0, none⟩ (.int .i64 rr0)) (lo := w6.heap.size) (hi := w6.heap.size + 1) (p := ⟨w6.heap.size, 1, none⟩) (.int .i64 rs0) (by simp) (by simp)) (by omega)).mid (Mid.setCell ((w11.setCell ⟨w6.heap.size, 0, none⟩ (.int .i64 rr0)).setCell ⟨w6.heap.size, 1, none⟩ (.int .i64 rs0)) (lo := w6.heap.size) (hi := w6.heap.size + 1) (p := ⟨w6.heap.size, 2, none⟩) (.slice AA299 res0.length cc300) (by simp) (by simp)) (by omega)).cell 0 rfl, (((bx303.mid (Mid.setCell w11 (lo := w6.heap.size) (hi := w6.heap.size + 1) (p := ⟨w6.heap.size, 0, none⟩) (.int .i64 rr0) (by simp) (by simp)) (by omega)).mid (Mid.setCell (w11.setCell ⟨w6.heap.size, 0, none⟩ (.int .i64 rr0)) (lo := w6.heap.size) (hi := w6.heap.size + 1) (p := ⟨w6.heap.size, 1, none⟩) (.int .i64 rs0) (by simp) (by simp)) (by omega)).mid (Mid.setCell ((w11.setCell ⟨w6.heap.size, 0, none⟩ (.int .i64 rr0)).setCell ⟨w6.heap.size, 1, none⟩ (.int .i64 rs0)) (lo := w6.heap.size) (hi := w6.heap.size + 1) (p := ⟨w6.heap.size, 2, none⟩) (.slice AA299 res0.length cc300) (by simp) (by simp)) (by omega)).cell 1 rfl, (((bx305.mid (Mid.setCell w11 (lo := w6.heap.size) (hi := w6.heap.size + 1) (p := ⟨w6.heap.size, 0, none⟩) (.int .i64 rr0) (by simp) (by simp)) (by omega)).mid (Mid.setCell (w11.setCell ⟨w6.heap.size, 0, none⟩ (.int .i64 rr0)) (lo := w6.heap.size) (hi := w6.heap.size + 1) (p := ⟨w6.heap.size, 1, none⟩) (.int .i64 rs0) (by simp) (by simp)) (by omega)).mid (Mid.setCell ((w11.setCell ⟨w6.heap.size, 0, none⟩ (.int .i64 rr0)).setCell ⟨w6.heap.size, 1, none⟩ (.int .i64 rs0)) (lo := w6.heap.size) (hi := w6.heap.size + 1) (p := ⟨w6.heap.size, 2, none⟩) (.slice AA299 res0.length cc300) (by simp) (by simp)) (by omega)).cell 0 rfl, (((bx305.mid (Mid.setCell w11 (lo := w6.heap.size) (hi := w6.heap.size + 1) (p := ⟨w6.heap.size, 0, none⟩) (.int .i64 rr0) (by simp) (by simp)) (by omega)).mid (Mid.setCell (w11.setCell ⟨w6.heap.size, 0, none⟩ (.int .i64 rr0)) (lo := w6.heap.size) (hi := w6.heap.size + 1) (p := ⟨w6.heap.size, 1, none⟩) (.int .i64 rs0) (by simp) (by simp)) (by omega)).mid (Mid.setCell ((w11.setCell ⟨w6.heap.size, 0, none⟩ (.int .i64 rr0)).setCell ⟨w6.heap.size, 1, none⟩ (.int .i64 rs0)) (lo := w6.heap.size) (hi := w6.heap.size + 1) (p := ⟨w6.heap.size, 2, none⟩) (.slice AA299 res0.length cc300) (by simp) (by simp)) (by omega)).cell 1 rfl, (((bx305.mid (Mid.setCell w11 (lo := w6.heap.size) (hi := w6.heap.size + 1) (p := ⟨w6.heap.size, 0, none⟩) (.int .i64 rr0) (by simp) (by simp)) (by omega)).mid (Mid.setCell (w11.setCell ⟨w6.heap.size, 0, none⟩ (.int .i64 rr0)) (lo := w6.heap.size) (hi := w6.heap.size + 1) (p := ⟨w6.heap.size, 1, none⟩) (.int .i64 rs0) (by simp) (by simp)) (by omega)).mid (Mid.setCell ((w11.setCell ⟨w6.heap.size, 0, none⟩ (.int .i64 rr0)).setCell ⟨w6.heap.size, 1, none⟩ (.int .i64 rs0)) (lo := w6.heap.size) (hi := w6.heap.size + 1) (p := ⟨w6.heap.size, 2, none⟩) (.slice AA299 res0.length cc300) (by simp) (by simp)) (by omega)).cell 2 rfl⟩ | exact ⟨(bx126.mid (Mid.alloc _ _) (Or.inr (Nat.zero_le _))).cell 0 rfl, (bx126.mid (Mid.alloc _ _) (Or.inr (Nat.zero_le _))).cell 1 rfl, (bx128.mid (Mid.alloc _ _) (Or.inr (Nat.zero_le _))).cell 0 rfl, (bx128.mid (Mid.alloc _ _) (Or.inr (Nat.zero_le _))).cell 1 rfl, (bx128.mid (Mid.alloc _ _) (Or.inr (Nat.zero_le _))).cell 2 rfl⟩ | exact ⟨bx325.cell 0 rfl, bx325.cell 1 rfl, bx327.cell 0 rfl, bx327.cell 1 rfl, bx327.cell 2 rfl⟩ | exact ⟨k356, k357, k358, k359, k360⟩ | exact ⟨k379, k380, k381, k382, k383⟩ | exact ⟨k404, k405, k406, k407, k408⟩ | exact ⟨(((bx393.mid (Mid.setCell w14 (lo := w5.heap.size) (hi := w5.heap.size + 1) (p := ⟨w5.heap.size, 0, none⟩) (.int .i64 rr0) (by simp) (by simp)) (by omega)).mid (Mid.setCell (w14.setCell ⟨w5.heap.size, 0, none⟩ (.int .i64 rr0)) (lo := w5.heap.size) (hi := w5.heap.size + 1) (p := ⟨w5.heap.size, 1, none⟩) (.int .i64 rs0) (by simp) (by simp)) (by omega)).mid (Mid.setCell ((w14.setCell ⟨w5.heap.size, 0, none⟩ (.int .i64 rr0)).setCell ⟨w5.heap.size, 1, none⟩ (.int .i64 rs0)) (lo := w5.heap.size) (hi := w5.heap.size + 1) (p := ⟨w5.heap.size, 2, none⟩) (.slice AA389 res0.length cc390) (by simp) (by simp)) (by omega)).cell 0 rfl, (((bx393.mid (Mid.setCell w14 (lo := w5.heap.size) (hi := w5.heap.size + 1) (p := ⟨w5.heap.size, 0, none⟩) (.int .i64 rr0) (by simp) (by simp)) (by omega)).mid (Mid.setCell (w14.setCell ⟨w5.heap.size, 0, none⟩ (.int .i64 rr0)) (lo := w5.heap.size) (hi := w5.heap.size + 1) (p := ⟨w5.heap.size, 1, none⟩) (.int .i64 rs0) (by simp) (by simp)) (by omega)).mid (Mid.setCell ((w14.setCell ⟨w5.heap.size, 0, none⟩ (.int .i64 rr0)).setCell ⟨w5.heap.size, 1, none⟩ (.int .i64 rs0)) (lo := w5.heap.size) (hi := w5.heap.size + 1) (p := ⟨w5.heap.size, 2, none⟩) (.slice AA389 res0.length cc390) (by simp) (by simp)) (by omega)).cell 1 rfl, (((bx395.mid (Mid.setCell w14 (lo := w5.heap.size) (hi := w5.heap.size + 1) (p := ⟨w5.heap.size, 0, none⟩) (.int .i64 rr0) (by simp) (by simp)) (by omega)).mid (Mid.setCell (w14.setCell ⟨w5.heap.size, 0, none⟩ (.int .i64 rr0)) (lo := w5.heap.size) (hi := w5.heap.size + 1) (p := ⟨w5.heap.size, 1, none⟩) (.int .i64 rs0) (by simp) (by simp)) (by omega)).mid (Mid.setCell ((w14.setCell ⟨w5.heap.size, 0, none⟩ (.int .i64 rr0)).setCell ⟨w5.heap.size, 1, none⟩ (.int .i64 rs0)) (lo := w5.heap.size) (hi := w5.heap.size + 1) (p := ⟨w5.heap.size, 2, none⟩) (.slice AA389 res0.length cc390) (by simp) (by simp)) (by omega)).cell 0 rfl, (((bx395.mid (Mid.setCell w14 (lo := w5.heap.size) (hi := w5.heap.size + 1) (p := ⟨w5.heap.size, 0, none⟩) (.int .i64 rr0) (by simp) (by simp)) (by omega)).mid (Mid.setCell (w14.setCell ⟨w5.heap.size, 0, none⟩ (.int .i64 rr0)) (lo := w5.heap.size) (hi := w5.heap.size + 1) (p := ⟨w5.heap.size, 1, none⟩) (.int .i64 rs0) (by simp) (by simp)) (by omega)).mid (Mid.setCell ((w14.setCell ⟨w5.heap.size, 0, none⟩ (.int .i64 rr0)).setCell ⟨w5.heap.size, 1, none⟩ (.int .i64 rs0)) (lo := w5.heap.size) (hi := w5.heap.size + 1) (p := ⟨w5.heap.size, 2, none⟩) (.slice AA389 res0.length cc390) (by simp) (by simp)) (by omega)).cell 1 rfl, (((bx395.mid (Mid.setCell w14 (lo := w5.heap.size) (hi := w5.heap.size + 1) (p := ⟨w5.heap.size, 0, none⟩) (.int .i64 rr0) (by simp) (by simp)) (by omega)).mid (Mid.setCell (w14.setCell ⟨w5.heap.size, 0, none⟩ (.int .i64 rr0)) (lo := w5.heap.size) (hi := w5.heap.size + 1) (p := ⟨w5.heap.size, 1, none⟩) (.int .i64 rs0) (by simp) (by simp)) (by omega)).mid (Mid.setCell ((w14.setCell ⟨w5.heap.size, 0, none⟩ (.int .i64 rr0)).setCell ⟨w5.heap.size, 1, none⟩ (.int .i64 rs0)) (lo := w5.heap.size) (hi := w5.heap.size + 1) (p := ⟨w5.heap.size, 2, none⟩) (.slice AA389 res0.length cc390) (by simp) (by simp)) (by omega)).cell 2 rfl⟩) (first | (go_at_call 7; with_reducible refine (toMorphism_any r0 _ d0 _ _ _ _ h140 hl0).mono ?_; rintro e w6 ⟨AA152, cc153, rfl, h154, md155⟩; have bx156 := bx139.mid md155 (Or.inr (Nat.zero_le _)); have h157 := RSS.mid h140 md155 (Or.inl (Nat.zero_le _)); have bx158 := bx141.mid md155 (Or.inr (Nat.zero_le _)); have h159 := RG.mid h142 md155 (Or.inl (Nat.zero_le _)); have b160 := below_mid b143 z144 md155 (Or.inr rfl); have z161 := b160.size; have y162 := md155.size; have tt163 := md138.trans md155; have k164 := bx156.cell 0 rfl; have k165 := bx156.cell 1 rfl; have k166 := bx158.cell 0 rfl; have k167 := bx158.cell 1 rfl; have k168 := bx158.cell 2 rfl) | (go_at_call 8; with_reducible refine (toGraph_any r1 s1 _ d1 _ _ _ _ h159 hl1).mono ?_; rintro e w7 ⟨AA169, cc170, rfl, h171, md172⟩; have bx173 := bx156.mid md172 (Or.inr (Nat.zero_le _)); have h174 := RSS.mid h157 md172 (Or.inl (Nat.zero_le _)); have bx175 := bx158.mid md172 (Or.inr (Nat.zero_le _)); have h176 := RG.mid h159 md172 (Or.inl (Nat.zero_le _)); have h177 := OSS.mid h154 md172 (Or.inl (Nat.zero_le _)); have b178 := below_mid b160 z161 md172 (Or.inr rfl); have z179 := b178.size; have y180 := md172.size; have tt181 := tt163.trans md172; have k182 := bx173.cell 0 rfl; have k183 := bx173.cell 1 rfl; have k184 := bx175.cell 0 rfl; have k185 := bx175.cell 1 rfl; have k186 := bx175.cell 2 rfl) | (go_at_call 6; with_reducible refine (sspec_ImageOf r0 _ d0 _ r1 s1 _ d1 _ _ _ _ h177 _b0 _o0 hl0 _ _ h171  hl1 rr0 rs0 res0 res1 HRES.out).mono ?_; rintro e w8 ⟨AA188, cc189, rfl, h190, md187⟩; have bx192 := bx173.mid md187 (Or.inr (Nat.zero_le _)); have h193 := RSS.mid h174 md187 (Or.inl (Nat.zero_le _)); have bx194 := bx175.mid md187 (Or.inr (Nat.zero_le _)); have h195 := RG.mid h176 md187 (Or.inl (Nat.zero_le _)); have h196 := OSS.mid h177 md187 (Or.inl (Nat.zero_le _)); have h197 := OG.mid h171 md187 (Or.inl (Nat.zero_le _)); have b198 := below_mid b178 z179 md187 (Or.inr rfl); have z199 := b198.size; have y200 := md187.size; have tt201 := tt181.trans md187; have k202 := bx192.cell 0 rfl; have k203 := bx192.cell 1 rfl; have k204 := bx194.cell 0 rfl; have k205 := bx194.cell 1 rfl; have k206 := bx194.cell 2 rfl) | (go_at_call 6; have md207 : Mid 0 0 w7 (w7.alloc (.cells #[.int .i64 0, .int .i64 0, .slice none 0 0] 32)) := Mid.alloc _ _; have bx208 := bx173.mid md207 (Or.inr (Nat.zero_le _)); have h209 := RSS.mid h174 md207 (Or.inl (Nat.zero_le _)); have bx210 := bx175.mid md207 (Or.inr (Nat.zero_le _)); have h211 := RG.mid h176 md207 (Or.inl (Nat.zero_le _)); have h212 := OSS.mid h177 md207 (Or.inl (Nat.zero_le _)); have h213 := OG.mid h171 md207 (Or.inl (Nat.zero_le _)); have b214 := below_mid b178 z179 md207 (Or.inr rfl); have z215 := b214.size; have y216 := md207.size; have tt217 := tt181.trans md207; have bz218 : Box (w7.alloc (.cells #[.int .i64 0, .int .i64 0, .slice none 0 0] 32)) (w7.heap.size) [.int .i64 0, .int .i64 0, .slice none 0 0] := Box.new w7 #[.int .i64 0, .int .i64 0, .slice none 0 0] 32; have y219 : w7.heap.size + 1 ≤ (w7.alloc (.cells #[.int .i64 0, .int .i64 0, .slice none 0 0] 32)).heap.size := (by simp); have k220 := bx208.cell 0 rfl; have k221 := bx208.cell 1 rfl; have k222 := bx210.cell 0 rfl; have k223 := bx210.cell 1 rfl; have k224 := bx210.cell 2 rfl; have k225 := bz218.cell 0 rfl; have k226 := bz218.cell 1 rfl; have k227 := bz218.cell 2 rfl; have f228 := frz_ImageOf bz218; with_reducible refine (sspec_ImageOf r0 _ d0 _ r1 s1 _ d1 _ _ _ _ h212 _b0 _o0 hl0 _ _ h213  hl1 rr0 rs0 res0 res1 HRES.out).mono ?_; rintro e w9 ⟨AA230, cc231, rfl, h232, md229⟩; have bx234 := bx208.mid md229 (Or.inr (Nat.zero_le _)); have h235 := RSS.mid h209 md229 (Or.inl (Nat.zero_le _)); have bx236 := bx210.mid md229 (Or.inr (Nat.zero_le _)); have h237 := RG.mid h211 md229 (Or.inl (Nat.zero_le _)); have h238 := OSS.mid h212 md229 (Or.inl (Nat.zero_le _)); have h239 := OG.mid h213 md229 (Or.inl (Nat.zero_le _)); have bx240 := bz218.mid md229 (Or.inr (Nat.zero_le _)); have b241 := below_mid b214 z215 md229 (Or.inr rfl); have z242 := b241.size; have y243 := md229.size; have tt244 := tt217.trans md229; have k245 := bx234.cell 0 rfl; have k246 := bx234.cell 1 rfl; have k247 := bx236.cell 0 rfl; have k248 := bx236.cell 1 rfl; have k249 := bx236.cell 2 rfl; have k250 := bx240.cell 0 rfl; have k251 := bx240.cell 1 rfl; have k252 := bx240.cell 2 rfl; have f253 := frz_ImageOf bx240) | (go_at_call 8; have md254 : Mid 0 0 w6 (w6.alloc (.cells #[.int .i64 0, .int .i64 0, .slice none 0 0] 32)) := Mid.alloc _ _; have bx255 := bx156.mid md254 (Or.inr (Nat.zero_le _)); have h256 := RSS.mid h157 md254 (Or.inl (Nat.zero_le _)); have bx257 := bx158.mid md254 (Or.inr (Nat.zero_le _)); have h258 := RG.mid h159 md254 (Or.inl (Nat.zero_le _)); have h259 := OSS.mid h154 md254 (Or.inl (Nat.zero_le _)); have b260 := below_mid b160 z161 md254 (Or.inr rfl); have z261 := b260.size; have y262 := md254.size; have tt263 := tt163.trans md254; have bz264 : Box (w6.alloc (.cells #[.int .i64 0, .int .i64 0, .slice none 0 0] 32)) (w6.heap.size) [.int .i64 0, .int .i64 0, .slice none 0 0] := Box.new w6 #[.int .i64 0, .int .i64 0, .slice none 0 0] 32; have y265 : w6.heap.size + 1 ≤ (w6.alloc (.cells #[.int .i64 0, .int .i64 0, .slice none 0 0] 32)).heap.size := (by simp); have k266 := bx255.cell 0 rfl; have k267 := bx255.cell 1 rfl; have k268 := bx257.cell 0 rfl; have k269 := bx257.cell 1 rfl; have k270 := bx257.cell 2 rfl; have k271 := bz264.cell 0 rfl; have k272 := bz264.cell 1 rfl; have k273 := bz264.cell 2 rfl; have f274 := frz_ImageOf bz264; with_reducible refine (toGraph_any r1 s1 _ d1 _ _ _ _ h258 hl1).mono ?_; rintro e w10 ⟨AA275, cc276, rfl, h277, md278⟩; have bx279 := bx255.mid md278 (Or.inr (Nat.zero_le _)); have h280 := RSS.mid h256 md278 (Or.inl (Nat.zero_le _)); have bx281 := bx257.mid md278 (Or.inr (Nat.zero_le _)); have h282 := RG.mid h258 md278 (Or.inl (Nat.zero_le _)); have h283 := OSS.mid h259 md278 (Or.inl (Nat.zero_le _)); have bx284 := bz264.mid md278 (Or.inr (Nat.zero_le _)); have b285 := below_mid b260 z261 md278 (Or.inr rfl); have z286 := b285.size; have y287 := md278.size; have tt288 := tt263.trans md278; have k289 := bx279.cell 0 rfl; have k290 := bx279.cell 1 rfl; have k291 := bx281.cell 0 rfl; have k292 := bx281.cell 1 rfl; have k293 := bx281.cell 2 rfl; have k294 := bx284.cell 0 rfl; have k295 := bx284.cell 1 rfl; have k296 := bx284.cell 2 rfl; have f297 := frz_ImageOf bx284) | (go_at_call 6; with_reducible refine (sspec_ImageOf r0 _ d0 _ r1 s1 _ d1 _ _ _ _ h283 _b0 _o0 hl0 _ _ h277  hl1 rr0 rs0 res0 res1 HRES.out).mono ?_; rintro e w11 ⟨AA299, cc300, rfl, h301, md298⟩; have bx303 := bx279.mid md298 (Or.inr (Nat.zero_le _)); have h304 := RSS.mid h280 md298 (Or.inl (Nat.zero_le _)); have bx305 := bx281.mid md298 (Or.inr (Nat.zero_le _)); have h306 := RG.mid h282 md298 (Or.inl (Nat.zero_le _)); have h307 := OSS.mid h283 md298 (Or.inl (Nat.zero_le _)); have bx308 := bx284.mid md298 (Or.inr (Nat.zero_le _)); have h309 := OG.mid h277 md298 (Or.inl (Nat.zero_le _)); have b310 := below_mid b285 z286 md298 (Or.inr rfl); have z311 := b310.size; have y312 := md298.size; have tt313 := tt288.trans md298; have k314 := bx303.cell 0 rfl; have k315 := bx303.cell 1 rfl; have k316 := bx305.cell 0 rfl; have k317 := bx305.cell 1 rfl; have k318 := bx305.cell 2 rfl; have k319 := bx308.cell 0 rfl; have k320 := bx308.cell 1 rfl; have k321 := bx308.cell 2 rfl; have f322 := frz_ImageOf bx308) | (go_at_call 7; have md323 : Mid 0 0 w5 (w5.alloc (.cells #[.int .i64 0, .int .i64 0, .slice none 0 0] 32)) := Mid.alloc _ _; have md324 : Mid 0 0 w5 (w5.alloc (.cells #[.int .i64 0, .int .i64 0, .slice none 0 0] 32)).drew := md323.trans (Mid.drew1 _); have bx325 := bx126.mid md324 (Or.inr (Nat.zero_le _)); have h326 := RSS.mid h127 md324 (Or.inl (Nat.zero_le _)); have bx327 := bx128.mid md324 (Or.inr (Nat.zero_le _)); have h328 := RG.mid h129 md324 (Or.inl (Nat.zero_le _)); have b329 := below_mid b130 z131 md324 (Or.inr rfl); have z330 := b329.size; have y331 := md324.size; have bz332 : Box (w5.alloc (.cells #[.int .i64 0, .int .i64 0, .slice none 0 0] 32)).drew (w5.heap.size) [.int .i64 0, .int .i64 0, .slice none 0 0] := Box.new w5 #[.int .i64 0, .int .i64 0, .slice none 0 0] 32; have y333 : w5.heap.size + 1 ≤ (w5.alloc (.cells #[.int .i64 0, .int .i64 0, .slice none 0 0] 32)).drew.heap.size := (by simp); have k334 := bx325.cell 0 rfl; have k335 := bx325.cell 1 rfl; have k336 := bx327.cell 0 rfl; have k337 := bx327.cell 1 rfl; have k338 := bx327.cell 2 rfl; have k339 := bz332.cell 0 rfl; have k340 := bz332.cell 1 rfl; have k341 := bz332.cell 2 rfl; have f342 := frz_ImageOf bz332; with_reducible refine (toMorphism_any r0 _ d0 _ _ _ _ h326 hl0).mono ?_; rintro e w12 ⟨AA343, cc344, rfl, h345, md346⟩; have bx347 := bx325.mid md346 (Or.inr (Nat.zero_le _)); have h348 := RSS.mid h326 md346 (Or.inl (Nat.zero_le _)); have bx349 := bx327.mid md346 (Or.inr (Nat.zero_le _)); have h350 := RG.mid h328 md346 (Or.inl (Nat.zero_le _)); have bx351 := bz332.mid md346 (Or.inr (Nat.zero_le _)); have b352 := below_mid b329 z330 md346 (Or.inr rfl); have z353 := b352.size; have y354 := md346.size; have tt355 := md324.trans md346; have k356 := bx347.cell 0 rfl; have k357 := bx347.cell 1 rfl; have k358 := bx349.cell 0 rfl; have k359 := bx349.cell 1 rfl; have k360 := bx349.cell 2 rfl; have k361 := bx351.cell 0 rfl; have k362 := bx351.cell 1 rfl; have k363 := bx351.cell 2 rfl; have f364 := frz_ImageOf bx351) | (go_at_call 8; with_reducible refine (toGraph_any r1 s1 _ d1 _ _ _ _ h350 hl1).mono ?_; rintro e w13 ⟨AA365, cc366, rfl, h367, md368⟩; have bx369 := bx347.mid md368 (Or.inr (Nat.zero_le _)); have h370 := RSS.mid h348 md368 (Or.inl (Nat.zero_le _)); have bx371 := bx349.mid md368 (Or.inr (Nat.zero_le _)); have h372 := RG.mid h350 md368 (Or.inl (Nat.zero_le _)); have bx373 := bx351.mid md368 (Or.inr (Nat.zero_le _)); have h374 := OSS.mid h345 md368 (Or.inl (Nat.zero_le _)); have b375 := below_mid b352 z353 md368 (Or.inr rfl); have z376 := b375.size; have y377 := md368.size; have tt378 := tt355.trans md368; have k379 := bx369.cell 0 rfl; have k380 := bx369.cell 1 rfl; have k381 := bx371.cell 0 rfl; have k382 := bx371.cell 1 rfl; have k383 := bx371.cell 2 rfl; have k384 := bx373.cell 0 rfl; have k385 := bx373.cell 1 rfl; have k386 := bx373.cell 2 rfl; have f387 := frz_ImageOf bx373) | (go_at_call 6; with_reducible refine (sspec_ImageOf r0 _ d0 _ r1 s1 _ d1 _ _ _ _ h374 _b0 _o0 hl0 _ _ h367  hl1 rr0 rs0 res0 res1 HRES.out).mono ?_; rintro e w14 ⟨AA389, cc390, rfl, h391, md388⟩; have bx393 := bx369.mid md388 (Or.inr (Nat.zero_le _)); have h394 := RSS.mid h370 md388 (Or.inl (Nat.zero_le _)); have bx395 := bx371.mid md388 (Or.inr (Nat.zero_le _)); have h396 := RG.mid h372 md388 (Or.inl (Nat.zero_le _)); have bx397 := bx373.mid md388 (Or.inr (Nat.zero_le _)); have h398 := OSS.mid h374 md388 (Or.inl (Nat.zero_le _)); have h399 := OG.mid h367 md388 (Or.inl (Nat.zero_le _)); have b400 := below_mid b375 z376 md388 (Or.inr rfl); have z401 := b400.size; have y402 := md388.size; have tt403 := tt378.trans md388; have k404 := bx393.cell 0 rfl; have k405 := bx393.cell 1 rfl; have k406 := bx395.cell 0 rfl; have k407 := bx395.cell 1 rfl; have k408 := bx395.cell 2 rfl; have k409 := bx397.cell 0 rfl; have k410 := bx397.cell 1 rfl; have k411 := bx397.cell 2 rfl; have f412 := frz_ImageOf bx397))
    all_goals (go_wp2_with fail; go_meet; first | exact ⟨w8.heap.size, AA188, cc189, rfl, rfl, Box.new w8 #[.int .i64 rr0, .int .i64 rs0, .slice AA188 res0.length cc189] 32, OG.wide (OG.mid h190 (Mid.alloc w8 (.cells #[.int .i64 rr0, .int .i64 rs0, .slice AA188 res0.length cc189] 32)) (Or.inl (Nat.zero_le _))) (by omega) (by simp) (Nat.le_refl _), tt201.trans (Mid.alloc w8 (.cells #[.int .i64 rr0, .int .i64 rs0, .slice AA188 res0.length cc189] 32)), by omega⟩ | exact ⟨w7.heap.size, AA230, cc231, rfl, rfl, (((bx240.set 0 _ (by simp) rfl).set 1 _ (by simp) rfl).set 2 _ (by simp) rfl), OG.wide (OG.mid (OG.mid (OG.mid h232 (Mid.setCell w9 (lo := w7.heap.size) (hi := w7.heap.size + 1) (p := ⟨w7.heap.size, 0, none⟩) (.int .i64 rr0) (by simp) (by simp)) (by omega)) (Mid.setCell (w9.setCell ⟨w7.heap.size, 0, none⟩ (.int .i64 rr0)) (lo := w7.heap.size) (hi := w7.heap.size + 1) (p := ⟨w7.heap.size, 1, none⟩) (.int .i64 rs0) (by simp) (by simp)) (by omega)) (Mid.setCell ((w9.setCell ⟨w7.heap.size, 0, none⟩ (.int .i64 rr0)).setCell ⟨w7.heap.size, 1, none⟩ (.int .i64 rs0)) (lo := w7.heap.size) (hi := w7.heap.size + 1) (p := ⟨w7.heap.size, 2, none⟩) (.slice AA230 res0.length cc231) (by simp) (by simp)) (by omega)) (by omega) (by simp) (Nat.le_refl _), (((tt244.storeNew (by simp <;> omega) _).storeNew (by simp <;> omega) _).storeNew (by simp <;> omega) _), by omega⟩ | exact ⟨w6.heap.size, AA299, cc300, rfl, rfl, (((bx308.set 0 _ (by simp) rfl).set 1 _ (by simp) rfl).set 2 _ (by simp) rfl), OG.wide (OG.mid (OG.mid (OG.mid h301 (Mid.setCell w11 (lo := w6.heap.size) (hi := w6.heap.size + 1) (p := ⟨w6.heap.size, 0, none⟩) (.int .i64 rr0) (by simp) (by simp)) (by omega)) (Mid.setCell (w11.setCell ⟨w6.heap.size, 0, none⟩ (.int .i64 rr0)) (lo := w6.heap.size) (hi := w6.heap.size + 1) (p := ⟨w6.heap.size, 1, none⟩) (.int .i64 rs0) (by simp) (by simp)) (by omega)) (Mid.setCell ((w11.setCell ⟨w6.heap.size, 0, none⟩ (.int .i64 rr0)).setCell ⟨w6.heap.size, 1, none⟩ (.int .i64 rs0)) (lo := w6.heap.size) (hi := w6.heap.size + 1) (p := ⟨w6.heap.size, 2, none⟩) (.slice AA299 res0.length cc300) (by simp) (by simp)) (by omega)) (by omega) (by simp) (Nat.le_refl _), (((tt313.storeNew (by simp <;> omega) _).storeNew (by simp <;> omega) _).storeNew (by simp <;> omega) _), by omega⟩ | exact ⟨w5.heap.size, AA389, cc390, rfl, rfl, (((bx397.set 0 _ (by simp) rfl).set 1 _ (by simp) rfl).set 2 _ (by simp) rfl), OG.wide (OG.mid (OG.mid (OG.mid h391 (Mid.setCell w14 (lo := w5.heap.size) (hi := w5.heap.size + 1) (p := ⟨w5.heap.size, 0, none⟩) (.int .i64 rr0) (by simp) (by simp)) (by omega)) (Mid.setCell (w14.setCell ⟨w5.heap.size, 0, none⟩ (.int .i64 rr0)) (lo := w5.heap.size) (hi := w5.heap.size + 1) (p := ⟨w5.heap.size, 1, none⟩) (.int .i64 rs0) (by simp) (by simp)) (by omega)) (Mid.setCell ((w14.setCell ⟨w5.heap.size, 0, none⟩ (.int .i64 rr0)).setCell ⟨w5.heap.size, 1, none⟩ (.int .i64 rs0)) (lo := w5.heap.size) (hi := w5.heap.size + 1) (p := ⟨w5.heap.size, 2, none⟩) (.slice AA389 res0.length cc390) (by simp) (by simp)) (by omega)) (by omega) (by simp) (Nat.le_refl _), (((tt403.storeNew (by simp <;> omega) _).storeNew (by simp <;> omega) _).storeNew (by simp <;> omega) _), by omega⟩)
  case rest =>
    obtain ⟨g413, AA418, cc419, rfl, rfl, bx414, h415, md416, y417⟩ := hcut
    obtain ⟨w15, rfl⟩ : ∃ x, x = wc := ⟨_, rfl⟩
    have bx420 := bx126.mid md416 (Or.inr (Nat.zero_le _))
    clear bx126
    have h421 := RSS.mid h127 md416 (Or.inl (Nat.zero_le _))
    clear h127
    have bx422 := bx128.mid md416 (Or.inr (Nat.zero_le _))
    clear bx128
    have h423 := RG.mid h129 md416 (Or.inl (Nat.zero_le _))
    clear h129
    have b424 := below_mid b130 z131 md416 (Or.inr rfl)
    have z425 := b424.size
    have y426 := md416.size
    have y427 := bx414.1
    clear k133
    clear k134
    have k428 := bx420.cell 0 rfl
    have k429 := bx420.cell 1 rfl
    clear k135
    clear k136
    clear k137
    have k430 := bx422.cell 0 rfl
    have k431 := bx422.cell 1 rfl
    have k432 := bx422.cell 2 rfl
    have k433 := bx414.cell 0 rfl
    have k434 := bx414.cell 1 rfl
    have k435 := bx414.cell 2 rfl
    go_wp2_with fail
    with_reducible refine (toMorphism_any r0 _ d0 _ _ _ _ h421 hl0).mono ?_
    rintro e w16 ⟨AA436, cc437, rfl, h438, md439⟩
    have bx440 := bx420.mid md439 (Or.inr (Nat.zero_le _))
    clear bx420
    have h441 := RSS.mid h421 md439 (Or.inl (Nat.zero_le _))
    clear h421
    have bx442 := bx422.mid md439 (Or.inr (Nat.zero_le _))
    clear bx422
    have h443 := RG.mid h423 md439 (Or.inl (Nat.zero_le _))
    clear h423
    have bx444 := bx414.mid md439 (Or.inr (Nat.zero_le _))
    clear bx414
    have h445 := OG.mid h415 md439 (Or.inl (Nat.zero_le _))
    clear h415
    have b446 := below_mid b424 z425 md439 (Or.inr rfl)
    have z447 := b446.size
    have y448 := md439.size
    clear k428
    clear k429
    have k449 := bx440.cell 0 rfl
    have k450 := bx440.cell 1 rfl
    clear k430
    clear k431
    clear k432
    have k451 := bx442.cell 0 rfl
    have k452 := bx442.cell 1 rfl
    have k453 := bx442.cell 2 rfl
    clear k433
    clear k434
    clear k435
    have k454 := bx444.cell 0 rfl
    have k455 := bx444.cell 1 rfl
    have k456 := bx444.cell 2 rfl
    have md457 : Mid 0 0 w16 (w16.alloc (.cells #[.int .i64 r0, .slice AA436 d0.length cc437] 35)) := Mid.alloc _ _
    have bx458 := bx440.mid md457 (Or.inr (Nat.zero_le _))
    clear bx440
    have h459 := RSS.mid h441 md457 (Or.inl (Nat.zero_le _))
    clear h441
    have bx460 := bx442.mid md457 (Or.inr (Nat.zero_le _))
    clear bx442
    have h461 := RG.mid h443 md457 (Or.inl (Nat.zero_le _))
    clear h443
    have bx462 := bx444.mid md457 (Or.inr (Nat.zero_le _))
    clear bx444
    have h463 := OG.mid h445 md457 (Or.inl (Nat.zero_le _))
    clear h445
    have h464 := OSS.mid h438 md457 (Or.inl (Nat.zero_le _))
    clear h438
    have b465 := below_mid b446 z447 md457 (Or.inr rfl)
    have z466 := b465.size
    have y467 := md457.size
    have bx468 := Box.new w16 #[.int .i64 r0, .slice AA436 d0.length cc437] 35
    have y469 : w16.heap.size + 1 ≤ (w16.alloc (.cells #[.int .i64 r0, .slice AA436 d0.length cc437] 35)).heap.size := (by simp)
    clear k449
    clear k450
    have k470 := bx458.cell 0 rfl
    have k471 := bx458.cell 1 rfl
    clear k451
    clear k452
    clear k453
    have k472 := bx460.cell 0 rfl
    have k473 := bx460.cell 1 rfl
    have k474 := bx460.cell 2 rfl
    clear k454
    clear k455
    clear k456
    have k475 := bx462.cell 0 rfl
    have k476 := bx462.cell 1 rfl
    have k477 := bx462.cell 2 rfl
    have k478 := bx468.cell 0 rfl
    have k479 := bx468.cell 1 rfl
    go_wp2_with fail
    with_reducible refine (toGraph_any r1 s1 _ d1 _ _ _ _ h461 hl1).mono ?_
    rintro e w17 ⟨AA480, cc481, rfl, h482, md483⟩
    have bx484 := bx458.mid md483 (Or.inr (Nat.zero_le _))
    clear bx458
    have h485 := RSS.mid h459 md483 (Or.inl (Nat.zero_le _))
    clear h459
    have bx486 := bx460.mid md483 (Or.inr (Nat.zero_le _))
    clear bx460
    have h487 := RG.mid h461 md483 (Or.inl (Nat.zero_le _))
    clear h461
    have bx488 := bx462.mid md483 (Or.inr (Nat.zero_le _))
    clear bx462
    have h489 := OG.mid h463 md483 (Or.inl (Nat.zero_le _))
    clear h463
    have bx490 := bx468.mid md483 (Or.inr (Nat.zero_le _))
    clear bx468
    have h491 := OSS.mid h464 md483 (Or.inl (Nat.zero_le _))
    clear h464
    have b492 := below_mid b465 z466 md483 (Or.inr rfl)
    have z493 := b492.size
    have y494 := md483.size
    clear k470
    clear k471
    have k495 := bx484.cell 0 rfl
    have k496 := bx484.cell 1 rfl
    clear k472
    clear k473
    clear k474
    have k497 := bx486.cell 0 rfl
    have k498 := bx486.cell 1 rfl
    have k499 := bx486.cell 2 rfl
    clear k475
    clear k476
    clear k477
    have k500 := bx488.cell 0 rfl
    have k501 := bx488.cell 1 rfl
    have k502 := bx488.cell 2 rfl
    clear k478
    clear k479
    have k503 := bx490.cell 0 rfl
    have k504 := bx490.cell 1 rfl
    have md505 : Mid 0 0 w17 (w17.alloc (.cells #[.int .i64 r1, .int .i64 s1, .slice AA480 d1.length cc481] 32)) := Mid.alloc _ _
    have bx506 := bx484.mid md505 (Or.inr (Nat.zero_le _))
    clear bx484
    have h507 := RSS.mid h485 md505 (Or.inl (Nat.zero_le _))
    clear h485
    have bx508 := bx486.mid md505 (Or.inr (Nat.zero_le _))
    clear bx486
    have h509 := RG.mid h487 md505 (Or.inl (Nat.zero_le _))
    clear h487
    have bx510 := bx488.mid md505 (Or.inr (Nat.zero_le _))
    clear bx488
    have h511 := OG.mid h489 md505 (Or.inl (Nat.zero_le _))
    clear h489
    have bx512 := bx490.mid md505 (Or.inr (Nat.zero_le _))
    clear bx490
    have h513 := OSS.mid h491 md505 (Or.inl (Nat.zero_le _))
    clear h491
    have h514 := OG.mid h482 md505 (Or.inl (Nat.zero_le _))
    clear h482
    have b515 := below_mid b492 z493 md505 (Or.inr rfl)
    have z516 := b515.size
    have y517 := md505.size
    have bx518 := Box.new w17 #[.int .i64 r1, .int .i64 s1, .slice AA480 d1.length cc481] 32
    have y519 : w17.heap.size + 1 ≤ (w17.alloc (.cells #[.int .i64 r1, .int .i64 s1, .slice AA480 d1.length cc481] 32)).heap.size := (by simp)
    clear k495
    clear k496
    have k520 := bx506.cell 0 rfl
    have k521 := bx506.cell 1 rfl
    clear k497
    clear k498
    clear k499
    have k522 := bx508.cell 0 rfl
    have k523 := bx508.cell 1 rfl
    have k524 := bx508.cell 2 rfl
    clear k500
    clear k501
    clear k502
    have k525 := bx510.cell 0 rfl
    have k526 := bx510.cell 1 rfl
    have k527 := bx510.cell 2 rfl
    clear k503
    clear k504
    have k528 := bx512.cell 0 rfl
    have k529 := bx512.cell 1 rfl
    have k530 := bx518.cell 0 rfl
    have k531 := bx518.cell 1 rfl
    have k532 := bx518.cell 2 rfl
    go_wp2_with fail
    with_reducible refine (simpl_ImageOf r0 _ d0 _ r1 s1 _ d1 _ _ _ _ h513 _b0 _o0 hl0 _ _ h514  hl1 rr0 rs0 res0 res1 HRES.out).mono ?_
    rintro e w18 ⟨AA534, cc535, rfl, h536, md533⟩
    have bx538 := bx506.mid md533 (Or.inr (Nat.zero_le _))
    clear bx506
    have h539 := RSS.mid h507 md533 (Or.inl (Nat.zero_le _))
    clear h507
    have bx540 := bx508.mid md533 (Or.inr (Nat.zero_le _))
    clear bx508
    have h541 := RG.mid h509 md533 (Or.inl (Nat.zero_le _))
    clear h509
    have bx542 := bx510.mid md533 (Or.inr (Nat.zero_le _))
    clear bx510
    have h543 := OG.mid h511 md533 (Or.inl (Nat.zero_le _))
    clear h511
    have bx544 := bx512.mid md533 (Or.inr (Nat.zero_le _))
    clear bx512
    have h545 := OSS.mid h513 md533 (Or.inl (Nat.zero_le _))
    clear h513
    have bx546 := bx518.mid md533 (Or.inr (Nat.zero_le _))
    clear bx518
    have h547 := OG.mid h514 md533 (Or.inl (Nat.zero_le _))
    clear h514
    have b548 := below_mid b515 z516 md533 (Or.inr rfl)
    have z549 := b548.size
    have y550 := md533.size
    clear k520
    clear k521
    have k551 := bx538.cell 0 rfl
    have k552 := bx538.cell 1 rfl
    clear k522
    clear k523
    clear k524
    have k553 := bx540.cell 0 rfl
    have k554 := bx540.cell 1 rfl
    have k555 := bx540.cell 2 rfl
    clear k525
    clear k526
    clear k527
    have k556 := bx542.cell 0 rfl
    have k557 := bx542.cell 1 rfl
    have k558 := bx542.cell 2 rfl
    clear k528
    clear k529
    have k559 := bx544.cell 0 rfl
    have k560 := bx544.cell 1 rfl
    clear k530
    clear k531
    clear k532
    have k561 := bx546.cell 0 rfl
    have k562 := bx546.cell 1 rfl
    have k563 := bx546.cell 2 rfl
    have md564 : Mid 0 0 w18 (w18.alloc (.cells #[.int .i64 rr0, .int .i64 rs0, .slice AA534 res0.length cc535] 32)) := Mid.alloc _ _
    have bx565 := bx538.mid md564 (Or.inr (Nat.zero_le _))
    clear bx538
    have h566 := RSS.mid h539 md564 (Or.inl (Nat.zero_le _))
    clear h539
    have bx567 := bx540.mid md564 (Or.inr (Nat.zero_le _))
    clear bx540
    have h568 := RG.mid h541 md564 (Or.inl (Nat.zero_le _))
    clear h541
    have bx569 := bx542.mid md564 (Or.inr (Nat.zero_le _))
    clear bx542
    have h570 := OG.mid h543 md564 (Or.inl (Nat.zero_le _))
    clear h543
    have bx571 := bx544.mid md564 (Or.inr (Nat.zero_le _))
    clear bx544
    have h572 := OSS.mid h545 md564 (Or.inl (Nat.zero_le _))
    clear h545
    have bx573 := bx546.mid md564 (Or.inr (Nat.zero_le _))
    clear bx546
    have h574 := OG.mid h547 md564 (Or.inl (Nat.zero_le _))
    clear h547
    have h575 := OG.mid h536 md564 (Or.inl (Nat.zero_le _))
    clear h536
    have b576 := below_mid b548 z549 md564 (Or.inr rfl)
    have z577 := b576.size
    have y578 := md564.size
    have bx579 := Box.new w18 #[.int .i64 rr0, .int .i64 rs0, .slice AA534 res0.length cc535] 32
    have y580 : w18.heap.size + 1 ≤ (w18.alloc (.cells #[.int .i64 rr0, .int .i64 rs0, .slice AA534 res0.length cc535] 32)).heap.size := (by simp)
    clear k551
    clear k552
    have k581 := bx565.cell 0 rfl
    have k582 := bx565.cell 1 rfl
    clear k553
    clear k554
    clear k555
    have k583 := bx567.cell 0 rfl
    have k584 := bx567.cell 1 rfl
    have k585 := bx567.cell 2 rfl
    clear k556
    clear k557
    clear k558
    have k586 := bx569.cell 0 rfl
    have k587 := bx569.cell 1 rfl
    have k588 := bx569.cell 2 rfl
    clear k559
    clear k560
    have k589 := bx571.cell 0 rfl
    have k590 := bx571.cell 1 rfl
    clear k561
    clear k562
    clear k563
    have k591 := bx573.cell 0 rfl
    have k592 := bx573.cell 1 rfl
    have k593 := bx573.cell 2 rfl
    have k594 := bx579.cell 0 rfl
    have k595 := bx579.cell 1 rfl
    have k596 := bx579.cell 2 rfl
    go_wp2_with fail
    with_reducible refine (eqGraph_same _ _ _ _ res0 _ _ _ _ _ _ _ (OG.rg h575) (OG.rg h570) hlr0).mono ?_
    rintro e w19 ⟨rfl, md597⟩
    have bx598 := bx565.mid md597 (Or.inr (Nat.zero_le _))
    clear bx565
    have h599 := RSS.mid h566 md597 (Or.inl (Nat.zero_le _))
    clear h566
    have bx600 := bx567.mid md597 (Or.inr (Nat.zero_le _))
    clear bx567
    have h601 := RG.mid h568 md597 (Or.inl (Nat.zero_le _))
    clear h568
    have bx602 := bx569.mid md597 (Or.inr (Nat.zero_le _))
    clear bx569
    have h603 := OG.mid h570 md597 (Or.inl (Nat.zero_le _))
    clear h570
    have bx604 := bx571.mid md597 (Or.inr (Nat.zero_le _))
    clear bx571
    have h605 := OSS.mid h572 md597 (Or.inl (Nat.zero_le _))
    clear h572
    have bx606 := bx573.mid md597 (Or.inr (Nat.zero_le _))
    clear bx573
    have h607 := OG.mid h574 md597 (Or.inl (Nat.zero_le _))
    clear h574
    have bx608 := bx579.mid md597 (Or.inr (Nat.zero_le _))
    clear bx579
    have h609 := OG.mid h575 md597 (Or.inl (Nat.zero_le _))
    clear h575
    have b610 := below_mid b576 z577 md597 (Or.inr rfl)
    have z611 := b610.size
    have y612 := md597.size
    clear k581
    clear k582
    have k613 := bx598.cell 0 rfl
    have k614 := bx598.cell 1 rfl
    clear k583
    clear k584
    clear k585
    have k615 := bx600.cell 0 rfl
    have k616 := bx600.cell 1 rfl
    have k617 := bx600.cell 2 rfl
    clear k586
    clear k587
    clear k588
    have k618 := bx602.cell 0 rfl
    have k619 := bx602.cell 1 rfl
    have k620 := bx602.cell 2 rfl
    clear k589
    clear k590
    have k621 := bx604.cell 0 rfl
    have k622 := bx604.cell 1 rfl
    clear k591
    clear k592
    clear k593
    have k623 := bx606.cell 0 rfl
    have k624 := bx606.cell 1 rfl
    have k625 := bx606.cell 2 rfl
    clear k594
    clear k595
    clear k596
    have k626 := bx608.cell 0 rfl
    have k627 := bx608.cell 1 rfl
    have k628 := bx608.cell 2 rfl
    go_wp2_with fail
    have md629 : Mid 0 0 w19 w19.drew := Mid.drew1 _
    have bx630 := bx598.mid md629 (Or.inr (Nat.zero_le _))
    have h631 := RSS.mid h599 md629 (Or.inl (Nat.zero_le _))
    have bx632 := bx600.mid md629 (Or.inr (Nat.zero_le _))
    have h633 := RG.mid h601 md629 (Or.inl (Nat.zero_le _))
    have bx634 := bx602.mid md629 (Or.inr (Nat.zero_le _))
    have h635 := OG.mid h603 md629 (Or.inl (Nat.zero_le _))
    have bx636 := bx604.mid md629 (Or.inr (Nat.zero_le _))
    have h637 := OSS.mid h605 md629 (Or.inl (Nat.zero_le _))
    have bx638 := bx606.mid md629 (Or.inr (Nat.zero_le _))
    have h639 := OG.mid h607 md629 (Or.inl (Nat.zero_le _))
    have bx640 := bx608.mid md629 (Or.inr (Nat.zero_le _))
    have h641 := OG.mid h609 md629 (Or.inl (Nat.zero_le _))
    have b642 := below_mid b610 z611 md629 (Or.inr rfl)
    have z643 := b642.size
    have y644 := md629.size
    have k645 := bx630.cell 0 rfl
    have k646 := bx630.cell 1 rfl
    have k647 := bx632.cell 0 rfl
    have k648 := bx632.cell 1 rfl
    have k649 := bx632.cell 2 rfl
    have k650 := bx634.cell 0 rfl
    have k651 := bx634.cell 1 rfl
    have k652 := bx634.cell 2 rfl
    have k653 := bx636.cell 0 rfl
    have k654 := bx636.cell 1 rfl
    have k655 := bx638.cell 0 rfl
    have k656 := bx638.cell 1 rfl
    have k657 := bx638.cell 2 rfl
    have k658 := bx640.cell 0 rfl
    have k659 := bx640.cell 1 rfl
    have k660 := bx640.cell 2 rfl
    go_region_held3 (fun w' => w'.cell? ⟨w16.heap.size, 0, none⟩ = some (.int .i64 r0) ∧ w'.cell? ⟨w16.heap.size, 1, none⟩ = some (.slice AA436 d0.length cc437) ∧ w'.cell? ⟨w.heap.size, 0, none⟩ = some (.int .i64 r0) ∧ w'.cell? ⟨w.heap.size, 1, none⟩ = some (.slice A0 d0.length c0)) (first | exact ⟨k621, k622, k613, k614⟩ | exact ⟨k653, k654, k645, k646⟩ | exact ⟨k688, k689, k680, k681⟩ | exact ⟨k721, k722, k713, k714⟩) (first | (go_at_call 7; with_reducible refine (toMorphism_any r0 _ d0 _ _ _ _ h631 hl0).mono ?_; rintro e w20 ⟨AA661, cc662, rfl, h663, md664⟩; have bx665 := bx630.mid md664 (Or.inr (Nat.zero_le _)); have h666 := RSS.mid h631 md664 (Or.inl (Nat.zero_le _)); have bx667 := bx632.mid md664 (Or.inr (Nat.zero_le _)); have h668 := RG.mid h633 md664 (Or.inl (Nat.zero_le _)); have bx669 := bx634.mid md664 (Or.inr (Nat.zero_le _)); have h670 := OG.mid h635 md664 (Or.inl (Nat.zero_le _)); have bx671 := bx636.mid md664 (Or.inr (Nat.zero_le _)); have h672 := OSS.mid h637 md664 (Or.inl (Nat.zero_le _)); have bx673 := bx638.mid md664 (Or.inr (Nat.zero_le _)); have h674 := OG.mid h639 md664 (Or.inl (Nat.zero_le _)); have bx675 := bx640.mid md664 (Or.inr (Nat.zero_le _)); have h676 := OG.mid h641 md664 (Or.inl (Nat.zero_le _)); have b677 := below_mid b642 z643 md664 (Or.inr rfl); have z678 := b677.size; have y679 := md664.size; have k680 := bx665.cell 0 rfl; have k681 := bx665.cell 1 rfl; have k682 := bx667.cell 0 rfl; have k683 := bx667.cell 1 rfl; have k684 := bx667.cell 2 rfl; have k685 := bx669.cell 0 rfl; have k686 := bx669.cell 1 rfl; have k687 := bx669.cell 2 rfl; have k688 := bx671.cell 0 rfl; have k689 := bx671.cell 1 rfl; have k690 := bx673.cell 0 rfl; have k691 := bx673.cell 1 rfl; have k692 := bx673.cell 2 rfl; have k693 := bx675.cell 0 rfl; have k694 := bx675.cell 1 rfl; have k695 := bx675.cell 2 rfl) | (go_at_call 11; with_reducible refine (eqMorphism_same _ _ _ d0 _ _ _ _ _ _ _ (OSS.rss h672) (OSS.rss h663) hl0).mono ?_; rintro e w21 ⟨rfl, md696⟩; have bx697 := bx665.mid md696 (Or.inr (Nat.zero_le _)); have h698 := RSS.mid h666 md696 (Or.inl (Nat.zero_le _)); have bx699 := bx667.mid md696 (Or.inr (Nat.zero_le _)); have h700 := RG.mid h668 md696 (Or.inl (Nat.zero_le _)); have bx701 := bx669.mid md696 (Or.inr (Nat.zero_le _)); have h702 := OG.mid h670 md696 (Or.inl (Nat.zero_le _)); have bx703 := bx671.mid md696 (Or.inr (Nat.zero_le _)); have h704 := OSS.mid h672 md696 (Or.inl (Nat.zero_le _)); have bx705 := bx673.mid md696 (Or.inr (Nat.zero_le _)); have h706 := OG.mid h674 md696 (Or.inl (Nat.zero_le _)); have bx707 := bx675.mid md696 (Or.inr (Nat.zero_le _)); have h708 := OG.mid h676 md696 (Or.inl (Nat.zero_le _)); have h709 := OSS.mid h663 md696 (Or.inl (Nat.zero_le _)); have b710 := below_mid b677 z678 md696 (Or.inr rfl); have z711 := b710.size; have y712 := md696.size; have k713 := bx697.cell 0 rfl; have k714 := bx697.cell 1 rfl; have k715 := bx699.cell 0 rfl; have k716 := bx699.cell 1 rfl; have k717 := bx699.cell 2 rfl; have k718 := bx701.cell 0 rfl; have k719 := bx701.cell 1 rfl; have k720 := bx701.cell 2 rfl; have k721 := bx703.cell 0 rfl; have k722 := bx703.cell 1 rfl; have k723 := bx705.cell 0 rfl; have k724 := bx705.cell 1 rfl; have k725 := bx705.cell 2 rfl; have k726 := bx707.cell 0 rfl; have k727 := bx707.cell 1 rfl; have k728 := bx707.cell 2 rfl))
    go_wp2_with fail
    have md729 : Mid 0 0 w21 w21.drew := Mid.drew1 _
    have bx730 := bx697.mid md729 (Or.inr (Nat.zero_le _))
    have h731 := RSS.mid h698 md729 (Or.inl (Nat.zero_le _))
    have bx732 := bx699.mid md729 (Or.inr (Nat.zero_le _))
    have h733 := RG.mid h700 md729 (Or.inl (Nat.zero_le _))
    have bx734 := bx701.mid md729 (Or.inr (Nat.zero_le _))
    have h735 := OG.mid h702 md729 (Or.inl (Nat.zero_le _))
    have bx736 := bx703.mid md729 (Or.inr (Nat.zero_le _))
    have h737 := OSS.mid h704 md729 (Or.inl (Nat.zero_le _))
    have bx738 := bx705.mid md729 (Or.inr (Nat.zero_le _))
    have h739 := OG.mid h706 md729 (Or.inl (Nat.zero_le _))
    have bx740 := bx707.mid md729 (Or.inr (Nat.zero_le _))
    have h741 := OG.mid h708 md729 (Or.inl (Nat.zero_le _))
    have b742 := below_mid b710 z711 md729 (Or.inr rfl)
    have z743 := b742.size
    have y744 := md729.size
    have k745 := bx730.cell 0 rfl
    have k746 := bx730.cell 1 rfl
    have k747 := bx732.cell 0 rfl
    have k748 := bx732.cell 1 rfl
    have k749 := bx732.cell 2 rfl
    have k750 := bx734.cell 0 rfl
    have k751 := bx734.cell 1 rfl
    have k752 := bx734.cell 2 rfl
    have k753 := bx736.cell 0 rfl
    have k754 := bx736.cell 1 rfl
    have k755 := bx738.cell 0 rfl
    have k756 := bx738.cell 1 rfl
    have k757 := bx738.cell 2 rfl
    have k758 := bx740.cell 0 rfl
    have k759 := bx740.cell 1 rfl
    have k760 := bx740.cell 2 rfl
    go_region_held3 (fun w' => w'.cell? ⟨w17.heap.size, 0, none⟩ = some (.int .i64 r1) ∧ w'.cell? ⟨w17.heap.size, 1, none⟩ = some (.int .i64 s1) ∧ w'.cell? ⟨w17.heap.size, 2, none⟩ = some (.slice AA480 d1.length cc481) ∧ w'.cell? ⟨w.heap.size + 1, 0, none⟩ = some (.int .i64 r1) ∧ w'.cell? ⟨w.heap.size + 1, 1, none⟩ = some (.int .i64 s1) ∧ w'.cell? ⟨w.heap.size + 1, 2, none⟩ = some (.slice A1 d1.length c1)) (first | exact ⟨k723, k724, k725, k715, k716, k717⟩ | exact ⟨k755, k756, k757, k747, k748, k749⟩ | exact ⟨k790, k791, k792, k782, k783, k784⟩ | exact ⟨k823, k824, k825, k815, k816, k817⟩) (first | (go_at_call 8; with_reducible refine (toGraph_any r1 s1 _ d1 _ _ _ _ h733 hl1).mono ?_; rintro e w22 ⟨AA761, cc762, rfl, h763, md764⟩; have bx765 := bx730.mid md764 (Or.inr (Nat.zero_le _)); have h766 := RSS.mid h731 md764 (Or.inl (Nat.zero_le _)); have bx767 := bx732.mid md764 (Or.inr (Nat.zero_le _)); have h768 := RG.mid h733 md764 (Or.inl (Nat.zero_le _)); have bx769 := bx734.mid md764 (Or.inr (Nat.zero_le _)); have h770 := OG.mid h735 md764 (Or.inl (Nat.zero_le _)); have bx771 := bx736.mid md764 (Or.inr (Nat.zero_le _)); have h772 := OSS.mid h737 md764 (Or.inl (Nat.zero_le _)); have bx773 := bx738.mid md764 (Or.inr (Nat.zero_le _)); have h774 := OG.mid h739 md764 (Or.inl (Nat.zero_le _)); have bx775 := bx740.mid md764 (Or.inr (Nat.zero_le _)); have h776 := OG.mid h741 md764 (Or.inl (Nat.zero_le _)); have b777 := below_mid b742 z743 md764 (Or.inr rfl); have z778 := b777.size; have y779 := md764.size; have k780 := bx765.cell 0 rfl; have k781 := bx765.cell 1 rfl; have k782 := bx767.cell 0 rfl; have k783 := bx767.cell 1 rfl; have k784 := bx767.cell 2 rfl; have k785 := bx769.cell 0 rfl; have k786 := bx769.cell 1 rfl; have k787 := bx769.cell 2 rfl; have k788 := bx771.cell 0 rfl; have k789 := bx771.cell 1 rfl; have k790 := bx773.cell 0 rfl; have k791 := bx773.cell 1 rfl; have k792 := bx773.cell 2 rfl; have k793 := bx775.cell 0 rfl; have k794 := bx775.cell 1 rfl; have k795 := bx775.cell 2 rfl) | (go_at_call 10; with_reducible refine (eqGraph_same _ _ _ _ d1 _ _ _ _ _ _ _ (OG.rg h774) (OG.rg h763) hl1).mono ?_; rintro e w23 ⟨rfl, md796⟩; have bx797 := bx765.mid md796 (Or.inr (Nat.zero_le _)); have h798 := RSS.mid h766 md796 (Or.inl (Nat.zero_le _)); have bx799 := bx767.mid md796 (Or.inr (Nat.zero_le _)); have h800 := RG.mid h768 md796 (Or.inl (Nat.zero_le _)); have bx801 := bx769.mid md796 (Or.inr (Nat.zero_le _)); have h802 := OG.mid h770 md796 (Or.inl (Nat.zero_le _)); have bx803 := bx771.mid md796 (Or.inr (Nat.zero_le _)); have h804 := OSS.mid h772 md796 (Or.inl (Nat.zero_le _)); have bx805 := bx773.mid md796 (Or.inr (Nat.zero_le _)); have h806 := OG.mid h774 md796 (Or.inl (Nat.zero_le _)); have bx807 := bx775.mid md796 (Or.inr (Nat.zero_le _)); have h808 := OG.mid h776 md796 (Or.inl (Nat.zero_le _)); have h809 := OG.mid h763 md796 (Or.inl (Nat.zero_le _)); have b810 := below_mid b777 z778 md796 (Or.inr rfl); have z811 := b810.size; have y812 := md796.size; have k813 := bx797.cell 0 rfl; have k814 := bx797.cell 1 rfl; have k815 := bx799.cell 0 rfl; have k816 := bx799.cell 1 rfl; have k817 := bx799.cell 2 rfl; have k818 := bx801.cell 0 rfl; have k819 := bx801.cell 1 rfl; have k820 := bx801.cell 2 rfl; have k821 := bx803.cell 0 rfl; have k822 := bx803.cell 1 rfl; have k823 := bx805.cell 0 rfl; have k824 := bx805.cell 1 rfl; have k825 := bx805.cell 2 rfl; have k826 := bx807.cell 0 rfl; have k827 := bx807.cell 1 rfl; have k828 := bx807.cell 2 rfl))
    go_wp2_with fail
    with_reducible refine (markMorphism_any _ _ d0 _ 1 _ _ _ h804 (by omega) (by omega) hl0).mono ?_
    rintro e w24 ⟨rfl, h829, md830⟩
    have bx831 := bx797.mid md830 (by omega)
    clear bx797
    have h832 := RSS.mid h798 md830 (by omega)
    clear h798
    have bx833 := bx799.mid md830 (by omega)
    clear bx799
    have h834 := RG.mid h800 md830 (by omega)
    clear h800
    have bx835 := bx801.mid md830 (by omega)
    clear bx801
    have h836 := OG.mid h802 md830 (by omega)
    clear h802
    have bx837 := bx803.mid md830 (by omega)
    clear bx803
    have bx838 := bx805.mid md830 (by omega)
    clear bx805
    have h839 := OG.mid h806 md830 (by omega)
    clear h806
    have bx840 := bx807.mid md830 (by omega)
    clear bx807
    have h841 := OG.mid h808 md830 (by omega)
    clear h808
    have b842 := below_mid b810 z811 md830 (by omega)
    have z843 := b842.size
    have y844 := md830.size
    clear h804
    clear k813
    clear k814
    have k845 := bx831.cell 0 rfl
    have k846 := bx831.cell 1 rfl
    clear k815
    clear k816
    clear k817
    have k847 := bx833.cell 0 rfl
    have k848 := bx833.cell 1 rfl
    have k849 := bx833.cell 2 rfl
    clear k818
    clear k819
    clear k820
    have k850 := bx835.cell 0 rfl
    have k851 := bx835.cell 1 rfl
    have k852 := bx835.cell 2 rfl
    clear k821
    clear k822
    have k853 := bx837.cell 0 rfl
    have k854 := bx837.cell 1 rfl
    clear k823
    clear k824
    clear k825
    have k855 := bx838.cell 0 rfl
    have k856 := bx838.cell 1 rfl
    have k857 := bx838.cell 2 rfl
    clear k826
    clear k827
    clear k828
    have k858 := bx840.cell 0 rfl
    have k859 := bx840.cell 1 rfl
    have k860 := bx840.cell 2 rfl
    go_wp2_with fail
    with_reducible refine (markGraph_any _ _ _ d1 _ (1 + (sumL d0 : Int)) _ _ _ h839 (by omega) (by omega) hl1).mono ?_
    rintro e w25 ⟨rfl, h861, md862⟩
    have bx863 := bx831.mid md862 (by omega)
    clear bx831
    have h864 := RSS.mid h832 md862 (by omega)
    clear h832
    have bx865 := bx833.mid md862 (by omega)
    clear bx833
    have h866 := RG.mid h834 md862 (by omega)
    clear h834
    have bx867 := bx835.mid md862 (by omega)
    clear bx835
    have h868 := OG.mid h836 md862 (by omega)
    clear h836
    have bx869 := bx837.mid md862 (by omega)
    clear bx837
    have h870 := OSS.mid h829 md862 (by omega)
    clear h829
    have bx871 := bx838.mid md862 (by omega)
    clear bx838
    have bx872 := bx840.mid md862 (by omega)
    clear bx840
    have h873 := OG.mid h841 md862 (by omega)
    clear h841
    have b874 := below_mid b842 z843 md862 (by omega)
    have z875 := b874.size
    have y876 := md862.size
    clear h839
    clear k845
    clear k846
    have k877 := bx863.cell 0 rfl
    have k878 := bx863.cell 1 rfl
    clear k847
    clear k848
    clear k849
    have k879 := bx865.cell 0 rfl
    have k880 := bx865.cell 1 rfl
    have k881 := bx865.cell 2 rfl
    clear k850
    clear k851
    clear k852
    have k882 := bx867.cell 0 rfl
    have k883 := bx867.cell 1 rfl
    have k884 := bx867.cell 2 rfl
    clear k853
    clear k854
    have k885 := bx869.cell 0 rfl
    have k886 := bx869.cell 1 rfl
    clear k855
    clear k856
    clear k857
    have k887 := bx871.cell 0 rfl
    have k888 := bx871.cell 1 rfl
    have k889 := bx871.cell 2 rfl
    clear k858
    clear k859
    clear k860
    have k890 := bx872.cell 0 rfl
    have k891 := bx872.cell 1 rfl
    have k892 := bx872.cell 2 rfl
    go_wp2_with fail
    with_reducible refine (eqGraph_same _ _ _ _ res0 _ _ _ _ _ _ _ (OG.rg h873) (OG.rg h868) hlr0).mono ?_
    rintro e w26 ⟨rfl, md893⟩
    have bx894 := bx863.mid md893 (Or.inr (Nat.zero_le _))
    clear bx863
    have h895 := RSS.mid h864 md893 (Or.inl (Nat.zero_le _))
    clear h864
    have bx896 := bx865.mid md893 (Or.inr (Nat.zero_le _))
    clear bx865
    have h897 := RG.mid h866 md893 (Or.inl (Nat.zero_le _))
    clear h866
    have bx898 := bx867.mid md893 (Or.inr (Nat.zero_le _))
    clear bx867
    have h899 := OG.mid h868 md893 (Or.inl (Nat.zero_le _))
    clear h868
    have bx900 := bx872.mid md893 (Or.inr (Nat.zero_le _))
    clear bx872
    have h901 := OG.mid h873 md893 (Or.inl (Nat.zero_le _))
    clear h873
    have b902 := below_mid b874 z875 md893 (Or.inr rfl)
    have z903 := b902.size
    have y904 := md893.size
    clear k877
    clear k878
    have k905 := bx894.cell 0 rfl
    have k906 := bx894.cell 1 rfl
    clear k879
    clear k880
    clear k881
    have k907 := bx896.cell 0 rfl
    have k908 := bx896.cell 1 rfl
    have k909 := bx896.cell 2 rfl
    clear k882
    clear k883
    clear k884
    have k910 := bx898.cell 0 rfl
    have k911 := bx898.cell 1 rfl
    have k912 := bx898.cell 2 rfl
    clear k890
    clear k891
    clear k892
    have k913 := bx900.cell 0 rfl
    have k914 := bx900.cell 1 rfl
    have k915 := bx900.cell 2 rfl
    go_wp2_with fail
    with_reducible refine (markGraph_any _ _ _ res0 _ 1 _ _ _ h901 (by omega) (by omega) hlr0).mono ?_
    rintro e w27 ⟨rfl, h916, md917⟩
    have bx918 := bx894.mid md917 (by omega)
    clear bx894
    have h919 := RSS.mid h895 md917 (by omega)
    clear h895
    have bx920 := bx896.mid md917 (by omega)
    clear bx896
    have h921 := RG.mid h897 md917 (by omega)
    clear h897
    have bx922 := bx898.mid md917 (by omega)
    clear bx898
    have h923 := OG.mid h899 md917 (by omega)
    clear h899
    have bx924 := bx900.mid md917 (by omega)
    clear bx900
    have b925 := below_mid b902 z903 md917 (by omega)
    have z926 := b925.size
    have y927 := md917.size
    clear h901
    clear k905
    clear k906
    have k928 := bx918.cell 0 rfl
    have k929 := bx918.cell 1 rfl
    clear k907
    clear k908
    clear k909
    have k930 := bx920.cell 0 rfl
    have k931 := bx920.cell 1 rfl
    have k932 := bx920.cell 2 rfl
    clear k910
    clear k911
    clear k912
    have k933 := bx922.cell 0 rfl
    have k934 := bx922.cell 1 rfl
    have k935 := bx922.cell 2 rfl
    clear k913
    clear k914
    clear k915
    have k936 := bx924.cell 0 rfl
    have k937 := bx924.cell 1 rfl
    have k938 := bx924.cell 2 rfl
    go_wp2_with fail
    with_reducible refine (heldGraph_any _ _ _ res0.length _ 1 _ _ _ h916 (by omega) (by omega) hlr0).mono ?_
    rintro e w28 ⟨rfl, md939⟩
    have bx940 := bx918.mid md939 (Or.inr (Nat.zero_le _))
    clear bx918
    have h941 := RSS.mid h919 md939 (Or.inl (Nat.zero_le _))
    clear h919
    have bx942 := bx920.mid md939 (Or.inr (Nat.zero_le _))
    clear bx920
    have h943 := RG.mid h921 md939 (Or.inl (Nat.zero_le _))
    clear h921
    have bx944 := bx922.mid md939 (Or.inr (Nat.zero_le _))
    clear bx922
    have h945 := OG.mid h923 md939 (Or.inl (Nat.zero_le _))
    clear h923
    have bx946 := bx924.mid md939 (Or.inr (Nat.zero_le _))
    clear bx924
    have h947 := OG.mid h916 md939 (Or.inl (Nat.zero_le _))
    clear h916
    have b948 := below_mid b925 z926 md939 (Or.inr rfl)
    have z949 := b948.size
    have y950 := md939.size
    clear k928
    clear k929
    have k951 := bx940.cell 0 rfl
    have k952 := bx940.cell 1 rfl
    clear k930
    clear k931
    clear k932
    have k953 := bx942.cell 0 rfl
    have k954 := bx942.cell 1 rfl
    have k955 := bx942.cell 2 rfl
    clear k933
    clear k934
    clear k935
    have k956 := bx944.cell 0 rfl
    have k957 := bx944.cell 1 rfl
    have k958 := bx944.cell 2 rfl
    clear k936
    clear k937
    clear k938
    have k959 := bx946.cell 0 rfl
    have k960 := bx946.cell 1 rfl
    have k961 := bx946.cell 2 rfl
    go_upto_region 31 with fail
    go_cut [15,16] (fun s15 s16 wx => ∃ (g : Nat) (A0' : Option Addr) (c0' : Nat), s15 = .pointer (some ⟨g, 0, none⟩) ∧ s16 = .bool res1 ∧ Box wx g [.int .i64 rr0, .int .i64 rs0, .slice A0' res0.length c0'] ∧ OG wx w28.heap.size (wx.heap.size) A0' c0' res0 ∧ Mid 0 0 w28 wx ∧ w28.heap.size ≤ g)
    case first =>
      have md962 : Mid 0 0 w28 w28.drew := Mid.drew1 _
      have bx963 := bx940.mid md962 (Or.inr (Nat.zero_le _))
      have h964 := RSS.mid h941 md962 (Or.inl (Nat.zero_le _))
      have bx965 := bx942.mid md962 (Or.inr (Nat.zero_le _))
      have h966 := RG.mid h943 md962 (Or.inl (Nat.zero_le _))
      have bx967 := bx944.mid md962 (Or.inr (Nat.zero_le _))
      have h968 := OG.mid h945 md962 (Or.inl (Nat.zero_le _))
      have bx969 := bx946.mid md962 (Or.inr (Nat.zero_le _))
      have h970 := OG.mid h947 md962 (Or.inl (Nat.zero_le _))
      have b971 := below_mid b948 z949 md962 (Or.inr rfl)
      have z972 := b971.size
      have y973 := md962.size
      have k974 := bx963.cell 0 rfl
      have k975 := bx963.cell 1 rfl
      have k976 := bx965.cell 0 rfl
      have k977 := bx965.cell 1 rfl
      have k978 := bx965.cell 2 rfl
      have k979 := bx967.cell 0 rfl
      have k980 := bx967.cell 1 rfl
      have k981 := bx967.cell 2 rfl
      have k982 := bx969.cell 0 rfl
      have k983 := bx969.cell 1 rfl
      have k984 := bx969.cell 2 rfl
      have y985 : w28.drew.heap.size = w28.heap.size := rfl
      go_region_held3 (fun w' => w'.cell? ⟨w.heap.size, 0, none⟩ = some (.int .i64 r0) ∧ w'.cell? ⟨w.heap.size, 1, none⟩ = some (.slice A0 d0.length c0) ∧ w'.cell? ⟨w.heap.size + 1, 0, none⟩ = some (.int .i64 r1) ∧ w'.cell? ⟨w.heap.size + 1, 1, none⟩ = some (.int .i64 s1) ∧ w'.cell? ⟨w.heap.size + 1, 2, none⟩ = some (.slice A1 d1.length c1)) (first | exact ⟨k951, k952, k953, k954, k955⟩ | exact ⟨k974, k975, k976, k977, k978⟩ | exact ⟨k1002, k1003, k1004, k1005, k1006⟩ | exact ⟨k1030, k1031, k1032, k1033, k1034⟩ | exact ⟨k1060, k1061, k1062, k1063, k1064⟩ | exact ⟨(bx1046.mid (Mid.alloc _ _) (Or.inr (Nat.zero_le _))).cell 0 rfl, (bx1046.mid (Mid.alloc _ _) (Or.inr (Nat.zero_le _))).cell 1 rfl, (bx1048.mid (Mid.alloc _ _) (Or.inr (Nat.zero_le _))).cell 0 rfl, (bx1048.mid (Mid.alloc _ _) (Or.inr (Nat.zero_le _))).cell 1 rfl, (bx1048.mid (Mid.alloc _ _) (Or.inr (Nat.zero_le _))).cell 2 rfl⟩ | exact ⟨(bx1017.mid (Mid.alloc _ _) (Or.inr (Nat.zero_le _))).cell 0 rfl, (bx1017.mid (Mid.alloc _ _) (Or.inr (Nat.zero_le _))).cell 1 rfl, (bx1019.mid (Mid.alloc _ _) (Or.inr (Nat.zero_le _))).cell 0 rfl, (bx1019.mid (Mid.alloc _ _) (Or.inr (Nat.zero_le _))).cell 1 rfl, (bx1019.mid (Mid.alloc _ _) (Or.inr (Nat.zero_le _))).cell 2 rfl⟩ | exact ⟨k1123, k1124, k1125, k1126, k1127⟩ | exact ⟨(((bx1108.mid (Mid.setCell w32 (lo := w30.heap.size) (hi := w30.heap.size + 1) (p := ⟨w30.heap.size, 0, none⟩) (.int .i64 rr0) (by simp) (by simp)) (by omega)).mid (Mid.setCell (w32.setCell ⟨w30.heap.size, 0, none⟩ (.int .i64 rr0)) (lo := w30.heap.size) (hi := w30.heap.size + 1) (p := ⟨w30.heap.size, 1, none⟩) (.int .i64 rs0) (by simp) (by simp)) (by omega)).mid (Mid.setCell ((w32.setCell ⟨w30.heap.size, 0, none⟩ (.int .i64 rr0)).setCell ⟨w30.heap.size, 1, none⟩ (.int .i64 rs0)) (lo := w30.heap.size) (hi := w30.heap.size + 1) (p := ⟨w30.heap.size, 2, none⟩) (.slice AA1104 res0.length cc1105) (by simp) (by simp)) (by omega)).cell 0 rfl, (((bx1108.mid (Mid.setCell w32 (lo := w30.heap.size) (hi := w30.heap.size + 1) (p := ⟨w30.heap.size, 0, none⟩) (.int .i64 rr0) (by simp) (by simp)) (by omega)).mid (Mid.setCell (w32.setCell ⟨w30.heap.size, 0, none⟩ (.int .i64 rr0)) (lo := w30.heap.size) (hi := w30.heap.size + 1) (p := ⟨w30.heap.size, 1, none⟩) (.int .i64 rs0) (by simp) (by simp)) (by omega)).mid (Mid.setCell ((w32.setCell ⟨w30.heap.size, 0, none⟩ (.int .i64 rr0)).setCell ⟨w30.heap.size, 1, none⟩ (.int .i64 rs0)) (lo := w30.heap.size) (hi := w30.heap.size + 1) (p := ⟨w30.heap.size, 2, none⟩) (.slice AA1104 res0.length cc1105) (by simp) (by simp)) (by omega)).cell 1 rfl, (((bx1110.mid (Mid.setCell w32 (lo := w30.heap.size) (hi := w30.heap.size + 1) (p := ⟨w30.heap.size, 0, none⟩) (.int .i64 rr0) (by simp) (by simp)) (by omega)).mid (Mid.setCell (w32.setCell ⟨w30.heap.size, 0, none⟩ (.int .i64 rr0)) (lo := w30.heap.size) (hi := w30.heap.size + 1) (p := ⟨w30.heap.size, 1, none⟩) (.int .i64 rs0) (by simp) (by simp)) (by omega)).mid (Mid.setCell ((w32.setCell ⟨w30.heap.size, 0, none⟩ (.int .i64 rr0)).setCell ⟨w30.heap.size, 1, none⟩ (.int .i64 rs0)) (lo := w30.heap.size) (hi := w30.heap.size + 1) (p := ⟨w30.heap.size, 2, none⟩) (.slice AA1104 res0.length cc1105) (by simp) (by simp)) (by omega)).cell 0 rfl, (((bx1110.mid (Mid.setCell w32 (lo := w30.heap.size) (hi := w30.heap.size + 1) (p := ⟨w30.heap.size, 0, none⟩) (.int .i64 rr0) (by simp) (by simp)) (by omega)).mid (Mid.setCell (w32.setCell ⟨w30.heap.size, 0, none⟩ (.int .i64 rr0)) (lo := w30.heap.size) (hi := w30.heap.size + 1) (p := ⟨w30.heap.size, 1, none⟩) (.int .i64 rs0) (by simp) (by simp)) (by omega)).mid (Mid.setCell ((w32.setCell ⟨w30.heap.size, 0, none⟩ (.int .i64 rr0)).setCell ⟨w30.heap.size, 1, none⟩ (.int .i64 rs0)) (lo := w30.heap.size) (hi := w30.heap.size + 1) (p := ⟨w30.heap.size, 2, none⟩) (.slice AA1104 res0.length cc1105) (by simp) (by simp)) (by omega)).cell 1 rfl, (((bx1110.mid (Mid.setCell w32 (lo := w30.heap.size) (hi := w30.heap.size + 1) (p := ⟨w30.heap.size, 0, none⟩) (.int .i64 rr0) (by simp) (by simp)) (by omega)).mid (Mid.setCell (w32.setCell ⟨w30.heap.size, 0, none⟩ (.int .i64 rr0)) (lo := w30.heap.size) (hi := w30.heap.size + 1) (p := ⟨w30.heap.size, 1, none⟩) (.int .i64 rs0) (by simp) (by simp)) (by omega)).mid (Mid.setCell ((w32.setCell ⟨w30.heap.size, 0, none⟩ (.int .i64 rr0)).setCell ⟨w30.heap.size, 1, none⟩ (.int .i64 rs0)) (lo := w30.heap.size) (hi := w30.heap.size + 1) (p := ⟨w30.heap.size, 2, none⟩) (.slice AA1104 res0.length cc1105) (by simp) (by simp)) (by omega)).cell 2 rfl⟩ | exact ⟨(bx990.mid (Mid.alloc _ _) (Or.inr (Nat.zero_le _))).cell 0 rfl, (bx990.mid (Mid.alloc _ _) (Or.inr (Nat.zero_le _))).cell 1 rfl, (bx992.mid (Mid.alloc _ _) (Or.inr (Nat.zero_le _))).cell 0 rfl, (bx992.mid (Mid.alloc _ _) (Or.inr (Nat.zero_le _))).cell 1 rfl, (bx992.mid (Mid.alloc _ _) (Or.inr (Nat.zero_le _))).cell 2 rfl⟩ | exact ⟨k1187, k1188, k1189, k1190, k1191⟩ | exact ⟨k1222, k1223, k1224, k1225, k1226⟩ | exact ⟨(((bx1207.mid (Mid.setCell w34 (lo := w29.heap.size) (hi := w29.heap.size + 1) (p := ⟨w29.heap.size, 0, none⟩) (.int .i64 rr0) (by simp) (by simp)) (by omega)).mid (Mid.setCell (w34.setCell ⟨w29.heap.size, 0, none⟩ (.int .i64 rr0)) (lo := w29.heap.size) (hi := w29.heap.size + 1) (p := ⟨w29.heap.size, 1, none⟩) (.int .i64 rs0) (by simp) (by simp)) (by omega)).mid (Mid.setCell ((w34.setCell ⟨w29.heap.size, 0, none⟩ (.int .i64 rr0)).setCell ⟨w29.heap.size, 1, none⟩ (.int .i64 rs0)) (lo := w29.heap.size) (hi := w29.heap.size + 1) (p := ⟨w29.heap.size, 2, none⟩) (.slice AA1203 res0.length cc1204) (by simp) (by simp)) (by omega)).cell 0 rfl, (((bx1207.mid (Mid.setCell w34 (lo := w29.heap.size) (hi := w29.heap.size + 1) (p := ⟨w29.heap.size, 0, none⟩) (.int .i64 rr0) (by simp) (by simp)) (by omega)).mid (Mid.setCell (w34.setCell ⟨w29.heap.size, 0, none⟩ (.int .i64 rr0)) (lo := w29.heap.size) (hi := w29.heap.size + 1) (p := ⟨w29.heap.size, 1, none⟩) (.int .i64 rs0) (by simp) (by simp)) (by omega)).mid (Mid.setCell ((w34.setCell ⟨w29.heap.size, 0, none⟩ (.int .i64 rr0)).setCell ⟨w29.heap.size, 1, none⟩ (.int .i64 rs0)) (lo := w29.heap.size) (hi := w29.heap.size + 1) (p := ⟨w29.heap.size, 2, none⟩) (.slice AA1203 res0.length cc1204) (by simp) (by simp)) (by omega)).cell 1 rfl, (((bx1209.mid (Mid.setCell w34 (lo := w29.heap.size) (hi := w29.heap.size + 1) (p := ⟨w29.heap.size, 0, none⟩) (.int .i64 rr0) (by simp) (by simp)) (by omega)).mid (Mid.setCell (w34.setCell ⟨w29.heap.size, 0, none⟩ (.int .i64 rr0)) (lo := w29.heap.size) (hi := w29.heap.size + 1) (p := ⟨w29.heap.size, 1, none⟩) (.int .i64 rs0) (by simp) (by simp)) (by omega)).mid (Mid.setCell ((w34.setCell ⟨w29.heap.size, 0, none⟩ (.int .i64 rr0)).setCell ⟨w29.heap.size, 1, none⟩ (.int .i64 rs0)) (lo := w29.heap.size) (hi := w29.heap.size + 1) (p := ⟨w29.heap.size, 2, none⟩) (.slice AA1203 res0.length cc1204) (by simp) (by simp)) (by omega)).cell 0 rfl, (((bx1209.mid (Mid.setCell w34 (lo := w29.heap.size) (hi := w29.heap.size + 1) (p := ⟨w29.heap.size, 0, none⟩) (.int .i64 rr0) (by simp) (by simp)) (by omega)).mid (Mid.setCell (w34.setCell ⟨w29.heap.size, 0, none⟩ (.int .i64 rr0)) (lo := w29.heap.size) (hi := w29.heap.size + 1) (p := ⟨w29.heap.size, 1, none⟩) (.int .i64 rs0) (by simp) (by simp)) (by omega)).mid (Mid.setCell ((w34.setCell ⟨w29.heap.size, 0, none⟩ (.int .i64 rr0)).setCell ⟨w29.heap.size, 1, none⟩ (.int .i64 rs0)) (lo := w29.heap.size) (hi := w29.heap.size + 1) (p := ⟨w29.heap.size, 2, none⟩) (.slice AA1203 res0.length cc1204) (by simp) (by simp)) (by omega)).cell 1 rfl, (((bx1209.mid (Mid.setCell w34 (lo := w29.heap.size) (hi := w29.heap.size + 1) (p := ⟨w29.heap.size, 0, none⟩) (.int .i64 rr0) (by simp) (by simp)) (by omega)).mid (Mid.setCell (w34.setCell ⟨w29.heap.size, 0, none⟩ (.int .i64 rr0)) (lo := w29.heap.size) (hi := w29.heap.size + 1) (p := ⟨w29.heap.size, 1, none⟩) (.int .i64 rs0) (by simp) (by simp)) (by omega)).mid (Mid.setCell ((w34.setCell ⟨w29.heap.size, 0, none⟩ (.int .i64 rr0)).setCell ⟨w29.heap.size, 1, none⟩ (.int .i64 rs0)) (lo := w29.heap.size) (hi := w29.heap.size + 1) (p := ⟨w29.heap.size, 2, none⟩) (.slice AA1203 res0.length cc1204) (by simp) (by simp)) (by omega)).cell 2 rfl⟩ | exact ⟨(bx940.mid (Mid.alloc _ _) (Or.inr (Nat.zero_le _))).cell 0 rfl, (bx940.mid (Mid.alloc _ _) (Or.inr (Nat.zero_le _))).cell 1 rfl, (bx942.mid (Mid.alloc _ _) (Or.inr (Nat.zero_le _))).cell 0 rfl, (bx942.mid (Mid.alloc _ _) (Or.inr (Nat.zero_le _))).cell 1 rfl, (bx942.mid (Mid.alloc _ _) (Or.inr (Nat.zero_le _))).cell 2 rfl⟩ | exact ⟨bx1239.cell 0 rfl, bx1239.cell 1 rfl, bx1241.cell 0 rfl, bx1241.cell 1 rfl, bx1241.cell 2 rfl⟩ | exact ⟨k1284, k1285, k1286, k1287, k1288⟩ | exact ⟨k1317, k1318, k1319, k1320, k1321⟩ | exact ⟨k1352, k1353, k1354, k1355, k1356⟩ | exact ⟨(((bx1337.mid (Mid.setCell w37 (lo := w28.heap.size) (hi := w28.heap.size + 1) (p := ⟨w28.heap.size, 0, none⟩) (.int .i64 rr0) (by simp) (by simp)) (by omega)).mid (Mid.setCell (w37.setCell ⟨w28.heap.size, 0, none⟩ (.int .i64 rr0)) (lo := w28.heap.size) (hi := w28.heap.size + 1) (p := ⟨w28.heap.size, 1, none⟩) (.int .i64 rs0) (by simp) (by simp)) (by omega)).mid (Mid.setCell ((w37.setCell ⟨w28.heap.size, 0, none⟩ (.int .i64 rr0)).setCell ⟨w28.heap.size, 1, none⟩ (.int .i64 rs0)) (lo := w28.heap.size) (hi := w28.heap.size + 1) (p := ⟨w28.heap.size, 2, none⟩) (.slice AA1333 res0.length cc1334) (by simp) (by simp)) (by omega)).cell 0 rfl, (((bx1337.mid (Mid.setCell w37 (lo := w28.heap.size) (hi := w28.heap.size + 1) (p := ⟨w28.heap.size, 0, none⟩) (.int .i64 rr0) (by simp) (by simp)) (by omega)).mid (Mid.setCell (w37.setCell ⟨w28.heap.size, 0, none⟩ (.int .i64 rr0)) (lo := w28.heap.size) (hi := w28.heap.size + 1) (p := ⟨w28.heap.size, 1, none⟩) (.int .i64 rs0) (by simp) (by simp)) (by omega)).mid (Mid.setCell ((w37.setCell ⟨w28.heap.size, 0, none⟩ (.int .i64 rr0)).setCell ⟨w28.heap.size, 1, none⟩ (.int .i64 rs0)) (lo := w28.heap.size) (hi := w28.heap.size + 1) (p := ⟨w28.heap.size, 2, none⟩) (.slice AA1333 res0.length cc1334) (by simp) (by simp)) (by omega)).cell 1 rfl, (((bx1339.mid (Mid.setCell w37 (lo := w28.heap.size) (hi := w28.heap.size + 1) (p := ⟨w28.heap.size, 0, none⟩) (.int .i64 rr0) (by simp) (by simp)) (by omega)).mid (Mid.setCell (w37.setCell ⟨w28.heap.size, 0, none⟩ (.int .i64 rr0)) (lo := w28.heap.size) (hi := w28.heap.size + 1) (p := ⟨w28.heap.size, 1, none⟩) (.int .i64 rs0) (by simp) (by simp)) (by omega)).mid (Mid.setCell ((w37.setCell ⟨w28.heap.size, 0, none⟩ (.int .i64 rr0)).setCell ⟨w28.heap.size, 1, none⟩ (.int .i64 rs0)) (lo := w28.heap.size) (hi := w28.heap.size + 1) (p := ⟨w28.heap.size, 2, none⟩) (.slice AA1333 res0.length cc1334) (by simp) (by simp)) (by omega)).cell 0 rfl, (((bx1339.mid (Mid.setCell w37 (lo := w28.heap.size) (hi := w28.heap.size + 1) (p := ⟨w28.heap.size, 0, none⟩) (.int .i64 rr0) (by simp) (by simp)) (by omega)).mid (Mid.setCell (w37.setCell ⟨w28.heap.size, 0, none⟩ (.int .i64 rr0)) (lo := w28.heap.size) (hi := w28.heap.size + 1) (p := ⟨w28.heap.size, 1, none⟩) (.int .i64 rs0) (by simp) (by simp)) (by omega)).mid (Mid.setCell ((w37.setCell ⟨w28.heap.size, 0, none⟩ (.int .i64 rr0)).setCell ⟨w28.heap.size, 1, none⟩ (.int .i64 rs0)) (lo := w28.heap.size) (hi := w28.heap.size + 1) (p := ⟨w28.heap.size, 2, none⟩) (.slice AA1333 res0.length cc1334) (by simp) (by simp)) (by omega)).cell 1 rfl, (((bx1339.mid (Mid.setCell w37 (lo := w28.heap.size) (hi := w28.heap.size + 1) (p := ⟨w28.heap.size, 0, none⟩) (.int .i64 rr0) (by simp) (by simp)) (by omega)).mid (Mid.setCell (w37.setCell ⟨w28.heap.size, 0, none⟩ (.int .i64 rr0)) (lo := w28.heap.size) (hi := w28.heap.size + 1) (p := ⟨w28.heap.size, 1, none⟩) (.int .i64 rs0) (by simp) (by simp)) (by omega)).mid (Mid.setCell ((w37.setCell ⟨w28.heap.size, 0, none⟩ (.int .i64 rr0)).setCell ⟨w28.heap.size, 1, none⟩ (.int .i64 rs0)) (lo := w28.heap.size) (hi := w28.heap.size + 1) (p := ⟨w28.heap.size, 2, none⟩) (.slice AA1333 res0.length cc1334) (by simp) (by simp)) (by omega)).cell 2 rfl⟩) (first | (go_at_call 7; with_reducible refine (toMorphism_any r0 _ d0 _ _ _ _ h964 hl0).mono ?_; rintro e w29 ⟨AA986, cc987, rfl, h988, md989⟩; have bx990 := bx963.mid md989 (Or.inr (Nat.zero_le _)); have h991 := RSS.mid h964 md989 (Or.inl (Nat.zero_le _)); have bx992 := bx965.mid md989 (Or.inr (Nat.zero_le _)); have h993 := RG.mid h966 md989 (Or.inl (Nat.zero_le _)); have bx994 := bx967.mid md989 (Or.inr (Nat.zero_le _)); have h995 := OG.mid h968 md989 (Or.inl (Nat.zero_le _)); have bx996 := bx969.mid md989 (Or.inr (Nat.zero_le _)); have h997 := OG.mid h970 md989 (Or.inl (Nat.zero_le _)); have b998 := below_mid b971 z972 md989 (Or.inr rfl); have z999 := b998.size; have y1000 := md989.size; have tt1001 := md962.trans md989; have k1002 := bx990.cell 0 rfl; have k1003 := bx990.cell 1 rfl; have k1004 := bx992.cell 0 rfl; have k1005 := bx992.cell 1 rfl; have k1006 := bx992.cell 2 rfl; have k1007 := bx994.cell 0 rfl; have k1008 := bx994.cell 1 rfl; have k1009 := bx994.cell 2 rfl; have k1010 := bx996.cell 0 rfl; have k1011 := bx996.cell 1 rfl; have k1012 := bx996.cell 2 rfl) | (go_at_call 8; with_reducible refine (toGraph_any r1 s1 _ d1 _ _ _ _ h993 hl1).mono ?_; rintro e w30 ⟨AA1013, cc1014, rfl, h1015, md1016⟩; have bx1017 := bx990.mid md1016 (Or.inr (Nat.zero_le _)); have h1018 := RSS.mid h991 md1016 (Or.inl (Nat.zero_le _)); have bx1019 := bx992.mid md1016 (Or.inr (Nat.zero_le _)); have h1020 := RG.mid h993 md1016 (Or.inl (Nat.zero_le _)); have bx1021 := bx994.mid md1016 (Or.inr (Nat.zero_le _)); have h1022 := OG.mid h995 md1016 (Or.inl (Nat.zero_le _)); have bx1023 := bx996.mid md1016 (Or.inr (Nat.zero_le _)); have h1024 := OG.mid h997 md1016 (Or.inl (Nat.zero_le _)); have h1025 := OSS.mid h988 md1016 (Or.inl (Nat.zero_le _)); have b1026 := below_mid b998 z999 md1016 (Or.inr rfl); have z1027 := b1026.size; have y1028 := md1016.size; have tt1029 := tt1001.trans md1016; have k1030 := bx1017.cell 0 rfl; have k1031 := bx1017.cell 1 rfl; have k1032 := bx1019.cell 0 rfl; have k1033 := bx1019.cell 1 rfl; have k1034 := bx1019.cell 2 rfl; have k1035 := bx1021.cell 0 rfl; have k1036 := bx1021.cell 1 rfl; have k1037 := bx1021.cell 2 rfl; have k1038 := bx1023.cell 0 rfl; have k1039 := bx1023.cell 1 rfl; have k1040 := bx1023.cell 2 rfl) | (go_at_call 9; with_reducible refine (simpl_ImageOf r0 _ d0 _ r1 s1 _ d1 _ _ _ _ h1025 _b0 _o0 hl0 _ _ h1015  hl1 rr0 rs0 res0 res1 HRES.out).mono ?_; rintro e w31 ⟨AA1042, cc1043, rfl, h1044, md1041⟩; have bx1046 := bx1017.mid md1041 (Or.inr (Nat.zero_le _)); have h1047 := RSS.mid h1018 md1041 (Or.inl (Nat.zero_le _)); have bx1048 := bx1019.mid md1041 (Or.inr (Nat.zero_le _)); have h1049 := RG.mid h1020 md1041 (Or.inl (Nat.zero_le _)); have bx1050 := bx1021.mid md1041 (Or.inr (Nat.zero_le _)); have h1051 := OG.mid h1022 md1041 (Or.inl (Nat.zero_le _)); have bx1052 := bx1023.mid md1041 (Or.inr (Nat.zero_le _)); have h1053 := OG.mid h1024 md1041 (Or.inl (Nat.zero_le _)); have h1054 := OSS.mid h1025 md1041 (Or.inl (Nat.zero_le _)); have h1055 := OG.mid h1015 md1041 (Or.inl (Nat.zero_le _)); have b1056 := below_mid b1026 z1027 md1041 (Or.inr rfl); have z1057 := b1056.size; have y1058 := md1041.size; have tt1059 := tt1029.trans md1041; have k1060 := bx1046.cell 0 rfl; have k1061 := bx1046.cell 1 rfl; have k1062 := bx1048.cell 0 rfl; have k1063 := bx1048.cell 1 rfl; have k1064 := bx1048.cell 2 rfl; have k1065 := bx1050.cell 0 rfl; have k1066 := bx1050.cell 1 rfl; have k1067 := bx1050.cell 2 rfl; have k1068 := bx1052.cell 0 rfl; have k1069 := bx1052.cell 1 rfl; have k1070 := bx1052.cell 2 rfl) | (go_at_call 9; have md1071 : Mid 0 0 w30 (w30.alloc (.cells #[.int .i64 0, .int .i64 0, .slice none 0 0] 32)) := Mid.alloc _ _; have bx1072 := bx1017.mid md1071 (Or.inr (Nat.zero_le _)); have h1073 := RSS.mid h1018 md1071 (Or.inl (Nat.zero_le _)); have bx1074 := bx1019.mid md1071 (Or.inr (Nat.zero_le _)); have h1075 := RG.mid h1020 md1071 (Or.inl (Nat.zero_le _)); have bx1076 := bx1021.mid md1071 (Or.inr (Nat.zero_le _)); have h1077 := OG.mid h1022 md1071 (Or.inl (Nat.zero_le _)); have bx1078 := bx1023.mid md1071 (Or.inr (Nat.zero_le _)); have h1079 := OG.mid h1024 md1071 (Or.inl (Nat.zero_le _)); have h1080 := OSS.mid h1025 md1071 (Or.inl (Nat.zero_le _)); have h1081 := OG.mid h1015 md1071 (Or.inl (Nat.zero_le _)); have b1082 := below_mid b1026 z1027 md1071 (Or.inr rfl); have z1083 := b1082.size; have y1084 := md1071.size; have tt1085 := tt1029.trans md1071; have bz1086 : Box (w30.alloc (.cells #[.int .i64 0, .int .i64 0, .slice none 0 0] 32)) (w30.heap.size) [.int .i64 0, .int .i64 0, .slice none 0 0] := Box.new w30 #[.int .i64 0, .int .i64 0, .slice none 0 0] 32; have y1087 : w30.heap.size + 1 ≤ (w30.alloc (.cells #[.int .i64 0, .int .i64 0, .slice none 0 0] 32)).heap.size := (by simp); have k1088 := bx1072.cell 0 rfl; have k1089 := bx1072.cell 1 rfl; have k1090 := bx1074.cell 0 rfl; have k1091 := bx1074.cell 1 rfl; have k1092 := bx1074.cell 2 rfl; have k1093 := bx1076.cell 0 rfl; have k1094 := bx1076.cell 1 rfl; have k1095 := bx1076.cell 2 rfl; have k1096 := bx1078.cell 0 rfl; have k1097 := bx1078.cell 1 rfl; have k1098 := bx1078.cell 2 rfl; have k1099 := bz1086.cell 0 rfl; have k1100 := bz1086.cell 1 rfl; have k1101 := bz1086.cell 2 rfl; have f1102 := frz_ImageOf bz1086; with_reducible refine (simpl_ImageOf r0 _ d0 _ r1 s1 _ d1 _ _ _ _ h1080 _b0 _o0 hl0 _ _ h1081  hl1 rr0 rs0 res0 res1 HRES.out).mono ?_; rintro e w32 ⟨AA1104, cc1105, rfl, h1106, md1103⟩; have bx1108 := bx1072.mid md1103 (Or.inr (Nat.zero_le _)); have h1109 := RSS.mid h1073 md1103 (Or.inl (Nat.zero_le _)); have bx1110 := bx1074.mid md1103 (Or.inr (Nat.zero_le _)); have h1111 := RG.mid h1075 md1103 (Or.inl (Nat.zero_le _)); have bx1112 := bx1076.mid md1103 (Or.inr (Nat.zero_le _)); have h1113 := OG.mid h1077 md1103 (Or.inl (Nat.zero_le _)); have bx1114 := bx1078.mid md1103 (Or.inr (Nat.zero_le _)); have h1115 := OG.mid h1079 md1103 (Or.inl (Nat.zero_le _)); have h1116 := OSS.mid h1080 md1103 (Or.inl (Nat.zero_le _)); have h1117 := OG.mid h1081 md1103 (Or.inl (Nat.zero_le _)); have bx1118 := bz1086.mid md1103 (Or.inr (Nat.zero_le _)); have b1119 := below_mid b1082 z1083 md1103 (Or.inr rfl); have z1120 := b1119.size; have y1121 := md1103.size; have tt1122 := tt1085.trans md1103; have k1123 := bx1108.cell 0 rfl; have k1124 := bx1108.cell 1 rfl; have k1125 := bx1110.cell 0 rfl; have k1126 := bx1110.cell 1 rfl; have k1127 := bx1110.cell 2 rfl; have k1128 := bx1112.cell 0 rfl; have k1129 := bx1112.cell 1 rfl; have k1130 := bx1112.cell 2 rfl; have k1131 := bx1114.cell 0 rfl; have k1132 := bx1114.cell 1 rfl; have k1133 := bx1114.cell 2 rfl; have k1134 := bx1118.cell 0 rfl; have k1135 := bx1118.cell 1 rfl; have k1136 := bx1118.cell 2 rfl; have f1137 := frz_ImageOf bx1118) | (go_at_call 8; have md1138 : Mid 0 0 w29 (w29.alloc (.cells #[.int .i64 0, .int .i64 0, .slice none 0 0] 32)) := Mid.alloc _ _; have bx1139 := bx990.mid md1138 (Or.inr (Nat.zero_le _)); have h1140 := RSS.mid h991 md1138 (Or.inl (Nat.zero_le _)); have bx1141 := bx992.mid md1138 (Or.inr (Nat.zero_le _)); have h1142 := RG.mid h993 md1138 (Or.inl (Nat.zero_le _)); have bx1143 := bx994.mid md1138 (Or.inr (Nat.zero_le _)); have h1144 := OG.mid h995 md1138 (Or.inl (Nat.zero_le _)); have bx1145 := bx996.mid md1138 (Or.inr (Nat.zero_le _)); have h1146 := OG.mid h997 md1138 (Or.inl (Nat.zero_le _)); have h1147 := OSS.mid h988 md1138 (Or.inl (Nat.zero_le _)); have b1148 := below_mid b998 z999 md1138 (Or.inr rfl); have z1149 := b1148.size; have y1150 := md1138.size; have tt1151 := tt1001.trans md1138; have bz1152 : Box (w29.alloc (.cells #[.int .i64 0, .int .i64 0, .slice none 0 0] 32)) (w29.heap.size) [.int .i64 0, .int .i64 0, .slice none 0 0] := Box.new w29 #[.int .i64 0, .int .i64 0, .slice none 0 0] 32; have y1153 : w29.heap.size + 1 ≤ (w29.alloc (.cells #[.int .i64 0, .int .i64 0, .slice none 0 0] 32)).heap.size := (by simp); have k1154 := bx1139.cell 0 rfl; have k1155 := bx1139.cell 1 rfl; have k1156 := bx1141.cell 0 rfl; have k1157 := bx1141.cell 1 rfl; have k1158 := bx1141.cell 2 rfl; have k1159 := bx1143.cell 0 rfl; have k1160 := bx1143.cell 1 rfl; have k1161 := bx1143.cell 2 rfl; have k1162 := bx1145.cell 0 rfl; have k1163 := bx1145.cell 1 rfl; have k1164 := bx1145.cell 2 rfl; have k1165 := bz1152.cell 0 rfl; have k1166 := bz1152.cell 1 rfl; have k1167 := bz1152.cell 2 rfl; have f1168 := frz_ImageOf bz1152; with_reducible refine (toGraph_any r1 s1 _ d1 _ _ _ _ h1142 hl1).mono ?_; rintro e w33 ⟨AA1169, cc1170, rfl, h1171, md1172⟩; have bx1173 := bx1139.mid md1172 (Or.inr (Nat.zero_le _)); have h1174 := RSS.mid h1140 md1172 (Or.inl (Nat.zero_le _)); have bx1175 := bx1141.mid md1172 (Or.inr (Nat.zero_le _)); have h1176 := RG.mid h1142 md1172 (Or.inl (Nat.zero_le _)); have bx1177 := bx1143.mid md1172 (Or.inr (Nat.zero_le _)); have h1178 := OG.mid h1144 md1172 (Or.inl (Nat.zero_le _)); have bx1179 := bx1145.mid md1172 (Or.inr (Nat.zero_le _)); have h1180 := OG.mid h1146 md1172 (Or.inl (Nat.zero_le _)); have h1181 := OSS.mid h1147 md1172 (Or.inl (Nat.zero_le _)); have bx1182 := bz1152.mid md1172 (Or.inr (Nat.zero_le _)); have b1183 := below_mid b1148 z1149 md1172 (Or.inr rfl); have z1184 := b1183.size; have y1185 := md1172.size; have tt1186 := tt1151.trans md1172; have k1187 := bx1173.cell 0 rfl; have k1188 := bx1173.cell 1 rfl; have k1189 := bx1175.cell 0 rfl; have k1190 := bx1175.cell 1 rfl; have k1191 := bx1175.cell 2 rfl; have k1192 := bx1177.cell 0 rfl; have k1193 := bx1177.cell 1 rfl; have k1194 := bx1177.cell 2 rfl; have k1195 := bx1179.cell 0 rfl; have k1196 := bx1179.cell 1 rfl; have k1197 := bx1179.cell 2 rfl; have k1198 := bx1182.cell 0 rfl; have k1199 := bx1182.cell 1 rfl; have k1200 := bx1182.cell 2 rfl; have f1201 := frz_ImageOf bx1182) | (go_at_call 9; with_reducible refine (simpl_ImageOf r0 _ d0 _ r1 s1 _ d1 _ _ _ _ h1181 _b0 _o0 hl0 _ _ h1171  hl1 rr0 rs0 res0 res1 HRES.out).mono ?_; rintro e w34 ⟨AA1203, cc1204, rfl, h1205, md1202⟩; have bx1207 := bx1173.mid md1202 (Or.inr (Nat.zero_le _)); have h1208 := RSS.mid h1174 md1202 (Or.inl (Nat.zero_le _)); have bx1209 := bx1175.mid md1202 (Or.inr (Nat.zero_le _)); have h1210 := RG.mid h1176 md1202 (Or.inl (Nat.zero_le _)); have bx1211 := bx1177.mid md1202 (Or.inr (Nat.zero_le _)); have h1212 := OG.mid h1178 md1202 (Or.inl (Nat.zero_le _)); have bx1213 := bx1179.mid md1202 (Or.inr (Nat.zero_le _)); have h1214 := OG.mid h1180 md1202 (Or.inl (Nat.zero_le _)); have h1215 := OSS.mid h1181 md1202 (Or.inl (Nat.zero_le _)); have bx1216 := bx1182.mid md1202 (Or.inr (Nat.zero_le _)); have h1217 := OG.mid h1171 md1202 (Or.inl (Nat.zero_le _)); have b1218 := below_mid b1183 z1184 md1202 (Or.inr rfl); have z1219 := b1218.size; have y1220 := md1202.size; have tt1221 := tt1186.trans md1202; have k1222 := bx1207.cell 0 rfl; have k1223 := bx1207.cell 1 rfl; have k1224 := bx1209.cell 0 rfl; have k1225 := bx1209.cell 1 rfl; have k1226 := bx1209.cell 2 rfl; have k1227 := bx1211.cell 0 rfl; have k1228 := bx1211.cell 1 rfl; have k1229 := bx1211.cell 2 rfl; have k1230 := bx1213.cell 0 rfl; have k1231 := bx1213.cell 1 rfl; have k1232 := bx1213.cell 2 rfl; have k1233 := bx1216.cell 0 rfl; have k1234 := bx1216.cell 1 rfl; have k1235 := bx1216.cell 2 rfl; have f1236 := frz_ImageOf bx1216) | (go_at_call 7; have md1237 : Mid 0 0 w28 (w28.alloc (.cells #[.int .i64 0, .int .i64 0, .slice none 0 0] 32)) := Mid.alloc _ _; have md1238 : Mid 0 0 w28 (w28.alloc (.cells #[.int .i64 0, .int .i64 0, .slice none 0 0] 32)).drew := md1237.trans (Mid.drew1 _); have bx1239 := bx940.mid md1238 (Or.inr (Nat.zero_le _)); have h1240 := RSS.mid h941 md1238 (Or.inl (Nat.zero_le _)); have bx1241 := bx942.mid md1238 (Or.inr (Nat.zero_le _)); have h1242 := RG.mid h943 md1238 (Or.inl (Nat.zero_le _)); have bx1243 := bx944.mid md1238 (Or.inr (Nat.zero_le _)); have h1244 := OG.mid h945 md1238 (Or.inl (Nat.zero_le _)); have bx1245 := bx946.mid md1238 (Or.inr (Nat.zero_le _)); have h1246 := OG.mid h947 md1238 (Or.inl (Nat.zero_le _)); have b1247 := below_mid b948 z949 md1238 (Or.inr rfl); have z1248 := b1247.size; have y1249 := md1238.size; have bz1250 : Box (w28.alloc (.cells #[.int .i64 0, .int .i64 0, .slice none 0 0] 32)).drew (w28.heap.size) [.int .i64 0, .int .i64 0, .slice none 0 0] := Box.new w28 #[.int .i64 0, .int .i64 0, .slice none 0 0] 32; have y1251 : w28.heap.size + 1 ≤ (w28.alloc (.cells #[.int .i64 0, .int .i64 0, .slice none 0 0] 32)).drew.heap.size := (by simp); have k1252 := bx1239.cell 0 rfl; have k1253 := bx1239.cell 1 rfl; have k1254 := bx1241.cell 0 rfl; have k1255 := bx1241.cell 1 rfl; have k1256 := bx1241.cell 2 rfl; have k1257 := bx1243.cell 0 rfl; have k1258 := bx1243.cell 1 rfl; have k1259 := bx1243.cell 2 rfl; have k1260 := bx1245.cell 0 rfl; have k1261 := bx1245.cell 1 rfl; have k1262 := bx1245.cell 2 rfl; have k1263 := bz1250.cell 0 rfl; have k1264 := bz1250.cell 1 rfl; have k1265 := bz1250.cell 2 rfl; have f1266 := frz_ImageOf bz1250; with_reducible refine (toMorphism_any r0 _ d0 _ _ _ _ h1240 hl0).mono ?_; rintro e w35 ⟨AA1267, cc1268, rfl, h1269, md1270⟩; have bx1271 := bx1239.mid md1270 (Or.inr (Nat.zero_le _)); have h1272 := RSS.mid h1240 md1270 (Or.inl (Nat.zero_le _)); have bx1273 := bx1241.mid md1270 (Or.inr (Nat.zero_le _)); have h1274 := RG.mid h1242 md1270 (Or.inl (Nat.zero_le _)); have bx1275 := bx1243.mid md1270 (Or.inr (Nat.zero_le _)); have h1276 := OG.mid h1244 md1270 (Or.inl (Nat.zero_le _)); have bx1277 := bx1245.mid md1270 (Or.inr (Nat.zero_le _)); have h1278 := OG.mid h1246 md1270 (Or.inl (Nat.zero_le _)); have bx1279 := bz1250.mid md1270 (Or.inr (Nat.zero_le _)); have b1280 := below_mid b1247 z1248 md1270 (Or.inr rfl); have z1281 := b1280.size; have y1282 := md1270.size; have tt1283 := md1238.trans md1270; have k1284 := bx1271.cell 0 rfl; have k1285 := bx1271.cell 1 rfl; have k1286 := bx1273.cell 0 rfl; have k1287 := bx1273.cell 1 rfl; have k1288 := bx1273.cell 2 rfl; have k1289 := bx1275.cell 0 rfl; have k1290 := bx1275.cell 1 rfl; have k1291 := bx1275.cell 2 rfl; have k1292 := bx1277.cell 0 rfl; have k1293 := bx1277.cell 1 rfl; have k1294 := bx1277.cell 2 rfl; have k1295 := bx1279.cell 0 rfl; have k1296 := bx1279.cell 1 rfl; have k1297 := bx1279.cell 2 rfl; have f1298 := frz_ImageOf bx1279) | (go_at_call 8; with_reducible refine (toGraph_any r1 s1 _ d1 _ _ _ _ h1274 hl1).mono ?_; rintro e w36 ⟨AA1299, cc1300, rfl, h1301, md1302⟩; have bx1303 := bx1271.mid md1302 (Or.inr (Nat.zero_le _)); have h1304 := RSS.mid h1272 md1302 (Or.inl (Nat.zero_le _)); have bx1305 := bx1273.mid md1302 (Or.inr (Nat.zero_le _)); have h1306 := RG.mid h1274 md1302 (Or.inl (Nat.zero_le _)); have bx1307 := bx1275.mid md1302 (Or.inr (Nat.zero_le _)); have h1308 := OG.mid h1276 md1302 (Or.inl (Nat.zero_le _)); have bx1309 := bx1277.mid md1302 (Or.inr (Nat.zero_le _)); have h1310 := OG.mid h1278 md1302 (Or.inl (Nat.zero_le _)); have bx1311 := bx1279.mid md1302 (Or.inr (Nat.zero_le _)); have h1312 := OSS.mid h1269 md1302 (Or.inl (Nat.zero_le _)); have b1313 := below_mid b1280 z1281 md1302 (Or.inr rfl); have z1314 := b1313.size; have y1315 := md1302.size; have tt1316 := tt1283.trans md1302; have k1317 := bx1303.cell 0 rfl; have k1318 := bx1303.cell 1 rfl; have k1319 := bx1305.cell 0 rfl; have k1320 := bx1305.cell 1 rfl; have k1321 := bx1305.cell 2 rfl; have k1322 := bx1307.cell 0 rfl; have k1323 := bx1307.cell 1 rfl; have k1324 := bx1307.cell 2 rfl; have k1325 := bx1309.cell 0 rfl; have k1326 := bx1309.cell 1 rfl; have k1327 := bx1309.cell 2 rfl; have k1328 := bx1311.cell 0 rfl; have k1329 := bx1311.cell 1 rfl; have k1330 := bx1311.cell 2 rfl; have f1331 := frz_ImageOf bx1311) | (go_at_call 9; with_reducible refine (simpl_ImageOf r0 _ d0 _ r1 s1 _ d1 _ _ _ _ h1312 _b0 _o0 hl0 _ _ h1301  hl1 rr0 rs0 res0 res1 HRES.out).mono ?_; rintro e w37 ⟨AA1333, cc1334, rfl, h1335, md1332⟩; have bx1337 := bx1303.mid md1332 (Or.inr (Nat.zero_le _)); have h1338 := RSS.mid h1304 md1332 (Or.inl (Nat.zero_le _)); have bx1339 := bx1305.mid md1332 (Or.inr (Nat.zero_le _)); have h1340 := RG.mid h1306 md1332 (Or.inl (Nat.zero_le _)); have bx1341 := bx1307.mid md1332 (Or.inr (Nat.zero_le _)); have h1342 := OG.mid h1308 md1332 (Or.inl (Nat.zero_le _)); have bx1343 := bx1309.mid md1332 (Or.inr (Nat.zero_le _)); have h1344 := OG.mid h1310 md1332 (Or.inl (Nat.zero_le _)); have bx1345 := bx1311.mid md1332 (Or.inr (Nat.zero_le _)); have h1346 := OSS.mid h1312 md1332 (Or.inl (Nat.zero_le _)); have h1347 := OG.mid h1301 md1332 (Or.inl (Nat.zero_le _)); have b1348 := below_mid b1313 z1314 md1332 (Or.inr rfl); have z1349 := b1348.size; have y1350 := md1332.size; have tt1351 := tt1316.trans md1332; have k1352 := bx1337.cell 0 rfl; have k1353 := bx1337.cell 1 rfl; have k1354 := bx1339.cell 0 rfl; have k1355 := bx1339.cell 1 rfl; have k1356 := bx1339.cell 2 rfl; have k1357 := bx1341.cell 0 rfl; have k1358 := bx1341.cell 1 rfl; have k1359 := bx1341.cell 2 rfl; have k1360 := bx1343.cell 0 rfl; have k1361 := bx1343.cell 1 rfl; have k1362 := bx1343.cell 2 rfl; have k1363 := bx1345.cell 0 rfl; have k1364 := bx1345.cell 1 rfl; have k1365 := bx1345.cell 2 rfl; have f1366 := frz_ImageOf bx1345))
      all_goals (go_wp2_with fail; go_meet; first | exact ⟨w31.heap.size, AA1042, cc1043, rfl, rfl, Box.new w31 #[.int .i64 rr0, .int .i64 rs0, .slice AA1042 res0.length cc1043] 32, OG.wide (OG.mid h1044 (Mid.alloc w31 (.cells #[.int .i64 rr0, .int .i64 rs0, .slice AA1042 res0.length cc1043] 32)) (Or.inl (Nat.zero_le _))) (by omega) (by simp) (Nat.le_refl _), tt1059.trans (Mid.alloc w31 (.cells #[.int .i64 rr0, .int .i64 rs0, .slice AA1042 res0.length cc1043] 32)), by omega⟩ | exact ⟨w30.heap.size, AA1104, cc1105, rfl, rfl, (((bx1118.set 0 _ (by simp) rfl).set 1 _ (by simp) rfl).set 2 _ (by simp) rfl), OG.wide (OG.mid (OG.mid (OG.mid h1106 (Mid.setCell w32 (lo := w30.heap.size) (hi := w30.heap.size + 1) (p := ⟨w30.heap.size, 0, none⟩) (.int .i64 rr0) (by simp) (by simp)) (by omega)) (Mid.setCell (w32.setCell ⟨w30.heap.size, 0, none⟩ (.int .i64 rr0)) (lo := w30.heap.size) (hi := w30.heap.size + 1) (p := ⟨w30.heap.size, 1, none⟩) (.int .i64 rs0) (by simp) (by simp)) (by omega)) (Mid.setCell ((w32.setCell ⟨w30.heap.size, 0, none⟩ (.int .i64 rr0)).setCell ⟨w30.heap.size, 1, none⟩ (.int .i64 rs0)) (lo := w30.heap.size) (hi := w30.heap.size + 1) (p := ⟨w30.heap.size, 2, none⟩) (.slice AA1104 res0.length cc1105) (by simp) (by simp)) (by omega)) (by omega) (by simp) (Nat.le_refl _), (((tt1122.storeNew (by simp <;> omega) _).storeNew (by simp <;> omega) _).storeNew (by simp <;> omega) _), by omega⟩ | exact ⟨w29.heap.size, AA1203, cc1204, rfl, rfl, (((bx1216.set 0 _ (by simp) rfl).set 1 _ (by simp) rfl).set 2 _ (by simp) rfl), OG.wide (OG.mid (OG.mid (OG.mid h1205 (Mid.setCell w34 (lo := w29.heap.size) (hi := w29.heap.size + 1) (p := ⟨w29.heap.size, 0, none⟩) (.int .i64 rr0) (by simp) (by simp)) (by omega)) (Mid.setCell (w34.setCell ⟨w29.heap.size, 0, none⟩ (.int .i64 rr0)) (lo := w29.heap.size) (hi := w29.heap.size + 1) (p := ⟨w29.heap.size, 1, none⟩) (.int .i64 rs0) (by simp) (by simp)) (by omega)) (Mid.setCell ((w34.setCell ⟨w29.heap.size, 0, none⟩ (.int .i64 rr0)).setCell ⟨w29.heap.size, 1, none⟩ (.int .i64 rs0)) (lo := w29.heap.size) (hi := w29.heap.size + 1) (p := ⟨w29.heap.size, 2, none⟩) (.slice AA1203 res0.length cc1204) (by simp) (by simp)) (by omega)) (by omega) (by simp) (Nat.le_refl _), (((tt1221.storeNew (by simp <;> omega) _).storeNew (by simp <;> omega) _).storeNew (by simp <;> omega) _), by omega⟩ | exact ⟨w28.heap.size, AA1333, cc1334, rfl, rfl, (((bx1345.set 0 _ (by simp) rfl).set 1 _ (by simp) rfl).set 2 _ (by simp) rfl), OG.wide (OG.mid (OG.mid (OG.mid h1335 (Mid.setCell w37 (lo := w28.heap.size) (hi := w28.heap.size + 1) (p := ⟨w28.heap.size, 0, none⟩) (.int .i64 rr0) (by simp) (by simp)) (by omega)) (Mid.setCell (w37.setCell ⟨w28.heap.size, 0, none⟩ (.int .i64 rr0)) (lo := w28.heap.size) (hi := w28.heap.size + 1) (p := ⟨w28.heap.size, 1, none⟩) (.int .i64 rs0) (by simp) (by simp)) (by omega)) (Mid.setCell ((w37.setCell ⟨w28.heap.size, 0, none⟩ (.int .i64 rr0)).setCell ⟨w28.heap.size, 1, none⟩ (.int .i64 rs0)) (lo := w28.heap.size) (hi := w28.heap.size + 1) (p := ⟨w28.heap.size, 2, none⟩) (.slice AA1333 res0.length cc1334) (by simp) (by simp)) (by omega)) (by omega) (by simp) (Nat.le_refl _), (((tt1351.storeNew (by simp <;> omega) _).storeNew (by simp <;> omega) _).storeNew (by simp <;> omega) _), by omega⟩)
    case rest =>
      obtain ⟨g1367, AA1372, cc1373, rfl, rfl, bx1368, h1369, md1370, y1371⟩ := hcut
      obtain ⟨w38, rfl⟩ : ∃ x, x = wc := ⟨_, rfl⟩
      have bx1374 := bx940.mid md1370 (Or.inr (Nat.zero_le _))
      clear bx940
      have h1375 := RSS.mid h941 md1370 (Or.inl (Nat.zero_le _))
      clear h941
      have bx1376 := bx942.mid md1370 (Or.inr (Nat.zero_le _))
      clear bx942
      have h1377 := RG.mid h943 md1370 (Or.inl (Nat.zero_le _))
      clear h943
      have bx1378 := bx944.mid md1370 (Or.inr (Nat.zero_le _))
      clear bx944
      have h1379 := OG.mid h945 md1370 (Or.inl (Nat.zero_le _))
      clear h945
      have bx1380 := bx946.mid md1370 (Or.inr (Nat.zero_le _))
      clear bx946
      have h1381 := OG.mid h947 md1370 (Or.inl (Nat.zero_le _))
      clear h947
      have b1382 := below_mid b948 z949 md1370 (Or.inr rfl)
      have z1383 := b1382.size
      have y1384 := md1370.size
      have y1385 := bx1368.1
      clear k951
      clear k952
      have k1386 := bx1374.cell 0 rfl
      have k1387 := bx1374.cell 1 rfl
      clear k953
      clear k954
      clear k955
      have k1388 := bx1376.cell 0 rfl
      have k1389 := bx1376.cell 1 rfl
      have k1390 := bx1376.cell 2 rfl
      clear k956
      clear k957
      clear k958
      have k1391 := bx1378.cell 0 rfl
      have k1392 := bx1378.cell 1 rfl
      have k1393 := bx1378.cell 2 rfl
      clear k959
      clear k960
      clear k961
      have k1394 := bx1380.cell 0 rfl
      have k1395 := bx1380.cell 1 rfl
      have k1396 := bx1380.cell 2 rfl
      have k1397 := bx1368.cell 0 rfl
      have k1398 := bx1368.cell 1 rfl
      have k1399 := bx1368.cell 2 rfl
      go_wp2_with fail
      with_reducible refine (eqGraph_same _ _ _ _ res0 _ _ _ _ _ _ _ (OG.rg h1369) (OG.rg h1379) hlr0).mono ?_
      rintro e w39 ⟨rfl, md1400⟩
      have bx1401 := bx1374.mid md1400 (Or.inr (Nat.zero_le _))
      clear bx1374
      have h1402 := RSS.mid h1375 md1400 (Or.inl (Nat.zero_le _))
      clear h1375
      have bx1403 := bx1376.mid md1400 (Or.inr (Nat.zero_le _))
      clear bx1376
      have h1404 := RG.mid h1377 md1400 (Or.inl (Nat.zero_le _))
      clear h1377
      have bx1405 := bx1378.mid md1400 (Or.inr (Nat.zero_le _))
      clear bx1378
      have h1406 := OG.mid h1379 md1400 (Or.inl (Nat.zero_le _))
      clear h1379
      have bx1407 := bx1380.mid md1400 (Or.inr (Nat.zero_le _))
      clear bx1380
      have h1408 := OG.mid h1381 md1400 (Or.inl (Nat.zero_le _))
      clear h1381
      have bx1409 := bx1368.mid md1400 (Or.inr (Nat.zero_le _))
      clear bx1368
      have h1410 := OG.mid h1369 md1400 (Or.inl (Nat.zero_le _))
      clear h1369
      have b1411 := below_mid b1382 z1383 md1400 (Or.inr rfl)
      have z1412 := b1411.size
      have y1413 := md1400.size
      clear k1386
      clear k1387
      have k1414 := bx1401.cell 0 rfl
      have k1415 := bx1401.cell 1 rfl
      clear k1388
      clear k1389
      clear k1390
      have k1416 := bx1403.cell 0 rfl
      have k1417 := bx1403.cell 1 rfl
      have k1418 := bx1403.cell 2 rfl
      clear k1391
      clear k1392
      clear k1393
      have k1419 := bx1405.cell 0 rfl
      have k1420 := bx1405.cell 1 rfl
      have k1421 := bx1405.cell 2 rfl
      clear k1394
      clear k1395
      clear k1396
      have k1422 := bx1407.cell 0 rfl
      have k1423 := bx1407.cell 1 rfl
      have k1424 := bx1407.cell 2 rfl
      clear k1397
      clear k1398
      clear k1399
      have k1425 := bx1409.cell 0 rfl
      have k1426 := bx1409.cell 1 rfl
      have k1427 := bx1409.cell 2 rfl
      go_wp2_with fail
      with_reducible refine (heldGraph_any _ _ _ res0.length _ 1 _ _ _ h1408 (by omega) (by omega) hlr0).mono ?_
      rintro e w40 ⟨rfl, md1428⟩
      have bx1429 := bx1401.mid md1428 (Or.inr (Nat.zero_le _))
      clear bx1401
      have h1430 := RSS.mid h1402 md1428 (Or.inl (Nat.zero_le _))
      clear h1402
      have bx1431 := bx1403.mid md1428 (Or.inr (Nat.zero_le _))
      clear bx1403
      have h1432 := RG.mid h1404 md1428 (Or.inl (Nat.zero_le _))
      clear h1404
      have bx1433 := bx1405.mid md1428 (Or.inr (Nat.zero_le _))
      clear bx1405
      have h1434 := OG.mid h1406 md1428 (Or.inl (Nat.zero_le _))
      clear h1406
      have bx1435 := bx1407.mid md1428 (Or.inr (Nat.zero_le _))
      clear bx1407
      have h1436 := OG.mid h1408 md1428 (Or.inl (Nat.zero_le _))
      clear h1408
      have bx1437 := bx1409.mid md1428 (Or.inr (Nat.zero_le _))
      clear bx1409
      have h1438 := OG.mid h1410 md1428 (Or.inl (Nat.zero_le _))
      clear h1410
      have b1439 := below_mid b1411 z1412 md1428 (Or.inr rfl)
      have z1440 := b1439.size
      have y1441 := md1428.size
      clear k1414
      clear k1415
      have k1442 := bx1429.cell 0 rfl
      have k1443 := bx1429.cell 1 rfl
      clear k1416
      clear k1417
      clear k1418
      have k1444 := bx1431.cell 0 rfl
      have k1445 := bx1431.cell 1 rfl
      have k1446 := bx1431.cell 2 rfl
      clear k1419
      clear k1420
      clear k1421
      have k1447 := bx1433.cell 0 rfl
      have k1448 := bx1433.cell 1 rfl
      have k1449 := bx1433.cell 2 rfl
      clear k1422
      clear k1423
      clear k1424
      have k1450 := bx1435.cell 0 rfl
      have k1451 := bx1435.cell 1 rfl
      have k1452 := bx1435.cell 2 rfl
      clear k1425
      clear k1426
      clear k1427
      have k1453 := bx1437.cell 0 rfl
      have k1454 := bx1437.cell 1 rfl
      have k1455 := bx1437.cell 2 rfl
      go_wp2_with fail
      go_ret
      exact ⟨rfl, b1439⟩
end Go.Proofs.YtkaofcakelpnpaaGreat
