/- The walk of the law FnExactComposeMorphisms: it returns true at every input, and turns nothing that was there. -/
import Derived.Test.YtaddhbdfjkbgiaaL27
import Derived.Deep.RegionHeld3
import Derived.Deep.DeepCutAuto
namespace Go.Proofs.Ytaddhbdfjkbgiaa
open Go.RowKit
set_option linter.unusedVariables false
set_option linter.unusedSimpArgs false

theorem frz_ComposeMorphisms {w : World} {b : Nat} {cs : List Value} (h : Box w b cs) : ∀ i, w.frozen? ⟨b, i, none⟩ = false := h.2.2
set_option maxRecDepth 100000 in
set_option maxHeartbeats 8000000 in
theorem walk_ComposeMorphisms (r0 : Int) (A0 : Option Addr) (d0 : List (List Int)) (c0 : Nat) (r1 : Int) (A1 : Option Addr) (d1 : List (List Int)) (c1 : Nat) (w : World) (_b0 : (Lit.int .i64 r0).wf = true) (m0 : RSS w 0 w.heap.size A0 d0) (_o0 : OkSS d0) (_b1 : (Lit.int .i64 r1).wf = true) (m1 : RSS w 0 w.heap.size A1 d1) (_o1 : OkSS d1) :
    Calls Try.prog 12 #[.agg #[.int .i64 r0, .slice A0 d0.length c0], .agg #[.int .i64 r1, .slice A1 d1.length c1]] w fun e w' => e = .returned (.bool true) ∧ Below w.heap.size w w' := by
  obtain ⟨z0, hz0⟩ : ∃ z, z = szI 1048576 (d0.length + sumL d0) := ⟨_, rfl⟩
  have E0 := Lib.hid hz0.symm
  rcases szI_case 1048576 (d0.length + sumL d0) with hs0 | ⟨hs0, hs0'⟩
  · obtain rfl : z0 = -1 := hz0.trans hs0
    clear hs0 hz0
    have hh1 := m0
    have hh2 := m1
    go_enter Try.func12, Try.ntmps12
    have md3 : Mid 0 0 w (w.alloc (.cells #[.int .i64 r0, .slice A0 d0.length c0] 30)) := Mid.alloc _ _
    have h4 := RSS.mid hh1 md3 (Or.inl (Nat.zero_le _))
    clear hh1
    have h5 := RSS.mid hh2 md3 (Or.inl (Nat.zero_le _))
    clear hh2
    have b6 := below_mid (Below.refl w.heap.size w) (Nat.le_refl w.heap.size) md3 (Or.inr rfl)
    have z7 := b6.size
    have y8 := md3.size
    have bx9 := Box.new w #[.int .i64 r0, .slice A0 d0.length c0] 30
    have y10 : w.heap.size + 1 ≤ (w.alloc (.cells #[.int .i64 r0, .slice A0 d0.length c0] 30)).heap.size := (by simp)
    have md11 : Mid 0 0 (w.alloc (.cells #[.int .i64 r0, .slice A0 d0.length c0] 30)) ((w.alloc (.cells #[.int .i64 r0, .slice A0 d0.length c0] 30)).alloc (.cells #[.int .i64 r1, .slice A1 d1.length c1] 30)) := Mid.alloc _ _
    have bx12 := bx9.mid md11 (Or.inr (Nat.zero_le _))
    clear bx9
    have h13 := RSS.mid h4 md11 (Or.inl (Nat.zero_le _))
    clear h4
    have h14 := RSS.mid h5 md11 (Or.inl (Nat.zero_le _))
    clear h5
    have b15 := below_mid b6 z7 md11 (Or.inr rfl)
    have z16 := b15.size
    have y17 := md11.size
    have bx18 := Box.new (w.alloc (.cells #[.int .i64 r0, .slice A0 d0.length c0] 30)) #[.int .i64 r1, .slice A1 d1.length c1] 30
    have y19 : (w.alloc (.cells #[.int .i64 r0, .slice A0 d0.length c0] 30)).heap.size + 1 ≤ ((w.alloc (.cells #[.int .i64 r0, .slice A0 d0.length c0] 30)).alloc (.cells #[.int .i64 r1, .slice A1 d1.length c1] 30)).heap.size := (by simp)
    simp only [World.size_alloc, Nat.add_assoc, Nat.reduceAdd] at bx18
    have k20 := bx12.cell 0 rfl
    have k21 := bx12.cell 1 rfl
    have k22 := bx18.cell 0 rfl
    have k23 := bx18.cell 1 rfl
    go_wp2_with fail
    with_reducible refine (szMorphism_any _ _ d0 _ 1048576 _ _ _ h13 (OkSS.len _o0) (by omega) (by omega)).mono ?_
    rintro e w1 ⟨rfl, md24⟩
    rw [E0.out]
    have bx25 := bx12.mid md24 (Or.inr (Nat.zero_le _))
    clear bx12
    have h26 := RSS.mid h13 md24 (Or.inl (Nat.zero_le _))
    clear h13
    have bx27 := bx18.mid md24 (Or.inr (Nat.zero_le _))
    clear bx18
    have h28 := RSS.mid h14 md24 (Or.inl (Nat.zero_le _))
    clear h14
    have b29 := below_mid b15 z16 md24 (Or.inr rfl)
    have z30 := b29.size
    have y31 := md24.size
    clear k20
    clear k21
    have k32 := bx25.cell 0 rfl
    have k33 := bx25.cell 1 rfl
    clear k22
    clear k23
    have k34 := bx27.cell 0 rfl
    have k35 := bx27.cell 1 rfl
    go_wp2_with fail
    go_ret
    exact ⟨rfl, b29⟩
  rw [hs0'] at hz0
  have hp0 : 0 ≤ z0 := by omega
  have hq0 : z0 ≤ 1048576 := by omega
  have hl0 : d0.length + sumL d0 ≤ 1048576 := by omega
  clear hs0 hs0' hz0
  obtain ⟨z1, hz1⟩ : ∃ z, z = szI z0 (d1.length + sumL d1) := ⟨_, rfl⟩
  have E1 := Lib.hid hz1.symm
  rcases szI_case z0 (d1.length + sumL d1) with hs1 | ⟨hs1, hs1'⟩
  · obtain rfl : z1 = -1 := hz1.trans hs1
    clear hs1 hz1
    have hh36 := m0
    have hh37 := m1
    go_enter Try.func12, Try.ntmps12
    have md38 : Mid 0 0 w (w.alloc (.cells #[.int .i64 r0, .slice A0 d0.length c0] 30)) := Mid.alloc _ _
    have h39 := RSS.mid hh36 md38 (Or.inl (Nat.zero_le _))
    clear hh36
    have h40 := RSS.mid hh37 md38 (Or.inl (Nat.zero_le _))
    clear hh37
    have b41 := below_mid (Below.refl w.heap.size w) (Nat.le_refl w.heap.size) md38 (Or.inr rfl)
    have z42 := b41.size
    have y43 := md38.size
    have bx44 := Box.new w #[.int .i64 r0, .slice A0 d0.length c0] 30
    have y45 : w.heap.size + 1 ≤ (w.alloc (.cells #[.int .i64 r0, .slice A0 d0.length c0] 30)).heap.size := (by simp)
    have md46 : Mid 0 0 (w.alloc (.cells #[.int .i64 r0, .slice A0 d0.length c0] 30)) ((w.alloc (.cells #[.int .i64 r0, .slice A0 d0.length c0] 30)).alloc (.cells #[.int .i64 r1, .slice A1 d1.length c1] 30)) := Mid.alloc _ _
    have bx47 := bx44.mid md46 (Or.inr (Nat.zero_le _))
    clear bx44
    have h48 := RSS.mid h39 md46 (Or.inl (Nat.zero_le _))
    clear h39
    have h49 := RSS.mid h40 md46 (Or.inl (Nat.zero_le _))
    clear h40
    have b50 := below_mid b41 z42 md46 (Or.inr rfl)
    have z51 := b50.size
    have y52 := md46.size
    have bx53 := Box.new (w.alloc (.cells #[.int .i64 r0, .slice A0 d0.length c0] 30)) #[.int .i64 r1, .slice A1 d1.length c1] 30
    have y54 : (w.alloc (.cells #[.int .i64 r0, .slice A0 d0.length c0] 30)).heap.size + 1 ≤ ((w.alloc (.cells #[.int .i64 r0, .slice A0 d0.length c0] 30)).alloc (.cells #[.int .i64 r1, .slice A1 d1.length c1] 30)).heap.size := (by simp)
    simp only [World.size_alloc, Nat.add_assoc, Nat.reduceAdd] at bx53
    have k55 := bx47.cell 0 rfl
    have k56 := bx47.cell 1 rfl
    have k57 := bx53.cell 0 rfl
    have k58 := bx53.cell 1 rfl
    go_wp2_with fail
    with_reducible refine (szMorphism_any _ _ d0 _ 1048576 _ _ _ h48 (OkSS.len _o0) (by omega) (by omega)).mono ?_
    rintro e w2 ⟨rfl, md59⟩
    rw [E0.out]
    have bx60 := bx47.mid md59 (Or.inr (Nat.zero_le _))
    clear bx47
    have h61 := RSS.mid h48 md59 (Or.inl (Nat.zero_le _))
    clear h48
    have bx62 := bx53.mid md59 (Or.inr (Nat.zero_le _))
    clear bx53
    have h63 := RSS.mid h49 md59 (Or.inl (Nat.zero_le _))
    clear h49
    have b64 := below_mid b50 z51 md59 (Or.inr rfl)
    have z65 := b64.size
    have y66 := md59.size
    clear k55
    clear k56
    have k67 := bx60.cell 0 rfl
    have k68 := bx60.cell 1 rfl
    clear k57
    clear k58
    have k69 := bx62.cell 0 rfl
    have k70 := bx62.cell 1 rfl
    go_wp2_with fail
    with_reducible refine (szMorphism_any _ _ d1 _ z0 _ _ _ h63 (OkSS.len _o1) (by omega) (by omega)).mono ?_
    rintro e w3 ⟨rfl, md71⟩
    rw [E1.out]
    have bx72 := bx60.mid md71 (Or.inr (Nat.zero_le _))
    clear bx60
    have h73 := RSS.mid h61 md71 (Or.inl (Nat.zero_le _))
    clear h61
    have bx74 := bx62.mid md71 (Or.inr (Nat.zero_le _))
    clear bx62
    have h75 := RSS.mid h63 md71 (Or.inl (Nat.zero_le _))
    clear h63
    have b76 := below_mid b64 z65 md71 (Or.inr rfl)
    have z77 := b76.size
    have y78 := md71.size
    clear k67
    clear k68
    have k79 := bx72.cell 0 rfl
    have k80 := bx72.cell 1 rfl
    clear k69
    clear k70
    have k81 := bx74.cell 0 rfl
    have k82 := bx74.cell 1 rfl
    go_wp2_with fail
    go_ret
    exact ⟨rfl, b76⟩
  rw [hs1'] at hz1
  have hp1 : 0 ≤ z1 := by omega
  have hq1 : z1 ≤ 1048576 := by omega
  have hl1 : d1.length + sumL d1 ≤ 1048576 := by omega
  clear hs1 hs1' hz1
  obtain ⟨rr0, res0, res1, HRES⟩ : ∃ rr0 res0 res1, ComposeMorphismsIs r0 d0 r1 d1 rr0 res0 res1 := ComposeMorphismsIs_ex r0 d0 r1 d1 _b0 _o0 hl0 _b1 _o1 hl1
  have hlr0 := ComposeMorphismsIs_len HRES _b0 _o0 hl0 _b1 _o1 hl1
  have HRES := Lib.hid HRES
  have hh83 := m0
  have hh84 := m1
  go_enter Try.func12, Try.ntmps12
  have md85 : Mid 0 0 w (w.alloc (.cells #[.int .i64 r0, .slice A0 d0.length c0] 30)) := Mid.alloc _ _
  have h86 := RSS.mid hh83 md85 (Or.inl (Nat.zero_le _))
  clear hh83
  have h87 := RSS.mid hh84 md85 (Or.inl (Nat.zero_le _))
  clear hh84
  have b88 := below_mid (Below.refl w.heap.size w) (Nat.le_refl w.heap.size) md85 (Or.inr rfl)
  have z89 := b88.size
  have y90 := md85.size
  have bx91 := Box.new w #[.int .i64 r0, .slice A0 d0.length c0] 30
  have y92 : w.heap.size + 1 ≤ (w.alloc (.cells #[.int .i64 r0, .slice A0 d0.length c0] 30)).heap.size := (by simp)
  have md93 : Mid 0 0 (w.alloc (.cells #[.int .i64 r0, .slice A0 d0.length c0] 30)) ((w.alloc (.cells #[.int .i64 r0, .slice A0 d0.length c0] 30)).alloc (.cells #[.int .i64 r1, .slice A1 d1.length c1] 30)) := Mid.alloc _ _
  have bx94 := bx91.mid md93 (Or.inr (Nat.zero_le _))
  clear bx91
  have h95 := RSS.mid h86 md93 (Or.inl (Nat.zero_le _))
  clear h86
  have h96 := RSS.mid h87 md93 (Or.inl (Nat.zero_le _))
  clear h87
  have b97 := below_mid b88 z89 md93 (Or.inr rfl)
  have z98 := b97.size
  have y99 := md93.size
  have bx100 := Box.new (w.alloc (.cells #[.int .i64 r0, .slice A0 d0.length c0] 30)) #[.int .i64 r1, .slice A1 d1.length c1] 30
  have y101 : (w.alloc (.cells #[.int .i64 r0, .slice A0 d0.length c0] 30)).heap.size + 1 ≤ ((w.alloc (.cells #[.int .i64 r0, .slice A0 d0.length c0] 30)).alloc (.cells #[.int .i64 r1, .slice A1 d1.length c1] 30)).heap.size := (by simp)
  simp only [World.size_alloc, Nat.add_assoc, Nat.reduceAdd] at bx100
  have k102 := bx94.cell 0 rfl
  have k103 := bx94.cell 1 rfl
  have k104 := bx100.cell 0 rfl
  have k105 := bx100.cell 1 rfl
  go_wp2_with fail
  with_reducible refine (szMorphism_any _ _ d0 _ 1048576 _ _ _ h95 (OkSS.len _o0) (by omega) (by omega)).mono ?_
  rintro e w4 ⟨rfl, md106⟩
  rw [E0.out]
  have bx107 := bx94.mid md106 (Or.inr (Nat.zero_le _))
  clear bx94
  have h108 := RSS.mid h95 md106 (Or.inl (Nat.zero_le _))
  clear h95
  have bx109 := bx100.mid md106 (Or.inr (Nat.zero_le _))
  clear bx100
  have h110 := RSS.mid h96 md106 (Or.inl (Nat.zero_le _))
  clear h96
  have b111 := below_mid b97 z98 md106 (Or.inr rfl)
  have z112 := b111.size
  have y113 := md106.size
  clear k102
  clear k103
  have k114 := bx107.cell 0 rfl
  have k115 := bx107.cell 1 rfl
  clear k104
  clear k105
  have k116 := bx109.cell 0 rfl
  have k117 := bx109.cell 1 rfl
  go_wp2_with fail
  with_reducible refine (szMorphism_any _ _ d1 _ z0 _ _ _ h110 (OkSS.len _o1) (by omega) (by omega)).mono ?_
  rintro e w5 ⟨rfl, md118⟩
  rw [E1.out]
  have bx119 := bx107.mid md118 (Or.inr (Nat.zero_le _))
  clear bx107
  have h120 := RSS.mid h108 md118 (Or.inl (Nat.zero_le _))
  clear h108
  have bx121 := bx109.mid md118 (Or.inr (Nat.zero_le _))
  clear bx109
  have h122 := RSS.mid h110 md118 (Or.inl (Nat.zero_le _))
  clear h110
  have b123 := below_mid b111 z112 md118 (Or.inr rfl)
  have z124 := b123.size
  have y125 := md118.size
  clear k114
  clear k115
  have k126 := bx119.cell 0 rfl
  have k127 := bx119.cell 1 rfl
  clear k116
  clear k117
  have k128 := bx121.cell 0 rfl
  have k129 := bx121.cell 1 rfl
  go_upto_region 8 with fail
  go_cut [6,7] (fun s6 s7 wx => ∃ (g : Nat) (A0' : Option Addr) (c0' : Nat), s6 = .pointer (some ⟨g, 0, none⟩) ∧ s7 = .bool res1 ∧ Box wx g [.int .i64 rr0, .slice A0' res0.length c0'] ∧ OSS wx w5.heap.size (wx.heap.size) 36 3 A0' c0' res0 ∧ Mid 0 0 w5 wx ∧ w5.heap.size ≤ g)
  case first =>
    have md130 : Mid 0 0 w5 w5.drew := Mid.drew1 _
    have bx131 := bx119.mid md130 (Or.inr (Nat.zero_le _))
    have h132 := RSS.mid h120 md130 (Or.inl (Nat.zero_le _))
    have bx133 := bx121.mid md130 (Or.inr (Nat.zero_le _))
    have h134 := RSS.mid h122 md130 (Or.inl (Nat.zero_le _))
    have b135 := below_mid b123 z124 md130 (Or.inr rfl)
    have z136 := b135.size
    have y137 := md130.size
    have k138 := bx131.cell 0 rfl
    have k139 := bx131.cell 1 rfl
    have k140 := bx133.cell 0 rfl
    have k141 := bx133.cell 1 rfl
    have y142 : w5.drew.heap.size = w5.heap.size := rfl
    go_region_held3 (fun w' => w'.cell? ⟨w.heap.size, 0, none⟩ = some (.int .i64 r0) ∧ w'.cell? ⟨w.heap.size, 1, none⟩ = some (.slice A0 d0.length c0) ∧ w'.cell? ⟨w.heap.size + 1, 0, none⟩ = some (.int .i64 r1) ∧ w'.cell? ⟨w.heap.size + 1, 1, none⟩ = some (.slice A1 d1.length c1)) (first | exact ⟨k126, k127, k128, k129⟩ | exact ⟨k138, k139, k140, k141⟩ | exact ⟨k155, k156, k157, k158⟩ | exact ⟨k172, k173, k174, k175⟩ | exact ⟨k190, k191, k192, k193⟩ | exact ⟨(bx180.mid (Mid.alloc _ _) (Or.inr (Nat.zero_le _))).cell 0 rfl, (bx180.mid (Mid.alloc _ _) (Or.inr (Nat.zero_le _))).cell 1 rfl, (bx182.mid (Mid.alloc _ _) (Or.inr (Nat.zero_le _))).cell 0 rfl, (bx182.mid (Mid.alloc _ _) (Or.inr (Nat.zero_le _))).cell 1 rfl⟩ | exact ⟨(bx163.mid (Mid.alloc _ _) (Or.inr (Nat.zero_le _))).cell 0 rfl, (bx163.mid (Mid.alloc _ _) (Or.inr (Nat.zero_le _))).cell 1 rfl, (bx165.mid (Mid.alloc _ _) (Or.inr (Nat.zero_le _))).cell 0 rfl, (bx165.mid (Mid.alloc _ _) (Or.inr (Nat.zero_le _))).cell 1 rfl⟩ | exact ⟨k229, k230, k231, k232⟩ | exact ⟨((bx218.mid (Mid.setCell w9 (lo := w7.heap.size) (hi := w7.heap.size + 1) (p := ⟨w7.heap.size, 0, none⟩) (.int .i64 rr0) (by simp) (by simp)) (by omega)).mid (Mid.setCell (w9.setCell ⟨w7.heap.size, 0, none⟩ (.int .i64 rr0)) (lo := w7.heap.size) (hi := w7.heap.size + 1) (p := ⟨w7.heap.size, 1, none⟩) (.slice AA215 res0.length cc216) (by simp) (by simp)) (by omega)).cell 0 rfl, ((bx218.mid (Mid.setCell w9 (lo := w7.heap.size) (hi := w7.heap.size + 1) (p := ⟨w7.heap.size, 0, none⟩) (.int .i64 rr0) (by simp) (by simp)) (by omega)).mid (Mid.setCell (w9.setCell ⟨w7.heap.size, 0, none⟩ (.int .i64 rr0)) (lo := w7.heap.size) (hi := w7.heap.size + 1) (p := ⟨w7.heap.size, 1, none⟩) (.slice AA215 res0.length cc216) (by simp) (by simp)) (by omega)).cell 1 rfl, ((bx220.mid (Mid.setCell w9 (lo := w7.heap.size) (hi := w7.heap.size + 1) (p := ⟨w7.heap.size, 0, none⟩) (.int .i64 rr0) (by simp) (by simp)) (by omega)).mid (Mid.setCell (w9.setCell ⟨w7.heap.size, 0, none⟩ (.int .i64 rr0)) (lo := w7.heap.size) (hi := w7.heap.size + 1) (p := ⟨w7.heap.size, 1, none⟩) (.slice AA215 res0.length cc216) (by simp) (by simp)) (by omega)).cell 0 rfl, ((bx220.mid (Mid.setCell w9 (lo := w7.heap.size) (hi := w7.heap.size + 1) (p := ⟨w7.heap.size, 0, none⟩) (.int .i64 rr0) (by simp) (by simp)) (by omega)).mid (Mid.setCell (w9.setCell ⟨w7.heap.size, 0, none⟩ (.int .i64 rr0)) (lo := w7.heap.size) (hi := w7.heap.size + 1) (p := ⟨w7.heap.size, 1, none⟩) (.slice AA215 res0.length cc216) (by simp) (by simp)) (by omega)).cell 1 rfl⟩ | exact ⟨(bx147.mid (Mid.alloc _ _) (Or.inr (Nat.zero_le _))).cell 0 rfl, (bx147.mid (Mid.alloc _ _) (Or.inr (Nat.zero_le _))).cell 1 rfl, (bx149.mid (Mid.alloc _ _) (Or.inr (Nat.zero_le _))).cell 0 rfl, (bx149.mid (Mid.alloc _ _) (Or.inr (Nat.zero_le _))).cell 1 rfl⟩ | exact ⟨k269, k270, k271, k272⟩ | exact ⟨k291, k292, k293, k294⟩ | exact ⟨((bx280.mid (Mid.setCell w11 (lo := w6.heap.size) (hi := w6.heap.size + 1) (p := ⟨w6.heap.size, 0, none⟩) (.int .i64 rr0) (by simp) (by simp)) (by omega)).mid (Mid.setCell (w11.setCell ⟨w6.heap.size, 0, none⟩ (.int .i64 rr0)) (lo := w6.heap.size) (hi := w6.heap.size + 1) (p := ⟨w6.heap.size, 1, none⟩) (.slice AA277 res0.length cc278) (by simp) (by simp)) (by omega)).cell 0 rfl, ((bx280.mid (Mid.setCell w11 (lo := w6.heap.size) (hi := w6.heap.size + 1) (p := ⟨w6.heap.size, 0, none⟩) (.int .i64 rr0) (by simp) (by simp)) (by omega)).mid (Mid.setCell (w11.setCell ⟨w6.heap.size, 0, none⟩ (.int .i64 rr0)) (lo := w6.heap.size) (hi := w6.heap.size + 1) (p := ⟨w6.heap.size, 1, none⟩) (.slice AA277 res0.length cc278) (by simp) (by simp)) (by omega)).cell 1 rfl, ((bx282.mid (Mid.setCell w11 (lo := w6.heap.size) (hi := w6.heap.size + 1) (p := ⟨w6.heap.size, 0, none⟩) (.int .i64 rr0) (by simp) (by simp)) (by omega)).mid (Mid.setCell (w11.setCell ⟨w6.heap.size, 0, none⟩ (.int .i64 rr0)) (lo := w6.heap.size) (hi := w6.heap.size + 1) (p := ⟨w6.heap.size, 1, none⟩) (.slice AA277 res0.length cc278) (by simp) (by simp)) (by omega)).cell 0 rfl, ((bx282.mid (Mid.setCell w11 (lo := w6.heap.size) (hi := w6.heap.size + 1) (p := ⟨w6.heap.size, 0, none⟩) (.int .i64 rr0) (by simp) (by simp)) (by omega)).mid (Mid.setCell (w11.setCell ⟨w6.heap.size, 0, none⟩ (.int .i64 rr0)) (lo := w6.heap.size) (hi := w6.heap.size + 1) (p := ⟨w6.heap.size, 1, none⟩) (.slice AA277 res0.length cc278) (by simp) (by simp)) (by omega)).cell 1 rfl⟩ | exact ⟨(bx119.mid (Mid.alloc _ _) (Or.inr (Nat.zero_le _))).cell 0 rfl, (bx119.mid (Mid.alloc _ _) (Or.inr (Nat.zero_le _))).cell 1 rfl, (bx121.mid (Mid.alloc _ _) (Or.inr (Nat.zero_le _))).cell 0 rfl, (bx121.mid (Mid.alloc _ _) (Or.inr (Nat.zero_le _))).cell 1 rfl⟩ | exact ⟨bx300.cell 0 rfl, bx300.cell 1 rfl, bx302.cell 0 rfl, bx302.cell 1 rfl⟩ | exact ⟨k329, k330, k331, k332⟩ | exact ⟨k350, k351, k352, k353⟩ | exact ⟨k372, k373, k374, k375⟩ | exact ⟨((bx361.mid (Mid.setCell w14 (lo := w5.heap.size) (hi := w5.heap.size + 1) (p := ⟨w5.heap.size, 0, none⟩) (.int .i64 rr0) (by simp) (by simp)) (by omega)).mid (Mid.setCell (w14.setCell ⟨w5.heap.size, 0, none⟩ (.int .i64 rr0)) (lo := w5.heap.size) (hi := w5.heap.size + 1) (p := ⟨w5.heap.size, 1, none⟩) (.slice AA358 res0.length cc359) (by simp) (by simp)) (by omega)).cell 0 rfl, ((bx361.mid (Mid.setCell w14 (lo := w5.heap.size) (hi := w5.heap.size + 1) (p := ⟨w5.heap.size, 0, none⟩) (.int .i64 rr0) (by simp) (by simp)) (by omega)).mid (Mid.setCell (w14.setCell ⟨w5.heap.size, 0, none⟩ (.int .i64 rr0)) (lo := w5.heap.size) (hi := w5.heap.size + 1) (p := ⟨w5.heap.size, 1, none⟩) (.slice AA358 res0.length cc359) (by simp) (by simp)) (by omega)).cell 1 rfl, ((bx363.mid (Mid.setCell w14 (lo := w5.heap.size) (hi := w5.heap.size + 1) (p := ⟨w5.heap.size, 0, none⟩) (.int .i64 rr0) (by simp) (by simp)) (by omega)).mid (Mid.setCell (w14.setCell ⟨w5.heap.size, 0, none⟩ (.int .i64 rr0)) (lo := w5.heap.size) (hi := w5.heap.size + 1) (p := ⟨w5.heap.size, 1, none⟩) (.slice AA358 res0.length cc359) (by simp) (by simp)) (by omega)).cell 0 rfl, ((bx363.mid (Mid.setCell w14 (lo := w5.heap.size) (hi := w5.heap.size + 1) (p := ⟨w5.heap.size, 0, none⟩) (.int .i64 rr0) (by simp) (by simp)) (by omega)).mid (Mid.setCell (w14.setCell ⟨w5.heap.size, 0, none⟩ (.int .i64 rr0)) (lo := w5.heap.size) (hi := w5.heap.size + 1) (p := ⟨w5.heap.size, 1, none⟩) (.slice AA358 res0.length cc359) (by simp) (by simp)) (by omega)).cell 1 rfl⟩) (first | (go_at_call 22; with_reducible refine (toMorphism_any r0 _ d0 _ _ _ _ h132 hl0).mono ?_; rintro e w6 ⟨AA143, cc144, rfl, h145, md146⟩; have bx147 := bx131.mid md146 (Or.inr (Nat.zero_le _)); have h148 := RSS.mid h132 md146 (Or.inl (Nat.zero_le _)); have bx149 := bx133.mid md146 (Or.inr (Nat.zero_le _)); have h150 := RSS.mid h134 md146 (Or.inl (Nat.zero_le _)); have b151 := below_mid b135 z136 md146 (Or.inr rfl); have z152 := b151.size; have y153 := md146.size; have tt154 := md130.trans md146; have k155 := bx147.cell 0 rfl; have k156 := bx147.cell 1 rfl; have k157 := bx149.cell 0 rfl; have k158 := bx149.cell 1 rfl) | (go_at_call 22; with_reducible refine (toMorphism_any r1 _ d1 _ _ _ _ h150 hl1).mono ?_; rintro e w7 ⟨AA159, cc160, rfl, h161, md162⟩; have bx163 := bx147.mid md162 (Or.inr (Nat.zero_le _)); have h164 := RSS.mid h148 md162 (Or.inl (Nat.zero_le _)); have bx165 := bx149.mid md162 (Or.inr (Nat.zero_le _)); have h166 := RSS.mid h150 md162 (Or.inl (Nat.zero_le _)); have h167 := OSS.mid h145 md162 (Or.inl (Nat.zero_le _)); have b168 := below_mid b151 z152 md162 (Or.inr rfl); have z169 := b168.size; have y170 := md162.size; have tt171 := tt154.trans md162; have k172 := bx163.cell 0 rfl; have k173 := bx163.cell 1 rfl; have k174 := bx165.cell 0 rfl; have k175 := bx165.cell 1 rfl) | (go_at_call 54; with_reducible refine (sspec_ComposeMorphisms r0 _ d0 _ r1 _ d1 _ _ _ _ h167 _b0 _o0 hl0 _ _ h161 _b1 _o1 hl1 rr0 res0 res1 HRES.out).mono ?_; rintro e w8 ⟨AA177, cc178, rfl, h179, md176⟩; have bx180 := bx163.mid md176 (Or.inr (Nat.zero_le _)); have h181 := RSS.mid h164 md176 (Or.inl (Nat.zero_le _)); have bx182 := bx165.mid md176 (Or.inr (Nat.zero_le _)); have h183 := RSS.mid h166 md176 (Or.inl (Nat.zero_le _)); have h184 := OSS.mid h167 md176 (Or.inl (Nat.zero_le _)); have h185 := OSS.mid h161 md176 (Or.inl (Nat.zero_le _)); have b186 := below_mid b168 z169 md176 (Or.inr rfl); have z187 := b186.size; have y188 := md176.size; have tt189 := tt171.trans md176; have k190 := bx180.cell 0 rfl; have k191 := bx180.cell 1 rfl; have k192 := bx182.cell 0 rfl; have k193 := bx182.cell 1 rfl) | (go_at_call 54; have md194 : Mid 0 0 w7 (w7.alloc (.cells #[.int .i64 0, .slice none 0 0] 24)) := Mid.alloc _ _; have bx195 := bx163.mid md194 (Or.inr (Nat.zero_le _)); have h196 := RSS.mid h164 md194 (Or.inl (Nat.zero_le _)); have bx197 := bx165.mid md194 (Or.inr (Nat.zero_le _)); have h198 := RSS.mid h166 md194 (Or.inl (Nat.zero_le _)); have h199 := OSS.mid h167 md194 (Or.inl (Nat.zero_le _)); have h200 := OSS.mid h161 md194 (Or.inl (Nat.zero_le _)); have b201 := below_mid b168 z169 md194 (Or.inr rfl); have z202 := b201.size; have y203 := md194.size; have tt204 := tt171.trans md194; have bz205 : Box (w7.alloc (.cells #[.int .i64 0, .slice none 0 0] 24)) (w7.heap.size) [.int .i64 0, .slice none 0 0] := Box.new w7 #[.int .i64 0, .slice none 0 0] 24; have y206 : w7.heap.size + 1 ≤ (w7.alloc (.cells #[.int .i64 0, .slice none 0 0] 24)).heap.size := (by simp); have k207 := bx195.cell 0 rfl; have k208 := bx195.cell 1 rfl; have k209 := bx197.cell 0 rfl; have k210 := bx197.cell 1 rfl; have k211 := bz205.cell 0 rfl; have k212 := bz205.cell 1 rfl; have f213 := frz_ComposeMorphisms bz205; with_reducible refine (sspec_ComposeMorphisms r0 _ d0 _ r1 _ d1 _ _ _ _ h199 _b0 _o0 hl0 _ _ h200 _b1 _o1 hl1 rr0 res0 res1 HRES.out).mono ?_; rintro e w9 ⟨AA215, cc216, rfl, h217, md214⟩; have bx218 := bx195.mid md214 (Or.inr (Nat.zero_le _)); have h219 := RSS.mid h196 md214 (Or.inl (Nat.zero_le _)); have bx220 := bx197.mid md214 (Or.inr (Nat.zero_le _)); have h221 := RSS.mid h198 md214 (Or.inl (Nat.zero_le _)); have h222 := OSS.mid h199 md214 (Or.inl (Nat.zero_le _)); have h223 := OSS.mid h200 md214 (Or.inl (Nat.zero_le _)); have bx224 := bz205.mid md214 (Or.inr (Nat.zero_le _)); have b225 := below_mid b201 z202 md214 (Or.inr rfl); have z226 := b225.size; have y227 := md214.size; have tt228 := tt204.trans md214; have k229 := bx218.cell 0 rfl; have k230 := bx218.cell 1 rfl; have k231 := bx220.cell 0 rfl; have k232 := bx220.cell 1 rfl; have k233 := bx224.cell 0 rfl; have k234 := bx224.cell 1 rfl; have f235 := frz_ComposeMorphisms bx224) | (go_at_call 22; have md236 : Mid 0 0 w6 (w6.alloc (.cells #[.int .i64 0, .slice none 0 0] 24)) := Mid.alloc _ _; have bx237 := bx147.mid md236 (Or.inr (Nat.zero_le _)); have h238 := RSS.mid h148 md236 (Or.inl (Nat.zero_le _)); have bx239 := bx149.mid md236 (Or.inr (Nat.zero_le _)); have h240 := RSS.mid h150 md236 (Or.inl (Nat.zero_le _)); have h241 := OSS.mid h145 md236 (Or.inl (Nat.zero_le _)); have b242 := below_mid b151 z152 md236 (Or.inr rfl); have z243 := b242.size; have y244 := md236.size; have tt245 := tt154.trans md236; have bz246 : Box (w6.alloc (.cells #[.int .i64 0, .slice none 0 0] 24)) (w6.heap.size) [.int .i64 0, .slice none 0 0] := Box.new w6 #[.int .i64 0, .slice none 0 0] 24; have y247 : w6.heap.size + 1 ≤ (w6.alloc (.cells #[.int .i64 0, .slice none 0 0] 24)).heap.size := (by simp); have k248 := bx237.cell 0 rfl; have k249 := bx237.cell 1 rfl; have k250 := bx239.cell 0 rfl; have k251 := bx239.cell 1 rfl; have k252 := bz246.cell 0 rfl; have k253 := bz246.cell 1 rfl; have f254 := frz_ComposeMorphisms bz246; with_reducible refine (toMorphism_any r1 _ d1 _ _ _ _ h240 hl1).mono ?_; rintro e w10 ⟨AA255, cc256, rfl, h257, md258⟩; have bx259 := bx237.mid md258 (Or.inr (Nat.zero_le _)); have h260 := RSS.mid h238 md258 (Or.inl (Nat.zero_le _)); have bx261 := bx239.mid md258 (Or.inr (Nat.zero_le _)); have h262 := RSS.mid h240 md258 (Or.inl (Nat.zero_le _)); have h263 := OSS.mid h241 md258 (Or.inl (Nat.zero_le _)); have bx264 := bz246.mid md258 (Or.inr (Nat.zero_le _)); have b265 := below_mid b242 z243 md258 (Or.inr rfl); have z266 := b265.size; have y267 := md258.size; have tt268 := tt245.trans md258; have k269 := bx259.cell 0 rfl; have k270 := bx259.cell 1 rfl; have k271 := bx261.cell 0 rfl; have k272 := bx261.cell 1 rfl; have k273 := bx264.cell 0 rfl; have k274 := bx264.cell 1 rfl; have f275 := frz_ComposeMorphisms bx264) | (go_at_call 54; with_reducible refine (sspec_ComposeMorphisms r0 _ d0 _ r1 _ d1 _ _ _ _ h263 _b0 _o0 hl0 _ _ h257 _b1 _o1 hl1 rr0 res0 res1 HRES.out).mono ?_; rintro e w11 ⟨AA277, cc278, rfl, h279, md276⟩; have bx280 := bx259.mid md276 (Or.inr (Nat.zero_le _)); have h281 := RSS.mid h260 md276 (Or.inl (Nat.zero_le _)); have bx282 := bx261.mid md276 (Or.inr (Nat.zero_le _)); have h283 := RSS.mid h262 md276 (Or.inl (Nat.zero_le _)); have h284 := OSS.mid h263 md276 (Or.inl (Nat.zero_le _)); have bx285 := bx264.mid md276 (Or.inr (Nat.zero_le _)); have h286 := OSS.mid h257 md276 (Or.inl (Nat.zero_le _)); have b287 := below_mid b265 z266 md276 (Or.inr rfl); have z288 := b287.size; have y289 := md276.size; have tt290 := tt268.trans md276; have k291 := bx280.cell 0 rfl; have k292 := bx280.cell 1 rfl; have k293 := bx282.cell 0 rfl; have k294 := bx282.cell 1 rfl; have k295 := bx285.cell 0 rfl; have k296 := bx285.cell 1 rfl; have f297 := frz_ComposeMorphisms bx285) | (go_at_call 22; have md298 : Mid 0 0 w5 (w5.alloc (.cells #[.int .i64 0, .slice none 0 0] 24)) := Mid.alloc _ _; have md299 : Mid 0 0 w5 (w5.alloc (.cells #[.int .i64 0, .slice none 0 0] 24)).drew := md298.trans (Mid.drew1 _); have bx300 := bx119.mid md299 (Or.inr (Nat.zero_le _)); have h301 := RSS.mid h120 md299 (Or.inl (Nat.zero_le _)); have bx302 := bx121.mid md299 (Or.inr (Nat.zero_le _)); have h303 := RSS.mid h122 md299 (Or.inl (Nat.zero_le _)); have b304 := below_mid b123 z124 md299 (Or.inr rfl); have z305 := b304.size; have y306 := md299.size; have bz307 : Box (w5.alloc (.cells #[.int .i64 0, .slice none 0 0] 24)).drew (w5.heap.size) [.int .i64 0, .slice none 0 0] := Box.new w5 #[.int .i64 0, .slice none 0 0] 24; have y308 : w5.heap.size + 1 ≤ (w5.alloc (.cells #[.int .i64 0, .slice none 0 0] 24)).drew.heap.size := (by simp); have k309 := bx300.cell 0 rfl; have k310 := bx300.cell 1 rfl; have k311 := bx302.cell 0 rfl; have k312 := bx302.cell 1 rfl; have k313 := bz307.cell 0 rfl; have k314 := bz307.cell 1 rfl; have f315 := frz_ComposeMorphisms bz307; with_reducible refine (toMorphism_any r0 _ d0 _ _ _ _ h301 hl0).mono ?_; rintro e w12 ⟨AA316, cc317, rfl, h318, md319⟩; have bx320 := bx300.mid md319 (Or.inr (Nat.zero_le _)); have h321 := RSS.mid h301 md319 (Or.inl (Nat.zero_le _)); have bx322 := bx302.mid md319 (Or.inr (Nat.zero_le _)); have h323 := RSS.mid h303 md319 (Or.inl (Nat.zero_le _)); have bx324 := bz307.mid md319 (Or.inr (Nat.zero_le _)); have b325 := below_mid b304 z305 md319 (Or.inr rfl); have z326 := b325.size; have y327 := md319.size; have tt328 := md299.trans md319; have k329 := bx320.cell 0 rfl; have k330 := bx320.cell 1 rfl; have k331 := bx322.cell 0 rfl; have k332 := bx322.cell 1 rfl; have k333 := bx324.cell 0 rfl; have k334 := bx324.cell 1 rfl; have f335 := frz_ComposeMorphisms bx324) | (go_at_call 22; with_reducible refine (toMorphism_any r1 _ d1 _ _ _ _ h323 hl1).mono ?_; rintro e w13 ⟨AA336, cc337, rfl, h338, md339⟩; have bx340 := bx320.mid md339 (Or.inr (Nat.zero_le _)); have h341 := RSS.mid h321 md339 (Or.inl (Nat.zero_le _)); have bx342 := bx322.mid md339 (Or.inr (Nat.zero_le _)); have h343 := RSS.mid h323 md339 (Or.inl (Nat.zero_le _)); have bx344 := bx324.mid md339 (Or.inr (Nat.zero_le _)); have h345 := OSS.mid h318 md339 (Or.inl (Nat.zero_le _)); have b346 := below_mid b325 z326 md339 (Or.inr rfl); have z347 := b346.size; have y348 := md339.size; have tt349 := tt328.trans md339; have k350 := bx340.cell 0 rfl; have k351 := bx340.cell 1 rfl; have k352 := bx342.cell 0 rfl; have k353 := bx342.cell 1 rfl; have k354 := bx344.cell 0 rfl; have k355 := bx344.cell 1 rfl; have f356 := frz_ComposeMorphisms bx344) | (go_at_call 54; with_reducible refine (sspec_ComposeMorphisms r0 _ d0 _ r1 _ d1 _ _ _ _ h345 _b0 _o0 hl0 _ _ h338 _b1 _o1 hl1 rr0 res0 res1 HRES.out).mono ?_; rintro e w14 ⟨AA358, cc359, rfl, h360, md357⟩; have bx361 := bx340.mid md357 (Or.inr (Nat.zero_le _)); have h362 := RSS.mid h341 md357 (Or.inl (Nat.zero_le _)); have bx363 := bx342.mid md357 (Or.inr (Nat.zero_le _)); have h364 := RSS.mid h343 md357 (Or.inl (Nat.zero_le _)); have bx365 := bx344.mid md357 (Or.inr (Nat.zero_le _)); have h366 := OSS.mid h345 md357 (Or.inl (Nat.zero_le _)); have h367 := OSS.mid h338 md357 (Or.inl (Nat.zero_le _)); have b368 := below_mid b346 z347 md357 (Or.inr rfl); have z369 := b368.size; have y370 := md357.size; have tt371 := tt349.trans md357; have k372 := bx361.cell 0 rfl; have k373 := bx361.cell 1 rfl; have k374 := bx363.cell 0 rfl; have k375 := bx363.cell 1 rfl; have k376 := bx365.cell 0 rfl; have k377 := bx365.cell 1 rfl; have f378 := frz_ComposeMorphisms bx365))
    all_goals (go_wp2_with fail; go_meet; first | exact ⟨w8.heap.size, AA177, cc178, rfl, rfl, Box.new w8 #[.int .i64 rr0, .slice AA177 res0.length cc178] 24, OSS.wide (OSS.mid h179 (Mid.alloc w8 (.cells #[.int .i64 rr0, .slice AA177 res0.length cc178] 24)) (Or.inl (Nat.zero_le _))) (by omega) (by simp) (Nat.le_refl _), tt189.trans (Mid.alloc w8 (.cells #[.int .i64 rr0, .slice AA177 res0.length cc178] 24)), by omega⟩ | exact ⟨w7.heap.size, AA215, cc216, rfl, rfl, (bx224.set 0 _ (by simp) rfl).set 1 _ (by simp) rfl, OSS.wide (OSS.mid (OSS.mid h217 (Mid.setCell w9 (lo := w7.heap.size) (hi := w7.heap.size + 1) (p := ⟨w7.heap.size, 0, none⟩) (.int .i64 rr0) (by simp) (by simp)) (by omega)) (Mid.setCell (w9.setCell ⟨w7.heap.size, 0, none⟩ (.int .i64 rr0)) (lo := w7.heap.size) (hi := w7.heap.size + 1) (p := ⟨w7.heap.size, 1, none⟩) (.slice AA215 res0.length cc216) (by simp) (by simp)) (by omega)) (by omega) (by simp) (Nat.le_refl _), (tt228.storeNew (by simp <;> omega) _).storeNew (by simp <;> omega) _, by omega⟩ | exact ⟨w6.heap.size, AA277, cc278, rfl, rfl, (bx285.set 0 _ (by simp) rfl).set 1 _ (by simp) rfl, OSS.wide (OSS.mid (OSS.mid h279 (Mid.setCell w11 (lo := w6.heap.size) (hi := w6.heap.size + 1) (p := ⟨w6.heap.size, 0, none⟩) (.int .i64 rr0) (by simp) (by simp)) (by omega)) (Mid.setCell (w11.setCell ⟨w6.heap.size, 0, none⟩ (.int .i64 rr0)) (lo := w6.heap.size) (hi := w6.heap.size + 1) (p := ⟨w6.heap.size, 1, none⟩) (.slice AA277 res0.length cc278) (by simp) (by simp)) (by omega)) (by omega) (by simp) (Nat.le_refl _), (tt290.storeNew (by simp <;> omega) _).storeNew (by simp <;> omega) _, by omega⟩ | exact ⟨w5.heap.size, AA358, cc359, rfl, rfl, (bx365.set 0 _ (by simp) rfl).set 1 _ (by simp) rfl, OSS.wide (OSS.mid (OSS.mid h360 (Mid.setCell w14 (lo := w5.heap.size) (hi := w5.heap.size + 1) (p := ⟨w5.heap.size, 0, none⟩) (.int .i64 rr0) (by simp) (by simp)) (by omega)) (Mid.setCell (w14.setCell ⟨w5.heap.size, 0, none⟩ (.int .i64 rr0)) (lo := w5.heap.size) (hi := w5.heap.size + 1) (p := ⟨w5.heap.size, 1, none⟩) (.slice AA358 res0.length cc359) (by simp) (by simp)) (by omega)) (by omega) (by simp) (Nat.le_refl _), (tt371.storeNew (by simp <;> omega) _).storeNew (by simp <;> omega) _, by omega⟩)
  case rest =>
    obtain ⟨g379, AA384, cc385, rfl, rfl, bx380, h381, md382, y383⟩ := hcut
    obtain ⟨w15, rfl⟩ : ∃ x, x = wc := ⟨_, rfl⟩
    have bx386 := bx119.mid md382 (Or.inr (Nat.zero_le _))
    clear bx119
    have h387 := RSS.mid h120 md382 (Or.inl (Nat.zero_le _))
    clear h120
    have bx388 := bx121.mid md382 (Or.inr (Nat.zero_le _))
    clear bx121
    have h389 := RSS.mid h122 md382 (Or.inl (Nat.zero_le _))
    clear h122
    have b390 := below_mid b123 z124 md382 (Or.inr rfl)
    have z391 := b390.size
    have y392 := md382.size
    have y393 := bx380.1
    clear k126
    clear k127
    have k394 := bx386.cell 0 rfl
    have k395 := bx386.cell 1 rfl
    clear k128
    clear k129
    have k396 := bx388.cell 0 rfl
    have k397 := bx388.cell 1 rfl
    have k398 := bx380.cell 0 rfl
    have k399 := bx380.cell 1 rfl
    go_wp2_with fail
    with_reducible refine (toMorphism_any r0 _ d0 _ _ _ _ h387 hl0).mono ?_
    rintro e w16 ⟨AA400, cc401, rfl, h402, md403⟩
    have bx404 := bx386.mid md403 (Or.inr (Nat.zero_le _))
    clear bx386
    have h405 := RSS.mid h387 md403 (Or.inl (Nat.zero_le _))
    clear h387
    have bx406 := bx388.mid md403 (Or.inr (Nat.zero_le _))
    clear bx388
    have h407 := RSS.mid h389 md403 (Or.inl (Nat.zero_le _))
    clear h389
    have bx408 := bx380.mid md403 (Or.inr (Nat.zero_le _))
    clear bx380
    have h409 := OSS.mid h381 md403 (Or.inl (Nat.zero_le _))
    clear h381
    have b410 := below_mid b390 z391 md403 (Or.inr rfl)
    have z411 := b410.size
    have y412 := md403.size
    clear k394
    clear k395
    have k413 := bx404.cell 0 rfl
    have k414 := bx404.cell 1 rfl
    clear k396
    clear k397
    have k415 := bx406.cell 0 rfl
    have k416 := bx406.cell 1 rfl
    clear k398
    clear k399
    have k417 := bx408.cell 0 rfl
    have k418 := bx408.cell 1 rfl
    have md419 : Mid 0 0 w16 (w16.alloc (.cells #[.int .i64 r0, .slice AA400 d0.length cc401] 24)) := Mid.alloc _ _
    have bx420 := bx404.mid md419 (Or.inr (Nat.zero_le _))
    clear bx404
    have h421 := RSS.mid h405 md419 (Or.inl (Nat.zero_le _))
    clear h405
    have bx422 := bx406.mid md419 (Or.inr (Nat.zero_le _))
    clear bx406
    have h423 := RSS.mid h407 md419 (Or.inl (Nat.zero_le _))
    clear h407
    have bx424 := bx408.mid md419 (Or.inr (Nat.zero_le _))
    clear bx408
    have h425 := OSS.mid h409 md419 (Or.inl (Nat.zero_le _))
    clear h409
    have h426 := OSS.mid h402 md419 (Or.inl (Nat.zero_le _))
    clear h402
    have b427 := below_mid b410 z411 md419 (Or.inr rfl)
    have z428 := b427.size
    have y429 := md419.size
    have bx430 := Box.new w16 #[.int .i64 r0, .slice AA400 d0.length cc401] 24
    have y431 : w16.heap.size + 1 ≤ (w16.alloc (.cells #[.int .i64 r0, .slice AA400 d0.length cc401] 24)).heap.size := (by simp)
    clear k413
    clear k414
    have k432 := bx420.cell 0 rfl
    have k433 := bx420.cell 1 rfl
    clear k415
    clear k416
    have k434 := bx422.cell 0 rfl
    have k435 := bx422.cell 1 rfl
    clear k417
    clear k418
    have k436 := bx424.cell 0 rfl
    have k437 := bx424.cell 1 rfl
    have k438 := bx430.cell 0 rfl
    have k439 := bx430.cell 1 rfl
    go_wp2_with fail
    with_reducible refine (toMorphism_any r1 _ d1 _ _ _ _ h423 hl1).mono ?_
    rintro e w17 ⟨AA440, cc441, rfl, h442, md443⟩
    have bx444 := bx420.mid md443 (Or.inr (Nat.zero_le _))
    clear bx420
    have h445 := RSS.mid h421 md443 (Or.inl (Nat.zero_le _))
    clear h421
    have bx446 := bx422.mid md443 (Or.inr (Nat.zero_le _))
    clear bx422
    have h447 := RSS.mid h423 md443 (Or.inl (Nat.zero_le _))
    clear h423
    have bx448 := bx424.mid md443 (Or.inr (Nat.zero_le _))
    clear bx424
    have h449 := OSS.mid h425 md443 (Or.inl (Nat.zero_le _))
    clear h425
    have bx450 := bx430.mid md443 (Or.inr (Nat.zero_le _))
    clear bx430
    have h451 := OSS.mid h426 md443 (Or.inl (Nat.zero_le _))
    clear h426
    have b452 := below_mid b427 z428 md443 (Or.inr rfl)
    have z453 := b452.size
    have y454 := md443.size
    clear k432
    clear k433
    have k455 := bx444.cell 0 rfl
    have k456 := bx444.cell 1 rfl
    clear k434
    clear k435
    have k457 := bx446.cell 0 rfl
    have k458 := bx446.cell 1 rfl
    clear k436
    clear k437
    have k459 := bx448.cell 0 rfl
    have k460 := bx448.cell 1 rfl
    clear k438
    clear k439
    have k461 := bx450.cell 0 rfl
    have k462 := bx450.cell 1 rfl
    have md463 : Mid 0 0 w17 (w17.alloc (.cells #[.int .i64 r1, .slice AA440 d1.length cc441] 24)) := Mid.alloc _ _
    have bx464 := bx444.mid md463 (Or.inr (Nat.zero_le _))
    clear bx444
    have h465 := RSS.mid h445 md463 (Or.inl (Nat.zero_le _))
    clear h445
    have bx466 := bx446.mid md463 (Or.inr (Nat.zero_le _))
    clear bx446
    have h467 := RSS.mid h447 md463 (Or.inl (Nat.zero_le _))
    clear h447
    have bx468 := bx448.mid md463 (Or.inr (Nat.zero_le _))
    clear bx448
    have h469 := OSS.mid h449 md463 (Or.inl (Nat.zero_le _))
    clear h449
    have bx470 := bx450.mid md463 (Or.inr (Nat.zero_le _))
    clear bx450
    have h471 := OSS.mid h451 md463 (Or.inl (Nat.zero_le _))
    clear h451
    have h472 := OSS.mid h442 md463 (Or.inl (Nat.zero_le _))
    clear h442
    have b473 := below_mid b452 z453 md463 (Or.inr rfl)
    have z474 := b473.size
    have y475 := md463.size
    have bx476 := Box.new w17 #[.int .i64 r1, .slice AA440 d1.length cc441] 24
    have y477 : w17.heap.size + 1 ≤ (w17.alloc (.cells #[.int .i64 r1, .slice AA440 d1.length cc441] 24)).heap.size := (by simp)
    clear k455
    clear k456
    have k478 := bx464.cell 0 rfl
    have k479 := bx464.cell 1 rfl
    clear k457
    clear k458
    have k480 := bx466.cell 0 rfl
    have k481 := bx466.cell 1 rfl
    clear k459
    clear k460
    have k482 := bx468.cell 0 rfl
    have k483 := bx468.cell 1 rfl
    clear k461
    clear k462
    have k484 := bx470.cell 0 rfl
    have k485 := bx470.cell 1 rfl
    have k486 := bx476.cell 0 rfl
    have k487 := bx476.cell 1 rfl
    go_wp2_with fail
    with_reducible refine (simpl_ComposeMorphisms r0 _ d0 _ r1 _ d1 _ _ _ _ h471 _b0 _o0 hl0 _ _ h472 _b1 _o1 hl1 rr0 res0 res1 HRES.out).mono ?_
    rintro e w18 ⟨AA489, cc490, rfl, h491, md488⟩
    have bx492 := bx464.mid md488 (Or.inr (Nat.zero_le _))
    clear bx464
    have h493 := RSS.mid h465 md488 (Or.inl (Nat.zero_le _))
    clear h465
    have bx494 := bx466.mid md488 (Or.inr (Nat.zero_le _))
    clear bx466
    have h495 := RSS.mid h467 md488 (Or.inl (Nat.zero_le _))
    clear h467
    have bx496 := bx468.mid md488 (Or.inr (Nat.zero_le _))
    clear bx468
    have h497 := OSS.mid h469 md488 (Or.inl (Nat.zero_le _))
    clear h469
    have bx498 := bx470.mid md488 (Or.inr (Nat.zero_le _))
    clear bx470
    have h499 := OSS.mid h471 md488 (Or.inl (Nat.zero_le _))
    clear h471
    have bx500 := bx476.mid md488 (Or.inr (Nat.zero_le _))
    clear bx476
    have h501 := OSS.mid h472 md488 (Or.inl (Nat.zero_le _))
    clear h472
    have b502 := below_mid b473 z474 md488 (Or.inr rfl)
    have z503 := b502.size
    have y504 := md488.size
    clear k478
    clear k479
    have k505 := bx492.cell 0 rfl
    have k506 := bx492.cell 1 rfl
    clear k480
    clear k481
    have k507 := bx494.cell 0 rfl
    have k508 := bx494.cell 1 rfl
    clear k482
    clear k483
    have k509 := bx496.cell 0 rfl
    have k510 := bx496.cell 1 rfl
    clear k484
    clear k485
    have k511 := bx498.cell 0 rfl
    have k512 := bx498.cell 1 rfl
    clear k486
    clear k487
    have k513 := bx500.cell 0 rfl
    have k514 := bx500.cell 1 rfl
    have md515 : Mid 0 0 w18 (w18.alloc (.cells #[.int .i64 rr0, .slice AA489 res0.length cc490] 24)) := Mid.alloc _ _
    have bx516 := bx492.mid md515 (Or.inr (Nat.zero_le _))
    clear bx492
    have h517 := RSS.mid h493 md515 (Or.inl (Nat.zero_le _))
    clear h493
    have bx518 := bx494.mid md515 (Or.inr (Nat.zero_le _))
    clear bx494
    have h519 := RSS.mid h495 md515 (Or.inl (Nat.zero_le _))
    clear h495
    have bx520 := bx496.mid md515 (Or.inr (Nat.zero_le _))
    clear bx496
    have h521 := OSS.mid h497 md515 (Or.inl (Nat.zero_le _))
    clear h497
    have bx522 := bx498.mid md515 (Or.inr (Nat.zero_le _))
    clear bx498
    have h523 := OSS.mid h499 md515 (Or.inl (Nat.zero_le _))
    clear h499
    have bx524 := bx500.mid md515 (Or.inr (Nat.zero_le _))
    clear bx500
    have h525 := OSS.mid h501 md515 (Or.inl (Nat.zero_le _))
    clear h501
    have h526 := OSS.mid h491 md515 (Or.inl (Nat.zero_le _))
    clear h491
    have b527 := below_mid b502 z503 md515 (Or.inr rfl)
    have z528 := b527.size
    have y529 := md515.size
    have bx530 := Box.new w18 #[.int .i64 rr0, .slice AA489 res0.length cc490] 24
    have y531 : w18.heap.size + 1 ≤ (w18.alloc (.cells #[.int .i64 rr0, .slice AA489 res0.length cc490] 24)).heap.size := (by simp)
    clear k505
    clear k506
    have k532 := bx516.cell 0 rfl
    have k533 := bx516.cell 1 rfl
    clear k507
    clear k508
    have k534 := bx518.cell 0 rfl
    have k535 := bx518.cell 1 rfl
    clear k509
    clear k510
    have k536 := bx520.cell 0 rfl
    have k537 := bx520.cell 1 rfl
    clear k511
    clear k512
    have k538 := bx522.cell 0 rfl
    have k539 := bx522.cell 1 rfl
    clear k513
    clear k514
    have k540 := bx524.cell 0 rfl
    have k541 := bx524.cell 1 rfl
    have k542 := bx530.cell 0 rfl
    have k543 := bx530.cell 1 rfl
    go_wp2_with fail
    with_reducible refine (eqMorphism_same _ _ _ res0 _ _ _ _ _ _ _ (OSS.rss h526) (OSS.rss h521) hlr0).mono ?_
    rintro e w19 ⟨rfl, md544⟩
    have bx545 := bx516.mid md544 (Or.inr (Nat.zero_le _))
    clear bx516
    have h546 := RSS.mid h517 md544 (Or.inl (Nat.zero_le _))
    clear h517
    have bx547 := bx518.mid md544 (Or.inr (Nat.zero_le _))
    clear bx518
    have h548 := RSS.mid h519 md544 (Or.inl (Nat.zero_le _))
    clear h519
    have bx549 := bx520.mid md544 (Or.inr (Nat.zero_le _))
    clear bx520
    have h550 := OSS.mid h521 md544 (Or.inl (Nat.zero_le _))
    clear h521
    have bx551 := bx522.mid md544 (Or.inr (Nat.zero_le _))
    clear bx522
    have h552 := OSS.mid h523 md544 (Or.inl (Nat.zero_le _))
    clear h523
    have bx553 := bx524.mid md544 (Or.inr (Nat.zero_le _))
    clear bx524
    have h554 := OSS.mid h525 md544 (Or.inl (Nat.zero_le _))
    clear h525
    have bx555 := bx530.mid md544 (Or.inr (Nat.zero_le _))
    clear bx530
    have h556 := OSS.mid h526 md544 (Or.inl (Nat.zero_le _))
    clear h526
    have b557 := below_mid b527 z528 md544 (Or.inr rfl)
    have z558 := b557.size
    have y559 := md544.size
    clear k532
    clear k533
    have k560 := bx545.cell 0 rfl
    have k561 := bx545.cell 1 rfl
    clear k534
    clear k535
    have k562 := bx547.cell 0 rfl
    have k563 := bx547.cell 1 rfl
    clear k536
    clear k537
    have k564 := bx549.cell 0 rfl
    have k565 := bx549.cell 1 rfl
    clear k538
    clear k539
    have k566 := bx551.cell 0 rfl
    have k567 := bx551.cell 1 rfl
    clear k540
    clear k541
    have k568 := bx553.cell 0 rfl
    have k569 := bx553.cell 1 rfl
    clear k542
    clear k543
    have k570 := bx555.cell 0 rfl
    have k571 := bx555.cell 1 rfl
    go_wp2_with fail
    have md572 : Mid 0 0 w19 w19.drew := Mid.drew1 _
    have bx573 := bx545.mid md572 (Or.inr (Nat.zero_le _))
    have h574 := RSS.mid h546 md572 (Or.inl (Nat.zero_le _))
    have bx575 := bx547.mid md572 (Or.inr (Nat.zero_le _))
    have h576 := RSS.mid h548 md572 (Or.inl (Nat.zero_le _))
    have bx577 := bx549.mid md572 (Or.inr (Nat.zero_le _))
    have h578 := OSS.mid h550 md572 (Or.inl (Nat.zero_le _))
    have bx579 := bx551.mid md572 (Or.inr (Nat.zero_le _))
    have h580 := OSS.mid h552 md572 (Or.inl (Nat.zero_le _))
    have bx581 := bx553.mid md572 (Or.inr (Nat.zero_le _))
    have h582 := OSS.mid h554 md572 (Or.inl (Nat.zero_le _))
    have bx583 := bx555.mid md572 (Or.inr (Nat.zero_le _))
    have h584 := OSS.mid h556 md572 (Or.inl (Nat.zero_le _))
    have b585 := below_mid b557 z558 md572 (Or.inr rfl)
    have z586 := b585.size
    have y587 := md572.size
    have k588 := bx573.cell 0 rfl
    have k589 := bx573.cell 1 rfl
    have k590 := bx575.cell 0 rfl
    have k591 := bx575.cell 1 rfl
    have k592 := bx577.cell 0 rfl
    have k593 := bx577.cell 1 rfl
    have k594 := bx579.cell 0 rfl
    have k595 := bx579.cell 1 rfl
    have k596 := bx581.cell 0 rfl
    have k597 := bx581.cell 1 rfl
    have k598 := bx583.cell 0 rfl
    have k599 := bx583.cell 1 rfl
    go_region_held3 (fun w' => w'.cell? ⟨w16.heap.size, 0, none⟩ = some (.int .i64 r0) ∧ w'.cell? ⟨w16.heap.size, 1, none⟩ = some (.slice AA400 d0.length cc401) ∧ w'.cell? ⟨w.heap.size, 0, none⟩ = some (.int .i64 r0) ∧ w'.cell? ⟨w.heap.size, 1, none⟩ = some (.slice A0 d0.length c0)) (first | exact ⟨k566, k567, k560, k561⟩ | exact ⟨k594, k595, k588, k589⟩ | exact ⟨k625, k626, k619, k620⟩ | exact ⟨k654, k655, k648, k649⟩) (first | (go_at_call 22; with_reducible refine (toMorphism_any r0 _ d0 _ _ _ _ h574 hl0).mono ?_; rintro e w20 ⟨AA600, cc601, rfl, h602, md603⟩; have bx604 := bx573.mid md603 (Or.inr (Nat.zero_le _)); have h605 := RSS.mid h574 md603 (Or.inl (Nat.zero_le _)); have bx606 := bx575.mid md603 (Or.inr (Nat.zero_le _)); have h607 := RSS.mid h576 md603 (Or.inl (Nat.zero_le _)); have bx608 := bx577.mid md603 (Or.inr (Nat.zero_le _)); have h609 := OSS.mid h578 md603 (Or.inl (Nat.zero_le _)); have bx610 := bx579.mid md603 (Or.inr (Nat.zero_le _)); have h611 := OSS.mid h580 md603 (Or.inl (Nat.zero_le _)); have bx612 := bx581.mid md603 (Or.inr (Nat.zero_le _)); have h613 := OSS.mid h582 md603 (Or.inl (Nat.zero_le _)); have bx614 := bx583.mid md603 (Or.inr (Nat.zero_le _)); have h615 := OSS.mid h584 md603 (Or.inl (Nat.zero_le _)); have b616 := below_mid b585 z586 md603 (Or.inr rfl); have z617 := b616.size; have y618 := md603.size; have k619 := bx604.cell 0 rfl; have k620 := bx604.cell 1 rfl; have k621 := bx606.cell 0 rfl; have k622 := bx606.cell 1 rfl; have k623 := bx608.cell 0 rfl; have k624 := bx608.cell 1 rfl; have k625 := bx610.cell 0 rfl; have k626 := bx610.cell 1 rfl; have k627 := bx612.cell 0 rfl; have k628 := bx612.cell 1 rfl; have k629 := bx614.cell 0 rfl; have k630 := bx614.cell 1 rfl) | (go_at_call 17; with_reducible refine (eqMorphism_same _ _ _ d0 _ _ _ _ _ _ _ (OSS.rss h611) (OSS.rss h602) hl0).mono ?_; rintro e w21 ⟨rfl, md631⟩; have bx632 := bx604.mid md631 (Or.inr (Nat.zero_le _)); have h633 := RSS.mid h605 md631 (Or.inl (Nat.zero_le _)); have bx634 := bx606.mid md631 (Or.inr (Nat.zero_le _)); have h635 := RSS.mid h607 md631 (Or.inl (Nat.zero_le _)); have bx636 := bx608.mid md631 (Or.inr (Nat.zero_le _)); have h637 := OSS.mid h609 md631 (Or.inl (Nat.zero_le _)); have bx638 := bx610.mid md631 (Or.inr (Nat.zero_le _)); have h639 := OSS.mid h611 md631 (Or.inl (Nat.zero_le _)); have bx640 := bx612.mid md631 (Or.inr (Nat.zero_le _)); have h641 := OSS.mid h613 md631 (Or.inl (Nat.zero_le _)); have bx642 := bx614.mid md631 (Or.inr (Nat.zero_le _)); have h643 := OSS.mid h615 md631 (Or.inl (Nat.zero_le _)); have h644 := OSS.mid h602 md631 (Or.inl (Nat.zero_le _)); have b645 := below_mid b616 z617 md631 (Or.inr rfl); have z646 := b645.size; have y647 := md631.size; have k648 := bx632.cell 0 rfl; have k649 := bx632.cell 1 rfl; have k650 := bx634.cell 0 rfl; have k651 := bx634.cell 1 rfl; have k652 := bx636.cell 0 rfl; have k653 := bx636.cell 1 rfl; have k654 := bx638.cell 0 rfl; have k655 := bx638.cell 1 rfl; have k656 := bx640.cell 0 rfl; have k657 := bx640.cell 1 rfl; have k658 := bx642.cell 0 rfl; have k659 := bx642.cell 1 rfl))
    go_wp2_with fail
    have md660 : Mid 0 0 w21 w21.drew := Mid.drew1 _
    have bx661 := bx632.mid md660 (Or.inr (Nat.zero_le _))
    have h662 := RSS.mid h633 md660 (Or.inl (Nat.zero_le _))
    have bx663 := bx634.mid md660 (Or.inr (Nat.zero_le _))
    have h664 := RSS.mid h635 md660 (Or.inl (Nat.zero_le _))
    have bx665 := bx636.mid md660 (Or.inr (Nat.zero_le _))
    have h666 := OSS.mid h637 md660 (Or.inl (Nat.zero_le _))
    have bx667 := bx638.mid md660 (Or.inr (Nat.zero_le _))
    have h668 := OSS.mid h639 md660 (Or.inl (Nat.zero_le _))
    have bx669 := bx640.mid md660 (Or.inr (Nat.zero_le _))
    have h670 := OSS.mid h641 md660 (Or.inl (Nat.zero_le _))
    have bx671 := bx642.mid md660 (Or.inr (Nat.zero_le _))
    have h672 := OSS.mid h643 md660 (Or.inl (Nat.zero_le _))
    have b673 := below_mid b645 z646 md660 (Or.inr rfl)
    have z674 := b673.size
    have y675 := md660.size
    have k676 := bx661.cell 0 rfl
    have k677 := bx661.cell 1 rfl
    have k678 := bx663.cell 0 rfl
    have k679 := bx663.cell 1 rfl
    have k680 := bx665.cell 0 rfl
    have k681 := bx665.cell 1 rfl
    have k682 := bx667.cell 0 rfl
    have k683 := bx667.cell 1 rfl
    have k684 := bx669.cell 0 rfl
    have k685 := bx669.cell 1 rfl
    have k686 := bx671.cell 0 rfl
    have k687 := bx671.cell 1 rfl
    go_region_held3 (fun w' => w'.cell? ⟨w17.heap.size, 0, none⟩ = some (.int .i64 r1) ∧ w'.cell? ⟨w17.heap.size, 1, none⟩ = some (.slice AA440 d1.length cc441) ∧ w'.cell? ⟨w.heap.size + 1, 0, none⟩ = some (.int .i64 r1) ∧ w'.cell? ⟨w.heap.size + 1, 1, none⟩ = some (.slice A1 d1.length c1)) (first | exact ⟨k656, k657, k650, k651⟩ | exact ⟨k684, k685, k678, k679⟩ | exact ⟨k715, k716, k709, k710⟩ | exact ⟨k744, k745, k738, k739⟩) (first | (go_at_call 22; with_reducible refine (toMorphism_any r1 _ d1 _ _ _ _ h664 hl1).mono ?_; rintro e w22 ⟨AA688, cc689, rfl, h690, md691⟩; have bx692 := bx661.mid md691 (Or.inr (Nat.zero_le _)); have h693 := RSS.mid h662 md691 (Or.inl (Nat.zero_le _)); have bx694 := bx663.mid md691 (Or.inr (Nat.zero_le _)); have h695 := RSS.mid h664 md691 (Or.inl (Nat.zero_le _)); have bx696 := bx665.mid md691 (Or.inr (Nat.zero_le _)); have h697 := OSS.mid h666 md691 (Or.inl (Nat.zero_le _)); have bx698 := bx667.mid md691 (Or.inr (Nat.zero_le _)); have h699 := OSS.mid h668 md691 (Or.inl (Nat.zero_le _)); have bx700 := bx669.mid md691 (Or.inr (Nat.zero_le _)); have h701 := OSS.mid h670 md691 (Or.inl (Nat.zero_le _)); have bx702 := bx671.mid md691 (Or.inr (Nat.zero_le _)); have h703 := OSS.mid h672 md691 (Or.inl (Nat.zero_le _)); have b704 := below_mid b673 z674 md691 (Or.inr rfl); have z705 := b704.size; have y706 := md691.size; have k707 := bx692.cell 0 rfl; have k708 := bx692.cell 1 rfl; have k709 := bx694.cell 0 rfl; have k710 := bx694.cell 1 rfl; have k711 := bx696.cell 0 rfl; have k712 := bx696.cell 1 rfl; have k713 := bx698.cell 0 rfl; have k714 := bx698.cell 1 rfl; have k715 := bx700.cell 0 rfl; have k716 := bx700.cell 1 rfl; have k717 := bx702.cell 0 rfl; have k718 := bx702.cell 1 rfl) | (go_at_call 17; with_reducible refine (eqMorphism_same _ _ _ d1 _ _ _ _ _ _ _ (OSS.rss h701) (OSS.rss h690) hl1).mono ?_; rintro e w23 ⟨rfl, md719⟩; have bx720 := bx692.mid md719 (Or.inr (Nat.zero_le _)); have h721 := RSS.mid h693 md719 (Or.inl (Nat.zero_le _)); have bx722 := bx694.mid md719 (Or.inr (Nat.zero_le _)); have h723 := RSS.mid h695 md719 (Or.inl (Nat.zero_le _)); have bx724 := bx696.mid md719 (Or.inr (Nat.zero_le _)); have h725 := OSS.mid h697 md719 (Or.inl (Nat.zero_le _)); have bx726 := bx698.mid md719 (Or.inr (Nat.zero_le _)); have h727 := OSS.mid h699 md719 (Or.inl (Nat.zero_le _)); have bx728 := bx700.mid md719 (Or.inr (Nat.zero_le _)); have h729 := OSS.mid h701 md719 (Or.inl (Nat.zero_le _)); have bx730 := bx702.mid md719 (Or.inr (Nat.zero_le _)); have h731 := OSS.mid h703 md719 (Or.inl (Nat.zero_le _)); have h732 := OSS.mid h690 md719 (Or.inl (Nat.zero_le _)); have b733 := below_mid b704 z705 md719 (Or.inr rfl); have z734 := b733.size; have y735 := md719.size; have k736 := bx720.cell 0 rfl; have k737 := bx720.cell 1 rfl; have k738 := bx722.cell 0 rfl; have k739 := bx722.cell 1 rfl; have k740 := bx724.cell 0 rfl; have k741 := bx724.cell 1 rfl; have k742 := bx726.cell 0 rfl; have k743 := bx726.cell 1 rfl; have k744 := bx728.cell 0 rfl; have k745 := bx728.cell 1 rfl; have k746 := bx730.cell 0 rfl; have k747 := bx730.cell 1 rfl))
    go_wp2_with fail
    with_reducible refine (markMorphism_any _ _ d0 _ 1 _ _ _ h727 (by omega) (by omega) hl0).mono ?_
    rintro e w24 ⟨rfl, h748, md749⟩
    have bx750 := bx720.mid md749 (by omega)
    clear bx720
    have h751 := RSS.mid h721 md749 (by omega)
    clear h721
    have bx752 := bx722.mid md749 (by omega)
    clear bx722
    have h753 := RSS.mid h723 md749 (by omega)
    clear h723
    have bx754 := bx724.mid md749 (by omega)
    clear bx724
    have h755 := OSS.mid h725 md749 (by omega)
    clear h725
    have bx756 := bx726.mid md749 (by omega)
    clear bx726
    have bx757 := bx728.mid md749 (by omega)
    clear bx728
    have h758 := OSS.mid h729 md749 (by omega)
    clear h729
    have bx759 := bx730.mid md749 (by omega)
    clear bx730
    have h760 := OSS.mid h731 md749 (by omega)
    clear h731
    have b761 := below_mid b733 z734 md749 (by omega)
    have z762 := b761.size
    have y763 := md749.size
    clear h727
    clear k736
    clear k737
    have k764 := bx750.cell 0 rfl
    have k765 := bx750.cell 1 rfl
    clear k738
    clear k739
    have k766 := bx752.cell 0 rfl
    have k767 := bx752.cell 1 rfl
    clear k740
    clear k741
    have k768 := bx754.cell 0 rfl
    have k769 := bx754.cell 1 rfl
    clear k742
    clear k743
    have k770 := bx756.cell 0 rfl
    have k771 := bx756.cell 1 rfl
    clear k744
    clear k745
    have k772 := bx757.cell 0 rfl
    have k773 := bx757.cell 1 rfl
    clear k746
    clear k747
    have k774 := bx759.cell 0 rfl
    have k775 := bx759.cell 1 rfl
    go_wp2_with fail
    with_reducible refine (markMorphism_any _ _ d1 _ (1 + (sumL d0 : Int)) _ _ _ h758 (by omega) (by omega) hl1).mono ?_
    rintro e w25 ⟨rfl, h776, md777⟩
    have bx778 := bx750.mid md777 (by omega)
    clear bx750
    have h779 := RSS.mid h751 md777 (by omega)
    clear h751
    have bx780 := bx752.mid md777 (by omega)
    clear bx752
    have h781 := RSS.mid h753 md777 (by omega)
    clear h753
    have bx782 := bx754.mid md777 (by omega)
    clear bx754
    have h783 := OSS.mid h755 md777 (by omega)
    clear h755
    have bx784 := bx756.mid md777 (by omega)
    clear bx756
    have h785 := OSS.mid h748 md777 (by omega)
    clear h748
    have bx786 := bx757.mid md777 (by omega)
    clear bx757
    have bx787 := bx759.mid md777 (by omega)
    clear bx759
    have h788 := OSS.mid h760 md777 (by omega)
    clear h760
    have b789 := below_mid b761 z762 md777 (by omega)
    have z790 := b789.size
    have y791 := md777.size
    clear h758
    clear k764
    clear k765
    have k792 := bx778.cell 0 rfl
    have k793 := bx778.cell 1 rfl
    clear k766
    clear k767
    have k794 := bx780.cell 0 rfl
    have k795 := bx780.cell 1 rfl
    clear k768
    clear k769
    have k796 := bx782.cell 0 rfl
    have k797 := bx782.cell 1 rfl
    clear k770
    clear k771
    have k798 := bx784.cell 0 rfl
    have k799 := bx784.cell 1 rfl
    clear k772
    clear k773
    have k800 := bx786.cell 0 rfl
    have k801 := bx786.cell 1 rfl
    clear k774
    clear k775
    have k802 := bx787.cell 0 rfl
    have k803 := bx787.cell 1 rfl
    go_wp2_with fail
    with_reducible refine (eqMorphism_same _ _ _ res0 _ _ _ _ _ _ _ (OSS.rss h788) (OSS.rss h783) hlr0).mono ?_
    rintro e w26 ⟨rfl, md804⟩
    have bx805 := bx778.mid md804 (Or.inr (Nat.zero_le _))
    clear bx778
    have h806 := RSS.mid h779 md804 (Or.inl (Nat.zero_le _))
    clear h779
    have bx807 := bx780.mid md804 (Or.inr (Nat.zero_le _))
    clear bx780
    have h808 := RSS.mid h781 md804 (Or.inl (Nat.zero_le _))
    clear h781
    have bx809 := bx782.mid md804 (Or.inr (Nat.zero_le _))
    clear bx782
    have h810 := OSS.mid h783 md804 (Or.inl (Nat.zero_le _))
    clear h783
    have bx811 := bx787.mid md804 (Or.inr (Nat.zero_le _))
    clear bx787
    have h812 := OSS.mid h788 md804 (Or.inl (Nat.zero_le _))
    clear h788
    have b813 := below_mid b789 z790 md804 (Or.inr rfl)
    have z814 := b813.size
    have y815 := md804.size
    clear k792
    clear k793
    have k816 := bx805.cell 0 rfl
    have k817 := bx805.cell 1 rfl
    clear k794
    clear k795
    have k818 := bx807.cell 0 rfl
    have k819 := bx807.cell 1 rfl
    clear k796
    clear k797
    have k820 := bx809.cell 0 rfl
    have k821 := bx809.cell 1 rfl
    clear k802
    clear k803
    have k822 := bx811.cell 0 rfl
    have k823 := bx811.cell 1 rfl
    go_wp2_with fail
    with_reducible refine (markMorphism_any _ _ res0 _ 1 _ _ _ h812 (by omega) (by omega) hlr0).mono ?_
    rintro e w27 ⟨rfl, h824, md825⟩
    have bx826 := bx805.mid md825 (by omega)
    clear bx805
    have h827 := RSS.mid h806 md825 (by omega)
    clear h806
    have bx828 := bx807.mid md825 (by omega)
    clear bx807
    have h829 := RSS.mid h808 md825 (by omega)
    clear h808
    have bx830 := bx809.mid md825 (by omega)
    clear bx809
    have h831 := OSS.mid h810 md825 (by omega)
    clear h810
    have bx832 := bx811.mid md825 (by omega)
    clear bx811
    have b833 := below_mid b813 z814 md825 (by omega)
    have z834 := b833.size
    have y835 := md825.size
    clear h812
    clear k816
    clear k817
    have k836 := bx826.cell 0 rfl
    have k837 := bx826.cell 1 rfl
    clear k818
    clear k819
    have k838 := bx828.cell 0 rfl
    have k839 := bx828.cell 1 rfl
    clear k820
    clear k821
    have k840 := bx830.cell 0 rfl
    have k841 := bx830.cell 1 rfl
    clear k822
    clear k823
    have k842 := bx832.cell 0 rfl
    have k843 := bx832.cell 1 rfl
    go_wp2_with fail
    with_reducible refine (heldMorphism_any _ _ res0 _ 1 _ _ _ (OSS.rss h824) (by omega) (by omega) hlr0).mono ?_
    rintro e w28 ⟨rfl, md844⟩
    have bx845 := bx826.mid md844 (Or.inr (Nat.zero_le _))
    clear bx826
    have h846 := RSS.mid h827 md844 (Or.inl (Nat.zero_le _))
    clear h827
    have bx847 := bx828.mid md844 (Or.inr (Nat.zero_le _))
    clear bx828
    have h848 := RSS.mid h829 md844 (Or.inl (Nat.zero_le _))
    clear h829
    have bx849 := bx830.mid md844 (Or.inr (Nat.zero_le _))
    clear bx830
    have h850 := OSS.mid h831 md844 (Or.inl (Nat.zero_le _))
    clear h831
    have bx851 := bx832.mid md844 (Or.inr (Nat.zero_le _))
    clear bx832
    have h852 := OSS.mid h824 md844 (Or.inl (Nat.zero_le _))
    clear h824
    have b853 := below_mid b833 z834 md844 (Or.inr rfl)
    have z854 := b853.size
    have y855 := md844.size
    clear k836
    clear k837
    have k856 := bx845.cell 0 rfl
    have k857 := bx845.cell 1 rfl
    clear k838
    clear k839
    have k858 := bx847.cell 0 rfl
    have k859 := bx847.cell 1 rfl
    clear k840
    clear k841
    have k860 := bx849.cell 0 rfl
    have k861 := bx849.cell 1 rfl
    clear k842
    clear k843
    have k862 := bx851.cell 0 rfl
    have k863 := bx851.cell 1 rfl
    go_upto_region 31 with fail
    go_cut [15,16] (fun s15 s16 wx => ∃ (g : Nat) (A0' : Option Addr) (c0' : Nat), s15 = .pointer (some ⟨g, 0, none⟩) ∧ s16 = .bool res1 ∧ Box wx g [.int .i64 rr0, .slice A0' res0.length c0'] ∧ OSS wx w28.heap.size (wx.heap.size) 36 3 A0' c0' res0 ∧ Mid 0 0 w28 wx ∧ w28.heap.size ≤ g)
    case first =>
      have md864 : Mid 0 0 w28 w28.drew := Mid.drew1 _
      have bx865 := bx845.mid md864 (Or.inr (Nat.zero_le _))
      have h866 := RSS.mid h846 md864 (Or.inl (Nat.zero_le _))
      have bx867 := bx847.mid md864 (Or.inr (Nat.zero_le _))
      have h868 := RSS.mid h848 md864 (Or.inl (Nat.zero_le _))
      have bx869 := bx849.mid md864 (Or.inr (Nat.zero_le _))
      have h870 := OSS.mid h850 md864 (Or.inl (Nat.zero_le _))
      have bx871 := bx851.mid md864 (Or.inr (Nat.zero_le _))
      have h872 := OSS.mid h852 md864 (Or.inl (Nat.zero_le _))
      have b873 := below_mid b853 z854 md864 (Or.inr rfl)
      have z874 := b873.size
      have y875 := md864.size
      have k876 := bx865.cell 0 rfl
      have k877 := bx865.cell 1 rfl
      have k878 := bx867.cell 0 rfl
      have k879 := bx867.cell 1 rfl
      have k880 := bx869.cell 0 rfl
      have k881 := bx869.cell 1 rfl
      have k882 := bx871.cell 0 rfl
      have k883 := bx871.cell 1 rfl
      have y884 : w28.drew.heap.size = w28.heap.size := rfl
      go_region_held3 (fun w' => w'.cell? ⟨w.heap.size, 0, none⟩ = some (.int .i64 r0) ∧ w'.cell? ⟨w.heap.size, 1, none⟩ = some (.slice A0 d0.length c0) ∧ w'.cell? ⟨w.heap.size + 1, 0, none⟩ = some (.int .i64 r1) ∧ w'.cell? ⟨w.heap.size + 1, 1, none⟩ = some (.slice A1 d1.length c1)) (first | exact ⟨k856, k857, k858, k859⟩ | exact ⟨k876, k877, k878, k879⟩ | exact ⟨k901, k902, k903, k904⟩ | exact ⟨k926, k927, k928, k929⟩ | exact ⟨k952, k953, k954, k955⟩ | exact ⟨(bx938.mid (Mid.alloc _ _) (Or.inr (Nat.zero_le _))).cell 0 rfl, (bx938.mid (Mid.alloc _ _) (Or.inr (Nat.zero_le _))).cell 1 rfl, (bx940.mid (Mid.alloc _ _) (Or.inr (Nat.zero_le _))).cell 0 rfl, (bx940.mid (Mid.alloc _ _) (Or.inr (Nat.zero_le _))).cell 1 rfl⟩ | exact ⟨(bx913.mid (Mid.alloc _ _) (Or.inr (Nat.zero_le _))).cell 0 rfl, (bx913.mid (Mid.alloc _ _) (Or.inr (Nat.zero_le _))).cell 1 rfl, (bx915.mid (Mid.alloc _ _) (Or.inr (Nat.zero_le _))).cell 0 rfl, (bx915.mid (Mid.alloc _ _) (Or.inr (Nat.zero_le _))).cell 1 rfl⟩ | exact ⟨k1007, k1008, k1009, k1010⟩ | exact ⟨((bx992.mid (Mid.setCell w32 (lo := w30.heap.size) (hi := w30.heap.size + 1) (p := ⟨w30.heap.size, 0, none⟩) (.int .i64 rr0) (by simp) (by simp)) (by omega)).mid (Mid.setCell (w32.setCell ⟨w30.heap.size, 0, none⟩ (.int .i64 rr0)) (lo := w30.heap.size) (hi := w30.heap.size + 1) (p := ⟨w30.heap.size, 1, none⟩) (.slice AA989 res0.length cc990) (by simp) (by simp)) (by omega)).cell 0 rfl, ((bx992.mid (Mid.setCell w32 (lo := w30.heap.size) (hi := w30.heap.size + 1) (p := ⟨w30.heap.size, 0, none⟩) (.int .i64 rr0) (by simp) (by simp)) (by omega)).mid (Mid.setCell (w32.setCell ⟨w30.heap.size, 0, none⟩ (.int .i64 rr0)) (lo := w30.heap.size) (hi := w30.heap.size + 1) (p := ⟨w30.heap.size, 1, none⟩) (.slice AA989 res0.length cc990) (by simp) (by simp)) (by omega)).cell 1 rfl, ((bx994.mid (Mid.setCell w32 (lo := w30.heap.size) (hi := w30.heap.size + 1) (p := ⟨w30.heap.size, 0, none⟩) (.int .i64 rr0) (by simp) (by simp)) (by omega)).mid (Mid.setCell (w32.setCell ⟨w30.heap.size, 0, none⟩ (.int .i64 rr0)) (lo := w30.heap.size) (hi := w30.heap.size + 1) (p := ⟨w30.heap.size, 1, none⟩) (.slice AA989 res0.length cc990) (by simp) (by simp)) (by omega)).cell 0 rfl, ((bx994.mid (Mid.setCell w32 (lo := w30.heap.size) (hi := w30.heap.size + 1) (p := ⟨w30.heap.size, 0, none⟩) (.int .i64 rr0) (by simp) (by simp)) (by omega)).mid (Mid.setCell (w32.setCell ⟨w30.heap.size, 0, none⟩ (.int .i64 rr0)) (lo := w30.heap.size) (hi := w30.heap.size + 1) (p := ⟨w30.heap.size, 1, none⟩) (.slice AA989 res0.length cc990) (by simp) (by simp)) (by omega)).cell 1 rfl⟩ | exact ⟨(bx889.mid (Mid.alloc _ _) (Or.inr (Nat.zero_le _))).cell 0 rfl, (bx889.mid (Mid.alloc _ _) (Or.inr (Nat.zero_le _))).cell 1 rfl, (bx891.mid (Mid.alloc _ _) (Or.inr (Nat.zero_le _))).cell 0 rfl, (bx891.mid (Mid.alloc _ _) (Or.inr (Nat.zero_le _))).cell 1 rfl⟩ | exact ⟨k1063, k1064, k1065, k1066⟩ | exact ⟨k1093, k1094, k1095, k1096⟩ | exact ⟨((bx1078.mid (Mid.setCell w34 (lo := w29.heap.size) (hi := w29.heap.size + 1) (p := ⟨w29.heap.size, 0, none⟩) (.int .i64 rr0) (by simp) (by simp)) (by omega)).mid (Mid.setCell (w34.setCell ⟨w29.heap.size, 0, none⟩ (.int .i64 rr0)) (lo := w29.heap.size) (hi := w29.heap.size + 1) (p := ⟨w29.heap.size, 1, none⟩) (.slice AA1075 res0.length cc1076) (by simp) (by simp)) (by omega)).cell 0 rfl, ((bx1078.mid (Mid.setCell w34 (lo := w29.heap.size) (hi := w29.heap.size + 1) (p := ⟨w29.heap.size, 0, none⟩) (.int .i64 rr0) (by simp) (by simp)) (by omega)).mid (Mid.setCell (w34.setCell ⟨w29.heap.size, 0, none⟩ (.int .i64 rr0)) (lo := w29.heap.size) (hi := w29.heap.size + 1) (p := ⟨w29.heap.size, 1, none⟩) (.slice AA1075 res0.length cc1076) (by simp) (by simp)) (by omega)).cell 1 rfl, ((bx1080.mid (Mid.setCell w34 (lo := w29.heap.size) (hi := w29.heap.size + 1) (p := ⟨w29.heap.size, 0, none⟩) (.int .i64 rr0) (by simp) (by simp)) (by omega)).mid (Mid.setCell (w34.setCell ⟨w29.heap.size, 0, none⟩ (.int .i64 rr0)) (lo := w29.heap.size) (hi := w29.heap.size + 1) (p := ⟨w29.heap.size, 1, none⟩) (.slice AA1075 res0.length cc1076) (by simp) (by simp)) (by omega)).cell 0 rfl, ((bx1080.mid (Mid.setCell w34 (lo := w29.heap.size) (hi := w29.heap.size + 1) (p := ⟨w29.heap.size, 0, none⟩) (.int .i64 rr0) (by simp) (by simp)) (by omega)).mid (Mid.setCell (w34.setCell ⟨w29.heap.size, 0, none⟩ (.int .i64 rr0)) (lo := w29.heap.size) (hi := w29.heap.size + 1) (p := ⟨w29.heap.size, 1, none⟩) (.slice AA1075 res0.length cc1076) (by simp) (by simp)) (by omega)).cell 1 rfl⟩ | exact ⟨(bx845.mid (Mid.alloc _ _) (Or.inr (Nat.zero_le _))).cell 0 rfl, (bx845.mid (Mid.alloc _ _) (Or.inr (Nat.zero_le _))).cell 1 rfl, (bx847.mid (Mid.alloc _ _) (Or.inr (Nat.zero_le _))).cell 0 rfl, (bx847.mid (Mid.alloc _ _) (Or.inr (Nat.zero_le _))).cell 1 rfl⟩ | exact ⟨bx1106.cell 0 rfl, bx1106.cell 1 rfl, bx1108.cell 0 rfl, bx1108.cell 1 rfl⟩ | exact ⟨k1147, k1148, k1149, k1150⟩ | exact ⟨k1176, k1177, k1178, k1179⟩ | exact ⟨k1206, k1207, k1208, k1209⟩ | exact ⟨((bx1191.mid (Mid.setCell w37 (lo := w28.heap.size) (hi := w28.heap.size + 1) (p := ⟨w28.heap.size, 0, none⟩) (.int .i64 rr0) (by simp) (by simp)) (by omega)).mid (Mid.setCell (w37.setCell ⟨w28.heap.size, 0, none⟩ (.int .i64 rr0)) (lo := w28.heap.size) (hi := w28.heap.size + 1) (p := ⟨w28.heap.size, 1, none⟩) (.slice AA1188 res0.length cc1189) (by simp) (by simp)) (by omega)).cell 0 rfl, ((bx1191.mid (Mid.setCell w37 (lo := w28.heap.size) (hi := w28.heap.size + 1) (p := ⟨w28.heap.size, 0, none⟩) (.int .i64 rr0) (by simp) (by simp)) (by omega)).mid (Mid.setCell (w37.setCell ⟨w28.heap.size, 0, none⟩ (.int .i64 rr0)) (lo := w28.heap.size) (hi := w28.heap.size + 1) (p := ⟨w28.heap.size, 1, none⟩) (.slice AA1188 res0.length cc1189) (by simp) (by simp)) (by omega)).cell 1 rfl, ((bx1193.mid (Mid.setCell w37 (lo := w28.heap.size) (hi := w28.heap.size + 1) (p := ⟨w28.heap.size, 0, none⟩) (.int .i64 rr0) (by simp) (by simp)) (by omega)).mid (Mid.setCell (w37.setCell ⟨w28.heap.size, 0, none⟩ (.int .i64 rr0)) (lo := w28.heap.size) (hi := w28.heap.size + 1) (p := ⟨w28.heap.size, 1, none⟩) (.slice AA1188 res0.length cc1189) (by simp) (by simp)) (by omega)).cell 0 rfl, ((bx1193.mid (Mid.setCell w37 (lo := w28.heap.size) (hi := w28.heap.size + 1) (p := ⟨w28.heap.size, 0, none⟩) (.int .i64 rr0) (by simp) (by simp)) (by omega)).mid (Mid.setCell (w37.setCell ⟨w28.heap.size, 0, none⟩ (.int .i64 rr0)) (lo := w28.heap.size) (hi := w28.heap.size + 1) (p := ⟨w28.heap.size, 1, none⟩) (.slice AA1188 res0.length cc1189) (by simp) (by simp)) (by omega)).cell 1 rfl⟩) (first | (go_at_call 22; with_reducible refine (toMorphism_any r0 _ d0 _ _ _ _ h866 hl0).mono ?_; rintro e w29 ⟨AA885, cc886, rfl, h887, md888⟩; have bx889 := bx865.mid md888 (Or.inr (Nat.zero_le _)); have h890 := RSS.mid h866 md888 (Or.inl (Nat.zero_le _)); have bx891 := bx867.mid md888 (Or.inr (Nat.zero_le _)); have h892 := RSS.mid h868 md888 (Or.inl (Nat.zero_le _)); have bx893 := bx869.mid md888 (Or.inr (Nat.zero_le _)); have h894 := OSS.mid h870 md888 (Or.inl (Nat.zero_le _)); have bx895 := bx871.mid md888 (Or.inr (Nat.zero_le _)); have h896 := OSS.mid h872 md888 (Or.inl (Nat.zero_le _)); have b897 := below_mid b873 z874 md888 (Or.inr rfl); have z898 := b897.size; have y899 := md888.size; have tt900 := md864.trans md888; have k901 := bx889.cell 0 rfl; have k902 := bx889.cell 1 rfl; have k903 := bx891.cell 0 rfl; have k904 := bx891.cell 1 rfl; have k905 := bx893.cell 0 rfl; have k906 := bx893.cell 1 rfl; have k907 := bx895.cell 0 rfl; have k908 := bx895.cell 1 rfl) | (go_at_call 22; with_reducible refine (toMorphism_any r1 _ d1 _ _ _ _ h892 hl1).mono ?_; rintro e w30 ⟨AA909, cc910, rfl, h911, md912⟩; have bx913 := bx889.mid md912 (Or.inr (Nat.zero_le _)); have h914 := RSS.mid h890 md912 (Or.inl (Nat.zero_le _)); have bx915 := bx891.mid md912 (Or.inr (Nat.zero_le _)); have h916 := RSS.mid h892 md912 (Or.inl (Nat.zero_le _)); have bx917 := bx893.mid md912 (Or.inr (Nat.zero_le _)); have h918 := OSS.mid h894 md912 (Or.inl (Nat.zero_le _)); have bx919 := bx895.mid md912 (Or.inr (Nat.zero_le _)); have h920 := OSS.mid h896 md912 (Or.inl (Nat.zero_le _)); have h921 := OSS.mid h887 md912 (Or.inl (Nat.zero_le _)); have b922 := below_mid b897 z898 md912 (Or.inr rfl); have z923 := b922.size; have y924 := md912.size; have tt925 := tt900.trans md912; have k926 := bx913.cell 0 rfl; have k927 := bx913.cell 1 rfl; have k928 := bx915.cell 0 rfl; have k929 := bx915.cell 1 rfl; have k930 := bx917.cell 0 rfl; have k931 := bx917.cell 1 rfl; have k932 := bx919.cell 0 rfl; have k933 := bx919.cell 1 rfl) | (go_at_call 55; with_reducible refine (simpl_ComposeMorphisms r0 _ d0 _ r1 _ d1 _ _ _ _ h921 _b0 _o0 hl0 _ _ h911 _b1 _o1 hl1 rr0 res0 res1 HRES.out).mono ?_; rintro e w31 ⟨AA935, cc936, rfl, h937, md934⟩; have bx938 := bx913.mid md934 (Or.inr (Nat.zero_le _)); have h939 := RSS.mid h914 md934 (Or.inl (Nat.zero_le _)); have bx940 := bx915.mid md934 (Or.inr (Nat.zero_le _)); have h941 := RSS.mid h916 md934 (Or.inl (Nat.zero_le _)); have bx942 := bx917.mid md934 (Or.inr (Nat.zero_le _)); have h943 := OSS.mid h918 md934 (Or.inl (Nat.zero_le _)); have bx944 := bx919.mid md934 (Or.inr (Nat.zero_le _)); have h945 := OSS.mid h920 md934 (Or.inl (Nat.zero_le _)); have h946 := OSS.mid h921 md934 (Or.inl (Nat.zero_le _)); have h947 := OSS.mid h911 md934 (Or.inl (Nat.zero_le _)); have b948 := below_mid b922 z923 md934 (Or.inr rfl); have z949 := b948.size; have y950 := md934.size; have tt951 := tt925.trans md934; have k952 := bx938.cell 0 rfl; have k953 := bx938.cell 1 rfl; have k954 := bx940.cell 0 rfl; have k955 := bx940.cell 1 rfl; have k956 := bx942.cell 0 rfl; have k957 := bx942.cell 1 rfl; have k958 := bx944.cell 0 rfl; have k959 := bx944.cell 1 rfl) | (go_at_call 55; have md960 : Mid 0 0 w30 (w30.alloc (.cells #[.int .i64 0, .slice none 0 0] 24)) := Mid.alloc _ _; have bx961 := bx913.mid md960 (Or.inr (Nat.zero_le _)); have h962 := RSS.mid h914 md960 (Or.inl (Nat.zero_le _)); have bx963 := bx915.mid md960 (Or.inr (Nat.zero_le _)); have h964 := RSS.mid h916 md960 (Or.inl (Nat.zero_le _)); have bx965 := bx917.mid md960 (Or.inr (Nat.zero_le _)); have h966 := OSS.mid h918 md960 (Or.inl (Nat.zero_le _)); have bx967 := bx919.mid md960 (Or.inr (Nat.zero_le _)); have h968 := OSS.mid h920 md960 (Or.inl (Nat.zero_le _)); have h969 := OSS.mid h921 md960 (Or.inl (Nat.zero_le _)); have h970 := OSS.mid h911 md960 (Or.inl (Nat.zero_le _)); have b971 := below_mid b922 z923 md960 (Or.inr rfl); have z972 := b971.size; have y973 := md960.size; have tt974 := tt925.trans md960; have bz975 : Box (w30.alloc (.cells #[.int .i64 0, .slice none 0 0] 24)) (w30.heap.size) [.int .i64 0, .slice none 0 0] := Box.new w30 #[.int .i64 0, .slice none 0 0] 24; have y976 : w30.heap.size + 1 ≤ (w30.alloc (.cells #[.int .i64 0, .slice none 0 0] 24)).heap.size := (by simp); have k977 := bx961.cell 0 rfl; have k978 := bx961.cell 1 rfl; have k979 := bx963.cell 0 rfl; have k980 := bx963.cell 1 rfl; have k981 := bx965.cell 0 rfl; have k982 := bx965.cell 1 rfl; have k983 := bx967.cell 0 rfl; have k984 := bx967.cell 1 rfl; have k985 := bz975.cell 0 rfl; have k986 := bz975.cell 1 rfl; have f987 := frz_ComposeMorphisms bz975; with_reducible refine (simpl_ComposeMorphisms r0 _ d0 _ r1 _ d1 _ _ _ _ h969 _b0 _o0 hl0 _ _ h970 _b1 _o1 hl1 rr0 res0 res1 HRES.out).mono ?_; rintro e w32 ⟨AA989, cc990, rfl, h991, md988⟩; have bx992 := bx961.mid md988 (Or.inr (Nat.zero_le _)); have h993 := RSS.mid h962 md988 (Or.inl (Nat.zero_le _)); have bx994 := bx963.mid md988 (Or.inr (Nat.zero_le _)); have h995 := RSS.mid h964 md988 (Or.inl (Nat.zero_le _)); have bx996 := bx965.mid md988 (Or.inr (Nat.zero_le _)); have h997 := OSS.mid h966 md988 (Or.inl (Nat.zero_le _)); have bx998 := bx967.mid md988 (Or.inr (Nat.zero_le _)); have h999 := OSS.mid h968 md988 (Or.inl (Nat.zero_le _)); have h1000 := OSS.mid h969 md988 (Or.inl (Nat.zero_le _)); have h1001 := OSS.mid h970 md988 (Or.inl (Nat.zero_le _)); have bx1002 := bz975.mid md988 (Or.inr (Nat.zero_le _)); have b1003 := below_mid b971 z972 md988 (Or.inr rfl); have z1004 := b1003.size; have y1005 := md988.size; have tt1006 := tt974.trans md988; have k1007 := bx992.cell 0 rfl; have k1008 := bx992.cell 1 rfl; have k1009 := bx994.cell 0 rfl; have k1010 := bx994.cell 1 rfl; have k1011 := bx996.cell 0 rfl; have k1012 := bx996.cell 1 rfl; have k1013 := bx998.cell 0 rfl; have k1014 := bx998.cell 1 rfl; have k1015 := bx1002.cell 0 rfl; have k1016 := bx1002.cell 1 rfl; have f1017 := frz_ComposeMorphisms bx1002) | (go_at_call 22; have md1018 : Mid 0 0 w29 (w29.alloc (.cells #[.int .i64 0, .slice none 0 0] 24)) := Mid.alloc _ _; have bx1019 := bx889.mid md1018 (Or.inr (Nat.zero_le _)); have h1020 := RSS.mid h890 md1018 (Or.inl (Nat.zero_le _)); have bx1021 := bx891.mid md1018 (Or.inr (Nat.zero_le _)); have h1022 := RSS.mid h892 md1018 (Or.inl (Nat.zero_le _)); have bx1023 := bx893.mid md1018 (Or.inr (Nat.zero_le _)); have h1024 := OSS.mid h894 md1018 (Or.inl (Nat.zero_le _)); have bx1025 := bx895.mid md1018 (Or.inr (Nat.zero_le _)); have h1026 := OSS.mid h896 md1018 (Or.inl (Nat.zero_le _)); have h1027 := OSS.mid h887 md1018 (Or.inl (Nat.zero_le _)); have b1028 := below_mid b897 z898 md1018 (Or.inr rfl); have z1029 := b1028.size; have y1030 := md1018.size; have tt1031 := tt900.trans md1018; have bz1032 : Box (w29.alloc (.cells #[.int .i64 0, .slice none 0 0] 24)) (w29.heap.size) [.int .i64 0, .slice none 0 0] := Box.new w29 #[.int .i64 0, .slice none 0 0] 24; have y1033 : w29.heap.size + 1 ≤ (w29.alloc (.cells #[.int .i64 0, .slice none 0 0] 24)).heap.size := (by simp); have k1034 := bx1019.cell 0 rfl; have k1035 := bx1019.cell 1 rfl; have k1036 := bx1021.cell 0 rfl; have k1037 := bx1021.cell 1 rfl; have k1038 := bx1023.cell 0 rfl; have k1039 := bx1023.cell 1 rfl; have k1040 := bx1025.cell 0 rfl; have k1041 := bx1025.cell 1 rfl; have k1042 := bz1032.cell 0 rfl; have k1043 := bz1032.cell 1 rfl; have f1044 := frz_ComposeMorphisms bz1032; with_reducible refine (toMorphism_any r1 _ d1 _ _ _ _ h1022 hl1).mono ?_; rintro e w33 ⟨AA1045, cc1046, rfl, h1047, md1048⟩; have bx1049 := bx1019.mid md1048 (Or.inr (Nat.zero_le _)); have h1050 := RSS.mid h1020 md1048 (Or.inl (Nat.zero_le _)); have bx1051 := bx1021.mid md1048 (Or.inr (Nat.zero_le _)); have h1052 := RSS.mid h1022 md1048 (Or.inl (Nat.zero_le _)); have bx1053 := bx1023.mid md1048 (Or.inr (Nat.zero_le _)); have h1054 := OSS.mid h1024 md1048 (Or.inl (Nat.zero_le _)); have bx1055 := bx1025.mid md1048 (Or.inr (Nat.zero_le _)); have h1056 := OSS.mid h1026 md1048 (Or.inl (Nat.zero_le _)); have h1057 := OSS.mid h1027 md1048 (Or.inl (Nat.zero_le _)); have bx1058 := bz1032.mid md1048 (Or.inr (Nat.zero_le _)); have b1059 := below_mid b1028 z1029 md1048 (Or.inr rfl); have z1060 := b1059.size; have y1061 := md1048.size; have tt1062 := tt1031.trans md1048; have k1063 := bx1049.cell 0 rfl; have k1064 := bx1049.cell 1 rfl; have k1065 := bx1051.cell 0 rfl; have k1066 := bx1051.cell 1 rfl; have k1067 := bx1053.cell 0 rfl; have k1068 := bx1053.cell 1 rfl; have k1069 := bx1055.cell 0 rfl; have k1070 := bx1055.cell 1 rfl; have k1071 := bx1058.cell 0 rfl; have k1072 := bx1058.cell 1 rfl; have f1073 := frz_ComposeMorphisms bx1058) | (go_at_call 55; with_reducible refine (simpl_ComposeMorphisms r0 _ d0 _ r1 _ d1 _ _ _ _ h1057 _b0 _o0 hl0 _ _ h1047 _b1 _o1 hl1 rr0 res0 res1 HRES.out).mono ?_; rintro e w34 ⟨AA1075, cc1076, rfl, h1077, md1074⟩; have bx1078 := bx1049.mid md1074 (Or.inr (Nat.zero_le _)); have h1079 := RSS.mid h1050 md1074 (Or.inl (Nat.zero_le _)); have bx1080 := bx1051.mid md1074 (Or.inr (Nat.zero_le _)); have h1081 := RSS.mid h1052 md1074 (Or.inl (Nat.zero_le _)); have bx1082 := bx1053.mid md1074 (Or.inr (Nat.zero_le _)); have h1083 := OSS.mid h1054 md1074 (Or.inl (Nat.zero_le _)); have bx1084 := bx1055.mid md1074 (Or.inr (Nat.zero_le _)); have h1085 := OSS.mid h1056 md1074 (Or.inl (Nat.zero_le _)); have h1086 := OSS.mid h1057 md1074 (Or.inl (Nat.zero_le _)); have bx1087 := bx1058.mid md1074 (Or.inr (Nat.zero_le _)); have h1088 := OSS.mid h1047 md1074 (Or.inl (Nat.zero_le _)); have b1089 := below_mid b1059 z1060 md1074 (Or.inr rfl); have z1090 := b1089.size; have y1091 := md1074.size; have tt1092 := tt1062.trans md1074; have k1093 := bx1078.cell 0 rfl; have k1094 := bx1078.cell 1 rfl; have k1095 := bx1080.cell 0 rfl; have k1096 := bx1080.cell 1 rfl; have k1097 := bx1082.cell 0 rfl; have k1098 := bx1082.cell 1 rfl; have k1099 := bx1084.cell 0 rfl; have k1100 := bx1084.cell 1 rfl; have k1101 := bx1087.cell 0 rfl; have k1102 := bx1087.cell 1 rfl; have f1103 := frz_ComposeMorphisms bx1087) | (go_at_call 22; have md1104 : Mid 0 0 w28 (w28.alloc (.cells #[.int .i64 0, .slice none 0 0] 24)) := Mid.alloc _ _; have md1105 : Mid 0 0 w28 (w28.alloc (.cells #[.int .i64 0, .slice none 0 0] 24)).drew := md1104.trans (Mid.drew1 _); have bx1106 := bx845.mid md1105 (Or.inr (Nat.zero_le _)); have h1107 := RSS.mid h846 md1105 (Or.inl (Nat.zero_le _)); have bx1108 := bx847.mid md1105 (Or.inr (Nat.zero_le _)); have h1109 := RSS.mid h848 md1105 (Or.inl (Nat.zero_le _)); have bx1110 := bx849.mid md1105 (Or.inr (Nat.zero_le _)); have h1111 := OSS.mid h850 md1105 (Or.inl (Nat.zero_le _)); have bx1112 := bx851.mid md1105 (Or.inr (Nat.zero_le _)); have h1113 := OSS.mid h852 md1105 (Or.inl (Nat.zero_le _)); have b1114 := below_mid b853 z854 md1105 (Or.inr rfl); have z1115 := b1114.size; have y1116 := md1105.size; have bz1117 : Box (w28.alloc (.cells #[.int .i64 0, .slice none 0 0] 24)).drew (w28.heap.size) [.int .i64 0, .slice none 0 0] := Box.new w28 #[.int .i64 0, .slice none 0 0] 24; have y1118 : w28.heap.size + 1 ≤ (w28.alloc (.cells #[.int .i64 0, .slice none 0 0] 24)).drew.heap.size := (by simp); have k1119 := bx1106.cell 0 rfl; have k1120 := bx1106.cell 1 rfl; have k1121 := bx1108.cell 0 rfl; have k1122 := bx1108.cell 1 rfl; have k1123 := bx1110.cell 0 rfl; have k1124 := bx1110.cell 1 rfl; have k1125 := bx1112.cell 0 rfl; have k1126 := bx1112.cell 1 rfl; have k1127 := bz1117.cell 0 rfl; have k1128 := bz1117.cell 1 rfl; have f1129 := frz_ComposeMorphisms bz1117; with_reducible refine (toMorphism_any r0 _ d0 _ _ _ _ h1107 hl0).mono ?_; rintro e w35 ⟨AA1130, cc1131, rfl, h1132, md1133⟩; have bx1134 := bx1106.mid md1133 (Or.inr (Nat.zero_le _)); have h1135 := RSS.mid h1107 md1133 (Or.inl (Nat.zero_le _)); have bx1136 := bx1108.mid md1133 (Or.inr (Nat.zero_le _)); have h1137 := RSS.mid h1109 md1133 (Or.inl (Nat.zero_le _)); have bx1138 := bx1110.mid md1133 (Or.inr (Nat.zero_le _)); have h1139 := OSS.mid h1111 md1133 (Or.inl (Nat.zero_le _)); have bx1140 := bx1112.mid md1133 (Or.inr (Nat.zero_le _)); have h1141 := OSS.mid h1113 md1133 (Or.inl (Nat.zero_le _)); have bx1142 := bz1117.mid md1133 (Or.inr (Nat.zero_le _)); have b1143 := below_mid b1114 z1115 md1133 (Or.inr rfl); have z1144 := b1143.size; have y1145 := md1133.size; have tt1146 := md1105.trans md1133; have k1147 := bx1134.cell 0 rfl; have k1148 := bx1134.cell 1 rfl; have k1149 := bx1136.cell 0 rfl; have k1150 := bx1136.cell 1 rfl; have k1151 := bx1138.cell 0 rfl; have k1152 := bx1138.cell 1 rfl; have k1153 := bx1140.cell 0 rfl; have k1154 := bx1140.cell 1 rfl; have k1155 := bx1142.cell 0 rfl; have k1156 := bx1142.cell 1 rfl; have f1157 := frz_ComposeMorphisms bx1142) | (go_at_call 22; with_reducible refine (toMorphism_any r1 _ d1 _ _ _ _ h1137 hl1).mono ?_; rintro e w36 ⟨AA1158, cc1159, rfl, h1160, md1161⟩; have bx1162 := bx1134.mid md1161 (Or.inr (Nat.zero_le _)); have h1163 := RSS.mid h1135 md1161 (Or.inl (Nat.zero_le _)); have bx1164 := bx1136.mid md1161 (Or.inr (Nat.zero_le _)); have h1165 := RSS.mid h1137 md1161 (Or.inl (Nat.zero_le _)); have bx1166 := bx1138.mid md1161 (Or.inr (Nat.zero_le _)); have h1167 := OSS.mid h1139 md1161 (Or.inl (Nat.zero_le _)); have bx1168 := bx1140.mid md1161 (Or.inr (Nat.zero_le _)); have h1169 := OSS.mid h1141 md1161 (Or.inl (Nat.zero_le _)); have bx1170 := bx1142.mid md1161 (Or.inr (Nat.zero_le _)); have h1171 := OSS.mid h1132 md1161 (Or.inl (Nat.zero_le _)); have b1172 := below_mid b1143 z1144 md1161 (Or.inr rfl); have z1173 := b1172.size; have y1174 := md1161.size; have tt1175 := tt1146.trans md1161; have k1176 := bx1162.cell 0 rfl; have k1177 := bx1162.cell 1 rfl; have k1178 := bx1164.cell 0 rfl; have k1179 := bx1164.cell 1 rfl; have k1180 := bx1166.cell 0 rfl; have k1181 := bx1166.cell 1 rfl; have k1182 := bx1168.cell 0 rfl; have k1183 := bx1168.cell 1 rfl; have k1184 := bx1170.cell 0 rfl; have k1185 := bx1170.cell 1 rfl; have f1186 := frz_ComposeMorphisms bx1170) | (go_at_call 55; with_reducible refine (simpl_ComposeMorphisms r0 _ d0 _ r1 _ d1 _ _ _ _ h1171 _b0 _o0 hl0 _ _ h1160 _b1 _o1 hl1 rr0 res0 res1 HRES.out).mono ?_; rintro e w37 ⟨AA1188, cc1189, rfl, h1190, md1187⟩; have bx1191 := bx1162.mid md1187 (Or.inr (Nat.zero_le _)); have h1192 := RSS.mid h1163 md1187 (Or.inl (Nat.zero_le _)); have bx1193 := bx1164.mid md1187 (Or.inr (Nat.zero_le _)); have h1194 := RSS.mid h1165 md1187 (Or.inl (Nat.zero_le _)); have bx1195 := bx1166.mid md1187 (Or.inr (Nat.zero_le _)); have h1196 := OSS.mid h1167 md1187 (Or.inl (Nat.zero_le _)); have bx1197 := bx1168.mid md1187 (Or.inr (Nat.zero_le _)); have h1198 := OSS.mid h1169 md1187 (Or.inl (Nat.zero_le _)); have bx1199 := bx1170.mid md1187 (Or.inr (Nat.zero_le _)); have h1200 := OSS.mid h1171 md1187 (Or.inl (Nat.zero_le _)); have h1201 := OSS.mid h1160 md1187 (Or.inl (Nat.zero_le _)); have b1202 := below_mid b1172 z1173 md1187 (Or.inr rfl); have z1203 := b1202.size; have y1204 := md1187.size; have tt1205 := tt1175.trans md1187; have k1206 := bx1191.cell 0 rfl; have k1207 := bx1191.cell 1 rfl; have k1208 := bx1193.cell 0 rfl; have k1209 := bx1193.cell 1 rfl; have k1210 := bx1195.cell 0 rfl; have k1211 := bx1195.cell 1 rfl; have k1212 := bx1197.cell 0 rfl; have k1213 := bx1197.cell 1 rfl; have k1214 := bx1199.cell 0 rfl; have k1215 := bx1199.cell 1 rfl; have f1216 := frz_ComposeMorphisms bx1199))
      all_goals (go_wp2_with fail; go_meet; first | exact ⟨w31.heap.size, AA935, cc936, rfl, rfl, Box.new w31 #[.int .i64 rr0, .slice AA935 res0.length cc936] 24, OSS.wide (OSS.mid h937 (Mid.alloc w31 (.cells #[.int .i64 rr0, .slice AA935 res0.length cc936] 24)) (Or.inl (Nat.zero_le _))) (by omega) (by simp) (Nat.le_refl _), tt951.trans (Mid.alloc w31 (.cells #[.int .i64 rr0, .slice AA935 res0.length cc936] 24)), by omega⟩ | exact ⟨w30.heap.size, AA989, cc990, rfl, rfl, (bx1002.set 0 _ (by simp) rfl).set 1 _ (by simp) rfl, OSS.wide (OSS.mid (OSS.mid h991 (Mid.setCell w32 (lo := w30.heap.size) (hi := w30.heap.size + 1) (p := ⟨w30.heap.size, 0, none⟩) (.int .i64 rr0) (by simp) (by simp)) (by omega)) (Mid.setCell (w32.setCell ⟨w30.heap.size, 0, none⟩ (.int .i64 rr0)) (lo := w30.heap.size) (hi := w30.heap.size + 1) (p := ⟨w30.heap.size, 1, none⟩) (.slice AA989 res0.length cc990) (by simp) (by simp)) (by omega)) (by omega) (by simp) (Nat.le_refl _), (tt1006.storeNew (by simp <;> omega) _).storeNew (by simp <;> omega) _, by omega⟩ | exact ⟨w29.heap.size, AA1075, cc1076, rfl, rfl, (bx1087.set 0 _ (by simp) rfl).set 1 _ (by simp) rfl, OSS.wide (OSS.mid (OSS.mid h1077 (Mid.setCell w34 (lo := w29.heap.size) (hi := w29.heap.size + 1) (p := ⟨w29.heap.size, 0, none⟩) (.int .i64 rr0) (by simp) (by simp)) (by omega)) (Mid.setCell (w34.setCell ⟨w29.heap.size, 0, none⟩ (.int .i64 rr0)) (lo := w29.heap.size) (hi := w29.heap.size + 1) (p := ⟨w29.heap.size, 1, none⟩) (.slice AA1075 res0.length cc1076) (by simp) (by simp)) (by omega)) (by omega) (by simp) (Nat.le_refl _), (tt1092.storeNew (by simp <;> omega) _).storeNew (by simp <;> omega) _, by omega⟩ | exact ⟨w28.heap.size, AA1188, cc1189, rfl, rfl, (bx1199.set 0 _ (by simp) rfl).set 1 _ (by simp) rfl, OSS.wide (OSS.mid (OSS.mid h1190 (Mid.setCell w37 (lo := w28.heap.size) (hi := w28.heap.size + 1) (p := ⟨w28.heap.size, 0, none⟩) (.int .i64 rr0) (by simp) (by simp)) (by omega)) (Mid.setCell (w37.setCell ⟨w28.heap.size, 0, none⟩ (.int .i64 rr0)) (lo := w28.heap.size) (hi := w28.heap.size + 1) (p := ⟨w28.heap.size, 1, none⟩) (.slice AA1188 res0.length cc1189) (by simp) (by simp)) (by omega)) (by omega) (by simp) (Nat.le_refl _), (tt1205.storeNew (by simp <;> omega) _).storeNew (by simp <;> omega) _, by omega⟩)
    case rest =>
      obtain ⟨g1217, AA1222, cc1223, rfl, rfl, bx1218, h1219, md1220, y1221⟩ := hcut
      obtain ⟨w38, rfl⟩ : ∃ x, x = wc := ⟨_, rfl⟩
      have bx1224 := bx845.mid md1220 (Or.inr (Nat.zero_le _))
      clear bx845
      have h1225 := RSS.mid h846 md1220 (Or.inl (Nat.zero_le _))
      clear h846
      have bx1226 := bx847.mid md1220 (Or.inr (Nat.zero_le _))
      clear bx847
      have h1227 := RSS.mid h848 md1220 (Or.inl (Nat.zero_le _))
      clear h848
      have bx1228 := bx849.mid md1220 (Or.inr (Nat.zero_le _))
      clear bx849
      have h1229 := OSS.mid h850 md1220 (Or.inl (Nat.zero_le _))
      clear h850
      have bx1230 := bx851.mid md1220 (Or.inr (Nat.zero_le _))
      clear bx851
      have h1231 := OSS.mid h852 md1220 (Or.inl (Nat.zero_le _))
      clear h852
      have b1232 := below_mid b853 z854 md1220 (Or.inr rfl)
      have z1233 := b1232.size
      have y1234 := md1220.size
      have y1235 := bx1218.1
      clear k856
      clear k857
      have k1236 := bx1224.cell 0 rfl
      have k1237 := bx1224.cell 1 rfl
      clear k858
      clear k859
      have k1238 := bx1226.cell 0 rfl
      have k1239 := bx1226.cell 1 rfl
      clear k860
      clear k861
      have k1240 := bx1228.cell 0 rfl
      have k1241 := bx1228.cell 1 rfl
      clear k862
      clear k863
      have k1242 := bx1230.cell 0 rfl
      have k1243 := bx1230.cell 1 rfl
      have k1244 := bx1218.cell 0 rfl
      have k1245 := bx1218.cell 1 rfl
      go_wp2_with fail
      with_reducible refine (eqMorphism_same _ _ _ res0 _ _ _ _ _ _ _ (OSS.rss h1219) (OSS.rss h1229) hlr0).mono ?_
      rintro e w39 ⟨rfl, md1246⟩
      have bx1247 := bx1224.mid md1246 (Or.inr (Nat.zero_le _))
      clear bx1224
      have h1248 := RSS.mid h1225 md1246 (Or.inl (Nat.zero_le _))
      clear h1225
      have bx1249 := bx1226.mid md1246 (Or.inr (Nat.zero_le _))
      clear bx1226
      have h1250 := RSS.mid h1227 md1246 (Or.inl (Nat.zero_le _))
      clear h1227
      have bx1251 := bx1228.mid md1246 (Or.inr (Nat.zero_le _))
      clear bx1228
      have h1252 := OSS.mid h1229 md1246 (Or.inl (Nat.zero_le _))
      clear h1229
      have bx1253 := bx1230.mid md1246 (Or.inr (Nat.zero_le _))
      clear bx1230
      have h1254 := OSS.mid h1231 md1246 (Or.inl (Nat.zero_le _))
      clear h1231
      have bx1255 := bx1218.mid md1246 (Or.inr (Nat.zero_le _))
      clear bx1218
      have h1256 := OSS.mid h1219 md1246 (Or.inl (Nat.zero_le _))
      clear h1219
      have b1257 := below_mid b1232 z1233 md1246 (Or.inr rfl)
      have z1258 := b1257.size
      have y1259 := md1246.size
      clear k1236
      clear k1237
      have k1260 := bx1247.cell 0 rfl
      have k1261 := bx1247.cell 1 rfl
      clear k1238
      clear k1239
      have k1262 := bx1249.cell 0 rfl
      have k1263 := bx1249.cell 1 rfl
      clear k1240
      clear k1241
      have k1264 := bx1251.cell 0 rfl
      have k1265 := bx1251.cell 1 rfl
      clear k1242
      clear k1243
      have k1266 := bx1253.cell 0 rfl
      have k1267 := bx1253.cell 1 rfl
      clear k1244
      clear k1245
      have k1268 := bx1255.cell 0 rfl
      have k1269 := bx1255.cell 1 rfl
      go_wp2_with fail
      with_reducible refine (heldMorphism_any _ _ res0 _ 1 _ _ _ (OSS.rss h1254) (by omega) (by omega) hlr0).mono ?_
      rintro e w40 ⟨rfl, md1270⟩
      have bx1271 := bx1247.mid md1270 (Or.inr (Nat.zero_le _))
      clear bx1247
      have h1272 := RSS.mid h1248 md1270 (Or.inl (Nat.zero_le _))
      clear h1248
      have bx1273 := bx1249.mid md1270 (Or.inr (Nat.zero_le _))
      clear bx1249
      have h1274 := RSS.mid h1250 md1270 (Or.inl (Nat.zero_le _))
      clear h1250
      have bx1275 := bx1251.mid md1270 (Or.inr (Nat.zero_le _))
      clear bx1251
      have h1276 := OSS.mid h1252 md1270 (Or.inl (Nat.zero_le _))
      clear h1252
      have bx1277 := bx1253.mid md1270 (Or.inr (Nat.zero_le _))
      clear bx1253
      have h1278 := OSS.mid h1254 md1270 (Or.inl (Nat.zero_le _))
      clear h1254
      have bx1279 := bx1255.mid md1270 (Or.inr (Nat.zero_le _))
      clear bx1255
      have h1280 := OSS.mid h1256 md1270 (Or.inl (Nat.zero_le _))
      clear h1256
      have b1281 := below_mid b1257 z1258 md1270 (Or.inr rfl)
      have z1282 := b1281.size
      have y1283 := md1270.size
      clear k1260
      clear k1261
      have k1284 := bx1271.cell 0 rfl
      have k1285 := bx1271.cell 1 rfl
      clear k1262
      clear k1263
      have k1286 := bx1273.cell 0 rfl
      have k1287 := bx1273.cell 1 rfl
      clear k1264
      clear k1265
      have k1288 := bx1275.cell 0 rfl
      have k1289 := bx1275.cell 1 rfl
      clear k1266
      clear k1267
      have k1290 := bx1277.cell 0 rfl
      have k1291 := bx1277.cell 1 rfl
      clear k1268
      clear k1269
      have k1292 := bx1279.cell 0 rfl
      have k1293 := bx1279.cell 1 rfl
      go_wp2_with fail
      go_ret
      exact ⟨rfl, b1281⟩
end Go.Proofs.Ytaddhbdfjkbgiaa
