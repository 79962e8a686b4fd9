
import Derived.Test.YtkdmffjnkciecaaGreatPk4
import Derived.Deep.RegionHeld3
import Derived.Deep.DeepCutAuto

/- The walk of the law FnExactCoreIndex: it returns true at every input, and turns nothing that was there. -/
namespace Go.Proofs.YtkdmffjnkciecaaGreat
open Go.RowKit
set_option linter.unusedVariables false
set_option linter.unusedSimpArgs false

theorem frz_CoreIndex {w : World} {b : Nat} {cs : List Value} (h : Box w b cs) : ∀ i, w.frozen? ⟨b, i, none⟩ = false := h.2.2
set_option maxRecDepth 100000 in
set_option maxHeartbeats 8000000 in
theorem walk_CoreIndex (r0 s0 : Int) (A0 : Option Addr) (d0 : List Ed) (c0 : Nat) (w : World) (_b0 : (Lit.int .i64 r0).wf = true) (_e0 : (Lit.int .i64 s0).wf = true) (m0 : RG w 0 w.heap.size A0 d0) (_o0 : OkI (edI d0)) (_l0 : d0.length ≤ 9223372036854775807) :
    Calls Tryz.prog 4 #[.agg #[.int .i64 r0, .int .i64 s0, .slice A0 d0.length c0]] w fun e w' => e = .returned (.bool true) ∧ Below w.heap.size w w' := by
  obtain ⟨z0, hz0⟩ : ∃ z, z = szI 1048576 d0.length := ⟨_, rfl⟩
  have E0 := Lib.hid hz0.symm
  rcases szI_case 1048576 d0.length with hs0 | ⟨hs0, hs0'⟩
  · obtain rfl : z0 = -1 := hz0.trans hs0
    clear hs0 hz0
    have hh1 := m0
    go_enter Tryz.func4, Tryz.ntmps4
    have md2 : Mid 0 0 w (w.alloc (.cells #[.int .i64 r0, .int .i64 s0, .slice A0 d0.length c0] 24)) := Mid.alloc _ _
    have h3 := RG.mid hh1 md2 (Or.inl (Nat.zero_le _))
    clear hh1
    have b4 := below_mid (Below.refl w.heap.size w) (Nat.le_refl w.heap.size) md2 (Or.inr rfl)
    have z5 := b4.size
    have y6 := md2.size
    have bx7 := Box.new w #[.int .i64 r0, .int .i64 s0, .slice A0 d0.length c0] 24
    have y8 : w.heap.size + 1 ≤ (w.alloc (.cells #[.int .i64 r0, .int .i64 s0, .slice A0 d0.length c0] 24)).heap.size := (by simp)
    have k9 := bx7.cell 0 rfl
    have k10 := bx7.cell 1 rfl
    have k11 := bx7.cell 2 rfl
    go_wp2_with fail
    with_reducible refine (szGraph_any _ _ _ d0 _ 1048576 _ _l0 (by omega) (by omega)).mono ?_
    rintro e w1 ⟨rfl, md12⟩
    rw [E0.out]
    have bx13 := bx7.mid md12 (Or.inr (Nat.zero_le _))
    clear bx7
    have h14 := RG.mid h3 md12 (Or.inl (Nat.zero_le _))
    clear h3
    have b15 := below_mid b4 z5 md12 (Or.inr rfl)
    have z16 := b15.size
    have y17 := md12.size
    clear k9
    clear k10
    clear k11
    have k18 := bx13.cell 0 rfl
    have k19 := bx13.cell 1 rfl
    have k20 := bx13.cell 2 rfl
    go_wp2_with fail
    go_ret
    exact ⟨rfl, b15⟩
  rw [hs0'] at hz0
  have hp0 : 0 ≤ z0 := by omega
  have hq0 : z0 ≤ 1048576 := by omega
  have hl0 : d0.length ≤ 1048576 := by omega
  clear hs0 hs0' hz0
  obtain ⟨res0, HRES⟩ : ∃ res0, CoreIndexIs r0 s0 d0 res0 := CoreIndexIs_ex r0 s0 d0 hl0
  have HRES := Lib.hid HRES
  have hh21 := m0
  go_enter Tryz.func4, Tryz.ntmps4
  have md22 : Mid 0 0 w (w.alloc (.cells #[.int .i64 r0, .int .i64 s0, .slice A0 d0.length c0] 24)) := Mid.alloc _ _
  have h23 := RG.mid hh21 md22 (Or.inl (Nat.zero_le _))
  clear hh21
  have b24 := below_mid (Below.refl w.heap.size w) (Nat.le_refl w.heap.size) md22 (Or.inr rfl)
  have z25 := b24.size
  have y26 := md22.size
  have bx27 := Box.new w #[.int .i64 r0, .int .i64 s0, .slice A0 d0.length c0] 24
  have y28 : w.heap.size + 1 ≤ (w.alloc (.cells #[.int .i64 r0, .int .i64 s0, .slice A0 d0.length c0] 24)).heap.size := (by simp)
  have k29 := bx27.cell 0 rfl
  have k30 := bx27.cell 1 rfl
  have k31 := bx27.cell 2 rfl
  go_wp2_with fail
  with_reducible refine (szGraph_any _ _ _ d0 _ 1048576 _ _l0 (by omega) (by omega)).mono ?_
  rintro e w2 ⟨rfl, md32⟩
  rw [E0.out]
  have bx33 := bx27.mid md32 (Or.inr (Nat.zero_le _))
  clear bx27
  have h34 := RG.mid h23 md32 (Or.inl (Nat.zero_le _))
  clear h23
  have b35 := below_mid b24 z25 md32 (Or.inr rfl)
  have z36 := b35.size
  have y37 := md32.size
  clear k29
  clear k30
  clear k31
  have k38 := bx33.cell 0 rfl
  have k39 := bx33.cell 1 rfl
  have k40 := bx33.cell 2 rfl
  go_wp2_with fail
  with_reducible refine (toGraph_any r0 s0 _ d0 _ _ _ _ h34 hl0).mono ?_
  rintro e w3 ⟨AA41, cc42, rfl, h43, md44⟩
  have bx45 := bx33.mid md44 (Or.inr (Nat.zero_le _))
  clear bx33
  have h46 := RG.mid h34 md44 (Or.inl (Nat.zero_le _))
  clear h34
  have b47 := below_mid b35 z36 md44 (Or.inr rfl)
  have z48 := b47.size
  have y49 := md44.size
  clear k38
  clear k39
  clear k40
  have k50 := bx45.cell 0 rfl
  have k51 := bx45.cell 1 rfl
  have k52 := bx45.cell 2 rfl
  go_wp2_with fail
  with_reducible refine (sspec_CoreIndex r0 s0 _ d0 _ _ _ _ h43  hl0 res0 HRES.out).mono ?_
  rintro e w4 ⟨rfl, md53⟩
  have bx55 := bx45.mid md53 (Or.inr (Nat.zero_le _))
  clear bx45
  have h56 := RG.mid h46 md53 (Or.inl (Nat.zero_le _))
  clear h46
  have h57 := OG.mid h43 md53 (Or.inl (Nat.zero_le _))
  clear h43
  have b58 := below_mid b47 z48 md53 (Or.inr rfl)
  have z59 := b58.size
  have y60 := md53.size
  clear k50
  clear k51
  clear k52
  have k61 := bx55.cell 0 rfl
  have k62 := bx55.cell 1 rfl
  have k63 := bx55.cell 2 rfl
  go_wp2_with fail
  with_reducible refine (toGraph_any r0 s0 _ d0 _ _ _ _ h56 hl0).mono ?_
  rintro e w5 ⟨AA64, cc65, rfl, h66, md67⟩
  have bx68 := bx55.mid md67 (Or.inr (Nat.zero_le _))
  clear bx55
  have h69 := RG.mid h56 md67 (Or.inl (Nat.zero_le _))
  clear h56
  have b70 := below_mid b58 z59 md67 (Or.inr rfl)
  have z71 := b70.size
  have y72 := md67.size
  clear k61
  clear k62
  clear k63
  have k73 := bx68.cell 0 rfl
  have k74 := bx68.cell 1 rfl
  have k75 := bx68.cell 2 rfl
  have md76 : Mid 0 0 w5 (w5.alloc (.cells #[.int .i64 r0, .int .i64 s0, .slice AA64 d0.length cc65] 30)) := Mid.alloc _ _
  have bx77 := bx68.mid md76 (Or.inr (Nat.zero_le _))
  clear bx68
  have h78 := RG.mid h69 md76 (Or.inl (Nat.zero_le _))
  clear h69
  have h79 := OG.mid h66 md76 (Or.inl (Nat.zero_le _))
  clear h66
  have b80 := below_mid b70 z71 md76 (Or.inr rfl)
  have z81 := b80.size
  have y82 := md76.size
  have bx83 := Box.new w5 #[.int .i64 r0, .int .i64 s0, .slice AA64 d0.length cc65] 30
  have y84 : w5.heap.size + 1 ≤ (w5.alloc (.cells #[.int .i64 r0, .int .i64 s0, .slice AA64 d0.length cc65] 30)).heap.size := (by simp)
  clear k73
  clear k74
  clear k75
  have k85 := bx77.cell 0 rfl
  have k86 := bx77.cell 1 rfl
  have k87 := bx77.cell 2 rfl
  have k88 := bx83.cell 0 rfl
  have k89 := bx83.cell 1 rfl
  have k90 := bx83.cell 2 rfl
  go_wp2_with fail
  with_reducible refine (simpl_CoreIndex r0 s0 _ d0 _ _ _ _ h79  hl0 res0 HRES.out).mono ?_
  rintro e w6 ⟨rfl, md91⟩
  have bx93 := bx77.mid md91 (Or.inr (Nat.zero_le _))
  clear bx77
  have h94 := RG.mid h78 md91 (Or.inl (Nat.zero_le _))
  clear h78
  have bx95 := bx83.mid md91 (Or.inr (Nat.zero_le _))
  clear bx83
  have h96 := OG.mid h79 md91 (Or.inl (Nat.zero_le _))
  clear h79
  have b97 := below_mid b80 z81 md91 (Or.inr rfl)
  have z98 := b97.size
  have y99 := md91.size
  clear k85
  clear k86
  clear k87
  have k100 := bx93.cell 0 rfl
  have k101 := bx93.cell 1 rfl
  have k102 := bx93.cell 2 rfl
  clear k88
  clear k89
  clear k90
  have k103 := bx95.cell 0 rfl
  have k104 := bx95.cell 1 rfl
  have k105 := bx95.cell 2 rfl
  go_wp2_with fail
  have md106 : Mid 0 0 w6 w6.drew := Mid.drew1 _
  have bx107 := bx93.mid md106 (Or.inr (Nat.zero_le _))
  have h108 := RG.mid h94 md106 (Or.inl (Nat.zero_le _))
  have bx109 := bx95.mid md106 (Or.inr (Nat.zero_le _))
  have h110 := OG.mid h96 md106 (Or.inl (Nat.zero_le _))
  have b111 := below_mid b97 z98 md106 (Or.inr rfl)
  have z112 := b111.size
  have y113 := md106.size
  have k114 := bx107.cell 0 rfl
  have k115 := bx107.cell 1 rfl
  have k116 := bx107.cell 2 rfl
  have k117 := bx109.cell 0 rfl
  have k118 := bx109.cell 1 rfl
  have k119 := bx109.cell 2 rfl
  go_region_held3 (fun w' => w'.cell? ⟨w5.heap.size, 0, none⟩ = some (.int .i64 r0) ∧ w'.cell? ⟨w5.heap.size, 1, none⟩ = some (.int .i64 s0) ∧ w'.cell? ⟨w5.heap.size, 2, none⟩ = some (.slice AA64 d0.length cc65) ∧ w'.cell? ⟨w.heap.size, 0, none⟩ = some (.int .i64 r0) ∧ w'.cell? ⟨w.heap.size, 1, none⟩ = some (.int .i64 s0) ∧ w'.cell? ⟨w.heap.size, 2, none⟩ = some (.slice A0 d0.length c0)) (first | exact ⟨k103, k104, k105, k100, k101, k102⟩ | exact ⟨k117, k118, k119, k114, k115, k116⟩ | exact ⟨k134, k135, k136, k131, k132, k133⟩ | exact ⟨k149, k150, k151, k146, k147, k148⟩) (first | (go_at_call 11; with_reducible refine (toGraph_any r0 s0 _ d0 _ _ _ _ h108 hl0).mono ?_; rintro e w7 ⟨AA120, cc121, rfl, h122, md123⟩; have bx124 := bx107.mid md123 (Or.inr (Nat.zero_le _)); have h125 := RG.mid h108 md123 (Or.inl (Nat.zero_le _)); have bx126 := bx109.mid md123 (Or.inr (Nat.zero_le _)); have h127 := OG.mid h110 md123 (Or.inl (Nat.zero_le _)); have b128 := below_mid b111 z112 md123 (Or.inr rfl); have z129 := b128.size; have y130 := md123.size; have k131 := bx124.cell 0 rfl; have k132 := bx124.cell 1 rfl; have k133 := bx124.cell 2 rfl; have k134 := bx126.cell 0 rfl; have k135 := bx126.cell 1 rfl; have k136 := bx126.cell 2 rfl) | (go_at_call 14; with_reducible refine (eqGraph_same _ _ _ _ d0 _ _ _ _ _ _ _ (OG.rg h127) (OG.rg h122) hl0).mono ?_; rintro e w8 ⟨rfl, md137⟩; have bx138 := bx124.mid md137 (Or.inr (Nat.zero_le _)); have h139 := RG.mid h125 md137 (Or.inl (Nat.zero_le _)); have bx140 := bx126.mid md137 (Or.inr (Nat.zero_le _)); have h141 := OG.mid h127 md137 (Or.inl (Nat.zero_le _)); have h142 := OG.mid h122 md137 (Or.inl (Nat.zero_le _)); have b143 := below_mid b128 z129 md137 (Or.inr rfl); have z144 := b143.size; have y145 := md137.size; have k146 := bx138.cell 0 rfl; have k147 := bx138.cell 1 rfl; have k148 := bx138.cell 2 rfl; have k149 := bx140.cell 0 rfl; have k150 := bx140.cell 1 rfl; have k151 := bx140.cell 2 rfl))
  go_wp2_with fail
  go_ret
  exact ⟨rfl, b143⟩
end Go.Proofs.YtkdmffjnkciecaaGreat
