/- The walk of the law FnExactIsMorphism: it returns true at every input, and turns nothing that was there. -/
import Derived.Test.YtaddhbdfjkbgiaaL19
import Derived.Deep.RegionHeld3
namespace Go.Proofs.Ytaddhbdfjkbgiaa
open Go.RowKit
set_option linter.unusedVariables false
set_option linter.unusedSimpArgs false

set_option maxRecDepth 100000 in
set_option maxHeartbeats 8000000 in
theorem walk_IsMorphism (r0 : Int) (A0 : Option Addr) (d0 : List (List Int)) (c0 : Nat) (w : World) (_b0 : (Lit.int .i64 r0).wf = true) (m0 : RSS w 0 w.heap.size A0 d0) (_o0 : OkSS d0) :
    Calls Try.prog 4 #[.agg #[.int .i64 r0, .slice A0 d0.length c0]] w fun e w' => e = .returned (.bool true) ∧ Below w.heap.size w w' := by
  obtain ⟨z0, hz0⟩ : ∃ z, z = szI 1048576 (d0.length + sumL d0) := ⟨_, rfl⟩
  have E0 := Lib.hid hz0.symm
  rcases szI_case 1048576 (d0.length + sumL d0) with hs0 | ⟨hs0, hs0'⟩
  · obtain rfl : z0 = -1 := hz0.trans hs0
    clear hs0 hz0
    have hh1 := m0
    go_enter Try.func4, Try.ntmps4
    have md2 : Mid 0 0 w (w.alloc (.cells #[.int .i64 r0, .slice A0 d0.length c0] 30)) := Mid.alloc _ _
    have h3 := RSS.mid hh1 md2 (by omega)
    clear hh1
    have b4 := below_mid (Below.refl w.heap.size w) (Nat.le_refl w.heap.size) md2 (by omega)
    have z5 := b4.size
    have y6 := md2.size
    have bx7 := Box.new w #[.int .i64 r0, .slice A0 d0.length c0] 30
    have y8 : w.heap.size + 1 ≤ (w.alloc (.cells #[.int .i64 r0, .slice A0 d0.length c0] 30)).heap.size := by simp
    have k9 := bx7.cell 0 rfl
    have k10 := bx7.cell 1 rfl
    go_wp2_with fail
    with_reducible refine (szMorphism_any _ _ d0 _ 1048576 _ _ _ h3 (OkSS.len _o0) (by omega) (by omega)).mono ?_
    rintro e w1 ⟨rfl, md11⟩
    rw [E0.out]
    have bx12 := bx7.mid md11 (by omega)
    clear bx7
    have h13 := RSS.mid h3 md11 (by omega)
    clear h3
    have b14 := below_mid b4 z5 md11 (by omega)
    have z15 := b14.size
    have y16 := md11.size
    clear k9
    clear k10
    have k17 := bx12.cell 0 rfl
    have k18 := bx12.cell 1 rfl
    go_wp2_with fail
    go_ret
    exact ⟨rfl, b14⟩
  rw [hs0'] at hz0
  have hp0 : 0 ≤ z0 := by omega
  have hq0 : z0 ≤ 1048576 := by omega
  have hl0 : d0.length + sumL d0 ≤ 1048576 := by omega
  clear hs0 hs0' hz0
  obtain ⟨res0, HRES⟩ : ∃ res0, IsMorphismIs r0 d0 res0 := IsMorphismIs_ex r0 d0 _b0 _o0 hl0
  have HRES := Lib.hid HRES
  have hh19 := m0
  go_enter Try.func4, Try.ntmps4
  have md20 : Mid 0 0 w (w.alloc (.cells #[.int .i64 r0, .slice A0 d0.length c0] 30)) := Mid.alloc _ _
  have h21 := RSS.mid hh19 md20 (by omega)
  clear hh19
  have b22 := below_mid (Below.refl w.heap.size w) (Nat.le_refl w.heap.size) md20 (by omega)
  have z23 := b22.size
  have y24 := md20.size
  have bx25 := Box.new w #[.int .i64 r0, .slice A0 d0.length c0] 30
  have y26 : w.heap.size + 1 ≤ (w.alloc (.cells #[.int .i64 r0, .slice A0 d0.length c0] 30)).heap.size := by simp
  have k27 := bx25.cell 0 rfl
  have k28 := bx25.cell 1 rfl
  go_wp2_with fail
  with_reducible refine (szMorphism_any _ _ d0 _ 1048576 _ _ _ h21 (OkSS.len _o0) (by omega) (by omega)).mono ?_
  rintro e w2 ⟨rfl, md29⟩
  rw [E0.out]
  have bx30 := bx25.mid md29 (by omega)
  clear bx25
  have h31 := RSS.mid h21 md29 (by omega)
  clear h21
  have b32 := below_mid b22 z23 md29 (by omega)
  have z33 := b32.size
  have y34 := md29.size
  clear k27
  clear k28
  have k35 := bx30.cell 0 rfl
  have k36 := bx30.cell 1 rfl
  go_wp2_with fail
  with_reducible refine (toMorphism_any r0 _ d0 _ _ _ _ h31 hl0).mono ?_
  rintro e w3 ⟨AA37, cc38, rfl, h39, md40⟩
  have bx41 := bx30.mid md40 (by omega)
  clear bx30
  have h42 := RSS.mid h31 md40 (by omega)
  clear h31
  have b43 := below_mid b32 z33 md40 (by omega)
  have z44 := b43.size
  have y45 := md40.size
  clear k35
  clear k36
  have k46 := bx41.cell 0 rfl
  have k47 := bx41.cell 1 rfl
  go_wp2_with fail
  with_reducible refine (sspec_IsMorphism r0 _ d0 _ _ _ _ (OSS.rss h39) _b0 _o0 hl0 res0 HRES.out).mono ?_
  rintro e w4 ⟨rfl, md48⟩
  have bx49 := bx41.mid md48 (by omega)
  clear bx41
  have h50 := RSS.mid h42 md48 (by omega)
  clear h42
  have h51 := OSS.mid h39 md48 (by omega)
  clear h39
  have b52 := below_mid b43 z44 md48 (by omega)
  have z53 := b52.size
  have y54 := md48.size
  clear k46
  clear k47
  have k55 := bx49.cell 0 rfl
  have k56 := bx49.cell 1 rfl
  go_wp2_with fail
  with_reducible refine (toMorphism_any r0 _ d0 _ _ _ _ h50 hl0).mono ?_
  rintro e w5 ⟨AA57, cc58, rfl, h59, md60⟩
  have bx61 := bx49.mid md60 (by omega)
  clear bx49
  have h62 := RSS.mid h50 md60 (by omega)
  clear h50
  have b63 := below_mid b52 z53 md60 (by omega)
  have z64 := b63.size
  have y65 := md60.size
  clear k55
  clear k56
  have k66 := bx61.cell 0 rfl
  have k67 := bx61.cell 1 rfl
  have md68 : Mid 0 0 w5 (w5.alloc (.cells #[.int .i64 r0, .slice AA57 d0.length cc58] 24)) := Mid.alloc _ _
  have bx69 := bx61.mid md68 (by omega)
  clear bx61
  have h70 := RSS.mid h62 md68 (by omega)
  clear h62
  have h71 := OSS.mid h59 md68 (by omega)
  clear h59
  have b72 := below_mid b63 z64 md68 (by omega)
  have z73 := b72.size
  have y74 := md68.size
  have bx75 := Box.new w5 #[.int .i64 r0, .slice AA57 d0.length cc58] 24
  have y76 : w5.heap.size + 1 ≤ (w5.alloc (.cells #[.int .i64 r0, .slice AA57 d0.length cc58] 24)).heap.size := by simp
  clear k66
  clear k67
  have k77 := bx69.cell 0 rfl
  have k78 := bx69.cell 1 rfl
  have k79 := bx75.cell 0 rfl
  have k80 := bx75.cell 1 rfl
  go_wp2_with fail
  with_reducible refine (simpl_IsMorphism r0 _ d0 _ _ _ _ (OSS.rss h71) _b0 _o0 hl0 res0 HRES.out).mono ?_
  rintro e w6 ⟨rfl, md81⟩
  have bx82 := bx69.mid md81 (by omega)
  clear bx69
  have h83 := RSS.mid h70 md81 (by omega)
  clear h70
  have bx84 := bx75.mid md81 (by omega)
  clear bx75
  have h85 := OSS.mid h71 md81 (by omega)
  clear h71
  have b86 := below_mid b72 z73 md81 (by omega)
  have z87 := b86.size
  have y88 := md81.size
  clear k77
  clear k78
  have k89 := bx82.cell 0 rfl
  have k90 := bx82.cell 1 rfl
  clear k79
  clear k80
  have k91 := bx84.cell 0 rfl
  have k92 := bx84.cell 1 rfl
  go_wp2_with fail
  have md93 : Mid 0 0 w6 w6.drew := Mid.drew1 _
  have bx94 := bx82.mid md93 (by omega)
  have h95 := RSS.mid h83 md93 (by omega)
  have bx96 := bx84.mid md93 (by omega)
  have h97 := OSS.mid h85 md93 (by omega)
  have b98 := below_mid b86 z87 md93 (by omega)
  have z99 := b98.size
  have y100 := md93.size
  have k101 := bx94.cell 0 rfl
  have k102 := bx94.cell 1 rfl
  have k103 := bx96.cell 0 rfl
  have k104 := bx96.cell 1 rfl
  go_region_held3 (fun w' => w'.cell? ⟨w5.heap.size, 0, none⟩ = some (.int .i64 r0) ∧ w'.cell? ⟨w5.heap.size, 1, none⟩ = some (.slice AA57 d0.length cc58) ∧ w'.cell? ⟨w.heap.size, 0, none⟩ = some (.int .i64 r0) ∧ w'.cell? ⟨w.heap.size, 1, none⟩ = some (.slice A0 d0.length c0)) (first | exact ⟨k91, k92, k89, k90⟩ | exact ⟨k103, k104, k101, k102⟩ | exact ⟨k118, k119, k116, k117⟩ | exact ⟨k131, k132, k129, k130⟩) (first | (go_at_call 22; with_reducible refine (toMorphism_any r0 _ d0 _ _ _ _ h95 hl0).mono ?_; rintro e w7 ⟨AA105, cc106, rfl, h107, md108⟩; have bx109 := bx94.mid md108 (by omega); have h110 := RSS.mid h95 md108 (by omega); have bx111 := bx96.mid md108 (by omega); have h112 := OSS.mid h97 md108 (by omega); have b113 := below_mid b98 z99 md108 (by omega); have z114 := b113.size; have y115 := md108.size; have k116 := bx109.cell 0 rfl; have k117 := bx109.cell 1 rfl; have k118 := bx111.cell 0 rfl; have k119 := bx111.cell 1 rfl) | (go_at_call 17; with_reducible refine (eqMorphism_same _ _ _ d0 _ _ _ _ _ _ _ (OSS.rss h112) (OSS.rss h107) hl0).mono ?_; rintro e w8 ⟨rfl, md120⟩; have bx121 := bx109.mid md120 (by omega); have h122 := RSS.mid h110 md120 (by omega); have bx123 := bx111.mid md120 (by omega); have h124 := OSS.mid h112 md120 (by omega); have h125 := OSS.mid h107 md120 (by omega); have b126 := below_mid b113 z114 md120 (by omega); have z127 := b126.size; have y128 := md120.size; have k129 := bx121.cell 0 rfl; have k130 := bx121.cell 1 rfl; have k131 := bx123.cell 0 rfl; have k132 := bx123.cell 1 rfl))
  go_wp2_with fail
  go_ret
  exact ⟨rfl, b126⟩
end Go.Proofs.Ytaddhbdfjkbgiaa
