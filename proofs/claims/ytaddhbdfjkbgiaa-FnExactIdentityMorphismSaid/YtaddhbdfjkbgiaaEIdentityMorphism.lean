/- The walk of the law FnExactIdentityMorphism: it returns true at every input, and turns nothing that was there. -/
import Derived.Test.YtaddhbdfjkbgiaaL15
namespace Go.Proofs.Ytaddhbdfjkbgiaa
open Go.RowKit
set_option linter.unusedVariables false
set_option linter.unusedSimpArgs false

set_option maxRecDepth 100000 in
set_option maxHeartbeats 8000000 in
theorem walk_IdentityMorphism (a0 : Int) (w : World) (_o0 : (Lit.int .i64 a0).wf = true) :
    Calls Try.prog 3 #[.int .i64 a0] w fun e w' => e = .returned (.bool true) ∧ Below w.heap.size w w' := by
  obtain ⟨rr0, res0, res1, HRES⟩ : ∃ rr0 res0 res1, IdentityMorphismIs a0 rr0 res0 res1 := IdentityMorphismIs_ex a0
  have hlr0 := IdentityMorphismIs_len HRES
  have HRES := Lib.hid HRES
  go_enter Try.func3, Try.ntmps3
  go_wp2_with fail
  with_reducible refine (sspec_IdentityMorphism a0 _ _o0 rr0 res0 res1 HRES.out).mono ?_
  rintro e w1 ⟨AA2, cc3, rfl, h4, md1⟩
  have b5 := below_mid (Below.refl w.heap.size w) (Nat.le_refl w.heap.size) md1 (by omega)
  have z6 := b5.size
  have y7 := md1.size
  have md8 : Mid 0 0 w1 (w1.alloc (.cells #[.int .i64 rr0, .slice AA2 res0.length cc3] 24)) := Mid.alloc _ _
  have h9 := OSS.mid h4 md8 (by omega)
  clear h4
  have b10 := below_mid b5 z6 md8 (by omega)
  have z11 := b10.size
  have y12 := md8.size
  have bx13 := Box.new w1 #[.int .i64 rr0, .slice AA2 res0.length cc3] 24
  have y14 : w1.heap.size + 1 ≤ (w1.alloc (.cells #[.int .i64 rr0, .slice AA2 res0.length cc3] 24)).heap.size := by simp
  have k15 := bx13.cell 0 rfl
  have k16 := bx13.cell 1 rfl
  go_wp2_with fail
  with_reducible refine (simpl_IdentityMorphism a0 _ _o0 rr0 res0 res1 HRES.out).mono ?_
  rintro e w2 ⟨AA18, cc19, rfl, h20, md17⟩
  have bx21 := bx13.mid md17 (by omega)
  clear bx13
  have h22 := OSS.mid h9 md17 (by omega)
  clear h9
  have b23 := below_mid b10 z11 md17 (by omega)
  have z24 := b23.size
  have y25 := md17.size
  clear k15
  clear k16
  have k26 := bx21.cell 0 rfl
  have k27 := bx21.cell 1 rfl
  have md28 : Mid 0 0 w2 (w2.alloc (.cells #[.int .i64 rr0, .slice AA18 res0.length cc19] 24)) := Mid.alloc _ _
  have bx29 := bx21.mid md28 (by omega)
  clear bx21
  have h30 := OSS.mid h22 md28 (by omega)
  clear h22
  have h31 := OSS.mid h20 md28 (by omega)
  clear h20
  have b32 := below_mid b23 z24 md28 (by omega)
  have z33 := b32.size
  have y34 := md28.size
  have bx35 := Box.new w2 #[.int .i64 rr0, .slice AA18 res0.length cc19] 24
  have y36 : w2.heap.size + 1 ≤ (w2.alloc (.cells #[.int .i64 rr0, .slice AA18 res0.length cc19] 24)).heap.size := by simp
  clear k26
  clear k27
  have k37 := bx29.cell 0 rfl
  have k38 := bx29.cell 1 rfl
  have k39 := bx35.cell 0 rfl
  have k40 := bx35.cell 1 rfl
  go_wp2_with fail
  with_reducible refine (eqMorphism_same _ _ _ res0 _ _ _ _ _ _ _ (OSS.rss h31) (OSS.rss h30) hlr0).mono ?_
  rintro e w3 ⟨rfl, md41⟩
  have bx42 := bx29.mid md41 (by omega)
  clear bx29
  have h43 := OSS.mid h30 md41 (by omega)
  clear h30
  have bx44 := bx35.mid md41 (by omega)
  clear bx35
  have h45 := OSS.mid h31 md41 (by omega)
  clear h31
  have b46 := below_mid b32 z33 md41 (by omega)
  have z47 := b46.size
  have y48 := md41.size
  clear k37
  clear k38
  have k49 := bx42.cell 0 rfl
  have k50 := bx42.cell 1 rfl
  clear k39
  clear k40
  have k51 := bx44.cell 0 rfl
  have k52 := bx44.cell 1 rfl
  go_wp2_with fail
  with_reducible refine (markMorphism_any _ _ res0 _ 1 _ _ _ h45 (by omega) (by omega) hlr0).mono ?_
  rintro e w4 ⟨rfl, h53, md54⟩
  have bx55 := bx42.mid md54 (by omega)
  clear bx42
  have h56 := OSS.mid h43 md54 (by omega)
  clear h43
  have bx57 := bx44.mid md54 (by omega)
  clear bx44
  have b58 := below_mid b46 z47 md54 (by omega)
  have z59 := b58.size
  have y60 := md54.size
  clear h45
  clear k49
  clear k50
  have k61 := bx55.cell 0 rfl
  have k62 := bx55.cell 1 rfl
  clear k51
  clear k52
  have k63 := bx57.cell 0 rfl
  have k64 := bx57.cell 1 rfl
  go_wp2_with fail
  with_reducible refine (heldMorphism_any _ _ res0 _ 1 _ _ _ (OSS.rss h53) (by omega) (by omega) hlr0).mono ?_
  rintro e w5 ⟨rfl, md65⟩
  have bx66 := bx55.mid md65 (by omega)
  clear bx55
  have h67 := OSS.mid h56 md65 (by omega)
  clear h56
  have bx68 := bx57.mid md65 (by omega)
  clear bx57
  have h69 := OSS.mid h53 md65 (by omega)
  clear h53
  have b70 := below_mid b58 z59 md65 (by omega)
  have z71 := b70.size
  have y72 := md65.size
  clear k61
  clear k62
  have k73 := bx66.cell 0 rfl
  have k74 := bx66.cell 1 rfl
  clear k63
  clear k64
  have k75 := bx68.cell 0 rfl
  have k76 := bx68.cell 1 rfl
  go_wp2_with fail
  with_reducible refine (simpl_IdentityMorphism a0 _ _o0 rr0 res0 res1 HRES.out).mono ?_
  rintro e w6 ⟨AA78, cc79, rfl, h80, md77⟩
  have bx81 := bx66.mid md77 (by omega)
  clear bx66
  have h82 := OSS.mid h67 md77 (by omega)
  clear h67
  have bx83 := bx68.mid md77 (by omega)
  clear bx68
  have h84 := OSS.mid h69 md77 (by omega)
  clear h69
  have b85 := below_mid b70 z71 md77 (by omega)
  have z86 := b85.size
  have y87 := md77.size
  clear k73
  clear k74
  have k88 := bx81.cell 0 rfl
  have k89 := bx81.cell 1 rfl
  clear k75
  clear k76
  have k90 := bx83.cell 0 rfl
  have k91 := bx83.cell 1 rfl
  have md92 : Mid 0 0 w6 (w6.alloc (.cells #[.int .i64 rr0, .slice AA78 res0.length cc79] 24)) := Mid.alloc _ _
  have bx93 := bx81.mid md92 (by omega)
  clear bx81
  have h94 := OSS.mid h82 md92 (by omega)
  clear h82
  have bx95 := bx83.mid md92 (by omega)
  clear bx83
  have h96 := OSS.mid h84 md92 (by omega)
  clear h84
  have h97 := OSS.mid h80 md92 (by omega)
  clear h80
  have b98 := below_mid b85 z86 md92 (by omega)
  have z99 := b98.size
  have y100 := md92.size
  have bx101 := Box.new w6 #[.int .i64 rr0, .slice AA78 res0.length cc79] 24
  have y102 : w6.heap.size + 1 ≤ (w6.alloc (.cells #[.int .i64 rr0, .slice AA78 res0.length cc79] 24)).heap.size := by simp
  clear k88
  clear k89
  have k103 := bx93.cell 0 rfl
  have k104 := bx93.cell 1 rfl
  clear k90
  clear k91
  have k105 := bx95.cell 0 rfl
  have k106 := bx95.cell 1 rfl
  have k107 := bx101.cell 0 rfl
  have k108 := bx101.cell 1 rfl
  go_wp2_with fail
  with_reducible refine (eqMorphism_same _ _ _ res0 _ _ _ _ _ _ _ (OSS.rss h97) (OSS.rss h94) hlr0).mono ?_
  rintro e w7 ⟨rfl, md109⟩
  have bx110 := bx93.mid md109 (by omega)
  clear bx93
  have h111 := OSS.mid h94 md109 (by omega)
  clear h94
  have bx112 := bx95.mid md109 (by omega)
  clear bx95
  have h113 := OSS.mid h96 md109 (by omega)
  clear h96
  have bx114 := bx101.mid md109 (by omega)
  clear bx101
  have h115 := OSS.mid h97 md109 (by omega)
  clear h97
  have b116 := below_mid b98 z99 md109 (by omega)
  have z117 := b116.size
  have y118 := md109.size
  clear k103
  clear k104
  have k119 := bx110.cell 0 rfl
  have k120 := bx110.cell 1 rfl
  clear k105
  clear k106
  have k121 := bx112.cell 0 rfl
  have k122 := bx112.cell 1 rfl
  clear k107
  clear k108
  have k123 := bx114.cell 0 rfl
  have k124 := bx114.cell 1 rfl
  go_wp2_with fail
  with_reducible refine (heldMorphism_any _ _ res0 _ 1 _ _ _ (OSS.rss h113) (by omega) (by omega) hlr0).mono ?_
  rintro e w8 ⟨rfl, md125⟩
  have bx126 := bx110.mid md125 (by omega)
  clear bx110
  have h127 := OSS.mid h111 md125 (by omega)
  clear h111
  have bx128 := bx112.mid md125 (by omega)
  clear bx112
  have h129 := OSS.mid h113 md125 (by omega)
  clear h113
  have bx130 := bx114.mid md125 (by omega)
  clear bx114
  have h131 := OSS.mid h115 md125 (by omega)
  clear h115
  have b132 := below_mid b116 z117 md125 (by omega)
  have z133 := b132.size
  have y134 := md125.size
  clear k119
  clear k120
  have k135 := bx126.cell 0 rfl
  have k136 := bx126.cell 1 rfl
  clear k121
  clear k122
  have k137 := bx128.cell 0 rfl
  have k138 := bx128.cell 1 rfl
  clear k123
  clear k124
  have k139 := bx130.cell 0 rfl
  have k140 := bx130.cell 1 rfl
  go_wp2_with fail
  go_ret
  exact ⟨rfl, b132⟩
end Go.Proofs.Ytaddhbdfjkbgiaa
