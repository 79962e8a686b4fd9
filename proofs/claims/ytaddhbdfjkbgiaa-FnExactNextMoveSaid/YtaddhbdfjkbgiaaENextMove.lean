/- The walk of the law FnExactNextMove: it returns true at every input, and turns nothing that was there. -/
import Derived.Test.YtaddhbdfjkbgiaaL35
namespace Go.Proofs.Ytaddhbdfjkbgiaa
open Go.RowKit
set_option linter.unusedVariables false
set_option linter.unusedSimpArgs false

theorem frz_NextMove {w : World} {b : Nat} {cs : List Value} (h : Box w b cs) : ∀ i, w.frozen? ⟨b, i, none⟩ = false := h.2.2
set_option maxRecDepth 100000 in
set_option maxHeartbeats 8000000 in
theorem walk_NextMove (A0 : Option Addr) (d0 : List (List Int)) (c0 : Nat) (w : World) (r0 : RSS w 0 w.heap.size A0 d0) (_o0 : OkSS d0) :
    Calls Try.prog 14 #[.slice A0 d0.length c0] w fun e w' => e = .returned (.bool true) ∧ Below w.heap.size w w' := by
  obtain ⟨z0, hz0⟩ : ∃ z, z = szI 1048576 (d0.length + sumL d0) := ⟨_, rfl⟩
  have E0 := Lib.hid hz0.symm
  rcases szI_case 1048576 (d0.length + sumL d0) with hs0 | ⟨hs0, hs0'⟩
  · obtain rfl : z0 = -1 := hz0.trans hs0
    clear hs0 hz0
    have hh1 := r0
    go_enter Try.func14, Try.ntmps14
    go_wp2_with fail
    with_reducible refine (szIntSS_any _ d0 _ 1048576 _ _ _ hh1 (OkSS.len _o0) (by omega) (by omega) _ rfl).mono ?_
    rintro e _ ⟨rfl, rfl⟩
    rw [E0.out]
    go_wp2_with fail
    go_ret
    exact ⟨rfl, (Below.refl w.heap.size w)⟩
  rw [hs0'] at hz0
  have hp0 : 0 ≤ z0 := by omega
  have hq0 : z0 ≤ 1048576 := by omega
  have hl0 : d0.length + sumL d0 ≤ 1048576 := by omega
  clear hs0 hs0' hz0
  obtain ⟨res0, res1, HRES⟩ : ∃ res0 res1, NextMoveIs d0 res0 res1 := NextMoveIs_ex d0 _o0 hl0
  have HRES := Lib.hid HRES
  have hh3 := r0
  go_enter Try.func14, Try.ntmps14
  go_wp2_with fail
  with_reducible refine (szIntSS_any _ d0 _ 1048576 _ _ _ hh3 (OkSS.len _o0) (by omega) (by omega) _ rfl).mono ?_
  rintro e _ ⟨rfl, rfl⟩
  rw [E0.out]
  go_wp2_with fail
  with_reducible refine (toSS _ d0 _ _ _ _ hh3 hl0).mono ?_
  rintro e w3 ⟨AA5, cc6, rfl, h7, md8⟩
  have h9 := RSS.mid hh3 md8 (Or.inl (Nat.zero_le _))
  clear hh3
  have b10 := below_mid (Below.refl w.heap.size w) (Nat.le_refl w.heap.size) md8 (Or.inr rfl)
  have z11 := b10.size
  have y12 := md8.size
  go_wp2_with fail
  with_reducible refine (sspec_NextMove _ d0 _ _ _ _ h7 _o0 hl0 res0 res1 HRES.out).mono ?_
  rintro e w4 ⟨rfl, md13⟩
  have h14 := RSS.mid h9 md13 (Or.inl (Nat.zero_le _))
  clear h9
  have h15 := OSS.mid h7 md13 (Or.inl (Nat.zero_le _))
  clear h7
  have b16 := below_mid b10 z11 md13 (Or.inr rfl)
  have z17 := b16.size
  have y18 := md13.size
  have md19 : Mid 0 0 w4 (w4.alloc (.cells #[.int .i64 res0.kind, .int .i64 res0.i, .int .i64 res0.j, .int .i64 res0.sign] 64)) := Mid.alloc _ _
  have h20 := RSS.mid h14 md19 (Or.inl (Nat.zero_le _))
  clear h14
  have h21 := OSS.mid h15 md19 (Or.inl (Nat.zero_le _))
  clear h15
  have b22 := below_mid b16 z17 md19 (Or.inr rfl)
  have z23 := b22.size
  have y24 := md19.size
  have bx25 := Box.new w4 #[.int .i64 res0.kind, .int .i64 res0.i, .int .i64 res0.j, .int .i64 res0.sign] 64
  have y26 : w4.heap.size + 1 ≤ (w4.alloc (.cells #[.int .i64 res0.kind, .int .i64 res0.i, .int .i64 res0.j, .int .i64 res0.sign] 64)).heap.size := (by simp)
  have k27 := bx25.cell 0 rfl
  have k28 := bx25.cell 1 rfl
  have k29 := bx25.cell 2 rfl
  have k30 := bx25.cell 3 rfl
  go_wp2_with fail
  with_reducible refine (toSS _ d0 _ _ _ _ h20 hl0).mono ?_
  rintro e w5 ⟨AA31, cc32, rfl, h33, md34⟩
  have h35 := RSS.mid h20 md34 (Or.inl (Nat.zero_le _))
  clear h20
  have bx36 := bx25.mid md34 (Or.inr (Nat.zero_le _))
  clear bx25
  have b37 := below_mid b22 z23 md34 (Or.inr rfl)
  have z38 := b37.size
  have y39 := md34.size
  clear k27
  clear k28
  clear k29
  clear k30
  have k40 := bx36.cell 0 rfl
  have k41 := bx36.cell 1 rfl
  have k42 := bx36.cell 2 rfl
  have k43 := bx36.cell 3 rfl
  go_wp2_with fail
  with_reducible refine (simpl_NextMove _ d0 _ _ _ _ h33 _o0 hl0 res0 res1 HRES.out).mono ?_
  rintro e w6 ⟨rfl, md44⟩
  have h45 := RSS.mid h35 md44 (Or.inl (Nat.zero_le _))
  clear h35
  have bx46 := bx36.mid md44 (Or.inr (Nat.zero_le _))
  clear bx36
  have h47 := OSS.mid h33 md44 (Or.inl (Nat.zero_le _))
  clear h33
  have b48 := below_mid b37 z38 md44 (Or.inr rfl)
  have z49 := b48.size
  have y50 := md44.size
  clear k40
  clear k41
  clear k42
  clear k43
  have k51 := bx46.cell 0 rfl
  have k52 := bx46.cell 1 rfl
  have k53 := bx46.cell 2 rfl
  have k54 := bx46.cell 3 rfl
  have md55 : Mid 0 0 w6 (w6.alloc (.cells #[.int .i64 res0.kind, .int .i64 res0.i, .int .i64 res0.j, .int .i64 res0.sign] 64)) := Mid.alloc _ _
  have h56 := RSS.mid h45 md55 (Or.inl (Nat.zero_le _))
  clear h45
  have bx57 := bx46.mid md55 (Or.inr (Nat.zero_le _))
  clear bx46
  have h58 := OSS.mid h47 md55 (Or.inl (Nat.zero_le _))
  clear h47
  have b59 := below_mid b48 z49 md55 (Or.inr rfl)
  have z60 := b59.size
  have y61 := md55.size
  have bx62 := Box.new w6 #[.int .i64 res0.kind, .int .i64 res0.i, .int .i64 res0.j, .int .i64 res0.sign] 64
  have y63 : w6.heap.size + 1 ≤ (w6.alloc (.cells #[.int .i64 res0.kind, .int .i64 res0.i, .int .i64 res0.j, .int .i64 res0.sign] 64)).heap.size := (by simp)
  clear k51
  clear k52
  clear k53
  clear k54
  have k64 := bx57.cell 0 rfl
  have k65 := bx57.cell 1 rfl
  have k66 := bx57.cell 2 rfl
  have k67 := bx57.cell 3 rfl
  have k68 := bx62.cell 0 rfl
  have k69 := bx62.cell 1 rfl
  have k70 := bx62.cell 2 rfl
  have k71 := bx62.cell 3 rfl
  go_wp2_with fail
  with_reducible refine (eqMove_same res0 _).mono ?_
  rintro e w7 ⟨rfl, md72⟩
  have h73 := RSS.mid h56 md72 (Or.inl (Nat.zero_le _))
  clear h56
  have bx74 := bx57.mid md72 (Or.inr (Nat.zero_le _))
  clear bx57
  have h75 := OSS.mid h58 md72 (Or.inl (Nat.zero_le _))
  clear h58
  have bx76 := bx62.mid md72 (Or.inr (Nat.zero_le _))
  clear bx62
  have b77 := below_mid b59 z60 md72 (Or.inr rfl)
  have z78 := b77.size
  have y79 := md72.size
  clear k64
  clear k65
  clear k66
  clear k67
  have k80 := bx74.cell 0 rfl
  have k81 := bx74.cell 1 rfl
  have k82 := bx74.cell 2 rfl
  have k83 := bx74.cell 3 rfl
  clear k68
  clear k69
  clear k70
  clear k71
  have k84 := bx76.cell 0 rfl
  have k85 := bx76.cell 1 rfl
  have k86 := bx76.cell 2 rfl
  have k87 := bx76.cell 3 rfl
  go_wp2_with fail
  with_reducible refine (toSS _ d0 _ _ _ _ h73 hl0).mono ?_
  rintro e w8 ⟨AA88, cc89, rfl, h90, md91⟩
  have h92 := RSS.mid h73 md91 (Or.inl (Nat.zero_le _))
  clear h73
  have bx93 := bx74.mid md91 (Or.inr (Nat.zero_le _))
  clear bx74
  have h94 := OSS.mid h75 md91 (Or.inl (Nat.zero_le _))
  clear h75
  have bx95 := bx76.mid md91 (Or.inr (Nat.zero_le _))
  clear bx76
  have b96 := below_mid b77 z78 md91 (Or.inr rfl)
  have z97 := b96.size
  have y98 := md91.size
  clear k80
  clear k81
  clear k82
  clear k83
  have k99 := bx93.cell 0 rfl
  have k100 := bx93.cell 1 rfl
  have k101 := bx93.cell 2 rfl
  have k102 := bx93.cell 3 rfl
  clear k84
  clear k85
  clear k86
  clear k87
  have k103 := bx95.cell 0 rfl
  have k104 := bx95.cell 1 rfl
  have k105 := bx95.cell 2 rfl
  have k106 := bx95.cell 3 rfl
  go_wp2_with fail
  with_reducible refine (eqSS _ _ d0 _ _ _ _ _ _ _ (OSS.rss h94) (OSS.rss h90) hl0).mono ?_
  rintro e w9 ⟨rfl, md107⟩
  have h108 := RSS.mid h92 md107 (Or.inl (Nat.zero_le _))
  clear h92
  have bx109 := bx93.mid md107 (Or.inr (Nat.zero_le _))
  clear bx93
  have h110 := OSS.mid h94 md107 (Or.inl (Nat.zero_le _))
  clear h94
  have bx111 := bx95.mid md107 (Or.inr (Nat.zero_le _))
  clear bx95
  have h112 := OSS.mid h90 md107 (Or.inl (Nat.zero_le _))
  clear h90
  have b113 := below_mid b96 z97 md107 (Or.inr rfl)
  have z114 := b113.size
  have y115 := md107.size
  clear k99
  clear k100
  clear k101
  clear k102
  have k116 := bx109.cell 0 rfl
  have k117 := bx109.cell 1 rfl
  have k118 := bx109.cell 2 rfl
  have k119 := bx109.cell 3 rfl
  clear k103
  clear k104
  clear k105
  clear k106
  have k120 := bx111.cell 0 rfl
  have k121 := bx111.cell 1 rfl
  have k122 := bx111.cell 2 rfl
  have k123 := bx111.cell 3 rfl
  go_wp2_with fail
  go_ret
  exact ⟨rfl, b113⟩
end Go.Proofs.Ytaddhbdfjkbgiaa
