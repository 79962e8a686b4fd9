
import Derived.Test.YtimmnnncgnnkgaaFo2
import Derived.Deep.RegionHeld3
import Derived.Deep.DeepCutAuto

/- The walk of the law FnExactFormatMorphism: it returns true at every input, and turns nothing that was there. -/
namespace Go.Proofs.Ytimmnnncgnnkgaa
open Go.RowKit
set_option linter.unusedVariables false
set_option linter.unusedSimpArgs false

theorem frz_FormatMorphism {w : World} {b : Nat} {cs : List Value} (h : Box w b cs) : ∀ i, w.frozen? ⟨b, i, none⟩ = false := h.2.2
set_option maxRecDepth 100000 in
set_option maxHeartbeats 8000000 in
theorem walk_FormatMorphism (r0 : Int) (A0 : Option Addr) (d0 : List (List Int)) (c0 : Nat) (w : World) (_b0 : (Lit.int .i64 r0).wf = true) (m0 : RSS w 0 w.heap.size A0 d0) (_o0 : OkSS d0) :
    Calls Try.prog 7 #[.agg #[.int .i64 r0, .slice A0 d0.length c0]] w fun e w' => e = .returned (.bool true) ∧ Below w.heap.size w w' := by
  obtain ⟨z0, hz0⟩ : ∃ z, z = szI 1048576 (d0.length + sumL d0) := ⟨_, rfl⟩
  have E0 := Lib.hid hz0.symm
  rcases szI_case 1048576 (d0.length + sumL d0) with hs0 | ⟨hs0, hs0'⟩
  · obtain rfl : z0 = -1 := hz0.trans hs0
    clear hs0 hz0
    have hh1 := m0
    go_enter Try.func7, Try.ntmps7
    have md2 : Mid 0 0 w (w.alloc (.cells #[.int .i64 r0, .slice A0 d0.length c0] 50)) := Mid.alloc _ _
    have h3 := RSS.mid hh1 md2 (Or.inl (Nat.zero_le _))
    clear hh1
    have b4 := below_mid (Below.refl w.heap.size w) (Nat.le_refl w.heap.size) md2 (Or.inr rfl)
    have z5 := b4.size
    have y6 := md2.size
    have bx7 := Box.new w #[.int .i64 r0, .slice A0 d0.length c0] 50
    have y8 : w.heap.size + 1 ≤ (w.alloc (.cells #[.int .i64 r0, .slice A0 d0.length c0] 50)).heap.size := (by simp)
    have k9 := bx7.cell 0 rfl
    have k10 := bx7.cell 1 rfl
    go_wp2_with fail
    with_reducible refine (szMorphism_any _ _ d0 _ 1048576 _ _ _ h3 (OkSS.len _o0) (by omega) (by omega)).mono ?_
    rintro e w1 ⟨rfl, md11⟩
    rw [E0.out]
    have bx12 := bx7.mid md11 (Or.inr (Nat.zero_le _))
    clear bx7
    have h13 := RSS.mid h3 md11 (Or.inl (Nat.zero_le _))
    clear h3
    have b14 := below_mid b4 z5 md11 (Or.inr rfl)
    have z15 := b14.size
    have y16 := md11.size
    clear k9
    clear k10
    have k17 := bx12.cell 0 rfl
    have k18 := bx12.cell 1 rfl
    go_wp2_with fail
    go_ret
    exact ⟨rfl, b14⟩
  rw [hs0'] at hz0
  have hp0 : 0 ≤ z0 := by omega
  have hq0 : z0 ≤ 1048576 := by omega
  have hl0 : d0.length + sumL d0 ≤ 1048576 := by omega
  clear hs0 hs0' hz0
  obtain ⟨res0, HRES⟩ : ∃ res0, FormatMorphismIs r0 d0 res0 := FormatMorphismIs_ex r0 d0 _b0 _o0 hl0
  have HRES := Lib.hid HRES
  have hh19 := m0
  go_enter Try.func7, Try.ntmps7
  have md20 : Mid 0 0 w (w.alloc (.cells #[.int .i64 r0, .slice A0 d0.length c0] 50)) := Mid.alloc _ _
  have h21 := RSS.mid hh19 md20 (Or.inl (Nat.zero_le _))
  clear hh19
  have b22 := below_mid (Below.refl w.heap.size w) (Nat.le_refl w.heap.size) md20 (Or.inr rfl)
  have z23 := b22.size
  have y24 := md20.size
  have bx25 := Box.new w #[.int .i64 r0, .slice A0 d0.length c0] 50
  have y26 : w.heap.size + 1 ≤ (w.alloc (.cells #[.int .i64 r0, .slice A0 d0.length c0] 50)).heap.size := (by simp)
  have k27 := bx25.cell 0 rfl
  have k28 := bx25.cell 1 rfl
  go_wp2_with fail
  with_reducible refine (szMorphism_any _ _ d0 _ 1048576 _ _ _ h21 (OkSS.len _o0) (by omega) (by omega)).mono ?_
  rintro e w2 ⟨rfl, md29⟩
  rw [E0.out]
  have bx30 := bx25.mid md29 (Or.inr (Nat.zero_le _))
  clear bx25
  have h31 := RSS.mid h21 md29 (Or.inl (Nat.zero_le _))
  clear h21
  have b32 := below_mid b22 z23 md29 (Or.inr rfl)
  have z33 := b32.size
  have y34 := md29.size
  clear k27
  clear k28
  have k35 := bx30.cell 0 rfl
  have k36 := bx30.cell 1 rfl
  go_wp2_with fail
  with_reducible refine (toMorphism_any r0 _ d0 _ _ _ _ h31 hl0).mono ?_
  rintro e w3 ⟨AA37, cc38, rfl, h39, md40⟩
  have bx41 := bx30.mid md40 (Or.inr (Nat.zero_le _))
  clear bx30
  have h42 := RSS.mid h31 md40 (Or.inl (Nat.zero_le _))
  clear h31
  have b43 := below_mid b32 z33 md40 (Or.inr rfl)
  have z44 := b43.size
  have y45 := md40.size
  clear k35
  clear k36
  have k46 := bx41.cell 0 rfl
  have k47 := bx41.cell 1 rfl
  go_wp2_with fail
  with_reducible refine (sspec_FormatMorphism r0 _ d0 _ _ _ _ (OSS.rss h39) _b0 _o0 hl0 res0 HRES.out).mono ?_
  rintro e w4 ⟨rfl, md48⟩
  have bx50 := bx41.mid md48 (Or.inr (Nat.zero_le _))
  clear bx41
  have h51 := RSS.mid h42 md48 (Or.inl (Nat.zero_le _))
  clear h42
  have h52 := OSS.mid h39 md48 (Or.inl (Nat.zero_le _))
  clear h39
  have b53 := below_mid b43 z44 md48 (Or.inr rfl)
  have z54 := b53.size
  have y55 := md48.size
  clear k46
  clear k47
  have k56 := bx50.cell 0 rfl
  have k57 := bx50.cell 1 rfl
  go_wp2_with fail
  with_reducible refine (toMorphism_any r0 _ d0 _ _ _ _ h51 hl0).mono ?_
  rintro e w5 ⟨AA58, cc59, rfl, h60, md61⟩
  have bx62 := bx50.mid md61 (Or.inr (Nat.zero_le _))
  clear bx50
  have h63 := RSS.mid h51 md61 (Or.inl (Nat.zero_le _))
  clear h51
  have b64 := below_mid b53 z54 md61 (Or.inr rfl)
  have z65 := b64.size
  have y66 := md61.size
  clear k56
  clear k57
  have k67 := bx62.cell 0 rfl
  have k68 := bx62.cell 1 rfl
  have md69 : Mid 0 0 w5 (w5.alloc (.cells #[.int .i64 r0, .slice AA58 d0.length cc59] 53)) := Mid.alloc _ _
  have bx70 := bx62.mid md69 (Or.inr (Nat.zero_le _))
  clear bx62
  have h71 := RSS.mid h63 md69 (Or.inl (Nat.zero_le _))
  clear h63
  have h72 := OSS.mid h60 md69 (Or.inl (Nat.zero_le _))
  clear h60
  have b73 := below_mid b64 z65 md69 (Or.inr rfl)
  have z74 := b73.size
  have y75 := md69.size
  have bx76 := Box.new w5 #[.int .i64 r0, .slice AA58 d0.length cc59] 53
  have y77 : w5.heap.size + 1 ≤ (w5.alloc (.cells #[.int .i64 r0, .slice AA58 d0.length cc59] 53)).heap.size := (by simp)
  clear k67
  clear k68
  have k78 := bx70.cell 0 rfl
  have k79 := bx70.cell 1 rfl
  have k80 := bx76.cell 0 rfl
  have k81 := bx76.cell 1 rfl
  go_wp2_with fail
  with_reducible refine (simpl_FormatMorphism r0 _ d0 _ _ _ _ (OSS.rss h72) _b0 _o0 hl0 res0 HRES.out).mono ?_
  rintro e w6 ⟨rfl, md82⟩
  have bx84 := bx70.mid md82 (Or.inr (Nat.zero_le _))
  clear bx70
  have h85 := RSS.mid h71 md82 (Or.inl (Nat.zero_le _))
  clear h71
  have bx86 := bx76.mid md82 (Or.inr (Nat.zero_le _))
  clear bx76
  have h87 := OSS.mid h72 md82 (Or.inl (Nat.zero_le _))
  clear h72
  have b88 := below_mid b73 z74 md82 (Or.inr rfl)
  have z89 := b88.size
  have y90 := md82.size
  clear k78
  clear k79
  have k91 := bx84.cell 0 rfl
  have k92 := bx84.cell 1 rfl
  clear k80
  clear k81
  have k93 := bx86.cell 0 rfl
  have k94 := bx86.cell 1 rfl
  go_wp2_with fail
  have md95 : Mid 0 0 w6 w6.drew := Mid.drew1 _
  have bx96 := bx84.mid md95 (Or.inr (Nat.zero_le _))
  have h97 := RSS.mid h85 md95 (Or.inl (Nat.zero_le _))
  have bx98 := bx86.mid md95 (Or.inr (Nat.zero_le _))
  have h99 := OSS.mid h87 md95 (Or.inl (Nat.zero_le _))
  have b100 := below_mid b88 z89 md95 (Or.inr rfl)
  have z101 := b100.size
  have y102 := md95.size
  have k103 := bx96.cell 0 rfl
  have k104 := bx96.cell 1 rfl
  have k105 := bx98.cell 0 rfl
  have k106 := bx98.cell 1 rfl
  go_region_held3 (fun w' => w'.cell? ⟨w5.heap.size, 0, none⟩ = some (.int .i64 r0) ∧ w'.cell? ⟨w5.heap.size, 1, none⟩ = some (.slice AA58 d0.length cc59) ∧ w'.cell? ⟨w.heap.size, 0, none⟩ = some (.int .i64 r0) ∧ w'.cell? ⟨w.heap.size, 1, none⟩ = some (.slice A0 d0.length c0)) (first | exact ⟨k93, k94, k91, k92⟩ | exact ⟨k105, k106, k103, k104⟩ | exact ⟨k120, k121, k118, k119⟩ | exact ⟨k133, k134, k131, k132⟩) (first | (go_at_call 30; with_reducible refine (toMorphism_any r0 _ d0 _ _ _ _ h97 hl0).mono ?_; rintro e w7 ⟨AA107, cc108, rfl, h109, md110⟩; have bx111 := bx96.mid md110 (Or.inr (Nat.zero_le _)); have h112 := RSS.mid h97 md110 (Or.inl (Nat.zero_le _)); have bx113 := bx98.mid md110 (Or.inr (Nat.zero_le _)); have h114 := OSS.mid h99 md110 (Or.inl (Nat.zero_le _)); have b115 := below_mid b100 z101 md110 (Or.inr rfl); have z116 := b115.size; have y117 := md110.size; have k118 := bx111.cell 0 rfl; have k119 := bx111.cell 1 rfl; have k120 := bx113.cell 0 rfl; have k121 := bx113.cell 1 rfl) | (go_at_call 32; with_reducible refine (eqMorphism_same _ _ _ d0 _ _ _ _ _ _ _ (OSS.rss h114) (OSS.rss h109) hl0).mono ?_; rintro e w8 ⟨rfl, md122⟩; have bx123 := bx111.mid md122 (Or.inr (Nat.zero_le _)); have h124 := RSS.mid h112 md122 (Or.inl (Nat.zero_le _)); have bx125 := bx113.mid md122 (Or.inr (Nat.zero_le _)); have h126 := OSS.mid h114 md122 (Or.inl (Nat.zero_le _)); have h127 := OSS.mid h109 md122 (Or.inl (Nat.zero_le _)); have b128 := below_mid b115 z116 md122 (Or.inr rfl); have z129 := b128.size; have y130 := md122.size; have k131 := bx123.cell 0 rfl; have k132 := bx123.cell 1 rfl; have k133 := bx125.cell 0 rfl; have k134 := bx125.cell 1 rfl))
  go_wp2_with fail
  go_ret
  exact ⟨rfl, b128⟩
end Go.Proofs.Ytimmnnncgnnkgaa
