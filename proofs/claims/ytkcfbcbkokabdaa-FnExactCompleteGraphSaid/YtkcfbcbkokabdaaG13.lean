
/- copyGraph, l4Copy. -/
import Derived.Test.YtkcfbcbkokabdaaG12
import Derived.Test.YtkcfbcbkokabdaaG7
namespace Go.Proofs.Ytkcfbcbkokabdaa
set_option linter.unusedVariables false
set_option linter.unusedSimpArgs false
open Go.RowKit

theorem owns_blk {w : World} {base : Nat} {e : TypeId} {size n : Nat} {v u : Value} {xs : List Value} {k : Nat} (h : w.ownsRow base e size v n xs) (hb : v.ownBlock = u.ownBlock ∨ v.ownBlock = some k) (hu : u.ownBlock ≠ none) :
    ∃ g c, v = .slice (some ⟨g, 0, none⟩) n c ∧ base ≤ g ∧ n ≤ c ∧ c ≤ maxLen := by
  rcases h.2 with ⟨rfl, -⟩ | ⟨g, cap, cur, rfl, hbg, -, h1, h2, -⟩
  · rcases hb with hb | hb
    · exact absurd hb.symm hu
    · cases hb
  · exact ⟨g, cap, rfl, hbg, h1, h2⟩

set_option maxHeartbeats 1600000 in
theorem impl_copyGraph (r s : Int) (A : Option Addr) (es : List Ed) (c : Nat) (w : World) (lo hi : Nat) (hr : RG w lo hi A es) (hl : es.length ≤ 1048576) :
    Calls Try.prog 41 #[graV r s A es.length c] w fun e w' => ∃ A' c', e = .returned (graV r s A' es.length c') ∧ OG w' w.heap.size w'.heap.size A' c' es ∧ Mid 0 0 w w' := by
  have hm0 : Mid 0 0 w ((w.alloc (.cells #[.int .i64 r, .int .i64 s, .slice A es.length c] 29)).alloc (.cells #[.int .i64 0, .int .i64 0, .slice none 0 0] 29)) := (Mid.alloc _ _).trans (Mid.alloc _ _)
  have B0 := (Box.new w #[.int .i64 r, .int .i64 s, .slice A es.length c] 29).mid (Mid.alloc _ (.cells #[.int .i64 0, .int .i64 0, .slice none 0 0] 29)) (Or.inr (Nat.zero_le _))
  have B1 := Box.new (w.alloc (.cells #[.int .i64 r, .int .i64 s, .slice A es.length c] 29)) #[.int .i64 0, .int .i64 0, .slice none 0 0] 29
  rw [World.size_alloc] at B1
  go_enter Try.func41, Try.ntmps41
  go_wp2_with fail
  generalize hw1 : ((w.alloc (.cells #[.int .i64 r, .int .i64 s, .slice A es.length c] 29)).alloc (.cells #[.int .i64 0, .int .i64 0, .slice none 0 0] 29)) = w1 at hm0 B0 B1 ⊢
  have hs1 : w1.heap.size = w.heap.size + 1 + 1 := by rw [← hw1]; simp
  have HS := Lib.hid hs1
  clear hw1 hs1
  have hmd := Mid.drew1 w1
  have hal : Mid 0 0 w1.drew (w1.drew.alloc (.cells #[] 48)) := Mid.alloc _ _
  have D0 := B0.mid hmd (Or.inr (Nat.zero_le _))
  have D1 := B1.mid hmd (Or.inr (Nat.zero_le _))
  have E0 := D0.mid hal (Or.inr (Nat.zero_le _))
  have E1 := D1.mid hal (Or.inr (Nat.zero_le _))
  have hoe := owns_empty w1.drew 48 3
  have hrs := ((hr.mid hm0 (Or.inl (Nat.zero_le _))).mid (hmd.trans hal) (Or.inl (Nat.zero_le _))).rv.rs
  have d0 := D0.cell 0 rfl
  have d1 := D0.cell 1 rfl
  have d2 := D0.cell 2 rfl
  have e0 := E0.cell 0 rfl
  have e1 := E0.cell 1 rfl
  have e2 := E0.cell 2 rfl
  have hmx : 0 + es.length ≤ maxLen := by unfold maxLen; omega
  have hby : (0 + es.length) * 24 ≤ 140737488355328 := by omega
  have hba : w1.drew.heap.size ≤ (w1.drew.alloc (.cells #[] 48)).heap.size := by simp
  have hln : (ints (edI es)).length = es.length * 3 := by rw [ints_len, edI_len]
  have HL := Lib.hid hln
  have HO := Lib.hid (oneInts (edI es))
  have hz1 : w.heap.size + 1 < w1.drew.heap.size := B1.1
  have hz0 : w.heap.size < w1.drew.heap.size := B0.1
  clear hln
  have hnn : (Value.slice (some ⟨w1.drew.heap.size, 0, none⟩) 0 0).ownBlock ≠ none := by simp [Value.ownBlock]
  have HNN := Lib.hid hnn
  clear hnn
  go_region_held3 (fun w' => w'.cell? ⟨w.heap.size, 0, none⟩ = some (.int .i64 r) ∧ w'.cell? ⟨w.heap.size, 1, none⟩ = some (.int .i64 s) ∧ w'.cell? ⟨w.heap.size, 2, none⟩ = some (.slice A es.length c)) (first | exact ⟨d0, d1, d2⟩ | exact ⟨e0, e1, e2⟩ | exact ⟨f0, f1, f2⟩ | exact ⟨x0, x1, x2⟩) ((refine step_cat (by rfl) (.tmp 7) (.tmp 9) 27 (by rfl) _ 48 (.agg #[.int .i64 0, .int .i64 0, .int .i64 0]) 3 24 undSE infoE rfl (by decide) (.slice (some ⟨w1.drew.heap.size, 0, none⟩) 0 0) 0 [] (by rfl) hoe A es.length c _ (ints (edI es)) (by rfl) hrs HL.out HO.out hmx hby hba ?_; intro v2 w2 ho2 hgr2 hat2; obtain ⟨g, c2, rfl, hg1, -, -⟩ := owns_blk ho2 hat2 HNN.out; have hm2 := Mid.of_grownRow hoe hgr2; have F0 := E0.mid hm2 (Or.inl hz0); have F1 := E1.mid hm2 (Or.inl hz1); have f0 := F0.cell 0 rfl; have f1 := F0.cell 1 rfl; have f2 := F0.cell 2 rfl; have p0 := F1.cell 0 rfl; have p1 := F1.cell 1 rfl; have p2 := F1.cell 2 rfl; have pf := F1.2.2; have ms0 := Mid.setCell w2 (lo := w.heap.size + 1) (hi := w.heap.size + 2) (p := ⟨w.heap.size + 1, 0, none⟩) (.int .i64 r) (Nat.le_refl _) (Nat.lt_succ_self _); have ms1 := ms0.trans (Mid.setCell _ (lo := w.heap.size + 1) (hi := w.heap.size + 2) (p := ⟨w.heap.size + 1, 1, none⟩) (.int .i64 s) (Nat.le_refl _) (Nat.lt_succ_self _)); have ms2 := ms1.trans (Mid.setCell _ (lo := w.heap.size + 1) (hi := w.heap.size + 2) (p := ⟨w.heap.size + 1, 2, none⟩) (.slice (some ⟨g, 0, none⟩) es.length c2) (Nat.le_refl _) (Nat.lt_succ_self _)); have X0 := F0.mid ms2 (Or.inl (Nat.lt_succ_self _)); have x0 := X0.cell 0 rfl; have x1 := X0.cell 1 rfl; have x2 := X0.cell 2 rfl))
  go_wp2_with fail
  simp only [Nat.zero_add, List.nil_append] at ho2
  have hmm : Mid 0 0 w w2 := ((hm0.trans hmd).trans hal).transNew hm2 (Or.inl (by have := hm0.size; exact this))
  refine bodyPost_ret (v := .agg #[.int .i64 r, .int .i64 s, .slice (some ⟨g, 0, none⟩) es.length c2]) (by simp [results, Try.results41, go_sem, p0, p1, p2, pf]) rfl ⟨_, c2, rfl, ?_, ?_⟩
  · have h0 : OG w2 w1.drew.heap.size w2.heap.size (some ⟨g, 0, none⟩) c2 es := ⟨Nat.le_refl _, ho2, fun g hg => (ho2.lt g hg).2⟩
    refine OG.wide (OG.mid h0 ms2 (Or.inl (by have := HS.out; show w.heap.size + 2 ≤ w1.heap.size; omega))) (by have := hm0.size; exact this) ?_ (Nat.le_refl _)
    exact ms2.size
  · exact hmm.transNew ms2 (Or.inl (Nat.le_succ _))

set_option maxHeartbeats 1600000 in
theorem spec_l4Copy (r s : Int) (A : Option Addr) (es : List Ed) (c : Nat) (w : World) (lo hi : Nat) (hr : RG w lo hi A es) (hl : es.length ≤ 1048576) :
    Calls Try.prog 38 #[graV r s A es.length c] w fun e w' => ∃ A' c', e = .returned (graV r s A' es.length c') ∧ OG w' w.heap.size w'.heap.size A' c' es ∧ Mid 0 0 w w' := by
  have hm0 : Mid 0 0 w ((w.alloc (.cells #[.int .i64 r, .int .i64 s, .slice A es.length c] 29)).alloc (.cells #[.int .i64 0, .int .i64 0, .slice none 0 0] 29)) := (Mid.alloc _ _).trans (Mid.alloc _ _)
  have B0 := (Box.new w #[.int .i64 r, .int .i64 s, .slice A es.length c] 29).mid (Mid.alloc _ (.cells #[.int .i64 0, .int .i64 0, .slice none 0 0] 29)) (Or.inr (Nat.zero_le _))
  have B1 := Box.new (w.alloc (.cells #[.int .i64 r, .int .i64 s, .slice A es.length c] 29)) #[.int .i64 0, .int .i64 0, .slice none 0 0] 29
  rw [World.size_alloc] at B1
  go_enter Try.func38, Try.ntmps38
  go_wp2_with fail
  generalize hw1 : ((w.alloc (.cells #[.int .i64 r, .int .i64 s, .slice A es.length c] 29)).alloc (.cells #[.int .i64 0, .int .i64 0, .slice none 0 0] 29)) = w1 at hm0 B0 B1 ⊢
  have hs1 : w1.heap.size = w.heap.size + 1 + 1 := by rw [← hw1]; simp
  have HS := Lib.hid hs1
  clear hw1 hs1
  have hmd := Mid.drew1 w1
  have hal : Mid 0 0 w1.drew (w1.drew.alloc (.cells #[] 48)) := Mid.alloc _ _
  have D0 := B0.mid hmd (Or.inr (Nat.zero_le _))
  have D1 := B1.mid hmd (Or.inr (Nat.zero_le _))
  have E0 := D0.mid hal (Or.inr (Nat.zero_le _))
  have E1 := D1.mid hal (Or.inr (Nat.zero_le _))
  have hoe := owns_empty w1.drew 48 3
  have hrs := ((hr.mid hm0 (Or.inl (Nat.zero_le _))).mid (hmd.trans hal) (Or.inl (Nat.zero_le _))).rv.rs
  have d0 := D0.cell 0 rfl
  have d1 := D0.cell 1 rfl
  have d2 := D0.cell 2 rfl
  have e0 := E0.cell 0 rfl
  have e1 := E0.cell 1 rfl
  have e2 := E0.cell 2 rfl
  have hmx : 0 + es.length ≤ maxLen := by unfold maxLen; omega
  have hby : (0 + es.length) * 24 ≤ 140737488355328 := by omega
  have hba : w1.drew.heap.size ≤ (w1.drew.alloc (.cells #[] 48)).heap.size := by simp
  have hln : (ints (edI es)).length = es.length * 3 := by rw [ints_len, edI_len]
  have HL := Lib.hid hln
  have HO := Lib.hid (oneInts (edI es))
  have hz1 : w.heap.size + 1 < w1.drew.heap.size := B1.1
  have hz0 : w.heap.size < w1.drew.heap.size := B0.1
  clear hln
  have hnn : (Value.slice (some ⟨w1.drew.heap.size, 0, none⟩) 0 0).ownBlock ≠ none := by simp [Value.ownBlock]
  have HNN := Lib.hid hnn
  clear hnn
  go_region_held3 (fun w' => w'.cell? ⟨w.heap.size, 0, none⟩ = some (.int .i64 r) ∧ w'.cell? ⟨w.heap.size, 1, none⟩ = some (.int .i64 s) ∧ w'.cell? ⟨w.heap.size, 2, none⟩ = some (.slice A es.length c)) (first | exact ⟨d0, d1, d2⟩ | exact ⟨e0, e1, e2⟩ | exact ⟨f0, f1, f2⟩ | exact ⟨x0, x1, x2⟩) ((refine step_cat (by rfl) (.tmp 7) (.tmp 9) 27 (by rfl) _ 48 (.agg #[.int .i64 0, .int .i64 0, .int .i64 0]) 3 24 undSE infoE rfl (by decide) (.slice (some ⟨w1.drew.heap.size, 0, none⟩) 0 0) 0 [] (by rfl) hoe A es.length c _ (ints (edI es)) (by rfl) hrs HL.out HO.out hmx hby hba ?_; intro v2 w2 ho2 hgr2 hat2; obtain ⟨g, c2, rfl, hg1, -, -⟩ := owns_blk ho2 hat2 HNN.out; have hm2 := Mid.of_grownRow hoe hgr2; have F0 := E0.mid hm2 (Or.inl hz0); have F1 := E1.mid hm2 (Or.inl hz1); have f0 := F0.cell 0 rfl; have f1 := F0.cell 1 rfl; have f2 := F0.cell 2 rfl; have p0 := F1.cell 0 rfl; have p1 := F1.cell 1 rfl; have p2 := F1.cell 2 rfl; have pf := F1.2.2; have ms0 := Mid.setCell w2 (lo := w.heap.size + 1) (hi := w.heap.size + 2) (p := ⟨w.heap.size + 1, 0, none⟩) (.int .i64 r) (Nat.le_refl _) (Nat.lt_succ_self _); have ms1 := ms0.trans (Mid.setCell _ (lo := w.heap.size + 1) (hi := w.heap.size + 2) (p := ⟨w.heap.size + 1, 1, none⟩) (.int .i64 s) (Nat.le_refl _) (Nat.lt_succ_self _)); have ms2 := ms1.trans (Mid.setCell _ (lo := w.heap.size + 1) (hi := w.heap.size + 2) (p := ⟨w.heap.size + 1, 2, none⟩) (.slice (some ⟨g, 0, none⟩) es.length c2) (Nat.le_refl _) (Nat.lt_succ_self _)); have X0 := F0.mid ms2 (Or.inl (Nat.lt_succ_self _)); have x0 := X0.cell 0 rfl; have x1 := X0.cell 1 rfl; have x2 := X0.cell 2 rfl))
  go_wp2_with fail
  simp only [Nat.zero_add, List.nil_append] at ho2
  have hmm : Mid 0 0 w w2 := ((hm0.trans hmd).trans hal).transNew hm2 (Or.inl (by have := hm0.size; exact this))
  refine bodyPost_ret (v := .agg #[.int .i64 r, .int .i64 s, .slice (some ⟨g, 0, none⟩) es.length c2]) (by simp [results, Try.results38, go_sem, p0, p1, p2, pf]) rfl ⟨_, c2, rfl, ?_, ?_⟩
  · have h0 : OG w2 w1.drew.heap.size w2.heap.size (some ⟨g, 0, none⟩) c2 es := ⟨Nat.le_refl _, ho2, fun g hg => (ho2.lt g hg).2⟩
    refine OG.wide (OG.mid h0 ms2 (Or.inl (by have := HS.out; show w.heap.size + 2 ≤ w1.heap.size; omega))) (by have := hm0.size; exact this) ?_ (Nat.le_refl _)
    exact ms2.size
  · exact hmm.transNew ms2 (Or.inl (Nat.le_succ _))
end Go.Proofs.Ytkcfbcbkokabdaa
