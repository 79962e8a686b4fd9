/- Contracts and lemmas of this seat, many texts in one: see the words ahead of each. No condition beyond those typed in each lemma. -/
import Derived.Test.YtkaofcakelpnpaaGreatIm6
import Derived.Test.YtkaofcakelpnpaaGreatIm2
import Derived.ChangeAlike
import Derived.Test.YtkaofcakelpnpaaGreatIm4
import Derived.Test.YtkaofcakelpnpaaGreatIm3
import Derived.Test.YtkaofcakelpnpaaGreatIm1
import Derived.Test.YtkaofcakelpnpaaGreatIm5

namespace Go.Proofs.YtkaofcakelpnpaaGreat
set_option linter.unusedVariables false
set_option linter.unusedSimpArgs false
open Go.RowKit
set_option maxHeartbeats 6400000 in
set_option maxRecDepth 100000 in
theorem spec_MergeVertices (r s : Int) (A : Option Addr) (es : List Ed) (c : Nat) (p1 p2 : Int) (w : World) (lo hi : Nat) (hr : RG w lo hi A es) (hg : IsGr r s es) (h0 : 0 ≤ p1) (h1 : p1 < p2) (h2 : p2 < s) :
    Calls Tryz.prog 124 #[graV r s A es.length c, .agg #[.int .i64 p1, .int .i64 p2]] w fun e w' => ∃ A1 c1, e = .returned (.tuple #[graV r (s - 1) A1 (mergeE (p1, p2) es).length c1, .bool true]) ∧ OG w' w.heap.size w'.heap.size A1 c1 (mergeE (p1, p2) es) ∧ Mid 0 0 w w' := by
  have hl := hg.len
  have hs40 := hg.size
  have HG := Lib.hid hg
  have hm0 : Mid 0 0 w (((w.alloc (.cells #[.int .i64 r, .int .i64 s, .slice A es.length c] 32)).alloc (.cells #[.int .i64 p1, .int .i64 p2] 103)).alloc (.cells #[.int .i64 0, .int .i64 0, .slice none 0 0] 32)) := ((Mid.alloc _ _).trans (Mid.alloc _ _)).trans (Mid.alloc _ _)
  have b0 := ((Box.new w #[.int .i64 r, .int .i64 s, .slice A es.length c] 32).mid (Mid.alloc _ (.cells #[.int .i64 p1, .int .i64 p2] 103)) oZr).mid (Mid.alloc _ (.cells #[.int .i64 0, .int .i64 0, .slice none 0 0] 32)) oZr
  have bf := (Box.new (w.alloc (.cells #[.int .i64 r, .int .i64 s, .slice A es.length c] 32)) #[.int .i64 p1, .int .i64 p2] 103).mid (Mid.alloc _ (.cells #[.int .i64 0, .int .i64 0, .slice none 0 0] 32)) oZr
  have b2 := Box.new ((w.alloc (.cells #[.int .i64 r, .int .i64 s, .slice A es.length c] 32)).alloc (.cells #[.int .i64 p1, .int .i64 p2] 103)) #[.int .i64 0, .int .i64 0, .slice none 0 0] 32
  simp only [World.size_alloc, Nat.add_assoc, Nat.reduceAdd] at bf b2
  have d1 : decide (p1 < 0) = false := by simp; omega
  have d2 : decide (p2 ≤ p1) = false := by simp; omega
  have d3 : decide (s ≤ p2) = false := by simp; omega
  clear hg
  go_enter Tryz.func124, Tryz.ntmps124
  go_wp2_with fail
  generalize hw1 : (((w.alloc (.cells #[.int .i64 r, .int .i64 s, .slice A es.length c] 32)).alloc (.cells #[.int .i64 p1, .int .i64 p2] 103)).alloc (.cells #[.int .i64 0, .int .i64 0, .slice none 0 0] 32)) = w1 at hm0 b0 bf b2 ⊢
  clear hw1
  with_reducible refine (spec_IsGraph r s A es c _ _ _ (hr.mid hm0 oZl).rv (by omega) true (iff_of_true rfl HG.out)).mono ?_
  rintro en w4 ⟨rfl, hm4⟩
  replace b0 := b0.mid hm4 oZr
  replace bf := bf.mid hm4 oZr
  replace b2 := b2.mid hm4 oZr
  replace hm0 := hm0.trans hm4
  have hs4 : w.heap.size + 3 ≤ w4.heap.size := b2.1
  have q0 := b0.cell 0 rfl
  have q1 := b0.cell 1 rfl
  have q2 := b0.cell 2 rfl
  have k0 := bf.cell 0 rfl
  have k1 := bf.cell 1 rfl
  have hal := Mid.alloc w4 (.cells #[.int .i64 r, .int .i64 (s - 1), .slice none 0 0] 32)
  have Y3 := Box.new w4 #[.int .i64 r, .int .i64 (s - 1), .slice none 0 0] 32
  replace b0 := b0.mid hal oZr
  replace bf := bf.mid hal oZr
  replace b2 := b2.mid hal oZr
  replace hm0 := hm0.trans hal
  go_wp2_with fail
  clear q0 q1 q2 k0 k1
  have hs5 : (w4.alloc (.cells #[.int .i64 r, .int .i64 (s - 1), .slice none 0 0] 32)).heap.size = w4.heap.size + 1 := by simp
  generalize w4.alloc (.cells #[.int .i64 r, .int .i64 (s - 1), .slice none 0 0] 32) = w5 at Y3 b0 bf b2 hm0 hs5 ⊢
  obtain ⟨G, hG⟩ : ∃ G, w4.heap.size = G := ⟨_, rfl⟩
  rw [hG] at Y3 hs4 hs5 ⊢
  clear hal hm4 hG
  go_loopw [7] (fun i wr => ∃ (q : Nat) (A2 : Option Addr) (c2 lo2 hi2 : Nat) (xs : List Ed), q ≤ es.length ∧ i = .int .i64 q ∧ Hid (xs = putAll [] ((es.take q).map (foldE (p1, p2)))) ∧
      OG wr lo2 hi2 A2 c2 xs ∧ G + 1 ≤ lo2 ∧
      Box wr w.heap.size [.int .i64 r, .int .i64 s, .slice A es.length c] ∧ Box wr (w.heap.size + 1) [.int .i64 p1, .int .i64 p2] ∧ Box wr (w.heap.size + 2) [.int .i64 0, .int .i64 0, .slice none 0 0] ∧ Box wr G [.int .i64 r, .int .i64 (s - 1), .slice A2 xs.length c2] ∧ Mid 0 0 w wr) (fun i _ => es.length - (intOf i).toNat)
  case atStart => exact ⟨0, none, 0, G + 1, _, [], Nat.zero_le _, rfl, Lib.hid rfl, ⟨Nat.le_of_eq hs5.symm, ⟨rfl, .inl ⟨rfl, rfl⟩⟩, fun g hg => by simp [Value.ownBlock] at hg⟩, Nat.le_refl _, b0, bf, b2, Y3, hm0⟩
  case round =>
    clear b0 bf b2 Y3 hm0 hs5
    obtain ⟨q, A2, c2, lo2, hi2, xs, hq, rfl, HX, hown, hlo2, b0, bf, b2, Y3, hm⟩ := hrel
    have hxl : xs.length ≤ 120 := by
      have h1 := putAll_len [] ((es.take q).map (foldE (p1, p2)))
      rw [← HX.out] at h1
      simp at h1
      omega
    by_cases hlt : q < es.length
    · obtain ⟨B, off, e, rfl, -, hbh, he, e0, e1, e2⟩ := (hr.mid hm oZl).ed hlt
      have hin := HG.out.all e (List.mem_of_getElem? he)
      have htk : (es.take (q + 1)).map (foldE (p1, p2)) = (es.take q).map (foldE (p1, p2)) ++ [foldE (p1, p2) e] := by
        rw [take_snoc he, List.map_append]
        rfl
      obtain ⟨i1, i2, i3, i4, i5, i6⟩ := hin
      have hq0 : (0 : Int) ≤ (q : Int) := by omega
      have hq1 : (q : Int) < (es.length : Int) := by omega
      have hal := Mid.alloc wr (.cells #[.int .i64 e.a, .int .i64 e.l, .int .i64 e.b] 64)
      have ZE := Box.new wr #[.int .i64 e.a, .int .i64 e.l, .int .i64 e.b] 64
      have hGr : G < wr.heap.size := Y3.1
      have u0 := b0.cell 0 rfl
      have u1 := b0.cell 1 rfl
      have u2 := b0.cell 2 rfl
      replace b0 := b0.mid hal oZr
      replace bf := bf.mid hal oZr
      replace b2 := b2.mid hal oZr
      replace Y3 := Y3.mid hal oZr
      replace hown := hown.mid hal oZl
      replace hm := hm.trans hal
      have HTK := Lib.hid htk
      clear he htk
      go_wp2_with fail
      clear e0 e1 e2 u0 u1 u2
      generalize hwx : wr.alloc (.cells #[.int .i64 e.a, .int .i64 e.l, .int .i64 e.b] 64) = wx at ZE b0 bf b2 Y3 hown hm ⊢
      generalize hgE : wr.heap.size = E at ZE hGr ⊢
      clear hgE hwx hal
      have hmd := Mid.drew1 wx
      replace b0 := b0.mid hmd oZr
      replace bf := bf.mid hmd oZr
      replace b2 := b2.mid hmd oZr
      replace Y3 := Y3.mid hmd oZr
      replace ZE := ZE.mid hmd oZr
      replace hown := hown.mid hmd oZl
      replace hm := hm.trans hmd
      have f0 := ZE.cell 0 rfl
      have f1 := ZE.cell 1 rfl
      have f2 := ZE.cell 2 rfl
      have g2 := Y3.cell 2 rfl
      have k0 := bf.cell 0 rfl
      have k1 := bf.cell 1 rfl
      obtain ⟨x, hx⟩ : ∃ x, foldV (p1, p2) e.a = x := ⟨_, rfl⟩
      obtain ⟨y, hy⟩ : ∃ y, foldV (p1, p2) e.b = y := ⟨_, rfl⟩
      have HFE : Hid (foldE (p1, p2) e = ⟨x, e.l, y⟩) := Lib.hid (by simp [foldE, hx, hy])
      clear hmd
      refine wp_region_T (S := (fun w' => w'.cell? ⟨E, 0, none⟩ = some (.int .i64 e.a) ∧ w'.cell? ⟨E, 1, none⟩ = some (.int .i64 e.l) ∧ w'.cell? ⟨E, 2, none⟩ = some (.int .i64 e.b) ∧ w'.cell? ⟨G, 2, none⟩ = some (.slice A2 xs.length c2) ∧ w'.cell? ⟨w.heap.size + 1, 0, none⟩ = some (.int .i64 p1) ∧ w'.cell? ⟨w.heap.size + 1, 1, none⟩ = some (.int .i64 p2))) 15 (by kernel_rfl) ⟨f0, f1, f2, g2, k0, k1⟩ ?_
      generalize World.drew wx = wz at b0 bf b2 Y3 ZE hown hm f0 f1 f2 g2 k0 k1 ⊢
      have hS : wz.cell? ⟨E, 0, none⟩ = some (.int .i64 e.a) ∧ wz.cell? ⟨E, 1, none⟩ = some (.int .i64 e.l) ∧ wz.cell? ⟨E, 2, none⟩ = some (.int .i64 e.b) ∧ wz.cell? ⟨G, 2, none⟩ = some (.slice A2 xs.length c2) ∧ wz.cell? ⟨w.heap.size + 1, 0, none⟩ = some (.int .i64 p1) ∧ wz.cell? ⟨w.heap.size + 1, 1, none⟩ = some (.int .i64 p2) := ⟨f0, f1, f2, g2, k0, k1⟩
      have hP1 := spec_l7New p1 p2 e.a wz h1 i1 (by omega)
      rw [hx] at hP1
      refine wpAnyT_take (i := 0) (v := ?_) rfl (by kernel_rfl) (by kernel_rfl) (by kernel_rfl) (by kernel_rfl) (fun _ _ _ h => h) (Or.inl ⟨by rfl, ?_⟩) hS ?_
      rotate_left
      focus (intro w hSw; (try dsimp only at hSw); go_simp; try with_reducible rfl)
      try simp only [Act.put, List.setIfInBounds_toArray, List.set_cons_zero, List.set_cons_succ, List.getElem_toArray, List.getElem_cons_zero, List.getElem_cons_succ]
      refine wpAnyT_take (i := 1) (v := ?_) rfl (by kernel_rfl) (by kernel_rfl) (by kernel_rfl) (by kernel_rfl) (fun _ _ _ h => h) (Or.inl ⟨by rfl, ?_⟩) hS ?_
      rotate_left
      focus (intro w hSw; (try dsimp only at hSw); go_simp; try with_reducible rfl)
      try simp only [Act.put, List.setIfInBounds_toArray, List.set_cons_zero, List.set_cons_succ, List.getElem_toArray, List.getElem_cons_zero, List.getElem_cons_succ]
      refine wpAnyT_take (i := 2) (v := ?_) rfl (by kernel_rfl) (by kernel_rfl) (by kernel_rfl) (by kernel_rfl) (fun _ _ _ h => h) (Or.inl ⟨by rfl, ?_⟩) hS ?_
      rotate_left
      focus (intro w hSw; (try dsimp only at hSw); go_simp; try with_reducible rfl)
      try simp only [Act.put, List.setIfInBounds_toArray, List.set_cons_zero, List.set_cons_succ, List.getElem_toArray, List.getElem_cons_zero, List.getElem_cons_succ]
      refine wpAnyT_take (i := 3) (v := ?_) rfl (by kernel_rfl) (by kernel_rfl) (by kernel_rfl) (by kernel_rfl) (fun _ _ _ h => h) (Or.inl ⟨by rfl, ?_⟩) hS ?_
      rotate_left
      focus (intro w hSw; (try dsimp only at hSw); go_simp; try with_reducible rfl)
      try simp only [Act.put, List.setIfInBounds_toArray, List.set_cons_zero, List.set_cons_succ, List.getElem_toArray, List.getElem_cons_zero, List.getElem_cons_succ]
      refine wpAnyT_take (i := 4) (v := ?_) rfl (by kernel_rfl) (by kernel_rfl) (by kernel_rfl) (by kernel_rfl) (fun _ _ _ h => h) (Or.inl ⟨by rfl, ?_⟩) hS ?_
      rotate_left
      focus (intro w hSw; (try dsimp only at hSw); go_simp; try with_reducible rfl)
      try simp only [Act.put, List.setIfInBounds_toArray, List.set_cons_zero, List.set_cons_succ, List.getElem_toArray, List.getElem_cons_zero, List.getElem_cons_succ]
      refine wpAnyT_take (i := 6) (v := ?_) rfl (by kernel_rfl) (by kernel_rfl) (by kernel_rfl) (by kernel_rfl) (fun _ _ _ h => h) (Or.inl ⟨by rfl, ?_⟩) hS ?_
      rotate_left
      focus (intro w hSw; (try dsimp only at hSw); go_simp; try with_reducible rfl)
      try simp only [Act.put, List.setIfInBounds_toArray, List.set_cons_zero, List.set_cons_succ, List.getElem_toArray, List.getElem_cons_zero, List.getElem_cons_succ]
      refine wpAnyT_take (i := 7) (v := ?_) rfl (by kernel_rfl) (by kernel_rfl) (by kernel_rfl) (by kernel_rfl) (fun _ _ _ h => h) (Or.inl ⟨by rfl, ?_⟩) hS ?_
      rotate_left
      focus (intro w hSw; (try dsimp only at hSw); go_simp; try with_reducible rfl)
      try simp only [Act.put, List.setIfInBounds_toArray, List.set_cons_zero, List.set_cons_succ, List.getElem_toArray, List.getElem_cons_zero, List.getElem_cons_succ]
      refine wpAnyT_take (i := 8) (v := ?_) rfl (by kernel_rfl) (by kernel_rfl) (by kernel_rfl) (by kernel_rfl) (fun _ _ _ h => h) (Or.inl ⟨by rfl, ?_⟩) hS ?_
      rotate_left
      focus (intro w hSw; (try dsimp only at hSw); go_simp; try with_reducible rfl)
      try simp only [Act.put, List.setIfInBounds_toArray, List.set_cons_zero, List.set_cons_succ, List.getElem_toArray, List.getElem_cons_zero, List.getElem_cons_succ]
      refine wpAnyT_take (i := 9) (v := ?_) rfl (by kernel_rfl) (by kernel_rfl) (by kernel_rfl) (by kernel_rfl) (fun _ _ _ h => h) (Or.inl ⟨by rfl, ?_⟩) hS ?_
      rotate_left
      focus (intro w hSw; (try dsimp only at hSw); go_simp; try with_reducible rfl)
      try simp only [Act.put, List.setIfInBounds_toArray, List.set_cons_zero, List.set_cons_succ, List.getElem_toArray, List.getElem_cons_zero, List.getElem_cons_succ]
      refine wpAnyT_take (i := 10) (v := ?_) rfl (by kernel_rfl) (by kernel_rfl) (by kernel_rfl) (by kernel_rfl) (fun _ _ _ h => h) (Or.inl ⟨by rfl, ?_⟩) hS ?_
      rotate_left
      focus (intro w hSw; (try dsimp only at hSw); go_simp; try with_reducible rfl)
      try simp only [Act.put, List.setIfInBounds_toArray, List.set_cons_zero, List.set_cons_succ, List.getElem_toArray, List.getElem_cons_zero, List.getElem_cons_succ]
      refine wpAnyT_ready (rs := [5]) (by kernel_rfl) (by simp) (AllReadyT.cons rfl (fun K hK => ?_) AllReadyT.nil)
      (go_simp; refine hP1.mono ?_; rintro _ w6 ⟨rfl, hc6⟩; have b06 := b0.mid hc6 oZr; have bf6 := bf.mid hc6 oZr; have b26 := b2.mid hc6 oZr; have Y36 := Y3.mid hc6 oZr; have ZE6 := ZE.mid hc6 oZr; have hown6 := OG.mid hown hc6 oZl; have hm6 := hm.trans hc6; have hS6 : w6.cell? ⟨E, 0, none⟩ = some (.int .i64 e.a) ∧ w6.cell? ⟨E, 1, none⟩ = some (.int .i64 e.l) ∧ w6.cell? ⟨E, 2, none⟩ = some (.int .i64 e.b) ∧ w6.cell? ⟨G, 2, none⟩ = some (.slice A2 xs.length c2) ∧ w6.cell? ⟨w.heap.size + 1, 0, none⟩ = some (.int .i64 p1) ∧ w6.cell? ⟨w.heap.size + 1, 1, none⟩ = some (.int .i64 p2) := ⟨ZE6.cell 0 rfl, ZE6.cell 1 rfl, ZE6.cell 2 rfl, Y36.cell 2 rfl, bf6.cell 0 rfl, bf6.cell 1 rfl⟩; go_wp2_with fail)
      refine hK.out _ _ (Or.inr hS6) (fun _ => ?_)
      clear hK K
      try simp only [Act.put, List.setIfInBounds_toArray, List.set_cons_zero, List.set_cons_succ, List.getElem_toArray, List.getElem_cons_zero, List.getElem_cons_succ]
      clear hS hP1 b0 bf b2 Y3 ZE hown hm f0 f1 f2 g2 k0 k1 hc6
      have hP2 := spec_l7New p1 p2 e.b w6 h1 i3 (by omega)
      rw [hy] at hP2
      clear hx hy
      refine wpAnyT_ready (rs := [11]) (by kernel_rfl) (by simp) (AllReadyT.cons rfl (fun K hK => ?_) AllReadyT.nil)
      (go_simp; refine hP2.mono ?_; rintro _ w7 ⟨rfl, hc7⟩; have b07 := b06.mid hc7 oZr; have bf7 := bf6.mid hc7 oZr; have b27 := b26.mid hc7 oZr; have Y37 := Y36.mid hc7 oZr; have ZE7 := ZE6.mid hc7 oZr; have hown7 := OG.mid hown6 hc7 oZl; have hm7 := hm6.trans hc7; have hS7 : w7.cell? ⟨E, 0, none⟩ = some (.int .i64 e.a) ∧ w7.cell? ⟨E, 1, none⟩ = some (.int .i64 e.l) ∧ w7.cell? ⟨E, 2, none⟩ = some (.int .i64 e.b) ∧ w7.cell? ⟨G, 2, none⟩ = some (.slice A2 xs.length c2) ∧ w7.cell? ⟨w.heap.size + 1, 0, none⟩ = some (.int .i64 p1) ∧ w7.cell? ⟨w.heap.size + 1, 1, none⟩ = some (.int .i64 p2) := ⟨ZE7.cell 0 rfl, ZE7.cell 1 rfl, ZE7.cell 2 rfl, Y37.cell 2 rfl, bf7.cell 0 rfl, bf7.cell 1 rfl⟩; go_wp2_with fail)
      refine hK.out _ _ (Or.inr hS7) (fun _ => ?_)
      clear hK K
      try simp only [Act.put, List.setIfInBounds_toArray, List.set_cons_zero, List.set_cons_succ, List.getElem_toArray, List.getElem_cons_zero, List.getElem_cons_succ]
      clear hS6 hP2 b06 bf6 b26 Y36 ZE6 hown6 hm6 hc7
      refine wpAnyT_take (i := 12) (v := ?_) rfl (by kernel_rfl) (by kernel_rfl) (by kernel_rfl) (by kernel_rfl) (fun _ _ _ h => h) (Or.inl ⟨by rfl, ?_⟩) hS7 ?_
      rotate_left
      focus (intro w hSw; (try dsimp only at hSw); go_simp; try with_reducible rfl)
      try simp only [Act.put, List.setIfInBounds_toArray, List.set_cons_zero, List.set_cons_succ, List.getElem_toArray, List.getElem_cons_zero, List.getElem_cons_succ]
      have hQ := spec_l4Put A2 xs c2 ⟨x, e.l, y⟩ w7 _ _ hown7.rg (by omega)
      refine wpAnyT_ready (rs := [13]) (by kernel_rfl) (by simp) (AllReadyT.cons rfl (fun K hK => ?_) AllReadyT.nil)
      (go_simp; refine hQ.mono ?_; rintro en w9 ⟨A9, c9, rfl, ho9, hc9⟩; have b09 := b07.mid hc9 oZr; have bf9 := bf7.mid hc9 oZr; have b29 := b27.mid hc9 oZr; have Y39 := Y37.mid hc9 oZr; have ZE9 := ZE7.mid hc9 oZr; have hown9 := OG.mid hown7 hc9 oZl; have hm9 := hm7.trans hc9; go_wp2_with fail)
      refine hK.out _ _ (Or.inr ⟨ZE9.cell 0 rfl, ZE9.cell 1 rfl, ZE9.cell 2 rfl, Y39.cell 2 rfl, bf9.cell 0 rfl, bf9.cell 1 rfl⟩) (fun _ => ?_)
      clear hK K
      try simp only [Act.put, List.setIfInBounds_toArray, List.set_cons_zero, List.set_cons_succ, List.getElem_toArray, List.getElem_cons_zero, List.getElem_cons_succ]
      have hS9 : w9.cell? ⟨E, 0, none⟩ = some (.int .i64 e.a) ∧ w9.cell? ⟨E, 1, none⟩ = some (.int .i64 e.l) ∧ w9.cell? ⟨E, 2, none⟩ = some (.int .i64 e.b) ∧ w9.cell? ⟨G, 2, none⟩ = some (.slice A2 xs.length c2) ∧ w9.cell? ⟨w.heap.size + 1, 0, none⟩ = some (.int .i64 p1) ∧ w9.cell? ⟨w.heap.size + 1, 1, none⟩ = some (.int .i64 p2) := ⟨ZE9.cell 0 rfl, ZE9.cell 1 rfl, ZE9.cell 2 rfl, Y39.cell 2 rfl, bf9.cell 0 rfl, bf9.cell 1 rfl⟩
      have hr2 := Y39.cell 2 rfl
      have hrf := Y39.2.2
      have hG7 : G + 1 ≤ w7.heap.size := Y37.1
      clear hS7 b07 bf7 b27 Y37 ZE7 hown7 hm7 hc9 hQ
      refine wpAnyT_take (i := 14) (v := ?_) rfl (by kernel_rfl) (by kernel_rfl) (by kernel_rfl) (by kernel_rfl) (fun _ _ _ h => h) (Or.inl ⟨by rfl, ?_⟩) hS9 ?_
      rotate_left
      focus (intro w hSw; (try dsimp only at hSw); go_simp; try with_reducible rfl)
      try simp only [Act.put, List.setIfInBounds_toArray, List.set_cons_zero, List.set_cons_succ, List.getElem_toArray, List.getElem_cons_zero, List.getElem_cons_succ]
      refine wpAnyT_ready (rs := [15]) (by kernel_rfl) (by simp) (AllReadyT.cons rfl (fun K hK => ?_) AllReadyT.nil)
      (go_simp)
      refine hK.out _ _ (Or.inl rfl) (fun _ => ?_)
      clear hK K
      try simp only [Act.put, List.setIfInBounds_toArray, List.set_cons_zero, List.set_cons_succ, List.getElem_toArray, List.getElem_cons_zero, List.getElem_cons_succ]
      refine wpAnyT_done (by kernel_rfl) ?_ _
      go_wp2_with fail
      go_roundw
      case rel =>
        have hst := Mid.setAt w9 G 2 (.slice A9 (putE ⟨x, e.l, y⟩ xs).length c9)
        refine ⟨q + 1, A9, c9, _, _, _, by omega, by go_num, Lib.hid ?_, ho9.mid hst (Or.inl hG7), hG7, b09.mid hst (Or.inl (by omega)), bf9.mid hst (Or.inl (by omega)), b29.mid hst (Or.inl (by omega)), Y39.set 2 _ (by simp) rfl, hm9.storeNew (p := ⟨G, 2, none⟩) (by show w.heap.size ≤ G; omega) _⟩
        rw [HTK.out, putAll_snoc, ← HX.out, HFE.out]
      case measure => simp [intOf]; omega
    · obtain rfl : q = es.length := by omega
      have hxx := HX.out
      rw [List.take_length] at hxx
      have HXX := Lib.hid (show xs = mergeE (p1, p2) es from hxx)
      clear hxx
      have u0 := b0.cell 0 rfl
      have u1 := b0.cell 1 rfl
      have u2 := b0.cell 2 rfl
      have a0 := b2.cell 0 rfl
      have a1 := b2.cell 1 rfl
      have a2 := b2.cell 2 rfl
      have x0 := Y3.cell 0 rfl
      have x1 := Y3.cell 1 rfl
      have x2 := Y3.cell 2 rfl
      have af := b2.2.2
      have xf := Y3.2.2
      have hcl : ¬ w.heap.size + 2 = G := by omega
      have hcl2 : ¬ G = w.heap.size + 2 := by omega
      go_wp2_with fail
      have hcl3 : (w.heap.size + 2 == G) = false := by simpa using hcl
      refine bodyPost_ret (v := .tuple #[.agg #[.int .i64 r, .int .i64 (s - 1), .slice A2 xs.length c2], .bool true]) (by simp [results, Tryz.results124, go_sem, a0, a1, a2, x0, x1, x2, af, xf, hcl]) rfl ⟨A2, c2, by rw [HXX.out], ?_, ?_⟩
      · rw [← HXX.out]
        refine OG.wide (OG.mid hown (a := w.heap.size) (b := G + 1) ?_ (Or.inl hlo2)) (by omega) (by have := hown.size; simpa using this) (Nat.le_refl _)
        repeat (first | exact Mid.refl _ _ _ | refine Mid.stored ?_ _ (by simp; try omega) (by simp; try omega))
      · repeat (first | exact hm | refine Mid.storeNew ?_ (by simp; try omega) _)
end Go.Proofs.YtkaofcakelpnpaaGreat

namespace Go.Proofs.YtkaofcakelpnpaaGreat
set_option linter.unusedVariables false
set_option linter.unusedSimpArgs false
open Go.RowKit
set_option maxHeartbeats 6400000 in
set_option maxRecDepth 20000 in
theorem spec_l7Folds (r s : Int) (A : Option Addr) (es : List Ed) (c : Nat) (w : World) (lo hi : Nat) (hr : RG w lo hi A es) (hl : es.length ≤ 120) :
    Calls Tryz.prog 130 #[graV r s A es.length c] w fun e w' => ∃ A1 c1, e = .returned (.slice A1 (folds es).length c1) ∧ RV w' 0 w'.heap.size A1 (ints (fdI (folds es))) ∧ Mid 0 0 w w' := by
  have hm0 : Mid 0 0 w ((w.alloc (.cells #[.int .i64 r, .int .i64 s, .slice A es.length c] 32)).alloc (.cells #[] 103)) := (Mid.alloc _ _).trans (Mid.alloc _ _)
  have b0 := (Box.new w #[.int .i64 r, .int .i64 s, .slice A es.length c] 32).mid (Mid.alloc _ (.cells #[] 103)) oZr
  have O0 := owns_empty (w.alloc (.cells #[.int .i64 r, .int .i64 s, .slice A es.length c] 32)) 103 2
  rw [World.size_alloc] at O0
  go_enter Tryz.func130, Tryz.ntmps130
  go_wp2_with fail
  go_loopw [3, 4] (fun out iv wr => ∃ (k : Nat) (A1 : Option Addr) (n1 c1 : Nat), k ≤ es.length ∧ iv = .int .i64 k ∧ out = .slice A1 n1 c1 ∧ Hid ((foldsUp es k).length = n1) ∧ wr.ownsRow (w.heap.size + 1) 103 2 (.slice A1 n1 c1) n1 (ints (fdI (foldsUp es k))) ∧
      Box wr w.heap.size [.int .i64 r, .int .i64 s, .slice A es.length c] ∧ Mid 0 0 w wr) (fun _ i _ => es.length - (intOf i).toNat)
  case atStart => exact ⟨0, _, 0, 0, Nat.zero_le _, rfl, rfl, Lib.hid rfl, O0, b0, hm0⟩
  case round =>
    clear O0 b0 hm0
    obtain ⟨wo, hwo⟩ : ∃ wo, wo = wr := ⟨_, rfl⟩
    subst hwo
    obtain ⟨k, A1, n1, c1, hk, rfl, rfl, HN, hown, b0, hm⟩ := hrel
    have q0 := b0.cell 0 rfl
    have q1 := b0.cell 1 rfl
    have q2 := b0.cell 2 rfl
    by_cases hlt : k < es.length
    · obtain ⟨e, he⟩ := get_of_lt es hlt
      have HE := Lib.hid he
      have hk0 : (0 : Int) ≤ (k : Int) := by omega
      have hk1 : (k : Int) < (es.length : Int) := by omega
      clear he
      go_wp2_with fail
      clear q0 q1 q2
      go_loopw [3, 5] (fun out jv wr => ∃ (j : Nat) (A2 : Option Addr) (n2 c2 : Nat), k + 1 + j ≤ es.length ∧ jv = .int .i64 ((k + 1 + j : Nat) : Int) ∧ out = .slice A2 n2 c2 ∧ Hid ((foldsUp es k ++ ((es.drop (k + 1)).take j).flatMap (foldsAB e)).length = n2) ∧
          wr.ownsRow (w.heap.size + 1) 103 2 (.slice A2 n2 c2) n2 (ints (fdI (foldsUp es k ++ ((es.drop (k + 1)).take j).flatMap (foldsAB e)))) ∧
          Box wr w.heap.size [.int .i64 r, .int .i64 s, .slice A es.length c] ∧ Mid 0 0 w wr) (fun _ j _ => es.length - (intOf j).toNat)
      case atStart => exact ⟨0, A1, n1, c1, by omega, by go_num, rfl, Lib.hid (by simpa using HN.out), by simpa using hown, b0, hm⟩
      case round =>
        clear hown b0 hm HN
        obtain ⟨j, A2, n2, c2, hj, rfl, rfl, HN, hown, b0, hm⟩ := hrel
        have hn2 : n2 ≤ 40000 := by
          have h1 := foldsUp_len es k
          have h2 := flat_len e ((es.drop (k + 1)).take j)
          have h3 := HN.out
          have h4 : k * (2 * es.length) ≤ 120 * 240 := Nat.mul_le_mul (by omega) (by omega)
          rw [List.length_append] at h3
          rw [List.length_take, List.length_drop] at h2
          omega
        obtain ⟨m, hmj⟩ : ∃ m, k + 1 + j = m := ⟨_, rfl⟩
        rw [hmj]
        have HM := Lib.hid hmj
        rw [hmj] at hj
        clear hmj
        have q0 := b0.cell 0 rfl
        have q1 := b0.cell 1 rfl
        have q2 := b0.cell 2 rfl
        by_cases hlt2 : m < es.length
        · obtain ⟨B, off, e', rfl, -, hbh, he', e0, e1c, e2c⟩ := (hr.mid hm oZl).ed hlt
          rw [HE.out] at he'
          injection he' with he'
          subst he'
          obtain ⟨B', off', f, hX, -, hbh2, hf, f0, f1, f2⟩ := (hr.mid hm oZl).ed hlt2
          injection hX with hX
          injection hX with hX1 hX2
          subst hX1 hX2
          have HF := Lib.hid (flat_take (e := e) (show (es.drop (k + 1))[j]? = some f by rw [List.getElem?_drop, HM.out]; exact hf))
          have hj0 : (0 : Int) ≤ (m : Int) := by omega
          have hjn : (m : Int) < (es.length : Int) := by omega
          have zb : B < wr.heap.size := Nat.lt_of_lt_of_le hbh (hr.mid hm oZl).1
          have h0r : w.heap.size < wr.heap.size := b0.1
          have hal := (Mid.alloc wr (.cells #[.int .i64 e.a, .int .i64 e.l, .int .i64 e.b] 64)).trans (Mid.alloc (wr.alloc (.cells #[.int .i64 e.a, .int .i64 e.l, .int .i64 e.b] 64)) (.cells #[.int .i64 f.a, .int .i64 f.l, .int .i64 f.b] 64))
          have ZE := (Box.new wr #[.int .i64 e.a, .int .i64 e.l, .int .i64 e.b] 64).mid (Mid.alloc (wr.alloc (.cells #[.int .i64 e.a, .int .i64 e.l, .int .i64 e.b] 64)) (.cells #[.int .i64 f.a, .int .i64 f.l, .int .i64 f.b] 64)) oZr
          have ZF := Box.new (wr.alloc (.cells #[.int .i64 e.a, .int .i64 e.l, .int .i64 e.b] 64)) #[.int .i64 f.a, .int .i64 f.l, .int .i64 f.b] 64
          rw [World.size_alloc] at ZF
          have HNE := Lib.hid (show Value.ownBlock (.slice A2 n2 c2) ≠ some wr.heap.size from fun h => by have := (hown.lt _ h).2; omega)
          have HFE := Lib.hid (show Value.ownBlock (.slice A2 n2 c2) ≠ some (wr.heap.size + 1) from fun h => by have := (hown.lt _ h).2; omega)
          have hB0 := Lib.hid (fun (g : Nat) (h : Value.ownBlock (.slice A2 n2 c2) = some g) => (hown.lt g h).1)
          replace b0 := b0.mid hal oZr
          replace hown := owns_mid hown hal oZl
          replace hm := hm.trans hal
          have HW := Lib.hid hown
          have hszA : w.heap.size + 1 ≤ ((wr.alloc (.cells #[.int .i64 e.a, .int .i64 e.l, .int .i64 e.b] 64)).alloc (.cells #[.int .i64 f.a, .int .i64 f.l, .int .i64 f.b] 64)).heap.size := by simp; omega
          clear hf hown hal
          by_cases e1 : e.l = f.l
          · have d1 : (e.l == f.l) = true := by simpa using e1
            by_cases e2 : e.a = f.a
            · have d2 : (e.a == f.a) = true := by simpa using e2
              by_cases e3 : e.b = f.b
              · have d3 : (e.b == f.b) = true := by simpa using e3
                have hAB : foldsAB e f = [(min e.b f.b, max e.b f.b), (min e.a f.a, max e.a f.a)] := by simp [foldsAB, e1, e2, e3]
                have HAB : Hid (foldsUp es k ++ ((es.drop (k + 1)).take (j + 1)).flatMap (foldsAB e) = (foldsUp es k ++ ((es.drop (k + 1)).take j).flatMap (foldsAB e)) ++ [(min e.b f.b, max e.b f.b)] ++ [(min e.a f.a, max e.a f.a)]) := Lib.hid (by rw [HF.out, hAB]; simp)
                clear e1 e2 e3 hAB
                go_wp2_with (first | (at_builtin; refine wpList_pushF rfl _ _ rfl (w.heap.size + 1) A2 n2 c2 _ rfl HW.out (min e.b f.b, max e.b f.b) (by rw [World.size_alloc, World.size_alloc]; rfl) (by omega) hszA ?_; intro A8 c8 w8 ho8 hgr8 hat8; have ZE8 := ZE.grown hgr8 HNE.out; have ZF8 := ZF.grown hgr8 HFE.out; have g80 := ZE8.cell 0 rfl; have g81 := ZE8.cell 1 rfl; have g82 := ZE8.cell 2 rfl; have h80 := ZF8.cell 0 rfl; have h81 := ZF8.cell 1 rfl; have h82 := ZF8.cell 2 rfl; have HW8 := Lib.hid ho8; have hsz8 := Nat.le_trans hszA hgr8.size; clear ho8) | (at_builtin; refine wpList_pushF rfl _ _ rfl (w.heap.size + 1) A8 (n2 + 1) c8 _ rfl HW8.out (min e.a f.a, max e.a f.a) rfl (by omega) hsz8 ?_; intro A9 c9 w9 ho9 hgr9 hat9))
                have hm8 := Mid.of_grownRow HW.out hgr8
                have hm9 := Mid.of_grownRow HW8.out hgr9
                have HB8 := Lib.hid (fun (g : Nat) (h : Value.ownBlock (.slice A8 (n2 + 1) c8) = some g) => (HW8.out.lt g h).1)
                clear hat9 hat8
                go_roundw
                case rel => exact ⟨j + 1, A9, n2 + 1 + 1, c9, by have := HM.out; omega, by have := HM.out; go_num, rfl, Lib.hid (by rw [HAB.out, List.length_append, List.length_append, HN.out]; rfl), by rw [HAB.out]; exact ho9, (b0.grown hgr8 (fun h => by have := hB0.out _ h; omega)).grown hgr9 (fun h => by have := HB8.out _ h; omega), (hm.transNew hm8 (Or.inl (Nat.le_succ _))).transNew hm9 (Or.inl (Nat.le_succ _))⟩
                case measure => have := HM.out; simp [intOf]; omega
              · have d3 : (e.b == f.b) = false := by simpa only [beq_eq_false_iff_ne] using e3
                have hAB : foldsAB e f = [(min e.b f.b, max e.b f.b)] := by simp [foldsAB, e1, e2, e3]
                have HAB : Hid (foldsUp es k ++ ((es.drop (k + 1)).take (j + 1)).flatMap (foldsAB e) = (foldsUp es k ++ ((es.drop (k + 1)).take j).flatMap (foldsAB e)) ++ [(min e.b f.b, max e.b f.b)]) := Lib.hid (by rw [HF.out, hAB, List.append_assoc])
                clear e1 e2 e3 hAB
                go_wp2_with (at_builtin; refine wpList_pushF rfl _ _ rfl (w.heap.size + 1) A2 n2 c2 _ rfl HW.out (min e.b f.b, max e.b f.b) (by rw [World.size_alloc, World.size_alloc]; rfl) (by omega) hszA ?_; intro A9 c9 w9 ho9 hgr9 hat9; have ZE8 := ZE.grown hgr9 HNE.out; have ZF8 := ZF.grown hgr9 HFE.out; have g80 := ZE8.cell 0 rfl; have g81 := ZE8.cell 1 rfl; have g82 := ZE8.cell 2 rfl; have h80 := ZF8.cell 0 rfl; have h81 := ZF8.cell 1 rfl; have h82 := ZF8.cell 2 rfl)
                have hm9 := Mid.of_grownRow HW.out hgr9
                clear hat9
                go_roundw
                case rel => exact ⟨j + 1, A9, n2 + 1, c9, by have := HM.out; omega, by have := HM.out; go_num, rfl, Lib.hid (by rw [HAB.out, List.length_append, HN.out]; rfl), by rw [HAB.out]; exact ho9, b0.grown hgr9 (fun h => by have := hB0.out _ h; omega), hm.transNew hm9 (Or.inl (Nat.le_succ _))⟩
                case measure => have := HM.out; simp [intOf]; omega
            · have d2 : (e.a == f.a) = false := by simpa only [beq_eq_false_iff_ne] using e2
              by_cases e3 : e.b = f.b
              · have d3 : (e.b == f.b) = true := by simpa using e3
                have hAB : foldsAB e f = [(min e.a f.a, max e.a f.a)] := by simp [foldsAB, e1, e2, e3]
                have HAB : Hid (foldsUp es k ++ ((es.drop (k + 1)).take (j + 1)).flatMap (foldsAB e) = (foldsUp es k ++ ((es.drop (k + 1)).take j).flatMap (foldsAB e)) ++ [(min e.a f.a, max e.a f.a)]) := Lib.hid (by rw [HF.out, hAB, List.append_assoc])
                clear e1 e2 e3 hAB
                go_wp2_with (at_builtin; refine wpList_pushF rfl _ _ rfl (w.heap.size + 1) A2 n2 c2 _ rfl HW.out (min e.a f.a, max e.a f.a) (by rw [World.size_alloc, World.size_alloc]; rfl) (by omega) hszA ?_; intro A9 c9 w9 ho9 hgr9 hat9; have ZE8 := ZE.grown hgr9 HNE.out; have ZF8 := ZF.grown hgr9 HFE.out; have g80 := ZE8.cell 0 rfl; have g81 := ZE8.cell 1 rfl; have g82 := ZE8.cell 2 rfl; have h80 := ZF8.cell 0 rfl; have h81 := ZF8.cell 1 rfl; have h82 := ZF8.cell 2 rfl)
                have hm9 := Mid.of_grownRow HW.out hgr9
                clear hat9
                go_roundw
                case rel => exact ⟨j + 1, A9, n2 + 1, c9, by have := HM.out; omega, by have := HM.out; go_num, rfl, Lib.hid (by rw [HAB.out, List.length_append, HN.out]; rfl), by rw [HAB.out]; exact ho9, b0.grown hgr9 (fun h => by have := hB0.out _ h; omega), hm.transNew hm9 (Or.inl (Nat.le_succ _))⟩
                case measure => have := HM.out; simp [intOf]; omega
              · have d3 : (e.b == f.b) = false := by simpa only [beq_eq_false_iff_ne] using e3
                have hAB : foldsAB e f = [] := by simp [foldsAB, e1, e2, e3]
                have HAB : Hid (((es.drop (k + 1)).take (j + 1)).flatMap (foldsAB e) = ((es.drop (k + 1)).take j).flatMap (foldsAB e)) := Lib.hid (by rw [HF.out, hAB, List.append_nil])
                clear e1 e2 e3 hAB
                go_wp2_with fail
                go_roundw
                case rel => exact ⟨j + 1, A2, n2, c2, by have := HM.out; omega, by have := HM.out; go_num, rfl, by rw [HAB.out]; exact HN, by rw [HAB.out]; exact HW.out, b0, hm⟩
                case measure => have := HM.out; simp [intOf]; omega
          · have d1 : (e.l == f.l) = false := by simpa only [beq_eq_false_iff_ne] using e1
            have hAB : foldsAB e f = [] := by unfold foldsAB; rw [if_neg e1]
            have HAB : Hid (((es.drop (k + 1)).take (j + 1)).flatMap (foldsAB e) = ((es.drop (k + 1)).take j).flatMap (foldsAB e)) := Lib.hid (by rw [HF.out, hAB, List.append_nil])
            clear e1 hAB
            go_wp2_with fail
            go_roundw
            case rel => exact ⟨j + 1, A2, n2, c2, by have := HM.out; omega, by have := HM.out; go_num, rfl, by rw [HAB.out]; exact HN, by rw [HAB.out]; exact HW.out, b0, hm⟩
            case measure => have := HM.out; simp [intOf]; omega
        · have hje : j = es.length - (k + 1) := by have := HM.out; omega
          subst hje
          rw [List.take_of_length_le (by rw [List.length_drop]; exact Nat.le_refl _), ← foldsUp_succ HE.out] at HN hown
          obtain rfl : m = es.length := by omega
          go_wp2_with fail
          go_roundw
          case rel => exact ⟨k + 1, A2, n2, c2, by omega, by go_num, rfl, HN, hown, b0, hm⟩
          case measure => simp [intOf]; omega
    · obtain rfl : k = es.length := by omega
      rw [foldsUp_all] at HN hown
      go_wp2_with fail
      go_ret
      have hn := HN.out
      subst hn
      exact ⟨A1, c1, rfl, (owns_rv hown).wide (Nat.zero_le _) (Nat.le_refl _) (Nat.le_refl _), hm⟩
end Go.Proofs.YtkaofcakelpnpaaGreat

namespace Go.Proofs.YtkaofcakelpnpaaGreat
set_option linter.unusedVariables false
set_option linter.unusedSimpArgs false
open Go.RowKit
set_option maxHeartbeats 1600000 in
theorem spec_FirstFold (r s : Int) (A : Option Addr) (es : List Ed) (c : Nat) (w : World) (lo hi : Nat) (hr : RG w lo hi A es) (hg : IsGr r s es) (p : Int × Int) (b : Bool) (hp : FirstIs es p b) :
    Calls Tryz.prog 123 #[graV r s A es.length c] w fun e w' => e = .returned (.tuple #[.agg #[.int .i64 p.1, .int .i64 p.2], .bool b]) ∧ Mid 0 0 w w' := by
  have hl := hg.len
  have HG := Lib.hid hg
  have hm0 : Mid 0 0 w ((w.alloc (.cells #[.int .i64 r, .int .i64 s, .slice A es.length c] 32)).alloc (.cells #[.int .i64 0, .int .i64 0] 103)) := (Mid.alloc _ _).trans (Mid.alloc _ _)
  have b0 := (Box.new w #[.int .i64 r, .int .i64 s, .slice A es.length c] 32).mid (Mid.alloc _ (.cells #[.int .i64 0, .int .i64 0] 103)) oZr
  have b2 := Box.new (w.alloc (.cells #[.int .i64 r, .int .i64 s, .slice A es.length c] 32)) #[.int .i64 0, .int .i64 0] 103
  rw [World.size_alloc] at b2
  clear hg
  obtain ⟨p1, p2⟩ := p
  go_enter Tryz.func123, Tryz.ntmps123
  go_wp2_with fail
  with_reducible refine (spec_IsGraph r s A es c _ _ _ (hr.mid hm0 oZl).rv (by omega) true (iff_of_true rfl HG.out)).mono ?_
  rintro en w1 ⟨rfl, hm1⟩
  replace b0 := b0.mid hm1 oZr
  replace b2 := b2.mid hm1 oZr
  replace hm0 := hm0.trans hm1
  have q0 := b0.cell 0 rfl
  have q1 := b0.cell 1 rfl
  have q2 := b0.cell 2 rfl
  go_wp2_with fail
  with_reducible refine (spec_l7Folds r s A es c _ _ _ (hr.mid hm0 oZl) hl).mono ?_
  rintro en w2 ⟨A2, c2, rfl, hrv, hm2⟩
  replace b2 := b2.mid hm2 oZr
  replace hm0 := hm0.trans hm2
  have zf := b2.2.2
  have z0 := b2.cell 0 rfl
  have z1 := b2.cell 1 rfl
  clear q0 q1 q2 hm1 hm2
  rcases hp with ⟨rfl, hn, hpp⟩ | ⟨rfl, t, ht⟩
  · injection hpp with h1 h2
    subst h1 h2
    have hn0 : (folds es).length = 0 := by rw [hn]; rfl
    clear hn
    go_wp2_with fail
    refine bodyPost_ret (v := .tuple #[.agg #[.int .i64 0, .int .i64 0], .bool false]) (by simp [results, Tryz.results123, go_sem, z0, z1, zf]) rfl ⟨rfl, ?_⟩
    repeat (first | exact hm0 | refine Mid.storeNew ?_ (by simp; try omega) _)
  · obtain ⟨nl, hnl⟩ : ∃ nl, (folds es).length = nl + 1 := ⟨t.length, by rw [ht]; rfl⟩
    obtain ⟨g, off, rfl, -, -, hc⟩ := hrv.2 (by rw [ht]; simp [fdI_head, ints])
    have y0 := hc 0 (.int .i64 p1) (by rw [ht]; simp [fdI_head, ints])
    have y1 := hc 1 (.int .i64 p2) (by rw [ht]; simp [fdI_head, ints])
    rw [Nat.add_zero] at y0
    have hd : ((nl + 1 : Nat) == 0) = false := by simp
    rw [hnl]
    have h1 : (0 : Int) < ((nl + 1 : Nat) : Int) := by omega
    clear hc ht hrv hnl
    go_wp2_with fail
    refine bodyPost_ret (v := .tuple #[.agg #[.int .i64 p1, .int .i64 p2], .bool true]) (by simp [results, Tryz.results123, go_sem, z0, z1, zf]) rfl ⟨rfl, ?_⟩
    repeat (first | exact hm0 | refine Mid.storeNew ?_ (by simp; try omega) _)
end Go.Proofs.YtkaofcakelpnpaaGreat

namespace Go.Proofs.YtkaofcakelpnpaaGreat
set_option linter.unusedVariables false
set_option linter.unusedSimpArgs false
open Go.RowKit
set_option maxHeartbeats 3200000 in
set_option maxRecDepth 20000 in
theorem spec_FoldOnce (r s : Int) (A : Option Addr) (es : List Ed) (c : Nat) (w : World) (lo hi : Nat) (hr : RG w lo hi A es) (hg : IsGr r s es) (p : Int × Int) (b : Bool) (rs : Int) (res : List Ed) (hp : OnceIs s es p b rs res) :
    Calls Tryz.prog 115 #[graV r s A es.length c] w fun e w' => ∃ A1 c1, e = .returned (.tuple #[graV r rs A1 res.length c1, .agg #[.int .i64 p.1, .int .i64 p.2], .bool b]) ∧ OG w' w.heap.size w'.heap.size A1 c1 res ∧ Mid 0 0 w w' := by
  have hl := hg.len
  have HG := Lib.hid hg
  have hm0 : Mid 0 0 w (((w.alloc (.cells #[.int .i64 r, .int .i64 s, .slice A es.length c] 32)).alloc (.cells #[.int .i64 0, .int .i64 0, .slice none 0 0] 32)).alloc (.cells #[.int .i64 0, .int .i64 0] 103)) := ((Mid.alloc _ _).trans (Mid.alloc _ _)).trans (Mid.alloc _ _)
  have b0 := ((Box.new w #[.int .i64 r, .int .i64 s, .slice A es.length c] 32).mid (Mid.alloc _ (.cells #[.int .i64 0, .int .i64 0, .slice none 0 0] 32)) oZr).mid (Mid.alloc _ (.cells #[.int .i64 0, .int .i64 0] 103)) oZr
  have b2 := (Box.new (w.alloc (.cells #[.int .i64 r, .int .i64 s, .slice A es.length c] 32)) #[.int .i64 0, .int .i64 0, .slice none 0 0] 32).mid (Mid.alloc _ (.cells #[.int .i64 0, .int .i64 0] 103)) oZr
  have b3 := Box.new ((w.alloc (.cells #[.int .i64 r, .int .i64 s, .slice A es.length c] 32)).alloc (.cells #[.int .i64 0, .int .i64 0, .slice none 0 0] 32)) #[.int .i64 0, .int .i64 0] 103
  simp only [World.size_alloc, Nat.add_assoc, Nat.reduceAdd] at b2 b3
  have hF := hp.first
  have HF := Lib.hid hF
  clear hg hF
  obtain ⟨p1, p2⟩ := p
  go_enter Tryz.func115, Tryz.ntmps115
  go_wp2_with fail
  generalize hw1 : (((w.alloc (.cells #[.int .i64 r, .int .i64 s, .slice A es.length c] 32)).alloc (.cells #[.int .i64 0, .int .i64 0, .slice none 0 0] 32)).alloc (.cells #[.int .i64 0, .int .i64 0] 103)) = w1 at hm0 b0 b2 b3 ⊢
  clear hw1
  with_reducible refine (spec_FirstFold r s A es c _ _ _ (hr.mid hm0 oZl) HG.out (p1, p2) b HF.out).mono ?_
  rintro en w2 ⟨rfl, hm2⟩
  replace b0 := b0.mid hm2 oZr
  replace b2 := b2.mid hm2 oZr
  replace b3 := b3.mid hm2 oZr
  replace hm0 := hm0.trans hm2
  have hbs0 := b0.1
  have hbs2 := b2.1
  have hbs3 := b3.1
  have u0 := b0.cell 0 rfl
  have u1 := b0.cell 1 rfl
  have u2 := b0.cell 2 rfl
  have hal := Mid.alloc w2 (.cells #[.int .i64 p1, .int .i64 p2] 103)
  have bf := Box.new w2 #[.int .i64 p1, .int .i64 p2] 103
  replace b0 := b0.mid hal oZr
  replace b2 := b2.mid hal oZr
  replace b3 := b3.mid hal oZr
  replace hm0 := hm0.trans hal
  clear hm2
  rcases hp with ⟨rfl, hn, hpp, rfl, rfl⟩ | ⟨rfl, ⟨t, ht⟩, rfl, hres⟩
  · injection hpp with h1 h2
    subst h1 h2
    clear hn
    go_wp2_with fail
    clear u0 u1 u2
    generalize hw3 : w2.alloc (.cells #[.int .i64 0, .int .i64 0] 103) = w3 at b0 b2 b3 bf hm0 ⊢
    clear hw3 hal
    with_reducible refine (spec_l4Copy r rs A res c _ _ _ (hr.mid hm0 oZl) (by omega)).mono ?_
    rintro en w4 ⟨A4, c4, rfl, hog, hm4⟩
    have hs3 : w.heap.size + 3 ≤ w3.heap.size := b3.1
    replace b2 := b2.mid hm4 oZr
    replace b3 := b3.mid hm4 oZr
    replace hm0 := hm0.trans hm4
    have a0 := b2.cell 0 rfl
    have a1 := b2.cell 1 rfl
    have a2 := b2.cell 2 rfl
    have x0 := b3.cell 0 rfl
    have x1 := b3.cell 1 rfl
    have af := b2.2.2
    have xf := b3.2.2
    go_wp2_with fail
    refine bodyPost_ret (v := .tuple #[.agg #[.int .i64 r, .int .i64 rs, .slice A4 res.length c4], .agg #[.int .i64 0, .int .i64 0], .bool false]) (by simp [results, Tryz.results115, go_sem, a0, a1, a2, x0, x1, af, xf]) rfl ⟨A4, c4, rfl, ?_, ?_⟩
    · refine OG.wide (OG.mid hog (a := w.heap.size + 1) (b := w.heap.size + 3) ?_ (Or.inl (by omega))) (by omega) (by simp) (Nat.le_refl _)
      repeat (first | exact Mid.refl _ _ _ | refine Mid.stored ?_ _ (by simp; try omega) (by simp; try omega))
    · repeat (first | exact hm0 | refine Mid.storeNew ?_ (by simp; try omega) _)
  · obtain ⟨k1, k2, k3⟩ := mem_folds HG.out.all HG.out.asc (p := (p1, p2)) (by rw [ht]; simp)
    simp only at k1 k2 k3
    have HRES := Lib.hid hres
    clear ht hres
    have y0 := bf.cell 0 rfl
    have y1 := bf.cell 1 rfl
    go_wp2_with fail
    clear u0 u1 u2 y0 y1
    generalize hw3 : w2.alloc (.cells #[.int .i64 p1, .int .i64 p2] 103) = w3 at b0 b2 b3 bf hm0 ⊢
    have hs3 : w3.heap.size = w2.heap.size + 1 := by rw [← hw3]; simp
    clear hw3 hal
    obtain ⟨F, hF⟩ : ∃ F, w2.heap.size = F := ⟨_, rfl⟩
    rw [hF] at bf hs3 hbs0 hbs2 hbs3 ⊢
    clear hF
    with_reducible refine (spec_MergeVertices r s A es c p1 p2 _ _ _ (hr.mid hm0 oZl) HG.out k1 k2 k3).mono ?_
    rintro en w4 ⟨A4, c4, rfl, hog, hm4⟩
    rw [← HRES.out] at hog ⊢
    have hsz4 := hm4.size
    replace b2 := b2.mid hm4 oZr
    replace b3 := b3.mid hm4 oZr
    replace bf := bf.mid hm4 oZr
    replace hm0 := hm0.trans hm4
    have hal4 := Mid.alloc w4 (.cells #[.int .i64 r, .int .i64 (s - 1), .slice A4 res.length c4] 32)
    have bg := Box.new w4 #[.int .i64 r, .int .i64 (s - 1), .slice A4 res.length c4] 32
    replace b2 := b2.mid hal4 oZr
    replace b3 := b3.mid hal4 oZr
    replace bf := bf.mid hal4 oZr
    replace hog := hog.mid hal4 oZl
    replace hm0 := hm0.trans hal4
    go_wp2_with fail
    generalize hw5 : w4.alloc (.cells #[.int .i64 r, .int .i64 (s - 1), .slice A4 res.length c4] 32) = w5 at b2 b3 bf bg hog hm0 ⊢
    have hs5 : w5.heap.size = w4.heap.size + 1 := by rw [← hw5]; simp
    clear hw5 hal4
    obtain ⟨H, hH⟩ : ∃ H, w4.heap.size = H := ⟨_, rfl⟩
    rw [hH] at bg hsz4 hs5 hog ⊢
    clear hH
    have a0 := b2.cell 0 rfl
    have a1 := b2.cell 1 rfl
    have a2 := b2.cell 2 rfl
    have x0 := b3.cell 0 rfl
    have x1 := b3.cell 1 rfl
    have y0 := bf.cell 0 rfl
    have y1 := bf.cell 1 rfl
    have z0 := bg.cell 0 rfl
    have z1 := bg.cell 1 rfl
    have z2 := bg.cell 2 rfl
    have af := b2.2.2
    have xf := b3.2.2
    have n1 : ¬ w.heap.size + 1 = H := by omega
    have n2 : ¬ w.heap.size + 2 = H := by omega
    have n3 : ¬ w.heap.size + 1 = F := by omega
    have n4 : ¬ w.heap.size + 2 = F := by omega
    have n5 : ¬ F = H := by omega
    go_region
    go_wp2_with fail
    refine bodyPost_ret (v := .tuple #[.agg #[.int .i64 r, .int .i64 (s - 1), .slice A4 res.length c4], .agg #[.int .i64 p1, .int .i64 p2], .bool true]) (by simp [results, Tryz.results115, go_sem, a0, a1, a2, x0, x1, af, xf]) rfl ⟨A4, c4, rfl, ?_, ?_⟩
    · refine OG.wide (OG.mid hog (a := w.heap.size + 1) (b := w.heap.size + 3) ?_ (Or.inl (by omega))) (by omega) (by have := hog.size; simp; omega) (Nat.le_refl _)
      refine Mid.trans ?_ (Mid.drew1 _).zero
      repeat (first | exact Mid.refl _ _ _ | refine Mid.stored ?_ _ (by simp; try omega) (by simp; try omega))
    · refine Mid.trans ?_ (Mid.drew1 _)
      repeat (first | exact hm0 | refine Mid.storeNew ?_ (by simp; try omega) _)
end Go.Proofs.YtkaofcakelpnpaaGreat

namespace Go.Proofs.YtkaofcakelpnpaaGreat
set_option linter.unusedVariables false
set_option linter.unusedSimpArgs false
open Go.RowKit
set_option maxHeartbeats 3200000 in
set_option maxRecDepth 20000 in
theorem spec_FoldAll (r : Int) (n : Nat) (A : Option Addr) (es : List Ed) (c : Nat) (w : World) (lo hi : Nat) (hr : RG w lo hi A es) (hg : IsGr r n es) :
    Calls Tryz.prog 100 #[graV r n A es.length c] w fun e w' => ∃ A1 c1 Al nl cl, e = .returned (.tuple #[graV r (foldA 40 ((n : Int), es)).1 A1 (foldA 40 ((n : Int), es)).2.length c1, .slice Al nl cl]) ∧ OG w' w.heap.size w'.heap.size A1 c1 (foldA 40 ((n : Int), es)).2 ∧ Mid 0 0 w w' := by
  have hn40 : n ≤ 40 := by have := hg.size; omega
  have hl := hg.len
  have hm0 : Mid 0 0 w ((w.alloc (.cells #[.int .i64 r, .int .i64 n, .slice A es.length c] 32)).alloc (.cells #[.int .i64 0, .int .i64 0, .slice none 0 0] 32)) := (Mid.alloc _ _).trans (Mid.alloc _ _)
  have b0 := (Box.new w #[.int .i64 r, .int .i64 n, .slice A es.length c] 32).mid (Mid.alloc _ (.cells #[.int .i64 0, .int .i64 0, .slice none 0 0] 32)) oZr
  have b2 := Box.new (w.alloc (.cells #[.int .i64 r, .int .i64 n, .slice A es.length c] 32)) #[.int .i64 0, .int .i64 0, .slice none 0 0] 32
  simp only [World.size_alloc] at b2
  have HG := Lib.hid hg
  obtain ⟨T, hT⟩ : ∃ T, foldA 40 ((n : Int), es) = T := ⟨_, rfl⟩
  rw [hT]
  have HT := Lib.hid hT
  clear hg hT
  go_enter Tryz.func100, Tryz.ntmps100
  go_wp2_with fail
  generalize hw1 : ((w.alloc (.cells #[.int .i64 r, .int .i64 n, .slice A es.length c] 32)).alloc (.cells #[.int .i64 0, .int .i64 0, .slice none 0 0] 32)) = w1 at hm0 b0 b2 ⊢
  clear hw1
  with_reducible refine (spec_l4Copy r n A es c _ _ _ (hr.mid hm0 oZl) (by omega)).mono ?_
  rintro en w2 ⟨A1, c1, rfl, ho, hm2⟩
  have hs2 : w.heap.size + 1 < w1.heap.size := b2.1
  replace b2 := b2.mid hm2 oZr
  replace hm0 := hm0.trans hm2
  have hsz2 := hm2.size
  have hown0 := owns_base (base' := w.heap.size + 2) ho.ov.2.1 hs2
  have hbk0 : Value.ownBlock (.slice A1 es.length c1) ≠ some w2.heap.size := fun h => by have := ho.ov.2.2 _ h; omega
  have hal := (Mid.alloc w2 (.cells #[.int .i64 r, .int .i64 n, .slice A1 es.length c1] 32)).trans (Mid.alloc (w2.alloc (.cells #[.int .i64 r, .int .i64 n, .slice A1 es.length c1] 32)) (.cells #[] 103))
  have Y3 := (Box.new w2 #[.int .i64 r, .int .i64 n, .slice A1 es.length c1] 32).mid (Mid.alloc (w2.alloc (.cells #[.int .i64 r, .int .i64 n, .slice A1 es.length c1] 32)) (.cells #[] 103)) oZr
  have O0 := owns_empty (w2.alloc (.cells #[.int .i64 r, .int .i64 n, .slice A1 es.length c1] 32)) 103 2
  rw [World.size_alloc] at O0
  replace b2 := b2.mid hal oZr
  replace hown0 := owns_mid hown0 hal oZl
  replace hm0 := hm0.trans hal
  go_wp2_with fail
  generalize hw3 : (w2.alloc (.cells #[.int .i64 r, .int .i64 n, .slice A1 es.length c1] 32)).alloc (.cells #[] 103) = w3 at Y3 O0 b2 hown0 hm0 ⊢
  obtain ⟨G, hG⟩ : ∃ G, w2.heap.size = G := ⟨_, rfl⟩
  rw [hG] at Y3 O0 hbk0 hsz2 ⊢
  have hGw : w.heap.size + 2 ≤ G := by omega
  clear hw3 hal hm2 ho hG hsz2 hs2 b0
  go_loopw [5, 6] (fun l iv wr => ∃ (i m s : Nat) (es1 : List Ed) (A2 : Option Addr) (c2 : Nat) (Al : Option Addr) (nl cl : Nat) (ps : List (Int × Int)), l = .slice Al nl cl ∧ iv = .int .i64 i ∧ i + m = 40 ∧ nl + s ≤ 40 ∧ Hid (foldA m ((s : Int), es1) = T) ∧ s ≤ m ∧ Hid (IsGr r s es1) ∧ wr.ownsRow (G + 1) 103 2 (.slice Al nl cl) nl (ints (fdI ps)) ∧
      Hid (wr.ownsRow (w.heap.size + 2) 64 3 (.slice A2 es1.length c2) es1.length (ints (edI es1))) ∧ Hid (Value.ownBlock (.slice A2 es1.length c2) ≠ some G) ∧ Box wr (w.heap.size + 1) [.int .i64 0, .int .i64 0, .slice none 0 0] ∧ Box wr G [.int .i64 r, .int .i64 s, .slice A2 es1.length c2] ∧ Mid 0 0 w wr) (fun _ _ wr => sizeAt wr G)
  case atStart => exact ⟨0, 40, n, es, A1, c1, _, 0, 0, [], rfl, rfl, by omega, by omega, HT, hn40, HG, O0, Lib.hid hown0, Lib.hid hbk0, b2, Y3, hm0⟩
  case round =>
    clear O0 hown0 b2 Y3 hm0 hbk0
    obtain ⟨i, m, s, es1, A2, c2, Al, nl, cl, ps, rfl, rfl, him, hnl, HTm, hsm, HGs, hleft, HE, HBK, b2, Y3, hm⟩ := hrel
    have hl1 := HGs.out.len
    have hs1 : 1 ≤ s := by have := HGs.out.size; omega
    have hlsz := Lib.hid (sizeAt_box Y3)
    have hi40 : (i : Int) < 40 := by omega
    have hec : es1.length ≤ c2 := by
      obtain ⟨A', c', hv0, hsc, hcm⟩ := owns_shape HE.out
      injection hv0 with _ _ hv0
      omega
    obtain ⟨p, b, rs, res, hone⟩ := OnceIs.ex (s : Int) es1
    have HO := Lib.hid (spec_FoldOnce r s A2 es1 c2 wr _ _ (owns_rv HE.out).rg HGs.out p b rs res hone)
    have HON := Lib.hid hone
    obtain ⟨p1, p2⟩ := p
    clear hone
    have y0 := Y3.cell 0 rfl
    have y1 := Y3.cell 1 rfl
    have y2 := Y3.cell 2 rfl
    go_wp2_with fail
    with_reducible refine HO.out.mono ?_
    rintro en w5 ⟨A3, c3, rfl, hog, hm5⟩
    have hGr : G < wr.heap.size := Y3.1
    have hw2r : w.heap.size + 2 ≤ wr.heap.size := by omega
    have hE5 := owns_mid HE.out hm5 oZl
    replace b2 := b2.mid hm5 oZr
    replace Y3 := Y3.mid hm5 oZr
    replace hleft := owns_mid hleft hm5 oZl
    replace hm := hm.trans hm5
    clear HO y0 y1 y2 HE
    have hal1 := Mid.alloc w5 (.cells #[.int .i64 r, .int .i64 rs, .slice A3 res.length c3] 32)
    have hal2 := Mid.alloc (w5.alloc (.cells #[.int .i64 r, .int .i64 rs, .slice A3 res.length c3] 32)) (.cells #[.int .i64 p1, .int .i64 p2] 103)
    have bh := (Box.new w5 #[.int .i64 r, .int .i64 rs, .slice A3 res.length c3] 32).mid hal2 oZr
    have bp := Box.new (w5.alloc (.cells #[.int .i64 r, .int .i64 rs, .slice A3 res.length c3] 32)) #[.int .i64 p1, .int .i64 p2] 103
    rw [World.size_alloc] at bp
    have hal := hal1.trans hal2
    have hs5 := hm5.size
    have hG5 : G < w5.heap.size := Y3.1
    have hG6 : G < w5.heap.size + 1 := by omega
    have hb5 : w.heap.size + 1 < w5.heap.size := b2.1
    have hb6 : w.heap.size < w5.heap.size := by omega
    have yf := Y3.2.2
    have y0 := Y3.cell 0 rfl
    have y1 := Y3.cell 1 rfl
    have y2 := Y3.cell 2 rfl
    cases b with
    | false =>
      have af := b2.2.2
      have a0 := b2.cell 0 rfl
      have a1 := b2.cell 1 rfl
      have a2 := b2.cell 2 rfl
      have hfn : folds es1 = [] ∧ True := by
        rcases HON.out with h | h
        · exact ⟨h.2.1, trivial⟩
        · exact absurd h.1 (by decide)
      have hTT := HTm.out
      rw [foldA_nil (g := ((s : Int), es1)) hfn.1] at hTT
      have HTT := Lib.hid hTT
      clear hTT hfn
      go_wp2_with fail
      refine bodyPost_ret (v := .tuple #[.agg #[.int .i64 r, .int .i64 s, .slice A2 es1.length c2], .slice Al nl cl]) (by simp [results, Tryz.results100, go_sem, a0, a1, a2, af, hb5, hb6, World.cell?_alloc_lt]) rfl ⟨A2, c2, Al, nl, cl, by rw [← HTT.out], ?_, ?_⟩
      · rw [← HTT.out]
        have h0 : OG w5 (w.heap.size + 2) w5.heap.size A2 c2 es1 := ⟨Nat.le_refl _, hE5, fun g hg => (hE5.lt g hg).2⟩
        refine OG.wide (OG.mid h0 (a := w.heap.size + 1) (b := w.heap.size + 2) ?_ (Or.inl (Nat.le_refl _))) (by omega) (by simp; try omega) (Nat.le_refl _)
        repeat (first | exact Mid.refl _ _ _ | refine Mid.trans ?_ (Mid.alloc _ _).zero | refine Mid.stored ?_ _ (by simp; try omega) (by simp; try omega))
      · repeat (first | exact hm | refine Mid.trans ?_ (Mid.alloc _ _) | refine Mid.storeNew ?_ (by simp; try omega) _)
    | true =>
      obtain ⟨t, htt⟩ : ∃ t, folds es1 = (p1, p2) :: t := by
        rcases HON.out with h | h
        · exact absurd h.1 (by decide)
        · exact h.2.1
      obtain ⟨rfl, rfl⟩ : rs = (s : Int) - 1 ∧ res = mergeE (p1, p2) es1 := by
        rcases HON.out with h | h
        · exact absurd h.1 (by decide)
        · exact h.2.2
      obtain ⟨k1, k2, k3⟩ := mem_folds HGs.out.all HGs.out.asc (p := (p1, p2)) (by rw [htt]; simp)
      obtain ⟨m', rfl⟩ : ∃ m', m = m' + 1 := ⟨m - 1, by omega⟩
      have hTT := HTm.out
      rw [foldA_cons (g := ((s : Int), es1)) htt] at hTT
      simp only at hTT
      have HTT := Lib.hid hTT
      have HG2 := Lib.hid (mergeE_gr HGs.out k1 k2 k3)
      clear hTT htt k1 k2 k3 HON
      obtain ⟨s', rfl⟩ : ∃ s', s = s' + 1 := ⟨s - 1, by omega⟩
      rw [show ((s' + 1 : Nat) : Int) - 1 = (s' : Int) by omega] at HTT HG2 hal hal1 hal2 bh bp ⊢
      obtain ⟨me, hme⟩ : ∃ me, mergeE (p1, p2) es1 = me := ⟨_, rfl⟩
      rw [hme] at HTT HG2 hal hal1 hal2 bh bp hog ⊢
      clear hme
      have hst := (Mid.setAt w5 G 0 (.int .i64 r)).trans ((Mid.setAt (w5.setCell ⟨G, 0, none⟩ (.int .i64 r)) G 1 (.int .i64 s')).trans (Mid.setAt ((w5.setCell ⟨G, 0, none⟩ (.int .i64 r)).setCell ⟨G, 1, none⟩ (.int .i64 s')) G 2 (.slice A3 me.length c3)))
      have Y5 := ((Y3.set 0 (.int .i64 r) (by simp) rfl).set 1 (.int .i64 s') (by simp) rfl).set 2 (.slice A3 me.length c3) (by simp) rfl
      have hm6 := ((hm.storeNew (p := ⟨G, 0, none⟩) (by show w.heap.size ≤ G; omega) (.int .i64 r)).storeNew (p := ⟨G, 1, none⟩) (by show w.heap.size ≤ G; omega) (.int .i64 s')).storeNew (p := ⟨G, 2, none⟩) (by show w.heap.size ≤ G; omega) (.slice A3 me.length c3)
      have b6 := b2.mid hst (Or.inl (by omega))
      have hleft6 := owns_mid hleft hst (Or.inl (Nat.le_refl _))
      have hog6 := OG.mid hog hst (Or.inl hGr)
      have ha2 := (Mid.alloc (((w5.setCell ⟨G, 0, none⟩ (.int .i64 r)).setCell ⟨G, 1, none⟩ (.int .i64 s')).setCell ⟨G, 2, none⟩ (.slice A3 me.length c3)) (.cells #[.int .i64 r, .int .i64 s', .slice A3 me.length c3] 32)).trans (Mid.alloc _ (.cells #[.int .i64 p1, .int .i64 p2] 103))
      replace b6 := b6.mid ha2 oZr
      replace Y5 := Y5.mid ha2 oZr
      replace hleft6 := owns_mid hleft6 ha2 oZl
      replace hm6 := hm6.trans ha2
      replace hog6 := OG.mid hog6 ha2 oZl
      have hWs : (((((w5.setCell ⟨G, 0, none⟩ (.int .i64 r)).setCell ⟨G, 1, none⟩ (.int .i64 s')).setCell ⟨G, 2, none⟩ (.slice A3 me.length c3)).alloc (.cells #[.int .i64 r, .int .i64 s', .slice A3 me.length c3] 32)).alloc (.cells #[.int .i64 p1, .int .i64 p2] 103)).heap.size = w5.heap.size + 1 + 1 := by simp
      have HL := Lib.hid hleft6
      have HY := Lib.hid Y5
      have HB := Lib.hid b6
      have HM := Lib.hid hm6
      have HO6 := Lib.hid hog6
      clear hleft6 Y5 b6 hm6 hog6 ha2 hst hleft b2 hm hog hE5 hal hal1 hal2 bh bp
      go_wp2_with (at_builtin; refine wpList_pushF rfl _ _ rfl (G + 1) Al nl cl ps rfl HL.out (p1, p2) (by rw [hWs]; rfl) (by omega) (by rw [hWs]; omega) ?_; intro A9 c9 w9 hl9 hgr9 hat9)
      have hm9 := Mid.of_grownRow HL.out hgr9
      have hmo := (HO6.out).2.1
      have hE9 := (owns_base hmo hw2r).kept hgr9 (owns_ne hmo HL.out (by decide))
      have hbk9 : Value.ownBlock (.slice A3 me.length c3) ≠ some G := fun h => by have := (hmo.lt _ h).1; omega
      have Y9 := HY.out.mid hm9 (Or.inl (Nat.lt_succ_self _))
      have hmsz := hlsz.out
      go_roundw
      case rel => exact ⟨i + 1, m', s', me, A3, c3, A9, nl + 1, c9, ps ++ [(p1, p2)], rfl, by go_num, by omega, by omega, HTT, by omega, HG2, hl9, Lib.hid hE9, Lib.hid hbk9, HB.out.mid hm9 (Or.inl (by omega)), Y9, HM.out.transNew hm9 (Or.inl (by omega))⟩
      case measure => rw [hmsz, sizeAt_box Y9]; omega
end Go.Proofs.YtkaofcakelpnpaaGreat

namespace Go.Proofs.YtkaofcakelpnpaaGreat
set_option linter.unusedVariables false
set_option linter.unusedSimpArgs false
open Go.RowKit
set_option maxHeartbeats 6400000 in
set_option maxRecDepth 100000 in
theorem spec_TrimGraph (r : Int) (n : Nat) (A : Option Addr) (es : List Ed) (c : Nat) (w : World) (lo hi : Nat) (hr : RG w lo hi A es) (hg : IsGr r n es) :
    Calls Tryz.prog 101 #[graV r n A es.length c] w fun e w' => ∃ A1 c1 Al nl cl, e = .returned (.tuple #[graV r (trimA 40 ((n : Int), es)).1 A1 (trimA 40 ((n : Int), es)).2.length c1, .slice Al nl cl]) ∧ OG w' w.heap.size w'.heap.size A1 c1 (trimA 40 ((n : Int), es)).2 ∧ Mid 0 0 w w' := by
  have hn40 : n ≤ 40 := by have := hg.size; omega
  have hl := hg.len
  have hm0 : Mid 0 0 w ((w.alloc (.cells #[.int .i64 r, .int .i64 n, .slice A es.length c] 32)).alloc (.cells #[.int .i64 0, .int .i64 0, .slice none 0 0] 32)) := (Mid.alloc _ _).trans (Mid.alloc _ _)
  have b0 := (Box.new w #[.int .i64 r, .int .i64 n, .slice A es.length c] 32).mid (Mid.alloc _ (.cells #[.int .i64 0, .int .i64 0, .slice none 0 0] 32)) oZr
  have b2 := Box.new (w.alloc (.cells #[.int .i64 r, .int .i64 n, .slice A es.length c] 32)) #[.int .i64 0, .int .i64 0, .slice none 0 0] 32
  simp only [World.size_alloc] at b2
  have HG := Lib.hid hg
  obtain ⟨T, hT⟩ : ∃ T, trimA 40 ((n : Int), es) = T := ⟨_, rfl⟩
  rw [hT]
  have HT := Lib.hid hT
  clear hg hT
  go_enter Tryz.func101, Tryz.ntmps101
  go_wp2_with fail
  generalize hw1 : ((w.alloc (.cells #[.int .i64 r, .int .i64 n, .slice A es.length c] 32)).alloc (.cells #[.int .i64 0, .int .i64 0, .slice none 0 0] 32)) = w1 at hm0 b0 b2 ⊢
  clear hw1
  with_reducible refine (spec_l4Copy r n A es c _ _ _ (hr.mid hm0 oZl) (by omega)).mono ?_
  rintro en w2 ⟨A1, c1, rfl, ho, hm2⟩
  have hsz12 := hm0.size
  have hs2 : w.heap.size + 1 < w1.heap.size := b2.1
  replace b0 := b0.mid hm2 oZr
  replace b2 := b2.mid hm2 oZr
  replace hm0 := hm0.trans hm2
  have hsz2 := hm2.size
  have hown0 := owns_base (base' := w.heap.size + 2) ho.ov.2.1 hs2
  have hbk0 : Value.ownBlock (.slice A1 es.length c1) ≠ some w2.heap.size := fun h => by have := ho.ov.2.2 _ h; omega
  have hal := (Mid.alloc w2 (.cells #[.int .i64 r, .int .i64 n, .slice A1 es.length c1] 32)).trans (Mid.alloc (w2.alloc (.cells #[.int .i64 r, .int .i64 n, .slice A1 es.length c1] 32)) (.cells #[] 3))
  have Y3 := (Box.new w2 #[.int .i64 r, .int .i64 n, .slice A1 es.length c1] 32).mid (Mid.alloc (w2.alloc (.cells #[.int .i64 r, .int .i64 n, .slice A1 es.length c1] 32)) (.cells #[] 3)) oZr
  have O0 := owns_empty (w2.alloc (.cells #[.int .i64 r, .int .i64 n, .slice A1 es.length c1] 32)) 3 1
  rw [World.size_alloc] at O0
  have hbs0 := b0.1
  have p0 := b0.cell 0 rfl
  have p1 := b0.cell 1 rfl
  have p2 := b0.cell 2 rfl
  replace b0 := b0.mid hal oZr
  replace b2 := b2.mid hal oZr
  replace hown0 := owns_mid hown0 hal oZl
  replace hm0 := hm0.trans hal
  go_wp2_with fail
  clear p0 p1 p2
  have hsA : ((w2.alloc (.cells #[.int .i64 r, .int .i64 n, .slice A1 es.length c1] 32)).alloc (.cells #[] 3)).heap.size = w2.heap.size + 2 := by simp
  generalize hw3 : (w2.alloc (.cells #[.int .i64 r, .int .i64 n, .slice A1 es.length c1] 32)).alloc (.cells #[] 3) = w3 at Y3 O0 b0 b2 hown0 hm0 hsA ⊢
  obtain ⟨G, hG⟩ : ∃ G, w2.heap.size = G := ⟨_, rfl⟩
  rw [hG] at Y3 O0 hbk0 hsA hsz2 hbs0 ⊢
  clear hw3 hal hm2 ho hG
  have hGw : w.heap.size + 2 ≤ G := by omega
  clear hsA hsz2 hs2 hsz12 hbs0
  go_loopw [5, 6] (fun l i wr => ∃ (k : Nat) (Al : Option Addr) (nl cl : Nat), k ≤ n ∧ i = .int .i64 k ∧ l = .slice Al nl cl ∧ Hid ((upto k).length = nl) ∧ wr.ownsRow (G + 1) 3 1 (.slice Al nl cl) nl (ints (upto k)) ∧
      Hid (wr.ownsRow (w.heap.size + 2) 64 3 (.slice A1 es.length c1) es.length (ints (edI es))) ∧ Box wr w.heap.size [.int .i64 r, .int .i64 n, .slice A es.length c] ∧ Box wr (w.heap.size + 1) [.int .i64 0, .int .i64 0, .slice none 0 0] ∧ Box wr G [.int .i64 r, .int .i64 n, .slice A1 es.length c1] ∧ Mid 0 0 w wr) (fun _ i _ => n - (intOf i).toNat)
  case atStart => exact ⟨0, _, 0, 0, Nat.zero_le _, rfl, rfl, Lib.hid rfl, O0, Lib.hid hown0, b0, b2, Y3, hm0⟩
  case round =>
    clear O0 hown0 b0 b2 Y3 hm0
    obtain ⟨wo, hwo⟩ : ∃ wo, wo = wr := ⟨_, rfl⟩
    subst hwo
    obtain ⟨k, Al, nl, cl, hk, rfl, rfl, HN, hleft, HE, b0, b2, Y3, hm⟩ := hrel
    obtain rfl : k = nl := by rw [← HN.out, upto_len]
    have p0 := b0.cell 0 rfl
    have p1 := b0.cell 1 rfl
    have p2 := b0.cell 2 rfl
    by_cases hlt : k < n
    · have hk1 : (k : Int) < (n : Int) := by omega
      go_wp2_with fail
      with_reducible refine (spec_IsGraph r n A es c _ _ _ (hr.mid hm oZl).rv (by omega) true (iff_of_true rfl HG.out)).mono ?_
      rintro en w4 ⟨rfl, hm4⟩
      have hE4 := owns_mid HE.out hm4 oZl
      replace b0 := b0.mid hm4 oZr
      replace b2 := b2.mid hm4 oZr
      replace Y3 := Y3.mid hm4 oZr
      replace hleft := owns_mid hleft hm4 oZl
      replace hm := hm.trans hm4
      have hGo : G + 1 ≤ w4.heap.size := Y3.1
      have HL := Lib.hid hleft
      clear hleft HE
      go_wp2_with (at_builtin; refine wpList_pushI2 rfl _ _ rfl (G + 1) Al k cl (upto k) rfl HL.out k rfl (by omega) hGo ?_; intro A9 c9 w9 hl9 hgr9 hat9)
      clear hat9
      have hm9 := Mid.of_grownRow HL.out hgr9
      have hE9 := hE4.kept hgr9 (owns_ne hE4 HL.out (by decide))
      go_roundw
      case rel => exact ⟨k + 1, A9, k + 1, c9, by omega, by go_num, rfl, Lib.hid (by rw [upto_len]), by rw [upto_succ]; exact hl9, Lib.hid hE9, b0.mid hm9 (Or.inl (by omega)), b2.mid hm9 (Or.inl (by omega)), Y3.mid hm9 (Or.inl (by omega)), hm.transNew hm9 (Or.inl (by omega))⟩
      case measure => simp [intOf]; omega
    · obtain rfl : k = n := by omega
      go_wp2_with fail
      clear p0 p1 p2
      have hGo := Y3.1
      go_loopw [5, 7] (fun l iv wr => ∃ (i m s : Nat) (es1 : List Ed) (A2 : Option Addr) (c2 : Nat) (Al : Option Addr) (cl : Nat) (xs : List Int), l = .slice Al s cl ∧ iv = .int .i64 i ∧ i + m = 40 ∧ Hid (trimA m ((s : Int), es1) = T) ∧ s ≤ m ∧ Hid (IsGr r s es1) ∧ wr.ownsRow (G + 1) 3 1 (.slice Al s cl) s (ints xs) ∧
          Hid (wr.ownsRow (w.heap.size + 2) 64 3 (.slice A2 es1.length c2) es1.length (ints (edI es1))) ∧ Hid (Value.ownBlock (.slice A2 es1.length c2) ≠ some G) ∧ Box wr w.heap.size [.int .i64 r, .int .i64 k, .slice A es.length c] ∧ Box wr (w.heap.size + 1) [.int .i64 0, .int .i64 0, .slice none 0 0] ∧ Box wr G [.int .i64 r, .int .i64 s, .slice A2 es1.length c2] ∧ Mid 0 0 w wr) (fun _ iv _ => 40 - (intOf iv).toNat)
      case atStart => exact ⟨0, 40, k, es, A1, c1, Al, cl, upto k, rfl, rfl, by omega, HT, hn40, HG, hleft, HE, Lib.hid hbk0, b0, b2, Y3, hm⟩
      case round =>
        clear hleft HE b0 b2 Y3 hm HN hGo
        obtain ⟨wj, hwj⟩ : ∃ wj, wj = wr := ⟨_, rfl⟩
        subst hwj
        obtain ⟨i, m, s, es1, A2, c2, Al, cl, xs, rfl, rfl, him, HTm, hsm, HGs, hleft, HE, HBK, b0, b2, Y3, hm⟩ := hrel
        have hs1 : 1 ≤ s := by have := HGs.out.size; omega
        have hs40 : s ≤ 40 := by have := HGs.out.size; omega
        have hl1 := HGs.out.len
        have hi40 : (i : Int) < 40 := by omega
        have p0 := b0.cell 0 rfl
        have p1 := b0.cell 1 rfl
        have p2 := b0.cell 2 rfl
        go_wp2_with fail
        with_reducible refine (spec_IsGraph r k A es c _ _ _ (hr.mid hm oZl).rv (by omega) true (iff_of_true rfl HG.out)).mono ?_
        rintro en w4 ⟨rfl, hm4⟩
        have hE4 := owns_mid HE.out hm4 oZl
        replace HE := Lib.hid hE4
        replace b0 := b0.mid hm4 oZr
        replace b2 := b2.mid hm4 oZr
        replace Y3 := Y3.mid hm4 oZr
        replace hleft := owns_mid hleft hm4 oZl
        replace hm := hm.trans hm4
        clear p0 p1 p2 hE4 hm4
        have y0 := Y3.cell 0 rfl
        have y1 := Y3.cell 1 rfl
        have y2 := Y3.cell 2 rfl
        go_wp2_with fail
        with_reducible refine (spec_l8Leaf r s A2 es1 c2 _ _ _ (owns_rv HE.out).rg HGs.out).mono ?_
        rintro en w5 ⟨rfl, hm5⟩
        have hE5 := owns_mid HE.out hm5 oZl
        replace HE := Lib.hid hE5
        replace b0 := b0.mid hm5 oZr
        replace b2 := b2.mid hm5 oZr
        replace Y3 := Y3.mid hm5 oZr
        replace hleft := owns_mid hleft hm5 oZl
        replace hm := hm.trans hm5
        clear y0 y1 y2 hE5 hm5
        have y0 := Y3.cell 0 rfl
        have y1 := Y3.cell 1 rfl
        have y2 := Y3.cell 2 rfl
        cases hlf : leaf s es1 with
        | none =>
          have hTT := HTm.out
          rw [trimA_none hlf] at hTT
          have HTT := Lib.hid hTT
          rw [leafI_none hlf]
          have z0 := b2.cell 0 rfl
          have z1 := b2.cell 1 rfl
          have z2 := b2.cell 2 rfl
          have zf := b2.2.2
          have hbs := b2.1
          clear hTT hlf
          go_wp2_with fail
          have hcl : (w.heap.size + 1 == G) = false := by simp; omega
          refine bodyPost_ret (v := .tuple #[.agg #[.int .i64 r, .int .i64 s, .slice A2 es1.length c2], .slice Al s cl]) (by simp [results, Tryz.results101, go_sem, z0, z1, z2, zf, y0, y1, y2]) rfl ⟨A2, c2, Al, s, cl, by rw [← HTT.out], ?_, ?_⟩
          · rw [← HTT.out]
            have h0 : OG w5 (w.heap.size + 2) w5.heap.size A2 c2 es1 := ⟨Nat.le_refl _, HE.out, fun g hg => (HE.out.lt g hg).2⟩
            refine OG.wide (OG.mid h0 (a := w.heap.size + 1) (b := w.heap.size + 2) ?_ (Or.inl (Nat.le_refl _))) (by omega) (by simp) (Nat.le_refl _)
            repeat (first | exact Mid.refl _ _ _ | refine Mid.stored ?_ _ (by simp; try omega) (by simp; try omega))
          · repeat (first | exact hm | refine Mid.storeNew ?_ (by simp; try omega) _)
        | some g =>
          obtain ⟨hg1, hgs', -⟩ := leaf_spec hlf
          have hgs : g < s := by omega
          obtain ⟨m', rfl⟩ : ∃ m', m = m' + 1 := ⟨m - 1, by omega⟩
          have hTT := HTm.out
          rw [trimA_some hlf] at hTT
          have HTT := Lib.hid hTT
          have HCG := Lib.hid (cutV_gr (g := ((s : Int), es1)) HGs.out hg1 hgs')
          rw [leafI_some hlf]
          have dg0 : decide ((g : Int) < 0) = false := by simp
          clear hTT hlf hgs'
          obtain ⟨wk, hwk⟩ : ∃ wk, wk = w5 := ⟨_, rfl⟩
          subst hwk
          go_wp2_with fail
          have hal := (Mid.alloc wk (.cells #[] 3)).trans (Mid.alloc (wk.alloc (.cells #[] 3)) (.cells #[] 3))
          have T0 : TwoI ((wk.alloc (.cells #[] 3)).alloc (.cells #[] 3)) wk.heap.size (.slice (some ⟨wk.heap.size, 0, none⟩) 0 0) (.slice (some ⟨wk.heap.size + 1, 0, none⟩) 0 0) 0 0 [] [] := by
            refine ⟨(owns_empty wk 3 1).alloc _, ?_, ?_⟩
            · have h := owns_empty (wk.alloc (.cells #[] 3)) 3 1
              rw [World.size_alloc] at h
              exact owns_base h (Nat.le_succ _)
            · simp [Value.ownBlock]
          clear y0 y1 y2
          go_loopw [9, 10, 11] (fun o rs kv wr => ∃ (kk : Nat) (Ao : Option Addr) (co : Nat) (Ar : Option Addr) (cr no : Nat) (ys : List Int), kk ≤ s ∧ kv = .int .i64 kk ∧ o = .slice Ao no co ∧ rs = .slice Ar no cr ∧ Hid ((but g kk).length = no) ∧ Hid (TwoI wr wk.heap.size (.slice Ao no co) (.slice Ar no cr) no no (but g kk) ys) ∧ Mid 0 0 wk wr) (fun _ _ kv _ => s - (intOf kv).toNat)
          case atStart => exact ⟨0, _, 0, _, 0, 0, [], Nat.zero_le _, rfl, rfl, rfl, Lib.hid rfl, Lib.hid T0, hal⟩
          case round =>
            clear T0 hal
            obtain ⟨kk, Ao, co, Ar, cr, no, ys, hkk, rfl, rfl, rfl, HNo, HT2, hmy⟩ := hrel
            have hno : no ≤ 40 := by
              have h1 : (but g kk).length ≤ kk := by unfold but; rw [List.length_map]; exact Nat.le_trans (List.length_filter_le _ _) (by simp)
              have h2 := HNo.out
              omega
            have Y4 := Y3.mid hmy oZr
            have y0 := Y4.cell 0 rfl
            have y1 := Y4.cell 1 rfl
            have y2 := Y4.cell 2 rfl
            by_cases hlt : kk < s
            · have hbs := but_succ g kk
              have hk3 : (kk : Int) < (s : Int) := by omega
              have hk0 : (0 : Int) ≤ (kk : Int) := by omega
              by_cases hkg : kk = g
              · have d3 : ((kk : Int) != (g : Int)) = false := by simp; omega
                rw [if_pos hkg] at hbs
                have HBS := Lib.hid hbs
                clear hbs hkg
                go_wp2_with fail
                go_roundw
                case rel => exact ⟨kk + 1, Ao, co, Ar, cr, no, ys, by omega, by go_num, rfl, rfl, by rw [HBS.out]; exact HNo, by rw [HBS.out]; exact HT2, hmy⟩
                case measure => simp [intOf]; omega
              · have d3 : ((kk : Int) != (g : Int)) = true := by simp; omega
                rw [if_neg hkg] at hbs
                have HBS := Lib.hid hbs
                have hsz := hmy.size
                obtain ⟨gl, rfl, hgl1, hgl2⟩ := owns_addr hleft (show 0 < s by omega)
                obtain ⟨y, hy⟩ := get_of_lt xs (show kk < xs.length by have h := hleft.1; simp [ints] at h; omega)
                have hyc : ∀ W : World, Mid wk.heap.size W.heap.size wk W → True := fun _ _ => trivial
                have HLF := Lib.hid hleft
                have HY := Lib.hid hy
                clear hbs hkg hy hyc
                go_wp2_with (first | (at_builtin; refine wpList_push2 rfl _ _ rfl wk.heap.size Ao no co (but g kk) _ _ _ rfl HT2.out kk rfl (by omega) hsz ?_; intro A7 c7 w7 ht7 hm7; have hmw := hmy.transNew hm7 (Or.inl (Nat.le_refl _)); have hcx := ((owns_mid HLF.out hmw oZl).cellAt kk (by omega)).trans (show (ints xs)[kk]? = some (.int .i64 y) by simp [ints, HY.out]); have hsz7 := hmw.size; have HT7 := Lib.hid ht7.swap; clear ht7) | (at_builtin; refine wpList_push2 rfl _ _ rfl wk.heap.size Ar no cr ys _ _ _ rfl HT7.out y rfl (by omega) hsz7 ?_; intro A9 c9 w9 ht9 hm9))
                go_roundw
                case rel => exact ⟨kk + 1, A7, c7, A9, c9, no + 1, ys ++ [y], by omega, by go_num, rfl, rfl, Lib.hid (by rw [HBS.out, List.length_append, HNo.out]; rfl), Lib.hid (by rw [HBS.out]; exact ht9.swap), hmw.transNew hm9 (Or.inl (Nat.le_refl _))⟩
                case measure => simp [intOf]; omega
            · obtain rfl : kk = s := by omega
              have hln : (but g kk).length = no := HNo.out
              have hn1 : no = kk - 1 := by rw [← hln, but_len g hgs]
              obtain ⟨es2, hes2⟩ : ∃ es2, partE (but g kk) es1 = es2 := ⟨_, rfl⟩
              have hcv : cutV ((kk : Int), es1) g = ((no : Int), es2) := by unfold cutV; simp only [Int.toNat_natCast]; rw [hln, hes2]
              have hE6 := owns_mid HE.out hmy oZl
              have hP := spec_RenumberGraph r kk A2 es1 c2 Ao (but g kk) co wr _ _ _ _ (owns_rv hE6).rg (owns_rv HT2.out.f) HGs.out (but_nodup g kk) (fun x hx => but_range hx) (by omega)
              have HN1 := Lib.hid hn1
              rw [hln, hes2] at hP
              have HP := Lib.hid hP
              have hTT2 := HTT.out
              rw [hcv] at hTT2
              have hgr2 := HCG.out
              rw [hcv] at hgr2
              have HTT2 := Lib.hid hTT2
              have HG2 := Lib.hid hgr2
              have hwks : G + 1 ≤ wk.heap.size := Y3.1
              have hto := HT2.out.t
              clear hP hTT2 hgr2 hcv hes2 hln HTT HCG HE hE6 hn1
              go_wp2_with fail
              with_reducible refine HP.out.mono ?_
              rintro en w8 ⟨A3, c3, rfl, hog, hm8⟩
              clear HP
              have hogw : wk.heap.size ≤ wr.heap.size := hmy.size
              replace hto := owns_mid hto hm8 oZl
              have hm28 := hmy.trans hm8
              clear Y4 y0 y1 y2
              replace b0 := b0.mid hm28 oZr
              replace b2 := b2.mid hm28 oZr
              replace Y3 := Y3.mid hm28 oZr
              replace hm := hm.trans hm28
              clear hmy hm8 hm28
              have y0 := Y3.cell 0 rfl
              have y1 := Y3.cell 1 rfl
              have y2 := Y3.cell 2 rfl
              have yf := Y3.2.2
              go_wp2_with fail
              have hst := (Mid.setAt w8 G 0 (.int .i64 r)).trans ((Mid.setAt (w8.setCell ⟨G, 0, none⟩ (.int .i64 r)) G 1 (.int .i64 no)).trans (Mid.setAt ((w8.setCell ⟨G, 0, none⟩ (.int .i64 r)).setCell ⟨G, 1, none⟩ (.int .i64 no)) G 2 (.slice A3 es2.length c3)))
              have Y5 := ((Y3.set 0 (.int .i64 r) (by simp) rfl).set 1 (.int .i64 no) (by simp) rfl).set 2 (.slice A3 es2.length c3) (by simp) rfl
              have hm5 := ((hm.storeNew (p := ⟨G, 0, none⟩) (by show w.heap.size ≤ G; omega) (.int .i64 r)).storeNew (p := ⟨G, 1, none⟩) (by show w.heap.size ≤ G; omega) (.int .i64 no)).storeNew (p := ⟨G, 2, none⟩) (by show w.heap.size ≤ G; omega) (.slice A3 es2.length c3)
              replace b0 := b0.mid hst (Or.inl (by omega))
              replace b2 := b2.mid hst (Or.inl (by omega))
              replace hto := owns_base (owns_mid hto hst (Or.inl hwks)) hwks
              have hoe := (OG.mid hog hst (Or.inl (by omega))).ov.2.1
              have hbk9 : Value.ownBlock (.slice A3 es2.length c3) ≠ some G := fun h => by have := (hoe.lt _ h).1; omega
              go_roundw
              case rel => exact ⟨i + 1, m', no, es2, A3, c3, Ar, cr, ys, rfl, by go_num, by omega, HTT2, by have := HN1.out; omega, HG2, hto, Lib.hid (owns_base hoe (by omega)), Lib.hid hbk9, b0, b2, Y5, hm5⟩
              case measure => simp [intOf]; omega
end Go.Proofs.YtkaofcakelpnpaaGreat

namespace Go.Proofs.YtkaofcakelpnpaaGreat
set_option linter.unusedVariables false
set_option linter.unusedSimpArgs false
open Go.RowKit
theorem nat_gr {r : Int} {g : Int × List Ed} (h : IsGr r g.1 g.2) : ∃ (n : Nat) (es : List Ed), g = ((n : Int), es) ∧ IsGr r n es := by
  obtain ⟨s, es⟩ := g
  have h1 : 1 ≤ s := h.size.1
  obtain ⟨n, rfl⟩ : ∃ n : Nat, s = n := ⟨s.toNat, by omega⟩
  exact ⟨n, es, rfl, h⟩
theorem hcl_of {w : World} {lo hi : Nat} {A : Option Addr} {c : Nat} {es : List Ed} (h : OG w lo hi A c es) : es.length ≤ c := by
  obtain ⟨A', c', hv0, hsc, hcm⟩ := owns_shape h.ov.2.1
  injection hv0 with _ _ hv0
  omega
set_option maxHeartbeats 1600000 in
set_option maxRecDepth 20000 in
theorem spec_CoreGraph (r n : Nat) (A : Option Addr) (es : List Ed) (c : Nat) (w : World) (lo hi : Nat) (hr : RG w lo hi A es) (hg : IsGr r n es) :
    Calls Tryz.prog 73 #[graV r n A es.length c] w fun e w' => ∃ A1 c1, e = .returned (graV r (coreA r ((n : Int), es)).1 A1 (coreA r ((n : Int), es)).2.length c1) ∧ OG w' w.heap.size w'.heap.size A1 c1 (coreA r ((n : Int), es)).2 ∧ Mid 0 0 w w' := by
  obtain ⟨f, fs, hF, hgf⟩ := nat_gr (foldA_gr 40 (g := ((n : Int), es)) hg)
  obtain ⟨t, ts, hT, hgt⟩ := nat_gr (trimA_gr 40 (g := ((f : Int), fs)) hgf)
  obtain ⟨q, qs, hQ, -⟩ := nat_gr (canonG_gr (g := ((t : Int), ts)) hgt)
  have hcore : coreA r ((n : Int), es) = ((q : Int), qs) := by rw [coreA, hF, hT, hQ]
  rw [hcore]
  have hm0 : Mid 0 0 w ((w.alloc (.cells #[.int .i64 r, .int .i64 n, .slice A es.length c] 32)).alloc (.cells #[.int .i64 0, .int .i64 0, .slice none 0 0] 32)) := (Mid.alloc _ _).trans (Mid.alloc _ _)
  have b2 := Box.new (w.alloc (.cells #[.int .i64 r, .int .i64 n, .slice A es.length c] 32)) #[.int .i64 0, .int .i64 0, .slice none 0 0] 32
  simp only [World.size_alloc] at b2
  have HG := Lib.hid hg
  have HGF := Lib.hid hgf
  have HGT := Lib.hid hgt
  have HF := Lib.hid hF
  have HT := Lib.hid hT
  have HQ := Lib.hid hQ
  clear hg hgf hgt hF hT hQ hcore
  go_enter Tryz.func73, Tryz.ntmps73
  go_wp2_with fail
  generalize ((w.alloc (.cells #[.int .i64 r, .int .i64 n, .slice A es.length c] 32)).alloc (.cells #[.int .i64 0, .int .i64 0, .slice none 0 0] 32)) = w1 at hm0 b2 ⊢
  have hP1 := spec_FoldAll r n A es c w1 _ _ (hr.mid hm0 oZl) HG.out
  rw [HF.out] at hP1
  with_reducible refine hP1.mono ?_
  rintro en w2 ⟨A1, c1, Al, nl, cl, rfl, ho1, hm2⟩
  clear hP1
  have hs1 : w.heap.size + 1 < w1.heap.size := b2.1
  have hs2 := hm2.size
  have ha2 := Mid.alloc w2 (.cells #[.int .i64 r, .int .i64 f, .slice A1 fs.length c1] 32)
  have Y1 := Box.new w2 #[.int .i64 r, .int .i64 f, .slice A1 fs.length c1] 32
  replace b2 := b2.mid hm2 oZr
  replace hm0 := hm0.trans hm2
  replace b2 := b2.mid ha2 oZr
  replace ho1 := ho1.mid ha2 oZl
  replace hm0 := hm0.trans ha2
  dsimp only
  go_wp2_with fail
  generalize w2.alloc (.cells #[.int .i64 r, .int .i64 f, .slice A1 fs.length c1] 32) = w3 at hm0 b2 ho1 Y1 ha2 ⊢
  have hP2 := spec_TrimGraph r f A1 fs c1 w3 _ _ (OG.rg ho1) HGF.out
  rw [HT.out] at hP2
  with_reducible refine hP2.mono ?_
  rintro en w4 ⟨A3, c3, Al3, nl3, cl3, rfl, ho3, hm4⟩
  clear hP2
  have hs3 := ha2.size
  have hs4 := hm4.size
  have ha4 := Mid.alloc w4 (.cells #[.int .i64 r, .int .i64 t, .slice A3 ts.length c3] 32)
  replace b2 := b2.mid hm4 oZr
  replace hm0 := hm0.trans hm4
  replace b2 := b2.mid ha4 oZr
  replace ho3 := ho3.mid ha4 oZl
  replace hm0 := hm0.trans ha4
  dsimp only
  go_wp2_with fail
  generalize w4.alloc (.cells #[.int .i64 r, .int .i64 t, .slice A3 ts.length c3] 32) = w5 at hm0 b2 ho3 ha4 ⊢
  have hP3 := spec_CanonicalGraph r t A3 ts c3 w5 _ _ (OG.rg ho3) HGT.out
  rw [HQ.out] at hP3
  with_reducible refine hP3.mono ?_
  rintro en w6 ⟨A5, c5, rfl, ho5, hm6⟩
  clear hP3
  have hs5 := ha4.size
  replace b2 := b2.mid hm6 oZr
  replace hm0 := hm0.trans hm6
  have z0 := b2.cell 0 rfl
  have z1 := b2.cell 1 rfl
  have z2 := b2.cell 2 rfl
  have zf := b2.2.2
  dsimp only at ho5
  dsimp only
  go_wp2_with fail
  refine bodyPost_ret (v := .agg #[.int .i64 r, .int .i64 q, .slice A5 qs.length c5]) (by simp [results, Tryz.results73, go_sem, z0, z1, z2, zf]) rfl ⟨A5, c5, rfl, ?_, ?_⟩
  · refine OG.wide (OG.mid ho5 (a := w.heap.size + 1) (b := w.heap.size + 2) ?_ (Or.inl (by omega))) (by omega) (by simp) (Nat.le_refl _)
    repeat (first | exact Mid.refl _ _ _ | refine Mid.stored ?_ _ (by simp; try omega) (by simp; try omega))
  · repeat (first | exact hm0 | refine Mid.storeNew ?_ (by simp; try omega) _)
set_option maxHeartbeats 1600000 in
set_option maxRecDepth 20000 in
theorem impl_CoreGraph (r n : Nat) (A : Option Addr) (es : List Ed) (c : Nat) (w : World) (lo hi : Nat) (hr : RG w lo hi A es) (hg : IsGr r n es) :
    Calls Tryz.prog 60 #[graV r n A es.length c] w fun e w' => ∃ A1 c1, e = .returned (graV r (coreA r ((n : Int), es)).1 A1 (coreA r ((n : Int), es)).2.length c1) ∧ OG w' w.heap.size w'.heap.size A1 c1 (coreA r ((n : Int), es)).2 ∧ Mid 0 0 w w' := by
  obtain ⟨f, fs, hF, hgf⟩ := nat_gr (foldA_gr 40 (g := ((n : Int), es)) hg)
  obtain ⟨t, ts, hT, hgt⟩ := nat_gr (trimA_gr 40 (g := ((f : Int), fs)) hgf)
  obtain ⟨q, qs, hQ, -⟩ := nat_gr (canonG_gr (g := ((t : Int), ts)) hgt)
  have hcore : coreA r ((n : Int), es) = ((q : Int), qs) := by rw [coreA, hF, hT, hQ]
  rw [hcore]
  have hm0 : Mid 0 0 w ((w.alloc (.cells #[.int .i64 r, .int .i64 n, .slice A es.length c] 32)).alloc (.cells #[.int .i64 0, .int .i64 0, .slice none 0 0] 32)) := (Mid.alloc _ _).trans (Mid.alloc _ _)
  have b2 := Box.new (w.alloc (.cells #[.int .i64 r, .int .i64 n, .slice A es.length c] 32)) #[.int .i64 0, .int .i64 0, .slice none 0 0] 32
  simp only [World.size_alloc] at b2
  have HG := Lib.hid hg
  have HGF := Lib.hid hgf
  have HGT := Lib.hid hgt
  have HF := Lib.hid hF
  have HT := Lib.hid hT
  have HQ := Lib.hid hQ
  clear hg hgf hgt hF hT hQ hcore
  go_enter Tryz.func60, Tryz.ntmps60
  go_wp2_with fail
  generalize ((w.alloc (.cells #[.int .i64 r, .int .i64 n, .slice A es.length c] 32)).alloc (.cells #[.int .i64 0, .int .i64 0, .slice none 0 0] 32)) = w1 at hm0 b2 ⊢
  have hP1 := impl_FoldAll r n A es c w1 _ _ (hr.mid hm0 oZl) HG.out
  rw [HF.out] at hP1
  with_reducible refine hP1.mono ?_
  rintro en w2 ⟨A1, c1, Al, nl, cl, rfl, ho1, hm2⟩
  clear hP1
  have hs1 : w.heap.size + 1 < w1.heap.size := b2.1
  have hs2 := hm2.size
  have ha2 := Mid.alloc w2 (.cells #[.int .i64 r, .int .i64 f, .slice A1 fs.length c1] 32)
  have Y1 := Box.new w2 #[.int .i64 r, .int .i64 f, .slice A1 fs.length c1] 32
  replace b2 := b2.mid hm2 oZr
  replace hm0 := hm0.trans hm2
  replace b2 := b2.mid ha2 oZr
  replace ho1 := ho1.mid ha2 oZl
  replace hm0 := hm0.trans ha2
  dsimp only
  go_wp2_with fail
  generalize w2.alloc (.cells #[.int .i64 r, .int .i64 f, .slice A1 fs.length c1] 32) = w3 at hm0 b2 ho1 Y1 ha2 ⊢
  have hP2 := impl_TrimGraph r f A1 fs c1 w3 _ _ (OG.rg ho1) HGF.out
  rw [HT.out] at hP2
  with_reducible refine hP2.mono ?_
  rintro en w4 ⟨A3, c3, Al3, nl3, cl3, rfl, ho3, hm4⟩
  clear hP2
  have hs3 := ha2.size
  have hs4 := hm4.size
  have ha4 := Mid.alloc w4 (.cells #[.int .i64 r, .int .i64 t, .slice A3 ts.length c3] 32)
  replace b2 := b2.mid hm4 oZr
  replace hm0 := hm0.trans hm4
  replace b2 := b2.mid ha4 oZr
  replace ho3 := ho3.mid ha4 oZl
  replace hm0 := hm0.trans ha4
  dsimp only
  go_wp2_with fail
  generalize w4.alloc (.cells #[.int .i64 r, .int .i64 t, .slice A3 ts.length c3] 32) = w5 at hm0 b2 ho3 ha4 ⊢
  have hP3 := impl_CanonicalGraph r t A3 ts c3 w5 _ _ (OG.rg ho3) (hcl_of ho3) HGT.out
  rw [HQ.out] at hP3
  with_reducible refine hP3.mono ?_
  rintro en w6 ⟨A5, c5, rfl, ho5, hm6⟩
  clear hP3
  have hs5 := ha4.size
  replace b2 := b2.mid hm6 oZr
  replace hm0 := hm0.trans hm6
  have z0 := b2.cell 0 rfl
  have z1 := b2.cell 1 rfl
  have z2 := b2.cell 2 rfl
  have zf := b2.2.2
  dsimp only at ho5
  dsimp only
  go_wp2_with fail
  refine bodyPost_ret (v := .agg #[.int .i64 r, .int .i64 q, .slice A5 qs.length c5]) (by simp [results, Tryz.results60, go_sem, z0, z1, z2, zf]) rfl ⟨A5, c5, rfl, ?_, ?_⟩
  · refine OG.wide (OG.mid ho5 (a := w.heap.size + 1) (b := w.heap.size + 2) ?_ (Or.inl (by omega))) (by omega) (by simp) (Nat.le_refl _)
    repeat (first | exact Mid.refl _ _ _ | refine Mid.stored ?_ _ (by simp; try omega) (by simp; try omega))
  · repeat (first | exact hm0 | refine Mid.storeNew ?_ (by simp; try omega) _)
end Go.Proofs.YtkaofcakelpnpaaGreat

namespace Go.Proofs.YtkaofcakelpnpaaGreat
set_option linter.unusedVariables false
set_option linter.unusedSimpArgs false
open Go.RowKit
def ReducedRankIs (r0 s0 : Int) (d0 : List Ed) (res0 : Int) : Prop := res0 = max 0 (rankI r0 s0 d0 - 1)
end Go.Proofs.YtkaofcakelpnpaaGreat

namespace Go.Proofs.YtkaofcakelpnpaaGreat
set_option linter.unusedVariables false
set_option linter.unusedSimpArgs false
open Go.RowKit
open Classical in
noncomputable def jwA (r s : Int) (es : List Ed) (wd : List Int) : Option (Int × List Ed) :=
  if IsCor r s es ∧ IsW r wd then (if wd = [] then some (s, es) else if PathOk r s es 0 wd 0 then some (coreA r (s + (wd.length : Int) - 1, canon (es ++ pathE 0 s wd 0 wd.length))) else none) else none
def JwIs (r s : Int) (es : List Ed) (wd : List Int) (rr rs : Int) (res : List Ed) (b : Bool) : Prop :=
  (b = true ∧ jwA r s es wd = some (rs, res) ∧ rr = r) ∨ (b = false ∧ jwA r s es wd = none ∧ rr = 0 ∧ rs = 0 ∧ res = [])
theorem JwIs_ex (r s : Int) (es : List Ed) (wd : List Int) : ∃ rr rs res b, JwIs r s es wd rr rs res b := by
  cases h : jwA r s es wd with
  | none => exact ⟨_, _, _, _, .inr ⟨rfl, h, rfl, rfl, rfl⟩⟩
  | some p => exact ⟨_, p.1, p.2, _, .inl ⟨rfl, h, rfl⟩⟩
theorem JwIs.no {r s : Int} {es : List Ed} {wd : List Int} {rr rs : Int} {res : List Ed} {b : Bool} (h : JwIs r s es wd rr rs res b) (hn : jwA r s es wd = none) : b = false ∧ rr = 0 ∧ rs = 0 ∧ res = [] := by
  rcases h with ⟨-, h, -⟩ | ⟨h1, -, h2⟩
  · rw [hn] at h
    cases h
  · exact ⟨h1, h2⟩
theorem JwIs.yes {r s : Int} {es : List Ed} {wd : List Int} {rr rs q : Int} {res qs : List Ed} {b : Bool} (h : JwIs r s es wd rr rs res b) (hn : jwA r s es wd = some (q, qs)) : b = true ∧ rr = r ∧ rs = q ∧ res = qs := by
  rcases h with ⟨h1, h, h2⟩ | ⟨-, h, -⟩
  · rw [hn] at h
    injection h with h
    injection h with h3 h4
    exact ⟨h1, h2, h3.symm, h4.symm⟩
  · rw [hn] at h
    cases h
theorem jwA_some {r s : Int} {es : List Ed} {wd : List Int} {p : Int × List Ed} (h : jwA r s es wd = some p) : IsCor r s es ∧ IsW r wd ∧ IsGr r p.1 p.2 := by
  unfold jwA at h
  split at h
  · rename_i hc
    refine ⟨hc.1, hc.2, ?_⟩
    split at h
    · injection h with h
      subst h
      exact hc.1.gr
    · split at h
      · rename_i hp
        injection h with h
        subst h
        exact coreA_gr (g := (s + (wd.length : Int) - 1, canon (es ++ pathE 0 s wd 0 wd.length))) (path_gr hp)
      · cases h
  · cases h
theorem JwIs.lens {r s : Int} {es : List Ed} {wd : List Int} {rr rs : Int} {res : List Ed} {b : Bool} (h : JwIs r s es wd rr rs res b) : res.length ≤ 120 := by
  rcases h with ⟨-, h, -⟩ | ⟨-, -, -, -, rfl⟩
  · exact (jwA_some h).2.2.len
  · simp
noncomputable def seI (r s : Int) (es : List Ed) (rr rs : Int) (res : List Ed) (b : Bool) : Int := if b = true then rankI rr rs res - rankI r s es else -1
set_option maxHeartbeats 1600000 in
set_option maxRecDepth 20000 in
theorem spec_AddPetal (r s : Int) (A : Option Addr) (es : List Ed) (c : Nat) (Aw : Option Addr) (wd : List Int) (cw : Nat) (w : World) (lo hi lo' hi' : Nat) (hr : RG w lo hi A es) (hw : RV w lo' hi' Aw (ints wd)) (hl : es.length ≤ 1048576) (hwl : wd.length ≤ 1048576) (hok : OkI wd) (rs : Int) (res : List Ed) (b : Bool) (hres : PathIs r s es 0 wd 0 rs res b) :
    Calls Tryz.prog 72 #[graV r s A es.length c, .slice Aw wd.length cw] w fun e w' => ∃ A1 c1, e = .returned (.tuple #[graV r rs A1 res.length c1, .bool b]) ∧ OG w' w.heap.size w'.heap.size A1 c1 res ∧ Mid 0 0 w w' := by
  have hm0 : Mid 0 0 w ((w.alloc (.cells #[.int .i64 r, .int .i64 s, .slice A es.length c] 32)).alloc (.cells #[.int .i64 0, .int .i64 0, .slice none 0 0] 32)) := (Mid.alloc _ _).trans (Mid.alloc _ _)
  have b0 := (Box.new w #[.int .i64 r, .int .i64 s, .slice A es.length c] 32).mid (Mid.alloc _ (.cells #[.int .i64 0, .int .i64 0, .slice none 0 0] 32)) oZr
  have b2 := Box.new (w.alloc (.cells #[.int .i64 r, .int .i64 s, .slice A es.length c] 32)) #[.int .i64 0, .int .i64 0, .slice none 0 0] 32
  simp only [World.size_alloc] at b2
  have HR := Lib.hid hres
  have HOK := Lib.hid hok
  clear hres hok
  go_enter Tryz.func72, Tryz.ntmps72
  go_wp2_with fail
  generalize ((w.alloc (.cells #[.int .i64 r, .int .i64 s, .slice A es.length c] 32)).alloc (.cells #[.int .i64 0, .int .i64 0, .slice none 0 0] 32)) = w1 at hm0 b0 b2 ⊢
  have hs1 : w.heap.size + 1 < w1.heap.size := b2.1
  with_reducible refine (spec_AddPath r s A es c 0 Aw wd cw 0 w1 _ _ _ _ (hr.mid hm0 oZl) (hw.mid hm0 oZl) hl hwl HOK.out rs res b HR.out).mono ?_
  rintro en w2 ⟨A2, c2, rfl, ho2, hm2⟩
  replace b0 := b0.mid hm2 oZr
  replace b2 := b2.mid hm2 oZr
  replace hm0 := hm0.trans hm2
  have hs2 := hm2.size
  have ha2 := Mid.alloc w2 (.cells #[.int .i64 r, .int .i64 rs, .slice A2 res.length c2] 32)
  have Y2 := Box.new w2 #[.int .i64 r, .int .i64 rs, .slice A2 res.length c2] 32
  have hs4 : w.heap.size + 1 < w2.heap.size := by omega
  have hs5 : w.heap.size < w2.heap.size := by omega
  have q0 := Y2.cell 0 rfl
  have q1 := Y2.cell 1 rfl
  have q2 := Y2.cell 2 rfl
  have z0 := b2.cell 0 rfl
  have z1 := b2.cell 1 rfl
  have z2 := b2.cell 2 rfl
  have zf := b2.2.2
  clear ha2
  go_wp2_with fail
  refine bodyPost_ret (v := .tuple #[.agg #[.int .i64 r, .int .i64 rs, .slice A2 res.length c2], .bool b]) (by simp [results, Tryz.results72, go_sem, z0, z1, z2, zf, q0, q1, q2, hs4, hs5, World.cell?_alloc_lt]) rfl ⟨A2, c2, rfl, ?_, ?_⟩
  · refine OG.wide (OG.mid ho2 (a := w.heap.size + 1) (b := w.heap.size + 2) ?_ (Or.inl (by omega))) (by omega) (by simp; try omega) (Nat.le_refl _)
    repeat (first | exact Mid.refl _ _ _ | refine Mid.trans ?_ (Mid.zero (Mid.alloc _ _)) | refine Mid.stored ?_ _ (by simp; try omega) (by simp; try omega))
  · repeat (first | exact hm0 | refine Mid.trans ?_ (Mid.alloc _ _) | refine Mid.storeNew ?_ (by simp; try omega) _)
set_option maxHeartbeats 3200000 in
set_option maxRecDepth 20000 in
theorem spec_JoinWord (r s : Int) (A : Option Addr) (es : List Ed) (c : Nat) (Aw : Option Addr) (wd : List Int) (cw : Nat) (w : World) (lo hi lo' hi' : Nat) (hr : RG w lo hi A es) (hw : RV w lo' hi' Aw (ints wd)) (hl : es.length ≤ 1048576) (hwl : wd.length ≤ 1048576) (hok : OkI wd) (rr rs : Int) (res : List Ed) (b : Bool) (hres : JwIs r s es wd rr rs res b) :
    Calls Tryz.prog 44 #[graV r s A es.length c, .slice Aw wd.length cw] w fun e w' => ∃ A1 c1, e = .returned (.tuple #[graV rr rs A1 res.length c1, .bool b]) ∧ OG w' w.heap.size w'.heap.size A1 c1 res ∧ Mid 0 0 w w' := by
  have hm0 : Mid 0 0 w ((w.alloc (.cells #[.int .i64 r, .int .i64 s, .slice A es.length c] 32)).alloc (.cells #[.int .i64 0, .int .i64 0, .slice none 0 0] 32)) := (Mid.alloc _ _).trans (Mid.alloc _ _)
  have b0 := (Box.new w #[.int .i64 r, .int .i64 s, .slice A es.length c] 32).mid (Mid.alloc _ (.cells #[.int .i64 0, .int .i64 0, .slice none 0 0] 32)) oZr
  have b2 := Box.new (w.alloc (.cells #[.int .i64 r, .int .i64 s, .slice A es.length c] 32)) #[.int .i64 0, .int .i64 0, .slice none 0 0] 32
  simp only [World.size_alloc] at b2
  have HR := Lib.hid hres
  have HOK := Lib.hid hok
  clear hres hok
  go_enter Tryz.func44, Tryz.ntmps44
  go_wp2_with fail
  generalize ((w.alloc (.cells #[.int .i64 r, .int .i64 s, .slice A es.length c] 32)).alloc (.cells #[.int .i64 0, .int .i64 0, .slice none 0 0] 32)) = w1 at hm0 b0 b2 ⊢
  have hs1 : w.heap.size + 1 < w1.heap.size := b2.1
  by_cases hc : IsCor r s es
  · have HC := Lib.hid hc
    clear hc
    with_reducible refine (spec_IsSubgroup r s A es c _ _ _ (hr.mid hm0 oZl) hl true (iff_of_true rfl HC.out)).mono ?_
    rintro en w2 ⟨rfl, hm2⟩
    replace b0 := b0.mid hm2 oZr
    replace b2 := b2.mid hm2 oZr
    replace hm0 := hm0.trans hm2
    have hs2 := hm2.size
    have p0 := b0.cell 0 rfl
    have p1 := b0.cell 1 rfl
    have p2 := b0.cell 2 rfl
    go_wp2_with fail
    by_cases hwd : IsW r wd
    · have HW := Lib.hid hwd
      clear hwd
      with_reducible refine (spec_IsWord r Aw wd cw _ _ ((hw.mid hm0 oZl).rs) HOK.out (by omega) true (iff_of_true rfl HW.out)).mono ?_
      rintro en w3 ⟨rfl, nd, hw3⟩
      have hm3 : Mid 0 0 w2 w3 := by rw [hw3]; exact (Mid.refl 0 0 w2).drewN nd
      replace b0 := b0.mid hm3 oZr
      replace b2 := b2.mid hm3 oZr
      replace hm0 := hm0.trans hm3
      have hs3 := hm3.size
      clear p0 p1 p2 hw3 hm3
      have p0 := b0.cell 0 rfl
      have p1 := b0.cell 1 rfl
      have p2 := b0.cell 2 rfl
      by_cases hne : wd = []
      · subst hne
        have hjw : jwA r s es [] = some (s, es) := by rw [jwA, if_pos ⟨HC.out, HW.out⟩, if_pos rfl]
        obtain ⟨rfl, rfl, rfl, rfl⟩ := HR.out.yes hjw
        clear HR hjw
        go_wp2_with fail
        with_reducible refine (spec_l4Copy rr rs A res c _ _ _ (hr.mid hm0 oZl) hl).mono ?_
        rintro en w4 ⟨A4, c4, rfl, ho4, hm4⟩
        replace b2 := b2.mid hm4 oZr
        replace hm0 := hm0.trans hm4
        have hs4 := hm4.size
        have z0 := b2.cell 0 rfl
        have z1 := b2.cell 1 rfl
        have z2 := b2.cell 2 rfl
        have zf := b2.2.2
        clear p0 p1 p2
        go_wp2_with fail
        refine bodyPost_ret (v := .tuple #[.agg #[.int .i64 rr, .int .i64 rs, .slice A4 res.length c4], .bool true]) (by simp [results, Tryz.results44, go_sem, z0, z1, z2, zf]) rfl ⟨A4, c4, rfl, ?_, ?_⟩
        · refine OG.wide (OG.mid ho4 (a := w.heap.size + 1) (b := w.heap.size + 2) ?_ (Or.inl (by omega))) (by omega) (by simp) (Nat.le_refl _)
          repeat (first | exact Mid.refl _ _ _ | refine Mid.stored ?_ _ (by simp; try omega) (by simp; try omega))
        · repeat (first | exact hm0 | refine Mid.storeNew ?_ (by simp; try omega) _)
      · have d4 : ((wd.length : Int) == 0) = false := by have := List.length_pos_iff.2 hne; simp only [beq_eq_false_iff_ne]; omega
        have HNE := Lib.hid hne
        clear hne
        by_cases hp : PathOk r s es 0 wd 0
        · have HP := Lib.hid hp
          clear hp
          obtain ⟨ms, hms⟩ : ∃ ms, canon (es ++ pathE 0 s wd 0 wd.length) = ms := ⟨_, rfl⟩
          have hgm := path_gr HP.out
          rw [hms] at hgm
          obtain ⟨sn, hsn⟩ : ∃ sn : Nat, s + (wd.length : Int) - 1 = sn := ⟨(s + (wd.length : Int) - 1).toNat, by have := hgm.size; omega⟩
          have hPI : PathIs r s es 0 wd 0 (s + (wd.length : Int) - 1) ms true := Or.inl ⟨rfl, HP.out, rfl, hms.symm⟩
          have hjw : jwA r s es wd = some (coreA r (s + (wd.length : Int) - 1, canon (es ++ pathE 0 s wd 0 wd.length))) := by rw [jwA, if_pos ⟨HC.out, HW.out⟩, if_neg HNE.out, if_pos HP.out]
          rw [hms, hsn] at hjw
          rw [hsn] at hPI hgm
          have HGM := Lib.hid hgm
          have HPI := Lib.hid hPI
          have HSN := Lib.hid hsn
          clear hms hgm hPI hsn
          obtain ⟨rn, rfl⟩ : ∃ rn : Nat, r = rn := ⟨r.toNat, by have := HGM.out.rank; omega⟩
          obtain ⟨q, qs, hQ, -⟩ := nat_gr (coreA_gr (g := ((sn : Int), ms)) HGM.out)
          rw [hQ] at hjw
          obtain ⟨rfl, hrr, hrs, hre⟩ := HR.out.yes hjw
          subst hrr hrs
          subst res
          clear HR hjw
          go_wp2_with fail
          with_reducible refine (spec_AddPetal rn s A es c Aw wd cw _ _ _ _ _ (hr.mid hm0 oZl) (hw.mid hm0 oZl) hl hwl HOK.out sn ms true HPI.out).mono ?_
          rintro en w4 ⟨A4, c4, rfl, ho4, hm4⟩
          have hs4 := hm4.size
          have ha4 := Mid.alloc w4 (.cells #[.int .i64 rn, .int .i64 sn, .slice A4 ms.length c4] 32)
          have Y4 := Box.new w4 #[.int .i64 rn, .int .i64 sn, .slice A4 ms.length c4] 32
          replace b2 := b2.mid hm4 oZr
          replace hm0 := hm0.trans hm4
          replace b2 := b2.mid ha4 oZr
          replace ho4 := ho4.mid ha4 oZl
          replace hm0 := hm0.trans ha4
          have hsa := ha4.size
          have y0 := Y4.cell 0 rfl
          have y1 := Y4.cell 1 rfl
          have y2 := Y4.cell 2 rfl
          have hP := spec_CoreGraph rn sn A4 ms c4 (w4.alloc (.cells #[.int .i64 rn, .int .i64 sn, .slice A4 ms.length c4] 32)) _ _ (OG.rg ho4) HGM.out
          rw [hQ] at hP
          dsimp only at hP
          have HPP := Lib.hid hP
          clear hP hQ p0 p1 p2
          go_wp2_with fail
          with_reducible refine HPP.out.mono ?_
          rintro en w6 ⟨A5, c5, rfl, ho5, hm6⟩
          clear HPP
          replace b2 := b2.mid hm6 oZr
          replace hm0 := hm0.trans hm6
          have z0 := b2.cell 0 rfl
          have z1 := b2.cell 1 rfl
          have z2 := b2.cell 2 rfl
          have zf := b2.2.2
          go_wp2_with fail
          refine bodyPost_ret (v := .tuple #[.agg #[.int .i64 rn, .int .i64 q, .slice A5 qs.length c5], .bool true]) (by simp [results, Tryz.results44, go_sem, z0, z1, z2, zf]) rfl ⟨A5, c5, rfl, ?_, ?_⟩
          · refine OG.wide (OG.mid ho5 (a := w.heap.size + 1) (b := w.heap.size + 2) ?_ (Or.inl (by omega))) (by omega) (by simp) (Nat.le_refl _)
            repeat (first | exact Mid.refl _ _ _ | refine Mid.stored ?_ _ (by simp; try omega) (by simp; try omega))
          · repeat (first | exact hm0 | refine Mid.storeNew ?_ (by simp; try omega) _)
        · have hPI : PathIs r s es 0 wd 0 s es false := Or.inr ⟨rfl, hp, rfl, rfl⟩
          have hjw : jwA r s es wd = none := by rw [jwA, if_pos ⟨HC.out, HW.out⟩, if_neg HNE.out, if_neg hp]
          obtain ⟨rfl, rfl, rfl, rfl⟩ := HR.out.no hjw
          have HPI := Lib.hid hPI
          clear HR hjw hp hPI
          go_wp2_with fail
          with_reducible refine (spec_AddPetal r s A es c Aw wd cw _ _ _ _ _ (hr.mid hm0 oZl) (hw.mid hm0 oZl) hl hwl HOK.out s es false HPI.out).mono ?_
          rintro en w4 ⟨A4, c4, rfl, ho4, hm4⟩
          replace b2 := b2.mid hm4 oZr
          replace hm0 := hm0.trans hm4
          have hb23 : w.heap.size + 1 < w4.heap.size := b2.1
          have hb22 : w.heap.size < w4.heap.size := by omega
          have z0 := b2.cell 0 rfl
          have z1 := b2.cell 1 rfl
          have z2 := b2.cell 2 rfl
          have zf := b2.2.2
          clear p0 p1 p2
          go_wp2_with fail
          refine bodyPost_ret (v := .tuple #[.agg #[.int .i64 0, .int .i64 0, .slice none 0 0], .bool false]) (by simp [results, Tryz.results44, go_sem, z0, z1, z2, zf, hb22, hb23, World.cell?_alloc_lt]) rfl ⟨none, 0, rfl, ?_, ?_⟩
          · exact ⟨Nat.le_refl _, ⟨rfl, .inl ⟨rfl, rfl⟩⟩, fun g hg => by simp [Value.ownBlock] at hg⟩
          · repeat (first | exact hm0 | refine Mid.trans ?_ (Mid.alloc _ _) | refine Mid.storeNew ?_ (by simp; try omega) _)
    · have hjw : jwA r s es wd = none := by rw [jwA, if_neg fun h => hwd h.2]
      obtain ⟨rfl, rfl, rfl, rfl⟩ := HR.out.no hjw
      have HW := Lib.hid hwd
      clear hwd hjw HR
      with_reducible refine (spec_IsWord r Aw wd cw _ _ ((hw.mid hm0 oZl).rs) HOK.out (by omega) false (iff_of_false Bool.false_ne_true HW.out)).mono ?_
      rintro en w3 ⟨rfl, nd, hw3⟩
      have hm3 : Mid 0 0 w2 w3 := by rw [hw3]; exact (Mid.refl 0 0 w2).drewN nd
      replace b0 := b0.mid hm3 oZr
      replace b2 := b2.mid hm3 oZr
      replace hm0 := hm0.trans hm3
      have hs3 := hm3.size
      clear p0 p1 p2 hw3 hm3
      have p0 := b0.cell 0 rfl
      have p1 := b0.cell 1 rfl
      have p2 := b0.cell 2 rfl
      have z0 := b2.cell 0 rfl
      have z1 := b2.cell 1 rfl
      have z2 := b2.cell 2 rfl
      have zf := b2.2.2
      clear p0 p1 p2
      go_wp2_with fail
      refine bodyPost_ret (v := .tuple #[.agg #[.int .i64 0, .int .i64 0, .slice none 0 0], .bool false]) (by simp [results, Tryz.results44, go_sem, z0, z1, z2, zf]) rfl ⟨none, 0, rfl, ?_, ?_⟩
      · exact ⟨Nat.le_refl _, ⟨rfl, .inl ⟨rfl, rfl⟩⟩, fun g hg => by simp [Value.ownBlock] at hg⟩
      · repeat (first | exact hm0 | refine Mid.trans ?_ (Mid.alloc _ _) | refine Mid.storeNew ?_ (by simp; try omega) _)
  · have hjw : jwA r s es wd = none := by rw [jwA, if_neg fun h => hc h.1]
    obtain ⟨rfl, rfl, rfl, rfl⟩ := HR.out.no hjw
    have HC := Lib.hid hc
    clear hc hjw HR
    with_reducible refine (spec_IsSubgroup r s A es c _ _ _ (hr.mid hm0 oZl) hl false (iff_of_false Bool.false_ne_true HC.out)).mono ?_
    rintro en w2 ⟨rfl, hm2⟩
    replace b2 := b2.mid hm2 oZr
    replace hm0 := hm0.trans hm2
    have z0 := b2.cell 0 rfl
    have z1 := b2.cell 1 rfl
    have z2 := b2.cell 2 rfl
    have zf := b2.2.2
    go_wp2_with fail
    refine bodyPost_ret (v := .tuple #[.agg #[.int .i64 0, .int .i64 0, .slice none 0 0], .bool false]) (by simp [results, Tryz.results44, go_sem, z0, z1, z2, zf]) rfl ⟨none, 0, rfl, ?_, ?_⟩
    · exact ⟨Nat.le_refl _, ⟨rfl, .inl ⟨rfl, rfl⟩⟩, fun g hg => by simp [Value.ownBlock] at hg⟩
    · repeat (first | exact hm0 | refine Mid.trans ?_ (Mid.alloc _ _) | refine Mid.storeNew ?_ (by simp; try omega) _)
set_option maxHeartbeats 1600000 in
set_option maxRecDepth 20000 in
theorem impl_AddPetal (r s : Int) (A : Option Addr) (es : List Ed) (c : Nat) (Aw : Option Addr) (wd : List Int) (cw : Nat) (w : World) (lo hi lo' hi' : Nat) (hr : RG w lo hi A es) (hw : RV w lo' hi' Aw (ints wd)) (hl : es.length ≤ 1048576) (hwl : wd.length ≤ 1048576) (hok : OkI wd) (rs : Int) (res : List Ed) (b : Bool) (hres : PathIs r s es 0 wd 0 rs res b) :
    Calls Tryz.prog 59 #[graV r s A es.length c, .slice Aw wd.length cw] w fun e w' => ∃ A1 c1, e = .returned (.tuple #[graV r rs A1 res.length c1, .bool b]) ∧ OG w' w.heap.size w'.heap.size A1 c1 res ∧ Mid 0 0 w w' := by
  have hm0 : Mid 0 0 w ((w.alloc (.cells #[.int .i64 r, .int .i64 s, .slice A es.length c] 32)).alloc (.cells #[.int .i64 0, .int .i64 0, .slice none 0 0] 32)) := (Mid.alloc _ _).trans (Mid.alloc _ _)
  have b0 := (Box.new w #[.int .i64 r, .int .i64 s, .slice A es.length c] 32).mid (Mid.alloc _ (.cells #[.int .i64 0, .int .i64 0, .slice none 0 0] 32)) oZr
  have b2 := Box.new (w.alloc (.cells #[.int .i64 r, .int .i64 s, .slice A es.length c] 32)) #[.int .i64 0, .int .i64 0, .slice none 0 0] 32
  simp only [World.size_alloc] at b2
  have HR := Lib.hid hres
  have HOK := Lib.hid hok
  clear hres hok
  go_enter Tryz.func59, Tryz.ntmps59
  go_wp2_with fail
  generalize ((w.alloc (.cells #[.int .i64 r, .int .i64 s, .slice A es.length c] 32)).alloc (.cells #[.int .i64 0, .int .i64 0, .slice none 0 0] 32)) = w1 at hm0 b0 b2 ⊢
  have hs1 : w.heap.size + 1 < w1.heap.size := b2.1
  with_reducible refine (impl_AddPath r s A es c 0 Aw wd cw 0 w1 _ _ _ _ (hr.mid hm0 oZl) (hw.mid hm0 oZl) hl hwl HOK.out rs res b HR.out).mono ?_
  rintro en w2 ⟨A2, c2, rfl, ho2, hm2⟩
  replace b0 := b0.mid hm2 oZr
  replace b2 := b2.mid hm2 oZr
  replace hm0 := hm0.trans hm2
  have hs2 := hm2.size
  have z0 := b2.cell 0 rfl
  have z1 := b2.cell 1 rfl
  have z2 := b2.cell 2 rfl
  have zf := b2.2.2
  go_wp2_with fail
  refine bodyPost_ret (v := .tuple #[.agg #[.int .i64 r, .int .i64 rs, .slice A2 res.length c2], .bool b]) (by simp [results, Tryz.results59, go_sem, z0, z1, z2, zf]) rfl ⟨A2, c2, rfl, ?_, ?_⟩
  · refine OG.wide (OG.mid ho2 (a := w.heap.size + 1) (b := w.heap.size + 2) ?_ (Or.inl (by omega))) (by omega) (by simp) (Nat.le_refl _)
    repeat (first | exact Mid.refl _ _ _ | refine Mid.stored ?_ _ (by simp; try omega) (by simp; try omega))
  · repeat (first | exact hm0 | refine Mid.storeNew ?_ (by simp; try omega) _)
set_option maxHeartbeats 3200000 in
set_option maxRecDepth 20000 in
theorem impl_JoinWord (r s : Int) (A : Option Addr) (es : List Ed) (c : Nat) (Aw : Option Addr) (wd : List Int) (cw : Nat) (w : World) (lo hi lo' hi' : Nat) (hr : RG w lo hi A es) (hw : RV w lo' hi' Aw (ints wd)) (hl : es.length ≤ 1048576) (hcl : es.length ≤ c) (hwl : wd.length ≤ 1048576) (hok : OkI wd) (rr rs : Int) (res : List Ed) (b : Bool) (hres : JwIs r s es wd rr rs res b) :
    Calls Tryz.prog 29 #[graV r s A es.length c, .slice Aw wd.length cw] w fun e w' => ∃ A1 c1, e = .returned (.tuple #[graV rr rs A1 res.length c1, .bool b]) ∧ OG w' w.heap.size w'.heap.size A1 c1 res ∧ Mid 0 0 w w' := by
  have hm0 : Mid 0 0 w ((w.alloc (.cells #[.int .i64 r, .int .i64 s, .slice A es.length c] 32)).alloc (.cells #[.int .i64 0, .int .i64 0, .slice none 0 0] 32)) := (Mid.alloc _ _).trans (Mid.alloc _ _)
  have b0 := (Box.new w #[.int .i64 r, .int .i64 s, .slice A es.length c] 32).mid (Mid.alloc _ (.cells #[.int .i64 0, .int .i64 0, .slice none 0 0] 32)) oZr
  have b2 := Box.new (w.alloc (.cells #[.int .i64 r, .int .i64 s, .slice A es.length c] 32)) #[.int .i64 0, .int .i64 0, .slice none 0 0] 32
  simp only [World.size_alloc] at b2
  have HR := Lib.hid hres
  have HOK := Lib.hid hok
  clear hres hok
  go_enter Tryz.func29, Tryz.ntmps29
  go_wp2_with fail
  generalize ((w.alloc (.cells #[.int .i64 r, .int .i64 s, .slice A es.length c] 32)).alloc (.cells #[.int .i64 0, .int .i64 0, .slice none 0 0] 32)) = w1 at hm0 b0 b2 ⊢
  have hs1 : w.heap.size + 1 < w1.heap.size := b2.1
  by_cases hc : IsCor r s es
  · have HC := Lib.hid hc
    clear hc
    with_reducible refine (impl_IsCore r s A es c _ _ _ (hr.mid hm0 oZl) hl hcl true (iff_of_true rfl HC.out)).mono ?_
    rintro en w2 ⟨rfl, hm2⟩
    replace b0 := b0.mid hm2 oZr
    replace b2 := b2.mid hm2 oZr
    replace hm0 := hm0.trans hm2
    have hs2 := hm2.size
    have p0 := b0.cell 0 rfl
    have p1 := b0.cell 1 rfl
    have p2 := b0.cell 2 rfl
    go_wp2_with fail
    by_cases hwd : IsW r wd
    · have HW := Lib.hid hwd
      clear hwd
      with_reducible refine (impl_IsWord r Aw wd cw _ _ ((hw.mid hm0 oZl).rs) HOK.out (by omega) true (iff_of_true rfl HW.out)).mono ?_
      rintro en w3 ⟨rfl, rfl⟩
      by_cases hne : wd = []
      · subst hne
        have hjw : jwA r s es [] = some (s, es) := by rw [jwA, if_pos ⟨HC.out, HW.out⟩, if_pos rfl]
        obtain ⟨rfl, rfl, rfl, rfl⟩ := HR.out.yes hjw
        clear HR hjw
        go_wp2_with fail
        with_reducible refine (impl_copyGraph rr rs A res c _ _ _ (hr.mid hm0 oZl) hl).mono ?_
        rintro en w4 ⟨A4, c4, rfl, ho4, hm4⟩
        replace b2 := b2.mid hm4 oZr
        replace hm0 := hm0.trans hm4
        have hs4 := hm4.size
        have z0 := b2.cell 0 rfl
        have z1 := b2.cell 1 rfl
        have z2 := b2.cell 2 rfl
        have zf := b2.2.2
        clear p0 p1 p2
        go_wp2_with fail
        refine bodyPost_ret (v := .tuple #[.agg #[.int .i64 rr, .int .i64 rs, .slice A4 res.length c4], .bool true]) (by simp [results, Tryz.results29, go_sem, z0, z1, z2, zf]) rfl ⟨A4, c4, rfl, ?_, ?_⟩
        · refine OG.wide (OG.mid ho4 (a := w.heap.size + 1) (b := w.heap.size + 2) ?_ (Or.inl (by omega))) (by omega) (by simp) (Nat.le_refl _)
          repeat (first | exact Mid.refl _ _ _ | refine Mid.stored ?_ _ (by simp; try omega) (by simp; try omega))
        · repeat (first | exact hm0 | refine Mid.storeNew ?_ (by simp; try omega) _)
      · have d4 : ((wd.length : Int) == 0) = false := by have := List.length_pos_iff.2 hne; simp only [beq_eq_false_iff_ne]; omega
        have HNE := Lib.hid hne
        clear hne
        by_cases hp : PathOk r s es 0 wd 0
        · have HP := Lib.hid hp
          clear hp
          obtain ⟨ms, hms⟩ : ∃ ms, canon (es ++ pathE 0 s wd 0 wd.length) = ms := ⟨_, rfl⟩
          have hgm := path_gr HP.out
          rw [hms] at hgm
          obtain ⟨sn, hsn⟩ : ∃ sn : Nat, s + (wd.length : Int) - 1 = sn := ⟨(s + (wd.length : Int) - 1).toNat, by have := hgm.size; omega⟩
          have hPI : PathIs r s es 0 wd 0 (s + (wd.length : Int) - 1) ms true := Or.inl ⟨rfl, HP.out, rfl, hms.symm⟩
          have hjw : jwA r s es wd = some (coreA r (s + (wd.length : Int) - 1, canon (es ++ pathE 0 s wd 0 wd.length))) := by rw [jwA, if_pos ⟨HC.out, HW.out⟩, if_neg HNE.out, if_pos HP.out]
          rw [hms, hsn] at hjw
          rw [hsn] at hPI hgm
          have HGM := Lib.hid hgm
          have HPI := Lib.hid hPI
          have HSN := Lib.hid hsn
          clear hms hgm hPI hsn
          obtain ⟨rn, rfl⟩ : ∃ rn : Nat, r = rn := ⟨r.toNat, by have := HGM.out.rank; omega⟩
          obtain ⟨q, qs, hQ, -⟩ := nat_gr (coreA_gr (g := ((sn : Int), ms)) HGM.out)
          rw [hQ] at hjw
          obtain ⟨rfl, hrr, hrs, hre⟩ := HR.out.yes hjw
          subst hrr hrs
          subst res
          clear HR hjw
          go_wp2_with fail
          with_reducible refine (impl_AddPetal rn s A es c Aw wd cw _ _ _ _ _ (hr.mid hm0 oZl) (hw.mid hm0 oZl) hl hwl HOK.out sn ms true HPI.out).mono ?_
          rintro en w4 ⟨A4, c4, rfl, ho4, hm4⟩
          have hs4 := hm4.size
          have ha4 := Mid.alloc w4 (.cells #[.int .i64 rn, .int .i64 sn, .slice A4 ms.length c4] 32)
          have Y4 := Box.new w4 #[.int .i64 rn, .int .i64 sn, .slice A4 ms.length c4] 32
          replace b2 := b2.mid hm4 oZr
          replace hm0 := hm0.trans hm4
          replace b2 := b2.mid ha4 oZr
          replace ho4 := ho4.mid ha4 oZl
          replace hm0 := hm0.trans ha4
          have hsa := ha4.size
          have y0 := Y4.cell 0 rfl
          have y1 := Y4.cell 1 rfl
          have y2 := Y4.cell 2 rfl
          have hP := impl_CoreGraph rn sn A4 ms c4 (w4.alloc (.cells #[.int .i64 rn, .int .i64 sn, .slice A4 ms.length c4] 32)) _ _ (OG.rg ho4) HGM.out
          rw [hQ] at hP
          dsimp only at hP
          have HPP := Lib.hid hP
          clear hP hQ p0 p1 p2
          go_wp2_with fail
          with_reducible refine HPP.out.mono ?_
          rintro en w6 ⟨A5, c5, rfl, ho5, hm6⟩
          clear HPP
          replace b2 := b2.mid hm6 oZr
          replace hm0 := hm0.trans hm6
          have z0 := b2.cell 0 rfl
          have z1 := b2.cell 1 rfl
          have z2 := b2.cell 2 rfl
          have zf := b2.2.2
          go_wp2_with fail
          refine bodyPost_ret (v := .tuple #[.agg #[.int .i64 rn, .int .i64 q, .slice A5 qs.length c5], .bool true]) (by simp [results, Tryz.results29, go_sem, z0, z1, z2, zf]) rfl ⟨A5, c5, rfl, ?_, ?_⟩
          · refine OG.wide (OG.mid ho5 (a := w.heap.size + 1) (b := w.heap.size + 2) ?_ (Or.inl (by omega))) (by omega) (by simp) (Nat.le_refl _)
            repeat (first | exact Mid.refl _ _ _ | refine Mid.stored ?_ _ (by simp; try omega) (by simp; try omega))
          · repeat (first | exact hm0 | refine Mid.storeNew ?_ (by simp; try omega) _)
        · have hPI : PathIs r s es 0 wd 0 s es false := Or.inr ⟨rfl, hp, rfl, rfl⟩
          have hjw : jwA r s es wd = none := by rw [jwA, if_pos ⟨HC.out, HW.out⟩, if_neg HNE.out, if_neg hp]
          obtain ⟨rfl, rfl, rfl, rfl⟩ := HR.out.no hjw
          have HPI := Lib.hid hPI
          clear HR hjw hp hPI
          go_wp2_with fail
          with_reducible refine (impl_AddPetal r s A es c Aw wd cw _ _ _ _ _ (hr.mid hm0 oZl) (hw.mid hm0 oZl) hl hwl HOK.out s es false HPI.out).mono ?_
          rintro en w4 ⟨A4, c4, rfl, ho4, hm4⟩
          replace b2 := b2.mid hm4 oZr
          replace hm0 := hm0.trans hm4
          have hb23 : w.heap.size + 1 < w4.heap.size := b2.1
          have hb22 : w.heap.size < w4.heap.size := by omega
          have z0 := b2.cell 0 rfl
          have z1 := b2.cell 1 rfl
          have z2 := b2.cell 2 rfl
          have zf := b2.2.2
          clear p0 p1 p2
          go_wp2_with fail
          refine bodyPost_ret (v := .tuple #[.agg #[.int .i64 0, .int .i64 0, .slice none 0 0], .bool false]) (by simp [results, Tryz.results29, go_sem, z0, z1, z2, zf, hb22, hb23, World.cell?_alloc_lt]) rfl ⟨none, 0, rfl, ?_, ?_⟩
          · exact ⟨Nat.le_refl _, ⟨rfl, .inl ⟨rfl, rfl⟩⟩, fun g hg => by simp [Value.ownBlock] at hg⟩
          · repeat (first | exact hm0 | refine Mid.trans ?_ (Mid.alloc _ _) | refine Mid.storeNew ?_ (by simp; try omega) _)
    · have hjw : jwA r s es wd = none := by rw [jwA, if_neg fun h => hwd h.2]
      obtain ⟨rfl, rfl, rfl, rfl⟩ := HR.out.no hjw
      have HW := Lib.hid hwd
      clear hwd hjw HR
      with_reducible refine (impl_IsWord r Aw wd cw _ _ ((hw.mid hm0 oZl).rs) HOK.out (by omega) false (iff_of_false Bool.false_ne_true HW.out)).mono ?_
      rintro en w3 ⟨rfl, rfl⟩
      have z0 := b2.cell 0 rfl
      have z1 := b2.cell 1 rfl
      have z2 := b2.cell 2 rfl
      have zf := b2.2.2
      clear p0 p1 p2
      go_wp2_with fail
      refine bodyPost_ret (v := .tuple #[.agg #[.int .i64 0, .int .i64 0, .slice none 0 0], .bool false]) (by simp [results, Tryz.results29, go_sem, z0, z1, z2, zf]) rfl ⟨none, 0, rfl, ?_, ?_⟩
      · exact ⟨Nat.le_refl _, ⟨rfl, .inl ⟨rfl, rfl⟩⟩, fun g hg => by simp [Value.ownBlock] at hg⟩
      · repeat (first | exact hm0 | refine Mid.trans ?_ (Mid.alloc _ _) | refine Mid.storeNew ?_ (by simp; try omega) _)
  · have hjw : jwA r s es wd = none := by rw [jwA, if_neg fun h => hc h.1]
    obtain ⟨rfl, rfl, rfl, rfl⟩ := HR.out.no hjw
    have HC := Lib.hid hc
    clear hc hjw HR
    with_reducible refine (impl_IsCore r s A es c _ _ _ (hr.mid hm0 oZl) hl hcl false (iff_of_false Bool.false_ne_true HC.out)).mono ?_
    rintro en w2 ⟨rfl, hm2⟩
    replace b2 := b2.mid hm2 oZr
    replace hm0 := hm0.trans hm2
    have z0 := b2.cell 0 rfl
    have z1 := b2.cell 1 rfl
    have z2 := b2.cell 2 rfl
    have zf := b2.2.2
    go_wp2_with fail
    refine bodyPost_ret (v := .tuple #[.agg #[.int .i64 0, .int .i64 0, .slice none 0 0], .bool false]) (by simp [results, Tryz.results29, go_sem, z0, z1, z2, zf]) rfl ⟨none, 0, rfl, ?_, ?_⟩
    · exact ⟨Nat.le_refl _, ⟨rfl, .inl ⟨rfl, rfl⟩⟩, fun g hg => by simp [Value.ownBlock] at hg⟩
    · repeat (first | exact hm0 | refine Mid.trans ?_ (Mid.alloc _ _) | refine Mid.storeNew ?_ (by simp; try omega) _)
end Go.Proofs.YtkaofcakelpnpaaGreat

namespace Go.Proofs.YtkaofcakelpnpaaGreat
set_option linter.unusedVariables false
set_option linter.unusedSimpArgs false
def permE (x : Int) (p : List Int) (k : Nat) : List Ed := (List.range k).map fun (v : Nat) => ⟨(v : Int), x, p.getD v 0⟩
theorem permE_len (x : Int) (p : List Int) (k : Nat) : (permE x p k).length = k := by simp [permE]
def actEs (l : List (List Int)) : Nat → List Ed
  | 0 => []
  | k + 1 => actEs l k ++ (match l[k]? with | none => [] | some p => permE ((k : Int) + 1) p p.length)
theorem actEs_succ {l : List (List Int)} {k : Nat} {p : List Int} (h : l[k]? = some p) : actEs l (k + 1) = actEs l k ++ permE ((k : Int) + 1) p p.length := by rw [actEs, h]
structure GActOk (rank : Int) (l : List (List Int)) (n : Nat) : Prop where
  rk : 1 ≤ rank ∧ rank ≤ 3
  ln : (l.length : Int) = rank
  n0 : 0 < n
  all : ∀ p ∈ l, IsPerm p ∧ p.length = n
theorem GActOk.n40 {rank : Int} {l : List (List Int)} {n : Nat} (h : GActOk rank l n) : n ≤ 40 := by
  have h1 := h.ln
  have h2 := h.rk
  cases l with
  | nil => simp at h1; omega
  | cons p t =>
    have := h.all p (by simp)
    have h3 := this.1.1
    omega
theorem actEs_len {l : List (List Int)} {n : Nat} (h : ∀ p ∈ l, p.length = n) : ∀ k, k ≤ l.length → (actEs l k).length = k * n
  | 0, _ => by simp [actEs]
  | k + 1, hk => by
    have hp := List.getElem?_eq_getElem (l := l) (i := k) (by omega)
    rw [actEs_succ hp, List.length_append, permE_len, actEs_len h k (by omega), h _ (List.getElem_mem _), Nat.succ_mul]
theorem act_in {rank : Int} {l : List (List Int)} {n : Nat} (h : GActOk rank l n) : ∀ k, k ≤ l.length → ∀ e ∈ actEs l k, InG rank n e
  | 0, _, e, he => by simp [actEs] at he
  | k + 1, hk, e, he => by
    have hp := List.getElem?_eq_getElem (l := l) (i := k) (by omega)
    rw [actEs_succ hp] at he
    rcases List.mem_append.1 he with he | he
    · exact act_in h k (by omega) e he
    · simp only [permE, List.mem_map, List.mem_range] at he
      obtain ⟨v, hv, rfl⟩ := he
      obtain ⟨h1, h2⟩ := h.all _ (List.getElem_mem (by omega : k < l.length))
      have h3 := h1.2.1 (l[k].getD v 0) (by rw [List.getD_eq_getElem?_getD, List.getElem?_eq_getElem hv]; exact List.getElem_mem _)
      have h4 := h.ln
      unfold InG
      simp only
      omega
theorem act_gr {rank : Int} {l : List (List Int)} {n : Nat} (h : GActOk rank l n) : IsGr rank n (canon (actEs l l.length)) := by
  have h40 := h.n40
  have hr := h.rk
  have hn := h.n0
  refine ⟨hr, ⟨by omega, by omega⟩, ?_, ?_, asc_canon _⟩
  · have h1 := canon_len (actEs l l.length)
    rw [actEs_len (fun p hp => (h.all p hp).2) l.length (Nat.le_refl _)] at h1
    have h2 := h.ln
    have h3 : l.length * n ≤ 3 * 40 := Nat.mul_le_mul (by omega) h40
    omega
  · intro e he
    exact act_in h l.length (Nat.le_refl _) e (mem_canon.1 he)
end Go.Proofs.YtkaofcakelpnpaaGreat

namespace Go.Proofs.YtkaofcakelpnpaaGreat
set_option linter.unusedVariables false
set_option linter.unusedSimpArgs false
open Go.RowKit
def n0L (l : List (List Int)) : Nat := (l.headD []).length
def GActIs (rank : Int) (l : List (List Int)) (rr rs : Int) (res : List Ed) (b : Bool) : Prop :=
  (b = true ∧ GActOk rank l (n0L l) ∧ rr = rank ∧ rs = (coreA rank ((n0L l : Nat), canon (actEs l l.length))).1 ∧ res = (coreA rank ((n0L l : Nat), canon (actEs l l.length))).2) ∨ (b = false ∧ ¬ GActOk rank l (n0L l) ∧ rr = 0 ∧ rs = 0 ∧ res = [])
theorem GActIs.no {rank : Int} {l : List (List Int)} {rr rs : Int} {res : List Ed} {b : Bool} (h : GActIs rank l rr rs res b) (hn : ¬ GActOk rank l (n0L l)) : b = false ∧ rr = 0 ∧ rs = 0 ∧ res = [] := by
  rcases h with ⟨-, h, -⟩ | ⟨h1, -, h2⟩
  · exact absurd h hn
  · exact ⟨h1, h2⟩
theorem GActIs.yes {rank : Int} {l : List (List Int)} {rr rs : Int} {res : List Ed} {b : Bool} (h : GActIs rank l rr rs res b) (hn : GActOk rank l (n0L l)) : b = true ∧ rank = rr ∧ rs = (coreA rank ((n0L l : Nat), canon (actEs l l.length))).1 ∧ res = (coreA rank ((n0L l : Nat), canon (actEs l l.length))).2 := by
  rcases h with ⟨h1, -, h2, h3⟩ | ⟨-, h, -⟩
  · exact ⟨h1, h2.symm, h3⟩
  · exact absurd hn h
theorem GActIs.lens {rank : Int} {l : List (List Int)} {rr rs : Int} {res : List Ed} {b : Bool} (h : GActIs rank l rr rs res b) : res.length ≤ 120 := by
  rcases h with ⟨-, h, -, -, rfl⟩ | ⟨-, -, -, -, rfl⟩
  · exact (coreA_gr (g := ((n0L l : Nat), canon (actEs l l.length))) (act_gr h)).len
  · simp
theorem inB_rank {x : Int} {b : Bool} (hb : b = true ↔ 1 ≤ x ∧ x ≤ 3) : inB x 1 3 = b := by
  cases b with
  | true => have := hb.1 rfl; unfold inB; simp; omega
  | false =>
    have h : ¬ (1 ≤ x ∧ x ≤ 3) := fun h => by have := hb.2 h; cases this
    unfold inB
    simp
    omega
end Go.Proofs.YtkaofcakelpnpaaGreat

namespace Go.Proofs.YtkaofcakelpnpaaGreat
set_option linter.unusedVariables false
set_option linter.unusedSimpArgs false
open Go.RowKit
def AreW (rk : Int) (d : List (List Int)) : Prop := 1 ≤ rk ∧ rk ≤ 3 ∧ d.length ≤ 6 ∧ (∀ xs ∈ d, IsW rk xs) ∧ sumL d < 40
end Go.Proofs.YtkaofcakelpnpaaGreat

namespace Go.Proofs.YtkaofcakelpnpaaGreat
set_option linter.unusedVariables false
set_option linter.unusedSimpArgs false
open Go.RowKit
theorem empty_gr {r : Int} (h : 1 ≤ r ∧ r ≤ 3) : IsGr r 1 [] := ⟨h, by omega, by simp, by simp, List.Pairwise.nil⟩
structure FlOk (r : Int) (l : List (List Int)) (k : Nat) (g : Int × List Ed) : Prop where
  gr : IsGr r g.1 g.2
  sz : g.1 ≤ 1 + (sumL (l.take k) : Nat)
  ln : g.2.length ≤ sumL (l.take k)
theorem FlOk.path {r : Int} {l : List (List Int)} {k : Nat} {g : Int × List Ed} {w : List Int} (ha : AreW r l) (h : FlOk r l k g) (hw : l[k]? = some w) (hn : w ≠ []) : PathOk r g.1 g.2 0 w 0 := by
  have h1 := sumL_take_succ hw
  have h2 := sumL_take_le l (k + 1)
  have h3 := ha.2.2.2.2
  have h4 := h.sz
  have h5 := h.ln
  have h6 := h.gr.size
  exact ⟨h.gr, by omega, by omega, ha.2.2.2.1 w (List.mem_of_getElem? hw), hn, by omega, by omega⟩
theorem FlOk.step {r : Int} {l : List (List Int)} {k : Nat} {g : Int × List Ed} {w : List Int} (ha : AreW r l) (h : FlOk r l k g) (hw : l[k]? = some w) : FlOk r l (k + 1) (petalA g w) := by
  have h1 := sumL_take_succ hw
  by_cases hn : w = []
  · subst hn
    have h4 := h.sz
    have h5 := h.ln
    simp only [List.length_nil] at h1
    rw [petalA, if_pos rfl]
    exact ⟨h.gr, by omega, by omega⟩
  · have hp := h.path ha hw hn
    have h4 := h.sz
    have h5 := h.ln
    have h6 := canon_len (g.2 ++ pathE 0 g.1 w 0 w.length)
    have h7 : 0 < w.length := List.length_pos_iff.2 hn
    rw [List.length_append, pathE_len] at h6
    rw [petalA, if_neg hn]
    exact ⟨path_gr hp, by simp only; omega, by simp only; omega⟩
theorem FlOk.zero {r : Int} (l : List (List Int)) (h : 1 ≤ r ∧ r ≤ 3) : FlOk r l 0 (1, []) := ⟨empty_gr h, by simp [sumL], by simp⟩
theorem fl_ok {r : Int} {l : List (List Int)} (ha : AreW r l) : ∀ k, k ≤ l.length → FlOk r l k (flowA (l.take k) (1, []))
  | 0, _ => FlOk.zero l ⟨ha.1, ha.2.1⟩
  | k + 1, hk => by
    have hw := List.getElem?_eq_getElem (l := l) (i := k) (by omega)
    rw [flowA_take hw]
    exact (fl_ok ha k (by omega)).step ha hw
def FlIs (rank : Int) (l : List (List Int)) (rr rs : Int) (res : List Ed) (b : Bool) : Prop :=
  (b = true ∧ AreW rank l ∧ rr = rank ∧ rs = (flowA l (1, [])).1 ∧ res = (flowA l (1, [])).2) ∨ (b = false ∧ ¬ AreW rank l ∧ rr = 0 ∧ rs = 0 ∧ res = [])
def SubIs (rank : Int) (l : List (List Int)) (rr rs : Int) (res : List Ed) (b : Bool) : Prop :=
  (b = true ∧ AreW rank l ∧ rr = rank ∧ rs = (coreA rank (flowA l (1, []))).1 ∧ res = (coreA rank (flowA l (1, []))).2) ∨ (b = false ∧ ¬ AreW rank l ∧ rr = 0 ∧ rs = 0 ∧ res = [])
theorem flow_gr {r : Int} {l : List (List Int)} (ha : AreW r l) : IsGr r (flowA l (1, [])).1 (flowA l (1, [])).2 := by
  have := (fl_ok ha l.length (Nat.le_refl _)).gr
  rw [List.take_length] at this
  exact this
theorem SubIs.lens {rank : Int} {l : List (List Int)} {rr rs : Int} {res : List Ed} {b : Bool} (h : SubIs rank l rr rs res b) : res.length ≤ 120 := by
  rcases h with ⟨-, h, -, -, rfl⟩ | ⟨-, -, -, -, rfl⟩
  · exact (coreA_gr (flow_gr h)).len
  · simp
set_option maxHeartbeats 800000 in
theorem spec_NewGraph (rank : Int) (w : World) (h : 1 ≤ rank ∧ rank ≤ 3) :
    Calls Tryz.prog 43 #[.int .i64 rank] w fun e w' => e = .returned (.tuple #[graV rank 1 none 0 0, .bool true]) ∧ Mid 0 0 w w' := by
  have hm0 : Mid 0 0 w (w.alloc (.cells #[.int .i64 0, .int .i64 0, .slice none 0 0] 32)) := Mid.alloc _ _
  have b2 := Box.new w #[.int .i64 0, .int .i64 0, .slice none 0 0] 32
  have hi1 : inB rank 1 3 = true := inB_rank (iff_of_true rfl h)
  go_enter Tryz.func43, Tryz.ntmps43
  go_wp2_with fail
  generalize w.alloc (.cells #[.int .i64 0, .int .i64 0, .slice none 0 0] 32) = w1 at hm0 b2 ⊢
  have hs1 : w.heap.size < w1.heap.size := b2.1
  with_reducible refine (l1In_at hi1 _).mono ?_
  rintro en w2 ⟨rfl, rfl⟩
  have z0 := b2.cell 0 rfl
  have z1 := b2.cell 1 rfl
  have z2 := b2.cell 2 rfl
  have zf := b2.2.2
  go_wp2_with fail
  refine bodyPost_ret (v := .tuple #[.agg #[.int .i64 rank, .int .i64 1, .slice none 0 0], .bool true]) (by simp [results, Tryz.results43, go_sem, z0, z1, z2, zf]) rfl ⟨rfl, ?_⟩
  repeat (first | exact hm0 | refine Mid.storeNew ?_ (by simp; try omega) _)
def WholeP (r s : Int) (es : List Ed) : Prop := IsCor r s es ∧ s = 1 ∧ (es.length : Int) = r
set_option maxHeartbeats 800000 in
theorem impl_NewGraph (rank : Int) (w : World) (h : 1 ≤ rank ∧ rank ≤ 3) :
    Calls Tryz.prog 53 #[.int .i64 rank] w fun e w' => e = .returned (.tuple #[graV rank 1 none 0 0, .bool true]) ∧ Mid 0 0 w w' := by
  have hm0 : Mid 0 0 w (w.alloc (.cells #[.int .i64 0, .int .i64 0, .slice none 0 0] 32)) := Mid.alloc _ _
  have b2 := Box.new w #[.int .i64 0, .int .i64 0, .slice none 0 0] 32
  have hi1 : inB rank 1 3 = true := inB_rank (iff_of_true rfl h)
  go_enter Tryz.func53, Tryz.ntmps53
  go_wp2_with fail
  generalize w.alloc (.cells #[.int .i64 0, .int .i64 0, .slice none 0 0] 32) = w1 at hm0 b2 ⊢
  have hs1 : w.heap.size < w1.heap.size := b2.1
  with_reducible refine (within_at hi1 _).mono ?_
  rintro en w2 ⟨rfl, rfl⟩
  have z0 := b2.cell 0 rfl
  have z1 := b2.cell 1 rfl
  have z2 := b2.cell 2 rfl
  have zf := b2.2.2
  go_wp2_with fail
  refine bodyPost_ret (v := .tuple #[.agg #[.int .i64 rank, .int .i64 1, .slice none 0 0], .bool true]) (by simp [results, Tryz.results53, go_sem, z0, z1, z2, zf]) rfl ⟨rfl, ?_⟩
  repeat (first | exact hm0 | refine Mid.storeNew ?_ (by simp; try omega) _)
end Go.Proofs.YtkaofcakelpnpaaGreat

namespace Go.Proofs.YtkaofcakelpnpaaGreat
set_option linter.unusedVariables false
set_option linter.unusedSimpArgs false
open Go.RowKit
noncomputable def stepJ (r : Int) (g : Option (Int × List Ed)) (x : List Int) : Option (Int × List Ed) :=
  match g with
  | none => none
  | some p => if x.length ≤ 24 then jwA r p.1 p.2 x else none
noncomputable def joinJ (r : Int) (l : List (List Int)) : Option (Int × List Ed) := l.foldl (stepJ r) (some (1, []))
theorem joinJ_take {r : Int} {l : List (List Int)} {k : Nat} {x : List Int} (h : l[k]? = some x) : joinJ r (l.take (k + 1)) = stepJ r (joinJ r (l.take k)) x := by
  obtain ⟨h1, h2⟩ := List.getElem?_eq_some_iff.1 h
  unfold joinJ
  rw [List.take_succ_eq_append_getElem h1, h2, List.foldl_append]
  rfl
theorem stepJ_none (r : Int) (l : List (List Int)) : l.foldl (stepJ r) none = none := by
  induction l with
  | nil => rfl
  | cons x t ih => exact ih
theorem joinJ_none {r : Int} {l : List (List Int)} {k : Nat} (h : joinJ r (l.take k) = none) : joinJ r l = none := by
  unfold joinJ at h ⊢
  rw [← List.take_append_drop k l, List.foldl_append, h]
  exact stepJ_none r _
theorem joinJ_gr {r : Int} (hr : 1 ≤ r ∧ r ≤ 3) {l : List (List Int)} {p : Int × List Ed} (h : joinJ r l = some p) : IsGr r p.1 p.2 := by
  have key : ∀ (l : List (List Int)) (g : Int × List Ed), IsGr r g.1 g.2 → ∀ p, l.foldl (stepJ r) (some g) = some p → IsGr r p.1 p.2 := by
    intro l
    induction l with
    | nil =>
      intro g hg p h
      injection h with h
      subst h
      exact hg
    | cons x t ih =>
      intro g hg p h
      rw [List.foldl_cons] at h
      cases hs : stepJ r (some g) x with
      | none =>
        rw [hs, stepJ_none] at h
        cases h
      | some q =>
        rw [hs] at h
        refine ih q ?_ p h
        simp only [stepJ] at hs
        split at hs
        · exact (jwA_some hs).2.2
        · cases hs
  exact key l (1, []) (empty_gr hr) p h
theorem stepJ_long {r : Int} {g : Int × List Ed} {x : List Int} (h : ¬ x.length ≤ 24) : stepJ r (some g) x = none := by
  simp only [stepJ]
  rw [if_neg h]
theorem stepJ_some {r : Int} {g : Int × List Ed} {x : List Int} (h : x.length ≤ 24) : stepJ r (some g) x = jwA r g.1 g.2 x := by
  simp only [stepJ]
  rw [if_pos h]
def WsIs (r : Int) (l : List (List Int)) (rr rs : Int) (res : List Ed) (b : Bool) : Prop :=
  (joinJ r l = none ∧ b = false ∧ rr = 0 ∧ rs = 0 ∧ res = []) ∨ (∃ p, joinJ r l = some p ∧ b = true ∧ rr = r ∧ rs = p.1 ∧ res = p.2)
theorem WsIs_ex (r : Int) (l : List (List Int)) : ∃ rr rs res b, WsIs r l rr rs res b := by
  cases h : joinJ r l with
  | none => exact ⟨_, _, _, _, .inl ⟨h, rfl, rfl, rfl, rfl⟩⟩
  | some p => exact ⟨_, _, _, _, .inr ⟨p, h, rfl, rfl, rfl, rfl⟩⟩
theorem WsIs.no {r : Int} {l : List (List Int)} {rr rs : Int} {res : List Ed} {b : Bool} (h : WsIs r l rr rs res b) (hn : joinJ r l = none) : b = false ∧ rr = 0 ∧ rs = 0 ∧ res = [] := by
  rcases h with ⟨-, h⟩ | ⟨p, h, -⟩
  · exact h
  · rw [hn] at h
    cases h
theorem WsIs.yes {r : Int} {l : List (List Int)} {rr rs : Int} {res : List Ed} {b : Bool} (h : WsIs r l rr rs res b) {p : Int × List Ed} (hn : joinJ r l = some p) : b = true ∧ rr = r ∧ rs = p.1 ∧ res = p.2 := by
  rcases h with ⟨h, -⟩ | ⟨q, h, h2⟩
  · rw [hn] at h
    cases h
  · rw [hn] at h
    injection h with h
    subst h
    exact h2
theorem WsIs.lens {r : Int} (hr : 1 ≤ r ∧ r ≤ 3) {l : List (List Int)} {rr rs : Int} {res : List Ed} {b : Bool} (h : WsIs r l rr rs res b) : res.length ≤ 120 := by
  rcases h with ⟨-, -, -, -, rfl⟩ | ⟨p, h, -, -, -, rfl⟩
  · simp
  · exact (joinJ_gr hr h).len
noncomputable def basA (r : Int) (es : List Ed) : List (List Int) := (notIn (treeE es (bfs es (lets r.toNat) 0)) es).map (basisW r.toNat es)
theorem basisW_ok {r n : Nat} {es : List Ed} (h : IsCor r n es) {e : Ed} (he : e ∈ es) : (basisW r es e).length ≤ 81 ∧ OkI (basisW r es e) := by
  have hin := h.gr.all e he
  have hr := h.gr.rank
  have hn := h.gr.size
  unfold InG at hin
  obtain ⟨a, l, b⟩ := e
  simp only at hin
  obtain ⟨pa, rfl⟩ : ∃ m : Nat, a = m := ⟨a.toNat, by omega⟩
  obtain ⟨pb, rfl⟩ : ∃ m : Nat, b = m := ⟨b.toNat, by omega⟩
  obtain ⟨h1, h2⟩ := wordV_ok h (v := pa) (by omega)
  obtain ⟨h3, h4⟩ := wordV_ok h (v := pb) (by omega)
  unfold basisW
  simp only
  refine ⟨?_, red_ok ?_⟩
  · have h5 := red_nil_len (wordV r es (pa : Int) ++ [l] ++ invW (wordV r es (pb : Int)))
    rw [List.length_append, List.length_append, invW_len] at h5
    simp only [List.length_cons, List.length_nil] at h5
    omega
  · intro x hx
    rcases List.mem_append.1 hx with hx | hx
    · rcases List.mem_append.1 hx with hx | hx
      · have := mem_lets.1 (h2 x hx)
        omega
      · simp at hx
        subst hx
        omega
    · exact okI_invW (fun y hy => by have := mem_lets.1 (h4 y hy); omega) x hx
theorem basA_len {r n : Nat} {es : List Ed} (h : IsCor r n es) : (basA r es).length ≤ 120 := by
  have h1 := notIn_len (treeE es (bfs es (lets r) 0)) es
  have h2 := h.gr.len
  unfold basA
  rw [List.length_map, Int.toNat_natCast]
  omega
theorem basA_ok {r n : Nat} {es : List Ed} (h : IsCor r n es) {x : List Int} (hx : x ∈ basA r es) : x.length ≤ 81 ∧ OkI x := by
  unfold basA at hx
  obtain ⟨e, he, rfl⟩ := List.mem_map.1 hx
  rw [Int.toNat_natCast] at he ⊢
  exact basisW_ok h (List.mem_filter.1 he).1
theorem expand_lenA {d : List (List Int)} (hb : ∀ xs ∈ d, xs.length ≤ 24) (ho : ∀ xs ∈ d, OkI xs) (l : List Int) : (expand d l).length ≤ 4800 := by
  have h1 := red_nil_len (pieces d (l.take 200)).flatten
  have h2 := pieces_take_len hb ho l (Nat.le_refl 200)
  unfold expand
  omega
theorem expand_ok {d : List (List Int)} (hb : ∀ xs ∈ d, xs.length ≤ 24) (ho : ∀ xs ∈ d, OkI xs) (l : List Int) : OkI (expand d l) := red_ok (pieces_ok hb ho _)
def ImgOk (r0 : Int) (d : List (List Int)) (r s : Int) (es : List Ed) : Prop := IsMor r0 d ∧ IsCor r s es ∧ r = r0
def ImgIs (r0 : Int) (d : List (List Int)) (r s : Int) (es : List Ed) (rr rs : Int) (res : List Ed) (b : Bool) : Prop :=
  (¬ ImgOk r0 d r s es ∧ b = false ∧ rr = 0 ∧ rs = 0 ∧ res = []) ∨ (ImgOk r0 d r s es ∧ WsIs r0 ((basA r es).map (expand d)) rr rs res b)
theorem ImgIs_ex (r0 : Int) (d : List (List Int)) (r s : Int) (es : List Ed) : ∃ rr rs res b, ImgIs r0 d r s es rr rs res b := by
  by_cases h : ImgOk r0 d r s es
  · obtain ⟨rr, rs, res, b, hg⟩ := WsIs_ex r0 ((basA r es).map (expand d))
    exact ⟨rr, rs, res, b, .inr ⟨h, hg⟩⟩
  · exact ⟨_, _, _, _, .inl ⟨h, rfl, rfl, rfl, rfl⟩⟩
theorem ImgIs.no {r0 : Int} {d : List (List Int)} {r s : Int} {es : List Ed} {rr rs : Int} {res : List Ed} {b : Bool} (h : ImgIs r0 d r s es rr rs res b) (hn : ¬ ImgOk r0 d r s es) : b = false ∧ rr = 0 ∧ rs = 0 ∧ res = [] := by
  rcases h with ⟨-, h⟩ | ⟨h, -⟩
  · exact h
  · exact absurd h hn
theorem ImgIs.yes {r0 : Int} {d : List (List Int)} {r s : Int} {es : List Ed} {rr rs : Int} {res : List Ed} {b : Bool} (h : ImgIs r0 d r s es rr rs res b) (hn : ImgOk r0 d r s es) : WsIs r0 ((basA r es).map (expand d)) rr rs res b := by
  rcases h with ⟨h, -⟩ | ⟨-, h⟩
  · exact absurd hn h
  · exact h
theorem ImgIs.lens {r0 : Int} {d : List (List Int)} {r s : Int} {es : List Ed} {rr rs : Int} {res : List Ed} {b : Bool} (h : ImgIs r0 d r s es rr rs res b) : res.length ≤ 120 := by
  rcases h with ⟨-, -, -, -, rfl⟩ | ⟨h1, h⟩
  · simp
  · exact h.lens ⟨h1.1.1, h1.1.2.1⟩
theorem spec_BasisA (r n : Nat) (A : Option Addr) (es : List Ed) (c : Nat) (w : World) (lo hi : Nat) (hr : RG w lo hi A es) (hco : IsCor r n es) :
    Calls Tryz.prog 19 #[graV r n A es.length c] w fun e w' => ∃ A1 c1, e = .returned (.slice A1 (basA r es).length c1) ∧ OSS w' w.heap.size w'.heap.size 48 3 A1 c1 (basA r es) ∧ Mid 0 0 w w' := by
  have h := spec_BasisOf r n A es c w lo hi hr hco _ rfl
  unfold basA
  rw [Int.toNat_natCast]
  exact h
theorem impl_BasisA (r n : Nat) (A : Option Addr) (es : List Ed) (c : Nat) (w : World) (lo hi : Nat) (hr : RG w lo hi A es) (hcl : es.length ≤ c) (hco : IsCor r n es) :
    Calls Tryz.prog 27 #[graV r n A es.length c] w fun e w' => ∃ A1 c1, e = .returned (.slice A1 (basA r es).length c1) ∧ OSS w' w.heap.size w'.heap.size 48 3 A1 c1 (basA r es) ∧ Mid 0 0 w w' := by
  have hn40 := hco.gr.size
  have hl := hco.gr.len
  have hT : (treeE es (bfs es (lets r) 0)).length ≤ 1000000 := by
    unfold treeE
    rw [List.length_map, List.length_tail, hco.found]
    omega
  have hX := notIn_len (treeE es (bfs es (lets r) 0)) es
  have h := impl_BasisOf r n A es c w lo hi hr hcl hco (notIn (treeE es (bfs es (lets r) 0)) es) (fun e he => (List.mem_filter.1 he).1) (by omega)
    (fun W hW => impl_ExtraEdges r n A es c W lo hi hW hcl hco.fol _ hT fun W' hW' => impl_treeEdges r n A es c W' lo hi hW' hco.fol)
  unfold basA
  rw [Int.toNat_natCast]
  exact h
end Go.Proofs.YtkaofcakelpnpaaGreat

namespace Go.Proofs.YtkaofcakelpnpaaGreat
set_option linter.unusedVariables false
set_option linter.unusedSimpArgs false
open Go.RowKit
set_option maxHeartbeats 6400000 in
set_option maxRecDepth 100000 in
theorem spec_l19Words (rk : Int) (A : Option Addr) (l : List (List Int)) (c : Nat) (w : World) (lo hi : Nat) (hr : RSS w lo hi A l) (hok : ∀ xs ∈ l, OkI xs) (hl : l.length + sumL l ≤ 1048576) (hrk : 1 ≤ rk ∧ rk ≤ 3) (rr rs : Int) (res : List Ed) (b : Bool) (hres : WsIs rk l rr rs res b) :
    Calls Tryz.prog 21 #[.int .i64 rk, .slice A l.length c] w fun e w' => ∃ A1 c1, e = .returned (.tuple #[graV rr rs A1 res.length c1, .bool b]) ∧ OG w' w.heap.size w'.heap.size A1 c1 res ∧ Mid 0 0 w w' := by
  have HR := Lib.hid hres
  have HOK := Lib.hid hok
  clear hres hok
  have hm0 : Mid 0 0 w (w.alloc (.cells #[.int .i64 0, .int .i64 0, .slice none 0 0] 32)) := Mid.alloc _ _
  have b2 := Box.new w #[.int .i64 0, .int .i64 0, .slice none 0 0] 32
  go_enter Tryz.func21, Tryz.ntmps21
  go_wp2_with fail
  generalize w.alloc (.cells #[.int .i64 0, .int .i64 0, .slice none 0 0] 32) = w1 at hm0 b2 ⊢
  have hs1 : w.heap.size < w1.heap.size := b2.1
  with_reducible refine (spec_NewGraph rk _ hrk).mono ?_
  rintro en w4 ⟨rfl, hm4⟩
  have hs4 := hm4.size
  have ha4 := Mid.alloc w4 (.cells #[.int .i64 rk, .int .i64 1, .slice none 0 0] 32)
  have Y4 := Box.new w4 #[.int .i64 rk, .int .i64 1, .slice none 0 0] 32
  replace b2 := b2.mid hm4 oZr
  replace hm0 := hm0.trans hm4
  have hb4 := b2.1
  replace b2 := b2.mid ha4 oZr
  replace hm0 := hm0.trans ha4
  go_wp2_with fail
  generalize w4.alloc (.cells #[.int .i64 rk, .int .i64 1, .slice none 0 0] 32) = w5 at b2 Y4 hm0 ⊢
  have hs5 : w4.heap.size < w5.heap.size := Y4.1
  clear ha4 hm4
  generalize hG : w4.heap.size = Gb at Y4 hb4 hs5
  clear hG hs4
  have hhi := hr.size
  go_loopw [8] (fun i wr => ∃ (k : Nat) (A2 : Option Addr) (c2 hi2 : Nat) (g : Int × List Ed), k ≤ l.length ∧ i = .int .i64 k ∧ Hid (joinJ rk (l.take k) = some g) ∧ OG wr (Gb + 1) hi2 A2 c2 g.2 ∧
      Box wr w.heap.size [.int .i64 0, .int .i64 0, .slice none 0 0] ∧ Box wr Gb [.int .i64 rk, .int .i64 g.1, .slice A2 g.2.length c2] ∧ Mid 0 0 w wr) (fun i _ => l.length - (intOf i).toNat)
  case atStart => exact ⟨0, none, 0, _, (1, []), Nat.zero_le _, rfl, Lib.hid rfl, OG.nil, b2, Y4, hm0⟩
  case round =>
    clear b2 Y4 hm0 hs5
    obtain ⟨wo, hwo⟩ : ∃ wo, wo = wr := ⟨_, rfl⟩
    subst hwo
    obtain ⟨k, A2, c2, hi2, ⟨gs, ge⟩, hk, rfl, HGE, hown, Z2, Z3, hm⟩ := hrel
    dsimp only at hown Z3
    have hGo : Gb < wo.heap.size := Z3.1
    have hgl := (joinJ_gr hrk HGE.out).len
    dsimp only at hgl
    by_cases hlt : k < l.length
    · obtain ⟨Bp, op, Ap, cp, p, rfl, -, hBp, hp, hcp, hrp⟩ := (hr.mid hm oZl).row hlt
      have hpl : p.length ≤ 1048576 := by have := len_le_sumL (List.mem_of_getElem? hp); omega
      have hk1 : (k : Int) < (l.length : Int) := by omega
      have hk0 : (0 : Int) ≤ (k : Int) := by omega
      have hBps : Bp < wo.heap.size := by omega
      have HP := Lib.hid hp
      clear hp
      rcases (Decidable.em (p.length ≤ 24)).symm with hp24 | hp24
      · have hjn : joinJ rk l = none := joinJ_none (k := k + 1) (by rw [joinJ_take HP.out, HGE.out, stepJ_long hp24])
        obtain ⟨rfl, rfl, rfl, rfl⟩ := HR.out.no hjn
        have hp25 : (24 : Int) < (p.length : Int) := by omega
        clear hjn HGE hp24
        have z0 := Z2.cell 0 rfl
        have z1 := Z2.cell 1 rfl
        have z2 := Z2.cell 2 rfl
        have zf := Z2.2.2
        go_wp2_with fail
        refine bodyPost_ret (v := .tuple #[.agg #[.int .i64 0, .int .i64 0, .slice none 0 0], .bool false]) (by simp [results, Tryz.results21, go_sem, z0, z1, z2, zf]) rfl ⟨none, 0, rfl, OG.nil, ?_⟩
        repeat (first | exact hm | refine Mid.storeNew ?_ (by simp; try omega) _)
      have hp25 : ¬ (24 : Int) < (p.length : Int) := by omega
      obtain ⟨jr, js, je, jb, hjw⟩ := JwIs_ex rk gs ge p
      have HJW := Lib.hid hjw
      have hP := fun W (h1 : RG W (Gb + 1) hi2 A2 ge) (h2 : RV W lo hi Ap (ints p)) => spec_JoinWord rk gs A2 ge c2 Ap p cp W _ _ _ _ h1 h2 (by omega) hpl (HOK.out p (List.mem_of_getElem? HP.out)) jr js je jb hjw
      have HPP := Lib.hid hP
      clear hjw hP
      go_wp2_with fail
      have hmd := Mid.drew1 wo
      have hsd := hmd.size
      replace Z2 := Z2.mid hmd oZr
      replace Z3 := Z3.mid hmd oZr
      replace hown := hown.mid hmd oZl
      replace hm := hm.trans hmd
      replace hrp := hrp.mid hmd oZl
      replace hcp := cell_keep hmd hBps oZr hcp
      have q0 := Z3.cell 0 rfl
      have q1 := Z3.cell 1 rfl
      have q2 := Z3.cell 2 rfl
      clear hmd
      refine wp_region_Z (S := (fun w' => (w'.cell? ⟨Gb, 0, none⟩ = some (.int .i64 rk) ∧ w'.cell? ⟨Gb, 1, none⟩ = some (.int .i64 gs) ∧ w'.cell? ⟨Gb, 2, none⟩ = some (.slice A2 ge.length c2)) ∧ w'.cell? ⟨Bp, op + k, none⟩ = some (.slice Ap p.length cp))) [] (by kernel_rfl) ⟨⟨q0, q1, q2⟩, hcp⟩ ?_
      generalize World.drew wo = wz at Z2 Z3 hown hm hrp hcp q0 q1 q2 hsd ⊢
      have hS : (wz.cell? ⟨Gb, 0, none⟩ = some (.int .i64 rk) ∧ wz.cell? ⟨Gb, 1, none⟩ = some (.int .i64 gs) ∧ wz.cell? ⟨Gb, 2, none⟩ = some (.slice A2 ge.length c2)) ∧ wz.cell? ⟨Bp, op + k, none⟩ = some (.slice Ap p.length cp) := ⟨⟨q0, q1, q2⟩, hcp⟩
      have hBz : Bp < wz.heap.size := by omega
      refine wpAnyZ_takeC [] (i := 0) (v := ?_) rfl (by kernel_rfl) (by kernel_rfl) (by kernel_rfl) (by kernel_rfl) (fun _ _ _ h => h) (Or.inl ⟨by rfl, ?_⟩) hS ?_
      rotate_left
      focus (intro w hSw; (try dsimp only at hSw); go_simp; try with_reducible rfl)
      try simp only [Act.put, List.setIfInBounds_toArray, List.set_cons_zero, List.set_cons_succ, List.getElem_toArray, List.getElem_cons_zero, List.getElem_cons_succ]
      refine wpAnyZ_takeC [] (i := 1) (v := ?_) rfl (by kernel_rfl) (by kernel_rfl) (by kernel_rfl) (by kernel_rfl) (fun _ _ _ h => h) (Or.inl ⟨by rfl, ?_⟩) hS ?_
      rotate_left
      focus (intro w hSw; (try dsimp only at hSw); go_simp; try with_reducible rfl)
      try simp only [Act.put, List.setIfInBounds_toArray, List.set_cons_zero, List.set_cons_succ, List.getElem_toArray, List.getElem_cons_zero, List.getElem_cons_succ]
      refine wpAnyZ_takeC [] (i := 2) (v := ?_) rfl (by kernel_rfl) (by kernel_rfl) (by kernel_rfl) (by kernel_rfl) (fun _ _ _ h => h) (Or.inl ⟨by rfl, ?_⟩) hS ?_
      rotate_left
      focus (intro w hSw; (try dsimp only at hSw); go_simp; try with_reducible rfl)
      try simp only [Act.put, List.setIfInBounds_toArray, List.set_cons_zero, List.set_cons_succ, List.getElem_toArray, List.getElem_cons_zero, List.getElem_cons_succ]
      refine wpAnyZ_takeC [] (i := 3) (v := ?_) rfl (by kernel_rfl) (by kernel_rfl) (by kernel_rfl) (by kernel_rfl) (fun _ _ _ h => h) (Or.inl ⟨by rfl, ?_⟩) hS ?_
      rotate_left
      focus (intro w hSw; (try dsimp only at hSw); go_simp; try with_reducible rfl)
      try simp only [Act.put, List.setIfInBounds_toArray, List.set_cons_zero, List.set_cons_succ, List.getElem_toArray, List.getElem_cons_zero, List.getElem_cons_succ]
      refine wpAnyZ_takeC [] (i := 4) (v := ?_) rfl (by kernel_rfl) (by kernel_rfl) (by kernel_rfl) (by kernel_rfl) (fun _ _ _ h => h) (Or.inl ⟨by rfl, ?_⟩) hS ?_
      rotate_left
      focus (intro w hSw; (try dsimp only at hSw); go_simp; try with_reducible rfl)
      try simp only [Act.put, List.setIfInBounds_toArray, List.set_cons_zero, List.set_cons_succ, List.getElem_toArray, List.getElem_cons_zero, List.getElem_cons_succ]
      refine wpAnyZ_ready (rs := [5,9]) (by kernel_rfl) (by simp) (AllReadyZ.cons rfl (fun K hK => ?_) (AllReadyZ.cons rfl (fun K hK => ?_) AllReadyZ.nil))
      · (go_simp; (with_reducible refine (HPP.out _ hown.rg hrp).mono ?_); rintro en w10 ⟨A6, c6, rfl, ho6, hm10⟩; have Z30 := Z3.mid hm10 oZr; have hcp0 := cell_keep hm10 hBz oZr hcp; go_wp2_with fail)
        refine hK.out _ _ (Or.inr ⟨⟨Z30.cell 0 rfl, Z30.cell 1 rfl, Z30.cell 2 rfl⟩, hcp0⟩) (fun _ => ?_)
        clear hK K
        try simp only [Act.put, List.setIfInBounds_toArray, List.set_cons_zero, List.set_cons_succ, List.getElem_toArray, List.getElem_cons_zero, List.getElem_cons_succ]
        replace Z2 := Z2.mid hm10 oZr
        replace hm := hm.trans hm10
        have hs10 := hm10.size
        have hS10 := And.intro (And.intro (Z30.cell 0 rfl) (And.intro (Z30.cell 1 rfl) (Z30.cell 2 rfl))) hcp0
        clear Z3 hS q0 q1 q2 hown HPP
        refine wpAnyZ_takeC [] (i := 6) (v := ?_) rfl (by kernel_rfl) (by kernel_rfl) (by kernel_rfl) (by kernel_rfl) (fun _ _ _ h => h) (Or.inl ⟨by rfl, ?_⟩) hS10 ?_
        rotate_left
        focus (intro w hSw; (try dsimp only at hSw); go_simp; try with_reducible rfl)
        try simp only [Act.put, List.setIfInBounds_toArray, List.set_cons_zero, List.set_cons_succ, List.getElem_toArray, List.getElem_cons_zero, List.getElem_cons_succ]
        refine wpAnyZ_takeC [] (i := 7) (v := ?_) rfl (by kernel_rfl) (by kernel_rfl) (by kernel_rfl) (by kernel_rfl) (fun _ _ _ h => h) (Or.inl ⟨by rfl, ?_⟩) hS10 ?_
        rotate_left
        focus (intro w hSw; (try dsimp only at hSw); go_simp; try with_reducible rfl)
        try simp only [Act.put, List.setIfInBounds_toArray, List.set_cons_zero, List.set_cons_succ, List.getElem_toArray, List.getElem_cons_zero, List.getElem_cons_succ]
        refine wpAnyZ_takeC [] (i := 8) (v := ?_) rfl (by kernel_rfl) (by kernel_rfl) (by kernel_rfl) (by kernel_rfl) (fun _ _ _ h => h) (Or.inl ⟨by rfl, ?_⟩) hS10 ?_
        rotate_left
        focus (intro w hSw; (try dsimp only at hSw); go_simp; try with_reducible rfl)
        try simp only [Act.put, List.setIfInBounds_toArray, List.set_cons_zero, List.set_cons_succ, List.getElem_toArray, List.getElem_cons_zero, List.getElem_cons_succ]
        have hal := Mid.alloc w10 (.cells #[.int .i64 0, .int .i64 0, .slice none 0 0] 32)
        have Z31 := Z30.mid hal oZr
        have hcp1 := cell_keep hal (by omega) oZr hcp0
        refine wpAnyZ_ready (rs := [9]) (by kernel_rfl) (by simp) (AllReadyZ.cons rfl (fun K hK => ?_) AllReadyZ.nil)
        go_simp
        refine hK.out _ _ (Or.inr ⟨⟨Z31.cell 0 rfl, Z31.cell 1 rfl, Z31.cell 2 rfl⟩, hcp1⟩) (fun _ => ?_)
        clear hK K
        try simp only [Act.put, List.setIfInBounds_toArray, List.set_cons_zero, List.set_cons_succ, List.getElem_toArray, List.getElem_cons_zero, List.getElem_cons_succ]
        clear hal Z31 hcp1
        have hal := Mid.alloc w10 (.cells #[.int .i64 jr, .int .i64 js, .slice A6 je.length c6] 32)
        have Z31 := Z30.mid hal oZr
        have hcp1 := cell_keep hal (by omega) oZr hcp0
        refine wpAnyZ_ready (rs := [10]) (by kernel_rfl) (by simp) (AllReadyZ.cons rfl (fun K hK => ?_) AllReadyZ.nil)
        go_simp
        refine hK.out _ _ (Or.inr ⟨⟨Z31.cell 0 rfl, Z31.cell 1 rfl, Z31.cell 2 rfl⟩, hcp1⟩) (fun _ => ?_)
        clear hK K
        try simp only [Act.put, List.setIfInBounds_toArray, List.set_cons_zero, List.set_cons_succ, List.getElem_toArray, List.getElem_cons_zero, List.getElem_cons_succ]
        refine wpAnyZ_ready (rs := [11]) (by kernel_rfl) (by simp) (AllReadyZ.cons rfl (fun K hK => ?_) AllReadyZ.nil)
        go_simp
        refine hK.out _ _ (Or.inr ⟨⟨Z31.cell 0 rfl, Z31.cell 1 rfl, Z31.cell 2 rfl⟩, hcp1⟩) (fun _ => ?_)
        clear hK K
        try simp only [Act.put, List.setIfInBounds_toArray, List.set_cons_zero, List.set_cons_succ, List.getElem_toArray, List.getElem_cons_zero, List.getElem_cons_succ]
        refine wpAnyZ_done (by kernel_rfl) ?_ _
        have Zx := Box.new w10 #[.int .i64 jr, .int .i64 js, .slice A6 je.length c6] 32
        replace ho6 := ho6.mid hal oZl
        replace Z2 := Z2.mid hal oZr
        replace hm := hm.trans hal
        have hgz : Gb + 1 ≤ w10.heap.size := by omega
        have Z3 := Z31
        clear Z30 Z31 hS10 hal hcp0 hcp1 hm10
        generalize w10.alloc (.cells #[.int .i64 jr, .int .i64 js, .slice A6 je.length c6] 32) = w11 at Z2 Z3 Zx ho6 hm ⊢
        generalize w10.heap.size = Gz at Zx hgz ho6 ⊢
        cases jb with
        | false =>
          rcases HJW.out with ⟨hb0, -, -⟩ | ⟨-, hja, rfl, rfl, rfl⟩
          · cases hb0
          have hjn : joinJ rk l = none := joinJ_none (k := k + 1) (by rw [joinJ_take HP.out, HGE.out, stepJ_some hp24]; exact hja)
          obtain ⟨rfl, rfl, rfl, rfl⟩ := HR.out.no hjn
          clear hjn hja HJW HGE
          have z0 := Z2.cell 0 rfl
          have z1 := Z2.cell 1 rfl
          have z2 := Z2.cell 2 rfl
          have zf := Z2.2.2
          go_wp2_with fail
          refine bodyPost_ret (v := .tuple #[.agg #[.int .i64 0, .int .i64 0, .slice none 0 0], .bool false]) (by simp [results, Tryz.results21, go_sem, z0, z1, z2, zf]) rfl ⟨none, 0, rfl, OG.nil, ?_⟩
          repeat (first | exact hm | refine Mid.storeNew ?_ (by simp; try omega) _)
        | true =>
          obtain ⟨hja, rfl⟩ : jwA rk gs ge p = some (js, je) ∧ jr = rk := by
            rcases HJW.out with ⟨-, h1, h2⟩ | ⟨h1, -⟩
            · exact ⟨h1, h2⟩
            · cases h1
          have HG2 : Hid (joinJ jr (l.take (k + 1)) = some (js, je)) := Lib.hid (by rw [joinJ_take HP.out, HGE.out, stepJ_some hp24]; exact hja)
          clear HJW hja HGE
          have hst := ((Mid.setCell w11 (lo := Gb) (hi := Gb + 1) (p := ⟨Gb, 0, none⟩) (.int .i64 jr) (Nat.le_refl _) (Nat.lt_succ_self _)).trans (Mid.setCell _ (lo := Gb) (hi := Gb + 1) (p := ⟨Gb, 1, none⟩) (.int .i64 js) (Nat.le_refl _) (Nat.lt_succ_self _))).trans (Mid.setCell _ (lo := Gb) (hi := Gb + 1) (p := ⟨Gb, 2, none⟩) (.slice A6 je.length c6) (Nat.le_refl _) (Nat.lt_succ_self _))
          have Y7 := ((Z3.set 0 (.int .i64 jr) (by simp) rfl).set 1 (.int .i64 js) (by simp) rfl).set 2 (.slice A6 je.length c6) (by simp) rfl
          simp only [List.set_cons_succ, List.set_cons_zero] at Y7
          have x0 := Zx.cell 0 rfl
          have x1 := Zx.cell 1 rfl
          have x2 := Zx.cell 2 rfl
          have q0 := Z3.cell 0 rfl
          have q1 := Z3.cell 1 rfl
          have q2 := Z3.cell 2 rfl
          have qf := Z3.2.2
          go_wp2_with fail
          go_roundw
          case rel => exact ⟨k + 1, A6, c6, _, (js, je), hlt, by go_num, HG2, (ho6.wide (lo' := Gb + 1) (by omega) (Nat.le_refl _) ho6.size).mid hst (Or.inl (Nat.le_refl _)), Z2.mid hst (Or.inl (by omega)), Y7, ((hm.storeNew (p := ⟨Gb, 0, none⟩) (by show w.heap.size ≤ Gb; omega) (.int .i64 jr)).storeNew (p := ⟨Gb, 1, none⟩) (by show w.heap.size ≤ Gb; omega) (.int .i64 js)).storeNew (p := ⟨Gb, 2, none⟩) (by show w.heap.size ≤ Gb; omega) (.slice A6 je.length c6)⟩
          case measure => simp [intOf]; omega
      · have hal := Mid.alloc wz (.cells #[.int .i64 0, .int .i64 0, .slice none 0 0] 32)
        have Z31 := Z3.mid hal oZr
        have hcp1 := cell_keep hal hBz oZr hcp
        have Zx := Box.new wz #[.int .i64 0, .int .i64 0, .slice none 0 0] 32
        have hown1 := hown.mid hal oZl
        have hrp1 := hrp.mid hal oZl
        have hsl := hal.size
        go_simp
        refine hK.out _ _ (Or.inr ⟨⟨Z31.cell 0 rfl, Z31.cell 1 rfl, Z31.cell 2 rfl⟩, hcp1⟩) (fun _ => ?_)
        clear hK K
        try simp only [Act.put, List.setIfInBounds_toArray, List.set_cons_zero, List.set_cons_succ, List.getElem_toArray, List.getElem_cons_zero, List.getElem_cons_succ]
        replace Z2 := Z2.mid hal oZr
        replace hm := hm.trans hal
        clear Z3 hS q0 q1 q2 hown hrp hcp hal
        have hzb : wz.heap.size < (wz.alloc (.cells #[.int .i64 0, .int .i64 0, .slice none 0 0] 32)).heap.size := Zx.1
        generalize wz.alloc (.cells #[.int .i64 0, .int .i64 0, .slice none 0 0] 32) = wy at Z31 Zx hown1 hrp1 hcp1 Z2 hm hsl hzb ⊢
        have hBy : Bp < wy.heap.size := by omega
        refine wpAnyZ_ready (rs := [5]) (by kernel_rfl) (by simp) (AllReadyZ.cons rfl (fun K hK => ?_) AllReadyZ.nil)
        (go_simp; (with_reducible refine (HPP.out _ hown1.rg hrp1).mono ?_); rintro en w10 ⟨A6, c6, rfl, ho6, hm10⟩; have Z30 := Z31.mid hm10 oZr; have hcp0 := cell_keep hm10 hBy oZr hcp1; go_wp2_with fail)
        refine hK.out _ _ (Or.inr ⟨⟨Z30.cell 0 rfl, Z30.cell 1 rfl, Z30.cell 2 rfl⟩, hcp0⟩) (fun _ => ?_)
        clear hK K
        try simp only [Act.put, List.setIfInBounds_toArray, List.set_cons_zero, List.set_cons_succ, List.getElem_toArray, List.getElem_cons_zero, List.getElem_cons_succ]
        replace Z2 := Z2.mid hm10 oZr
        replace Zx := Zx.mid hm10 oZr
        replace hm := hm.trans hm10
        have hs10 := hm10.size
        have hS10 := And.intro (And.intro (Z30.cell 0 rfl) (And.intro (Z30.cell 1 rfl) (Z30.cell 2 rfl))) hcp0
        clear Z31 hown1 HPP hrp1 hcp1
        refine wpAnyZ_takeC [] (i := 6) (v := ?_) rfl (by kernel_rfl) (by kernel_rfl) (by kernel_rfl) (by kernel_rfl) (fun _ _ _ h => h) (Or.inl ⟨by rfl, ?_⟩) hS10 ?_
        rotate_left
        focus (intro w hSw; (try dsimp only at hSw); go_simp; try with_reducible rfl)
        try simp only [Act.put, List.setIfInBounds_toArray, List.set_cons_zero, List.set_cons_succ, List.getElem_toArray, List.getElem_cons_zero, List.getElem_cons_succ]
        refine wpAnyZ_takeC [] (i := 7) (v := ?_) rfl (by kernel_rfl) (by kernel_rfl) (by kernel_rfl) (by kernel_rfl) (fun _ _ _ h => h) (Or.inl ⟨by rfl, ?_⟩) hS10 ?_
        rotate_left
        focus (intro w hSw; (try dsimp only at hSw); go_simp; try with_reducible rfl)
        try simp only [Act.put, List.setIfInBounds_toArray, List.set_cons_zero, List.set_cons_succ, List.getElem_toArray, List.getElem_cons_zero, List.getElem_cons_succ]
        refine wpAnyZ_takeC [] (i := 8) (v := ?_) rfl (by kernel_rfl) (by kernel_rfl) (by kernel_rfl) (by kernel_rfl) (fun _ _ _ h => h) (Or.inl ⟨by rfl, ?_⟩) hS10 ?_
        rotate_left
        focus (intro w hSw; (try dsimp only at hSw); go_simp; try with_reducible rfl)
        try simp only [Act.put, List.setIfInBounds_toArray, List.set_cons_zero, List.set_cons_succ, List.getElem_toArray, List.getElem_cons_zero, List.getElem_cons_succ]
        have zzf := Zx.2.2
        have zz0 := Zx.cell 0 rfl
        have zz1 := Zx.cell 1 rfl
        have zz2 := Zx.cell 2 rfl
        have hst := ((Mid.setCell w10 (lo := wz.heap.size) (hi := wz.heap.size + 1) (p := ⟨wz.heap.size, 0, none⟩) (.int .i64 jr) (Nat.le_refl _) (Nat.lt_succ_self _)).trans (Mid.setCell _ (lo := wz.heap.size) (hi := wz.heap.size + 1) (p := ⟨wz.heap.size, 1, none⟩) (.int .i64 js) (Nat.le_refl _) (Nat.lt_succ_self _))).trans (Mid.setCell _ (lo := wz.heap.size) (hi := wz.heap.size + 1) (p := ⟨wz.heap.size, 2, none⟩) (.slice A6 je.length c6) (Nat.le_refl _) (Nat.lt_succ_self _))
        have Z32 := Z30.mid hst (Or.inl (by omega))
        have hcp2 := cell_keep hst (by omega) (Or.inl hBz) hcp0
        refine wpAnyZ_ready (rs := [10]) (by kernel_rfl) (by simp) (AllReadyZ.cons rfl (fun K hK => ?_) AllReadyZ.nil)
        go_simp
        refine hK.out _ _ (Or.inr ⟨⟨Z32.cell 0 rfl, Z32.cell 1 rfl, Z32.cell 2 rfl⟩, hcp2⟩) (fun _ => ?_)
        clear hK K
        try simp only [Act.put, List.setIfInBounds_toArray, List.set_cons_zero, List.set_cons_succ, List.getElem_toArray, List.getElem_cons_zero, List.getElem_cons_succ]
        refine wpAnyZ_ready (rs := [11]) (by kernel_rfl) (by simp) (AllReadyZ.cons rfl (fun K hK => ?_) AllReadyZ.nil)
        go_simp
        refine hK.out _ _ (Or.inr ⟨⟨Z32.cell 0 rfl, Z32.cell 1 rfl, Z32.cell 2 rfl⟩, hcp2⟩) (fun _ => ?_)
        clear hK K
        try simp only [Act.put, List.setIfInBounds_toArray, List.set_cons_zero, List.set_cons_succ, List.getElem_toArray, List.getElem_cons_zero, List.getElem_cons_succ]
        refine wpAnyZ_done (by kernel_rfl) ?_ _
        replace ho6 := ho6.mid hst (Or.inl (by omega))
        replace Z2 := Z2.mid hst (Or.inl (by omega))
        replace Zx := ((Zx.set 0 (.int .i64 jr) (by simp) rfl).set 1 (.int .i64 js) (by simp) rfl).set 2 (.slice A6 je.length c6) (by simp) rfl
        simp only [List.set_cons_succ, List.set_cons_zero] at Zx
        replace hm := ((hm.storeNew (p := ⟨wz.heap.size, 0, none⟩) (by show w.heap.size ≤ wz.heap.size; omega) (.int .i64 jr)).storeNew (p := ⟨wz.heap.size, 1, none⟩) (by show w.heap.size ≤ wz.heap.size; omega) (.int .i64 js)).storeNew (p := ⟨wz.heap.size, 2, none⟩) (by show w.heap.size ≤ wz.heap.size; omega) (.slice A6 je.length c6)
        have hgz : Gb + 1 ≤ wz.heap.size := by omega
        have Z3 := Z32
        clear Z30 Z32 hS10 hst hcp0 hcp2 hm10 zz0 zz1 zz2 zzf
        generalize ((w10.setCell ⟨wz.heap.size, 0, none⟩ (.int .i64 jr)).setCell ⟨wz.heap.size, 1, none⟩ (.int .i64 js)).setCell ⟨wz.heap.size, 2, none⟩ (.slice A6 je.length c6) = w11 at Z2 Z3 Zx ho6 hm ⊢
        generalize wz.heap.size = Gz at Zx hgz hzb ⊢
        cases jb with
        | false =>
          rcases HJW.out with ⟨hb0, -, -⟩ | ⟨-, hja, rfl, rfl, rfl⟩
          · cases hb0
          have hjn : joinJ rk l = none := joinJ_none (k := k + 1) (by rw [joinJ_take HP.out, HGE.out, stepJ_some hp24]; exact hja)
          obtain ⟨rfl, rfl, rfl, rfl⟩ := HR.out.no hjn
          clear hjn hja HJW HGE
          have z0 := Z2.cell 0 rfl
          have z1 := Z2.cell 1 rfl
          have z2 := Z2.cell 2 rfl
          have zf := Z2.2.2
          go_wp2_with fail
          refine bodyPost_ret (v := .tuple #[.agg #[.int .i64 0, .int .i64 0, .slice none 0 0], .bool false]) (by simp [results, Tryz.results21, go_sem, z0, z1, z2, zf]) rfl ⟨none, 0, rfl, OG.nil, ?_⟩
          repeat (first | exact hm | refine Mid.storeNew ?_ (by simp; try omega) _)
        | true =>
          obtain ⟨hja, rfl⟩ : jwA rk gs ge p = some (js, je) ∧ jr = rk := by
            rcases HJW.out with ⟨-, h1, h2⟩ | ⟨h1, -⟩
            · exact ⟨h1, h2⟩
            · cases h1
          have HG2 : Hid (joinJ jr (l.take (k + 1)) = some (js, je)) := Lib.hid (by rw [joinJ_take HP.out, HGE.out, stepJ_some hp24]; exact hja)
          clear HJW hja HGE
          have hst := ((Mid.setCell w11 (lo := Gb) (hi := Gb + 1) (p := ⟨Gb, 0, none⟩) (.int .i64 jr) (Nat.le_refl _) (Nat.lt_succ_self _)).trans (Mid.setCell _ (lo := Gb) (hi := Gb + 1) (p := ⟨Gb, 1, none⟩) (.int .i64 js) (Nat.le_refl _) (Nat.lt_succ_self _))).trans (Mid.setCell _ (lo := Gb) (hi := Gb + 1) (p := ⟨Gb, 2, none⟩) (.slice A6 je.length c6) (Nat.le_refl _) (Nat.lt_succ_self _))
          have Y7 := ((Z3.set 0 (.int .i64 jr) (by simp) rfl).set 1 (.int .i64 js) (by simp) rfl).set 2 (.slice A6 je.length c6) (by simp) rfl
          simp only [List.set_cons_succ, List.set_cons_zero] at Y7
          have x0 := Zx.cell 0 rfl
          have x1 := Zx.cell 1 rfl
          have x2 := Zx.cell 2 rfl
          have q0 := Z3.cell 0 rfl
          have q1 := Z3.cell 1 rfl
          have q2 := Z3.cell 2 rfl
          have qf := Z3.2.2
          go_wp2_with fail
          go_roundw
          case rel => exact ⟨k + 1, A6, c6, _, (js, je), hlt, by go_num, HG2, (ho6.wide (lo' := Gb + 1) (by omega) (Nat.le_refl _) ho6.size).mid hst (Or.inl (Nat.le_refl _)), Z2.mid hst (Or.inl (by omega)), Y7, ((hm.storeNew (p := ⟨Gb, 0, none⟩) (by show w.heap.size ≤ Gb; omega) (.int .i64 jr)).storeNew (p := ⟨Gb, 1, none⟩) (by show w.heap.size ≤ Gb; omega) (.int .i64 js)).storeNew (p := ⟨Gb, 2, none⟩) (by show w.heap.size ≤ Gb; omega) (.slice A6 je.length c6)⟩
          case measure => simp [intOf]; omega
    · obtain rfl : k = l.length := by omega
      rw [List.take_length] at HGE
      obtain ⟨rfl, rfl, rfl, rfl⟩ := HR.out.yes HGE.out
      clear HR HGE
      have z0 := Z2.cell 0 rfl
      have z1 := Z2.cell 1 rfl
      have z2 := Z2.cell 2 rfl
      have q0 := Z3.cell 0 rfl
      have q1 := Z3.cell 1 rfl
      have q2 := Z3.cell 2 rfl
      have zf := Z2.2.2
      have hcl : (w.heap.size == Gb) = false := by simp; omega
      go_wp2_with fail
      refine bodyPost_ret (v := .tuple #[.agg #[.int .i64 rr, .int .i64 rs, .slice A2 res.length c2], .bool true]) (by simp [results, Tryz.results21, go_sem, z0, z1, z2, zf, q0, q1, q2]) rfl ⟨A2, c2, rfl, ?_, ?_⟩
      · refine OG.wide (OG.mid hown (a := w.heap.size) (b := w.heap.size + 1) ?_ (Or.inl (by omega))) (by omega) (by have := hown.size; simp; omega) (Nat.le_refl _)
        repeat (first | exact Mid.refl _ _ _ | refine Mid.stored ?_ _ (by simp; try omega) (by simp; try omega))
      · repeat (first | exact hm | refine Mid.storeNew ?_ (by simp; try omega) _)
end Go.Proofs.YtkaofcakelpnpaaGreat

namespace Go.Proofs.YtkaofcakelpnpaaGreat
set_option linter.unusedVariables false
set_option linter.unusedSimpArgs false
theorem pw_of {es : List Ed} (ha : Asc es) (h : ∀ e ∈ es, ∀ f ∈ es, e ≠ f → ¬ Clash e f) : es.Pairwise fun e f => ¬ Clash e f := by
  refine List.Pairwise.imp_of_mem (fun {e f} he hf hl => h e he f hf ?_) ha
  rintro rfl
  exact absurd hl (LtE.irrefl _)
theorem clash_same : ∀ {es : List Ed}, (es.Pairwise fun e f => ¬ Clash e f) → ∀ {e f : Ed}, e ∈ es → f ∈ es → Clash e f → e = f
  | [], _, e, f, he, _, _ => by simp at he
  | g :: t, h, e, f, he, hf, hc => by
    rw [List.pairwise_cons] at h
    rcases List.mem_cons.1 he with h1 | h1
    · rcases List.mem_cons.1 hf with h2 | h2
      · exact h1.trans h2.symm
      · subst h1
        exact absurd hc (h.1 f h2)
    · rcases List.mem_cons.1 hf with h2 | h2
      · subst h2
        exact absurd hc.symm (h.1 e h1)
      · exact clash_same h.2 h1 h2 hc
theorem pathV_inj {u s : Int} {n i j : Nat} (hu : u < s) (hi : i ≤ n) (hj : j ≤ n) (h : pathV u (s + 1) n s i = pathV u (s + 1) n s j) : i = j := by
  unfold pathV at h
  by_cases h1 : i = 0 <;> by_cases h2 : j = 0 <;> by_cases h3 : i < n <;> by_cases h4 : j < n <;> simp only [h1, h2, h3, h4, if_true, if_false] at h <;> omega
theorem pathV_new {u s : Int} {n i : Nat} (hi : 0 < i) : s ≤ pathV u (s + 1) n s i := by
  unfold pathV
  split
  · omega
  · split <;> omega
theorem rdA_stuck (es : List Ed) : ∀ (w : List Int) (v : Int), (rdA es v w).2 < w.length → nextV es (rdA es v w).1 ((w.drop (rdA es v w).2).getD 0 0) < 0
  | [], v, h => absurd h (Nat.not_lt_zero _)
  | x :: t, v, h => by
    by_cases hx : nextV es v x < 0
    · have h1 : rdA es v (x :: t) = (v, 0) := by rw [rdA, if_pos hx]
      rw [h1]
      exact hx
    · have h1 : rdA es v (x :: t) = ((rdA es (nextV es v x) t).1, (rdA es (nextV es v x) t).2 + 1) := by rw [rdA, if_neg hx]
      rw [h1] at h ⊢
      exact rdA_stuck es t _ (Nat.lt_of_succ_lt_succ h)
theorem hair_fol {r s : Int} {es : List Ed} (hf : IsFol r s es) {u : Int} (hu : 0 ≤ u ∧ u < s) {w : List Int} (h : PathOk r (s + 1) es u w s) (hx : nextV es u (w.getD 0 0) < 0) :
    IsFol r (s + 1 + (w.length : Int) - 1) (canon (es ++ pathE u (s + 1) w s w.length)) := by
  have hw := h.word.2.2.2
  have hm : ∀ i, i < w.length → w.getD i 0 ≠ 0 := fun i hi => by
    have : w.getD i 0 ∈ w := by rw [List.getD_eq_getElem?_getD, List.getElem?_eq_getElem hi]; exact List.getElem_mem hi
    exact (hw.1 _ this).1
  have hold : ∀ i, i < w.length → ∀ f ∈ es, ¬ Clash (stepE (pathV u (s + 1) w.length s i) (w.getD i 0) (pathV u (s + 1) w.length s (i + 1))) f := by
    intro i hi f hfe hc
    have hin := hf.gr.all f hfe
    have h1 := pathV_new (u := u) (s := s) (n := w.length) (i := i + 1) (Nat.succ_pos _)
    have h0 := hm i hi
    rcases Nat.eq_zero_or_pos i with rfl | hp
    · have h2 : pathV u (s + 1) w.length s 0 = u := by simp [pathV]
      rw [h2] at hc
      generalize pathV u (s + 1) w.length s (0 + 1) = v1 at hc h1
      generalize w.getD 0 0 = x at hc h0 hx
      have hne : ¬ ∃ e ∈ es, ∃ t, endOf u x e = some t := fun h3 => by
        have := (nextV_pos_iff hf.gr.all u x).2 h3
        omega
      unfold stepE Clash at hc
      unfold InG at hin
      split at hc
      · simp only at hc
        exact hne ⟨f, hfe, f.a, endOf_some.2 (.inr ⟨by omega, by omega, by omega, rfl⟩)⟩
      · simp only at hc
        exact hne ⟨f, hfe, f.b, endOf_some.2 (.inl ⟨by omega, by omega, by omega, rfl⟩)⟩
    · have h2 := pathV_new (u := u) (s := s) (n := w.length) hp
      unfold stepE Clash at hc
      unfold InG at hin
      split at hc <;> simp only at hc <;> omega
  have hnew : ∀ i j, i < j → j < w.length → ¬ Clash (stepE (pathV u (s + 1) w.length s i) (w.getD i 0) (pathV u (s + 1) w.length s (i + 1))) (stepE (pathV u (s + 1) w.length s j) (w.getD j 0) (pathV u (s + 1) w.length s (j + 1))) := by
    intro i j hij hj hc
    have n1 : pathV u (s + 1) w.length s i ≠ pathV u (s + 1) w.length s j := fun e => by have := pathV_inj hu.2 (by omega) (by omega) e; omega
    have n2 : pathV u (s + 1) w.length s (i + 1) ≠ pathV u (s + 1) w.length s (j + 1) := fun e => by have := pathV_inj hu.2 (by omega) (by omega) e; omega
    have n3 : pathV u (s + 1) w.length s i ≠ pathV u (s + 1) w.length s (j + 1) := fun e => by have := pathV_inj hu.2 (by omega) (by omega) e; omega
    have hi0 := hm i (by omega)
    have hj0 := hm j hj
    by_cases e1 : i + 1 = j
    · subst e1
      have hr := hw.2 i (w.getD i 0) (w.getD (i + 1) 0) (by rw [List.getD_eq_getElem?_getD, List.getElem?_eq_getElem (by omega)]; rfl) (by rw [List.getD_eq_getElem?_getD, List.getElem?_eq_getElem hj]; rfl)
      generalize w.getD i 0 = x at *
      generalize w.getD (i + 1) 0 = y at *
      generalize pathV u (s + 1) w.length s i = v1 at *
      generalize pathV u (s + 1) w.length s (i + 1 + 1) = v3 at *
      generalize pathV u (s + 1) w.length s (i + 1) = v2 at *
      unfold stepE Clash at hc
      split at hc <;> split at hc <;> simp only at hc <;> omega
    · have n4 : pathV u (s + 1) w.length s (i + 1) ≠ pathV u (s + 1) w.length s j := fun e => by have := pathV_inj hu.2 (by omega) (by omega) e; omega
      unfold stepE Clash at hc
      split at hc <;> split at hc <;> simp only at hc <;> omega
  refine ⟨path_gr h, pw_of (asc_canon _) fun e he f hf' hne hc => ?_⟩
  rcases List.mem_append.1 (mem_canon.1 he) with h1 | h1
  · rcases List.mem_append.1 (mem_canon.1 hf') with h2 | h2
    · exact hne (clash_same hf.fol h1 h2 hc)
    · simp only [pathE, List.mem_map, List.mem_range] at h2
      obtain ⟨i, hi, rfl⟩ := h2
      exact hold i hi e h1 hc.symm
  · simp only [pathE, List.mem_map, List.mem_range] at h1
    obtain ⟨i, hi, rfl⟩ := h1
    rcases List.mem_append.1 (mem_canon.1 hf') with h2 | h2
    · exact hold i hi f h2 hc
    · simp only [pathE, List.mem_map, List.mem_range] at h2
      obtain ⟨j, hj, rfl⟩ := h2
      rcases Nat.lt_trichotomy i j with h3 | rfl | h3
      · exact hnew i j h3 hj hc
      · exact hne rfl
      · exact hnew j i h3 hi hc.symm
theorem ExtIs.fol {r s : Int} {es : List Ed} {w : List Int} {s2 : Int} {es2 : List Ed} {x : Int} (h : ExtIs r s es w true s2 es2 x) (hf : IsFol r s es) : IsFol r s2 es2 := by
  have hs := hf.gr.size
  rcases h with ⟨-, -, rfl, rfl, rfl⟩ | ⟨-, h0, h1, h2, rfl, rfl, rfl⟩ | ⟨h, -⟩
  · exact hf
  · exact hair_fol hf (rdA_in hf.gr.all w (by omega)) h2 (rdA_stuck es w 0 h0)
  · cases h
end Go.Proofs.YtkaofcakelpnpaaGreat

namespace Go.Proofs.YtkaofcakelpnpaaGreat
set_option linter.unusedVariables false
set_option linter.unusedSimpArgs false
theorem take_snocL {α : Type} {l : List α} {k : Nat} {x : α} (h : l[k]? = some x) : l.take (k + 1) = l.take k ++ [x] := by
  obtain ⟨h1, h2⟩ := List.getElem?_eq_some_iff.1 h
  rw [List.take_succ_eq_append_getElem h1, h2]
def LoopP (es : List Ed) (w : List Int) : Prop := (rdA es 0 w).2 = w.length ∧ (rdA es 0 w).1 = 0
def ExtsIs (r : Int) : Int → List Ed → List (List Int) → Bool → Int → List Ed → Prop
  | s, es, [], b, s2, es2 => b = true ∧ s2 = s ∧ es2 = es
  | s, es, w :: t, b, s2, es2 => ∃ b1 s1 es1 x, ExtIs r s es w b1 s1 es1 x ∧ ((b1 = false ∧ b = false) ∨ (b1 = true ∧ ExtsIs r s1 es1 t b s2 es2))
theorem exts_ex (r : Int) : ∀ (l : List (List Int)) (s : Int) (es : List Ed), ∃ b s2 es2, ExtsIs r s es l b s2 es2
  | [], s, es => ⟨true, s, es, rfl, rfl, rfl⟩
  | w :: t, s, es => by
    obtain ⟨b1, s1, es1, x, h⟩ := ext_ex r s es w
    cases b1 with
    | false => exact ⟨false, 0, [], false, s1, es1, x, h, .inl ⟨rfl, rfl⟩⟩
    | true =>
      obtain ⟨b, s2, es2, h2⟩ := exts_ex r t s1 es1
      exact ⟨b, s2, es2, true, s1, es1, x, h, .inr ⟨rfl, h2⟩⟩
theorem ExtsIs.fol {r : Int} : ∀ {l : List (List Int)} {s : Int} {es : List Ed} {s2 : Int} {es2 : List Ed}, ExtsIs r s es l true s2 es2 → IsFol r s es → IsFol r s2 es2
  | [], s, es, s2, es2, h, hf => by
    obtain ⟨-, rfl, rfl⟩ := h
    exact hf
  | w :: t, s, es, s2, es2, h, hf => by
    obtain ⟨b1, s1, es1, x, h1, ⟨-, h2⟩ | ⟨rfl, h2⟩⟩ := h
    · cases h2
    · exact h2.fol (h1.fol hf)
theorem ExtsIs.step {r s : Int} {es : List Ed} {l : List (List Int)} {b : Bool} {s2 : Int} {es2 : List Ed} {k : Nat} {w : List Int} (h : ExtsIs r s es (l.drop k) b s2 es2) (hw : l[k]? = some w) :
    ∃ b1 s1 es1 x, ExtIs r s es w b1 s1 es1 x ∧ (b1 = false → b = false) ∧ (b1 = true → ExtsIs r s1 es1 (l.drop (k + 1)) b s2 es2) := by
  have hd : l.drop k = w :: l.drop (k + 1) := by
    have hk := (List.getElem?_eq_some_iff.1 hw)
    rw [List.drop_eq_getElem_cons hk.1, hk.2]
  rw [hd] at h
  obtain ⟨b1, s1, es1, x, h1, ⟨h2, h3⟩ | ⟨h2, h3⟩⟩ := h
  · exact ⟨b1, s1, es1, x, h1, fun _ => h3, fun h => by rw [h2] at h; cases h⟩
  · exact ⟨b1, s1, es1, x, h1, (fun h => by rw [h2] at h; cases h), fun _ => h3⟩
def SepOk (r s : Int) (es : List Ed) (l : List (List Int)) : Prop := IsCor r s es ∧ l.length ≤ 6 ∧ ∀ w ∈ l, IsW r w ∧ ¬ LoopP es w
def SepIs (r s : Int) (es : List Ed) (l : List (List Int)) (rr rs : Int) (res : List Ed) (b : Bool) : Prop :=
  (¬ SepOk r s es l ∧ b = false ∧ rr = 0 ∧ rs = 0 ∧ res = []) ∨
  (SepOk r s es l ∧ ∃ b1 s2 es2, ExtsIs r s es l b1 s2 es2 ∧ ((b1 = false ∧ b = false ∧ rr = 0 ∧ rs = 0 ∧ res = []) ∨
    (b1 = true ∧ b = true ∧ rr = r ∧ rs = (coreA r (s2, canon (es2 ++ addLs s2 es2 r.toNat))).1 ∧ res = (coreA r (s2, canon (es2 ++ addLs s2 es2 r.toNat))).2)))
theorem SepIs.no {r s : Int} {es : List Ed} {l : List (List Int)} {rr rs : Int} {res : List Ed} {b : Bool} (h : SepIs r s es l rr rs res b) (hn : ¬ SepOk r s es l) : b = false ∧ rr = 0 ∧ rs = 0 ∧ res = [] := by
  rcases h with ⟨-, h⟩ | ⟨h, -⟩
  · exact h
  · exact absurd h hn
theorem SepIs.run {r s : Int} {es : List Ed} {l : List (List Int)} {rr rs : Int} {res : List Ed} {b : Bool} (h : SepIs r s es l rr rs res b) :
    ∃ b1 s2 es2, ExtsIs r s es l b1 s2 es2 ∧ (b1 = false → b = false ∧ rr = 0 ∧ rs = 0 ∧ res = []) ∧
      (SepOk r s es l → b1 = true → b = true ∧ rr = r ∧ rs = (coreA r (s2, canon (es2 ++ addLs s2 es2 r.toNat))).1 ∧ res = (coreA r (s2, canon (es2 ++ addLs s2 es2 r.toNat))).2) := by
  rcases h with ⟨hn, h⟩ | ⟨-, b1, s2, es2, he, h⟩
  · obtain ⟨b1, s2, es2, he⟩ := exts_ex r l s es
    exact ⟨b1, s2, es2, he, fun _ => h, fun h => absurd h hn⟩
  · refine ⟨b1, s2, es2, he, fun hb => ?_, fun _ hb => ?_⟩
    · rcases h with ⟨-, h⟩ | ⟨h, -⟩
      · exact h
      · rw [hb] at h; cases h
    · rcases h with ⟨h, -⟩ | ⟨-, h⟩
      · rw [hb] at h; cases h
      · exact h
theorem SepIs.lens {r s : Int} {es : List Ed} {l : List (List Int)} {rr rs : Int} {res : List Ed} {b : Bool} (h : SepIs r s es l rr rs res b) : res.length ≤ 120 := by
  rcases h with ⟨-, -, -, -, rfl⟩ | ⟨hc, b1, s2, es2, he, ⟨-, -, -, -, rfl⟩ | ⟨rfl, -, -, -, rfl⟩⟩
  · simp
  · simp
  · have hf := he.fol hc.1.fol
    exact (coreA_gr (g := (s2, canon (es2 ++ addLs s2 es2 r.toNat))) (complete_gr hf)).len
end Go.Proofs.YtkaofcakelpnpaaGreat

namespace Go.Proofs.YtkaofcakelpnpaaGreat
set_option linter.unusedVariables false
set_option linter.unusedSimpArgs false
open Go.RowKit
set_option maxHeartbeats 6400000 in
set_option maxRecDepth 100000 in
theorem spec_ImageOf (r0 : Int) (Ad : Option Addr) (d : List (List Int)) (cd : Nat) (r s : Int) (A : Option Addr) (es : List Ed) (c : Nat) (w : World) (lo hi lo2 hi2 : Nat) (hd : RSS w lo hi Ad d) (hok : OkSS d) (hdl : d.length + sumL d ≤ 1048576) (hr : RG w lo2 hi2 A es) (hl : es.length ≤ 1048576) (rr rs : Int) (res : List Ed) (b : Bool) (hres : ImgIs r0 d r s es rr rs res b) :
    Calls Tryz.prog 6 #[.agg #[.int .i64 r0, .slice Ad d.length cd], graV r s A es.length c] w fun e w' => ∃ A1 c1, e = .returned (.tuple #[graV rr rs A1 res.length c1, .bool b]) ∧ OG w' w.heap.size w'.heap.size A1 c1 res ∧ Mid 0 0 w w' := by
  have HR := Lib.hid hres
  have HOK := Lib.hid hok
  clear hres hok
  have hm0 : Mid 0 0 w (((w.alloc (.cells #[.int .i64 r0, .slice Ad d.length cd] 35)).alloc (.cells #[.int .i64 r, .int .i64 s, .slice A es.length c] 32)).alloc (.cells #[.int .i64 0, .int .i64 0, .slice none 0 0] 32)) := ((Mid.alloc _ _).trans (Mid.alloc _ _)).trans (Mid.alloc _ _)
  have B0 := ((Box.new w #[.int .i64 r0, .slice Ad d.length cd] 35).mid (Mid.alloc _ (.cells #[.int .i64 r, .int .i64 s, .slice A es.length c] 32)) oZr).mid (Mid.alloc _ (.cells #[.int .i64 0, .int .i64 0, .slice none 0 0] 32)) oZr
  have B1 := (Box.new (w.alloc (.cells #[.int .i64 r0, .slice Ad d.length cd] 35)) #[.int .i64 r, .int .i64 s, .slice A es.length c] 32).mid (Mid.alloc _ (.cells #[.int .i64 0, .int .i64 0, .slice none 0 0] 32)) oZr
  have B2 := Box.new ((w.alloc (.cells #[.int .i64 r0, .slice Ad d.length cd] 35)).alloc (.cells #[.int .i64 r, .int .i64 s, .slice A es.length c] 32)) #[.int .i64 0, .int .i64 0, .slice none 0 0] 32
  simp only [World.size_alloc] at B1 B2
  obtain ⟨bm, hbm⟩ := bool_of (IsMor r0 d)
  have HM := Lib.hid hbm
  obtain ⟨bf, hbf⟩ := bool_of (IsCor r s es)
  have HF := Lib.hid hbf
  clear hbm hbf
  go_enter Tryz.func6, Tryz.ntmps6
  go_wp2_with fail
  generalize hw1 : ((w.alloc (.cells #[.int .i64 r0, .slice Ad d.length cd] 35)).alloc (.cells #[.int .i64 r, .int .i64 s, .slice A es.length c] 32)).alloc (.cells #[.int .i64 0, .int .i64 0, .slice none 0 0] 32) = w1 at hm0 B0 B1 B2 ⊢
  have hs1 : w1.heap.size = w.heap.size + 1 + 1 + 1 := by rw [← hw1]; simp
  have HS := Lib.hid hs1
  clear hw1 hs1
  with_reducible refine (spec_IsMorphism r0 Ad d cd _ _ _ (hd.mid hm0 oZl) HOK.out hdl bm HM.out).mono ?_
  rintro en w2 ⟨rfl, hm2⟩
  replace B0 := B0.mid hm2 oZr
  replace B1 := B1.mid hm2 oZr
  replace B2 := B2.mid hm2 oZr
  replace hm0 := hm0.trans hm2
  have p0 := B0.cell 0 rfl
  have p1 := B0.cell 1 rfl
  have q0 := B1.cell 0 rfl
  have q1 := B1.cell 1 rfl
  have q2 := B1.cell 2 rfl
  cases bm with
  | false =>
    have hno : ¬ ImgOk r0 d r s es := fun h => by have := HM.out.2 h.1; cases this
    obtain ⟨rfl, rfl, rfl, rfl⟩ := HR.out.no hno
    have z0 := B2.cell 0 rfl
    have z1 := B2.cell 1 rfl
    have z2 := B2.cell 2 rfl
    have zf := B2.2.2
    go_wp2_with fail
    refine bodyPost_ret (v := .tuple #[.agg #[.int .i64 0, .int .i64 0, .slice none 0 0], .bool false]) (by simp [results, Tryz.results6, go_sem, z0, z1, z2, zf]) rfl ⟨none, 0, rfl, OG.nil, ?_⟩
    repeat (first | exact hm0 | refine Mid.storeNew ?_ (by simp; try omega) _)
  | true =>
  have hmor := HM.out.1 rfl
  have hms2 := hm2.size
  clear hm2 HM
  go_wp2_with fail
  with_reducible refine (spec_IsSubgroup r s A es c _ _ _ (hr.mid hm0 oZl) hl bf HF.out).mono ?_
  rintro en w3 ⟨rfl, hm3⟩
  replace B0 := B0.mid hm3 oZr
  replace B1 := B1.mid hm3 oZr
  replace B2 := B2.mid hm3 oZr
  replace hm0 := hm0.trans hm3
  have hms3 := hm3.size
  clear p0 p1 q0 q1 q2 hm3
  have p0 := B0.cell 0 rfl
  have p1 := B0.cell 1 rfl
  have q0 := B1.cell 0 rfl
  have q1 := B1.cell 1 rfl
  have q2 := B1.cell 2 rfl
  cases bf with
  | false =>
    have hno : ¬ ImgOk r0 d r s es := fun h => by have := HF.out.2 h.2.1; cases this
    obtain ⟨rfl, rfl, rfl, rfl⟩ := HR.out.no hno
    have z0 := B2.cell 0 rfl
    have z1 := B2.cell 1 rfl
    have z2 := B2.cell 2 rfl
    have zf := B2.2.2
    go_wp2_with fail
    refine bodyPost_ret (v := .tuple #[.agg #[.int .i64 0, .int .i64 0, .slice none 0 0], .bool false]) (by simp [results, Tryz.results6, go_sem, z0, z1, z2, zf]) rfl ⟨none, 0, rfl, OG.nil, ?_⟩
    repeat (first | exact hm0 | refine Mid.storeNew ?_ (by simp; try omega) _)
  | true =>
  have hcor := HF.out.1 rfl
  clear HF
  rcases (Decidable.em (r = r0)).symm with hrk | hrk
  · have hno : ¬ ImgOk r0 d r s es := fun h => hrk h.2.2
    obtain ⟨rfl, rfl, rfl, rfl⟩ := HR.out.no hno
    have bne : (r != r0) = true := by simpa using hrk
    have z0 := B2.cell 0 rfl
    have z1 := B2.cell 1 rfl
    have z2 := B2.cell 2 rfl
    have zf := B2.2.2
    clear hrk hmor hcor hno HR
    go_wp2_with fail
    refine bodyPost_ret (v := .tuple #[.agg #[.int .i64 0, .int .i64 0, .slice none 0 0], .bool false]) (by simp [results, Tryz.results6, go_sem, z0, z1, z2, zf]) rfl ⟨none, 0, rfl, OG.nil, ?_⟩
    repeat (first | exact hm0 | refine Mid.storeNew ?_ (by simp; try omega) _)
  have hRA := HR.out.yes ⟨hmor, hcor, hrk⟩
  subst hrk
  obtain ⟨r, n, rfl, rfl⟩ := hcor.gr.nat
  have hg1 := hcor.gr.rank
  have hg2 := hcor.gr.size
  have hg3 := hcor.gr.len
  have hbl := basA_len hcor
  have HBO := Lib.hid (fun (x : List Int) (hx : x ∈ basA r es) => basA_ok hcor hx)
  have HBA := Lib.hid (fun W h => spec_BasisA r n A es c W lo2 hi2 h hcor)
  have HWD := Lib.hid hmor.2.2.2
  have H24 := Lib.hid (fun (xs : List Int) (hx : xs ∈ d) => (HWD.out xs hx).2.2.1)
  have hdl4 : d.length ≤ 1048576 := by omega
  have beq0 : ((r : Int) != (r : Int)) = false := by simp
  clear hcor hmor HR
  go_wp2_with fail
  with_reducible refine (HBA.out _ (hr.mid hm0 oZl)).mono ?_
  rintro en w4 ⟨A5, c5, rfl, ho5, hm4⟩
  have hs4 := hm4.size
  clear p0 p1 q0 q1 q2
  replace B0 := B0.mid hm4 oZr
  replace B1 := B1.mid hm4 oZr
  replace B2 := B2.mid hm4 oZr
  replace hm0 := hm0.trans hm4
  have hw3 : w.heap.size + 3 ≤ w3.heap.size := by have := HS.out; omega
  clear hm4 HBA
  generalize basA r es = BA at ho5 HBO hbl hRA ⊢
  have HRA := Lib.hid hRA
  clear hRA
  have O0 := owns_empty w4 48 1
  have hal := Mid.alloc w4 (.cells #[] 48)
  have hrs5 := ho5.rss.mid hal oZl
  have hG0 : Grp (w4.alloc (.cells #[] 48)) w3.heap.size w3.heap.size w4.heap.size (some ⟨w4.heap.size, 0, none⟩) 0 0 [] A5 BA := ⟨owns_base O0 hs4, OwnRows.nil, hrs5, fun g hg => .inr ((O0.lt g hg).1), hs4⟩
  clear ho5 O0 hrs5
  replace B0 := B0.mid hal oZr
  replace B1 := B1.mid hal oZr
  replace B2 := B2.mid hal oZr
  replace hm0 := hm0.trans hal
  clear hal
  go_wp2_with fail
  generalize w4.alloc (.cells #[] 48) = w5 at hG0 B0 B1 B2 hm0 ⊢
  generalize (some (⟨w4.heap.size, 0, none⟩ : Addr)) = AO at hG0 ⊢
  generalize w4.heap.size = Q at hG0 hs4
  generalize w3.heap.size = L at hG0 hs4 hw3
  go_loopw [7, 8] (fun ov iv wr => ∃ (k : Nat) (rows : List Row) (A1 : Option Addr) (c1 : Nat), k ≤ BA.length ∧ iv = .int .i64 k ∧ ov = .slice A1 k c1 ∧ Hid (rowsD rows = (BA.take k).map (expand d)) ∧ Hid (Grp wr L L Q A1 k c1 rows A5 BA) ∧
      Box wr w.heap.size [.int .i64 r, .slice Ad d.length cd] ∧ Box wr (w.heap.size + 1) [.int .i64 r, .int .i64 n, .slice A es.length c] ∧ Box wr (w.heap.size + 1 + 1) [.int .i64 0, .int .i64 0, .slice none 0 0] ∧ Mid 0 0 w wr) (fun _ iv _ => BA.length - (intOf iv).toNat)
  case atStart => exact ⟨0, [], AO, 0, Nat.zero_le _, rfl, rfl, Lib.hid rfl, Lib.hid hG0, B0, B1, B2, hm0⟩
  case round =>
    clear hG0 B0 B1 B2 hm0
    obtain ⟨wo, hwo⟩ : ∃ wo, wo = wr := ⟨_, rfl⟩
    subst hwo
    obtain ⟨k, rows, A1, c1, hk, rfl, rfl, HD, HG, B0, B1, B2, hm⟩ := hrel
    by_cases hlt : k < BA.length
    · have hmd := Mid.drew1 wo
      have HGd := Lib.hid (HG.out.mid hmd)
      obtain ⟨Bd, od, Ak, ck, xs, hAd, hb1, hb2, hxs, hcell, hrv⟩ := HGd.out.act.row hlt
      subst hAd
      replace B0 := B0.mid hmd oZr
      replace B1 := B1.mid hmd oZr
      replace B2 := B2.mid hmd oZr
      replace hm := hm.trans hmd
      have hBs : Bd < (World.drew wo).heap.size := Nat.lt_of_lt_of_le hb2 HGd.out.act.size
      obtain ⟨hx81, hxok⟩ := HBO.out xs (List.mem_of_getElem? hxs)
      have HXS := Lib.hid hxs
      have HOX := Lib.hid hxok
      have hk0 : (0 : Int) ≤ (k : Int) := by omega
      have hk1 : (k : Int) < (BA.length : Int) := by omega
      have p0 := B0.cell 0 rfl
      have p1 := B0.cell 1 rfl
      clear hxs hxok HG
      go_wp2_with fail
      refine wp_region_still_tail 6 (by kernel_rfl) (by kernel_rfl) ?_
      simp only [List.take_succ_cons, List.take_zero, List.drop_succ_cons, List.drop_zero]
      change wpStill _ _ (World.drew wo) (fun a' => wpList _ _ _ _ a' (World.drew wo)) _ _
      generalize World.drew wo = wz at HGd B0 B1 B2 hm hBs hcell hrv p0 p1 hmd ⊢
      repeat
        (with_reducible refine wpStill_step (fun K hK => ?_))
        go_simp
        first
          | ((with_reducible refine hK _ ?_); clear hK K)
      with_reducible refine wpStill_nil ?_
      have hEx := spec_ExpandBy Ad d cd Ak xs ck wz lo hi (hd.mid hm oZl) hrv.rsS H24.out HOK.out.2 HOX.out hdl4 (by omega)
      go_wp2_with fail
      with_reducible refine hEx.mono ?_
      intro en w6 hq6
      obtain ⟨A7, c7, rfl, hov, hm6⟩ := RetI.get hq6
      replace B0 := B0.mid hm6 oZr
      replace B1 := B1.mid hm6 oZr
      replace B2 := B2.mid hm6 oZr
      replace hm := hm.trans hm6
      have HOW := Lib.hid hov
      have hb2' := B2.1
      have hLz := HGd.out.act.size
      have hel := expand_lenA H24.out HOK.out.2 xs
      clear p0 p1 hcell hov hrv hq6 hEx hmd
      go_wp2_with (at_builtin; refine wpList_pushG rfl _ _ rfl rfl HGd.out hm6 ⟨A7, c7, expand d xs⟩ HOW.out rfl (by omega) ?_; intro A10 c10 w10 hG10 hm10)
      go_roundw
      case rel =>
        refine ⟨k + 1, rows ++ [⟨A7, c7, expand d xs⟩], A10, c10, by omega, by go_num, rfl, Lib.hid ?_, Lib.hid hG10, B0.mid hm10 (Or.inl (by omega)), B1.mid hm10 (Or.inl (by omega)), B2.mid hm10 (Or.inl (by omega)), hm.transNew hm10 (Or.inl (by omega))⟩
        rw [rowsD_append, HD.out, take_snocL HXS.out, List.map_append]
        rfl
      case measure => simp [intOf]; omega
    · obtain rfl : k = BA.length := by omega
      have hD := HD.out
      rw [List.take_length] at hD
      have hl1 : sumL (BA.map (expand d)) ≤ BA.length * 4800 := by
        have := sumL_le (m := 4800) (BA.map (expand d)) (fun x hx => by obtain ⟨y, -, rfl⟩ := List.mem_map.1 hx; exact expand_lenA H24.out HOK.out.2 y)
        rwa [List.length_map] at this
      have hrs := HG.out.rss
      rw [hD] at hrs
      have hC := fun W lo hi h => spec_l19Words r A1 (BA.map (expand d)) c1 W lo hi h (fun x hx => by obtain ⟨y, -, rfl⟩ := List.mem_map.1 hx; exact expand_ok H24.out HOK.out.2 y) (by rw [List.length_map]; omega) hg1 rr rs res b HRA.out
      simp only [List.length_map] at hC
      have HC := Lib.hid hC
      have p0 := B0.cell 0 rfl
      have p1 := B0.cell 1 rfl
      clear hC hD HD hl1
      go_wp2_with fail
      with_reducible refine (HC.out _ _ _ hrs).mono ?_
      rintro en w8 ⟨A8, c8, rfl, ho8, hm8⟩
      replace B0 := B0.mid hm8 oZr
      replace B1 := B1.mid hm8 oZr
      replace B2 := B2.mid hm8 oZr
      replace hm := hm.trans hm8
      have hb2 := B2.1
      have hL8 := hm8.size
      have hLr : L ≤ wo.heap.size := by have := HG.out.act.size; omega
      have z0 := B2.cell 0 rfl
      have z1 := B2.cell 1 rfl
      have z2 := B2.cell 2 rfl
      have zf := B2.2.2
      clear p0 p1
      have Y20 := Box.new w8 #[.int .i64 rr, .int .i64 rs, .slice A8 res.length c8] 32
      have hb20 : w.heap.size + 1 + 1 < w8.heap.size := hb2
      have q0 := Y20.cell 0 rfl
      have q1 := Y20.cell 1 rfl
      have q2 := Y20.cell 2 rfl
      go_wp2_with fail
      refine bodyPost_ret (v := .tuple #[.agg #[.int .i64 rr, .int .i64 rs, .slice A8 res.length c8], .bool b]) (by simp [results, Tryz.results6, go_sem, z0, z1, z2, zf, q0, q1, q2, hb20, World.cell?_alloc_lt]) rfl ⟨A8, c8, rfl, ?_, ?_⟩
      · refine OG.wide (OG.mid ho8 (a := w.heap.size + 2) (b := w.heap.size + 3) ?_ (Or.inl (by omega))) (by omega) (by simp; try omega) (Nat.le_refl _)
        repeat (first | exact Mid.refl _ _ _ | refine Mid.trans ?_ (Mid.zero (Mid.alloc _ _)) | refine Mid.stored ?_ _ (by simp; try omega) (by simp; try omega))
      · repeat (first | exact hm | refine Mid.trans ?_ (Mid.alloc _ _) | refine Mid.storeNew ?_ (by simp; try omega) _)
end Go.Proofs.YtkaofcakelpnpaaGreat

namespace Go.Proofs.YtkaofcakelpnpaaGreat
set_option linter.unusedVariables false
set_option linter.unusedSimpArgs false
open Go.RowKit
theorem OSS.rowI {w : World} {lo hi c : Nat} {A : Option Addr} {xss : List (List Int)} (h : OSS w lo hi 48 3 A c xss) {k : Nat} (hk : k < xss.length) :
    ∃ b off A' c' xs, A = some ⟨b, off, none⟩ ∧ lo ≤ b ∧ b < hi ∧ xss[k]? = some xs ∧ w.cell? ⟨b, off + k, none⟩ = some (.slice A' xs.length c') ∧ RV w lo hi A' (ints xs) ∧ xs.length ≤ c' := by
  obtain ⟨_, rows, rfl, h2, h3⟩ := h
  have hk' : k < rows.length := by rw [rowsD_len] at hk; exact hk
  obtain ⟨b, off, e, hb, hb2, hc⟩ := h2.rv.2 (by intro h0; have := congrArg List.length h0; rw [rowsV_len] at this; simp at this; subst this; simp at hk')
  obtain ⟨r, hr⟩ := get_of_lt rows hk'
  have hor := h3.1 r (List.mem_of_getElem? hr)
  obtain ⟨A1, c1, he, hn, -⟩ := owns_shape hor.2.1
  injection he with _ _ hcc
  exact ⟨b, off, r.A, r.c, r.xs, e, hb, hb2, by simp [rowsD, hr], hc k _ (by simp [rowsV, hr, Row.v]), hor.rv, by omega⟩
set_option maxHeartbeats 800000 in
theorem impl_TrivialSubgroup (rank : Int) (w : World) (h : 1 ≤ rank ∧ rank ≤ 3) :
    Calls Tryz.prog 26 #[.int .i64 rank] w fun e w' => e = .returned (.tuple #[graV rank 1 none 0 0, .bool true]) ∧ Mid 0 0 w w' := by
  have hm0 : Mid 0 0 w (w.alloc (.cells #[.int .i64 0, .int .i64 0, .slice none 0 0] 32)) := Mid.alloc _ _
  have b2 := Box.new w #[.int .i64 0, .int .i64 0, .slice none 0 0] 32
  go_enter Tryz.func26, Tryz.ntmps26
  go_wp2_with fail
  generalize w.alloc (.cells #[.int .i64 0, .int .i64 0, .slice none 0 0] 32) = w1 at hm0 b2 ⊢
  have hs1 : w.heap.size < w1.heap.size := b2.1
  with_reducible refine (impl_NewGraph rank _ h).mono ?_
  rintro en w2 ⟨rfl, hm2⟩
  replace b2 := b2.mid hm2 oZr
  replace hm0 := hm0.trans hm2
  have z0 := b2.cell 0 rfl
  have z1 := b2.cell 1 rfl
  have z2 := b2.cell 2 rfl
  have zf := b2.2.2
  go_wp2_with fail
  refine bodyPost_ret (v := .tuple #[.agg #[.int .i64 rank, .int .i64 1, .slice none 0 0], .bool true]) (by simp [results, Tryz.results26, go_sem, z0, z1, z2, zf]) rfl ⟨rfl, ?_⟩
  repeat (first | exact hm0 | refine Mid.storeNew ?_ (by simp; try omega) _)
set_option maxHeartbeats 6400000 in
set_option maxRecDepth 100000 in
theorem impl_ImageOf (r0 : Int) (Ad : Option Addr) (d : List (List Int)) (cd : Nat) (r s : Int) (A : Option Addr) (es : List Ed) (c : Nat) (w : World) (lo hi lo2 hi2 : Nat) (hd : RSS w lo hi Ad d) (hok : OkSS d) (hdl : d.length + sumL d ≤ 1048576) (hr : RG w lo2 hi2 A es) (hl : es.length ≤ 1048576) (hcl : es.length ≤ c) (rr rs : Int) (res : List Ed) (b : Bool) (hres : ImgIs r0 d r s es rr rs res b) :
    Calls Tryz.prog 9 #[.agg #[.int .i64 r0, .slice Ad d.length cd], graV r s A es.length c] w fun e w' => ∃ A1 c1, e = .returned (.tuple #[graV rr rs A1 res.length c1, .bool b]) ∧ OG w' w.heap.size w'.heap.size A1 c1 res ∧ Mid 0 0 w w' := by
  have HR := Lib.hid hres
  have HOK := Lib.hid hok
  clear hres hok
  have hm0 : Mid 0 0 w (((w.alloc (.cells #[.int .i64 r0, .slice Ad d.length cd] 35)).alloc (.cells #[.int .i64 r, .int .i64 s, .slice A es.length c] 32)).alloc (.cells #[.int .i64 0, .int .i64 0, .slice none 0 0] 32)) := ((Mid.alloc _ _).trans (Mid.alloc _ _)).trans (Mid.alloc _ _)
  have B0 := ((Box.new w #[.int .i64 r0, .slice Ad d.length cd] 35).mid (Mid.alloc _ (.cells #[.int .i64 r, .int .i64 s, .slice A es.length c] 32)) oZr).mid (Mid.alloc _ (.cells #[.int .i64 0, .int .i64 0, .slice none 0 0] 32)) oZr
  have B1 := (Box.new (w.alloc (.cells #[.int .i64 r0, .slice Ad d.length cd] 35)) #[.int .i64 r, .int .i64 s, .slice A es.length c] 32).mid (Mid.alloc _ (.cells #[.int .i64 0, .int .i64 0, .slice none 0 0] 32)) oZr
  have B2 := Box.new ((w.alloc (.cells #[.int .i64 r0, .slice Ad d.length cd] 35)).alloc (.cells #[.int .i64 r, .int .i64 s, .slice A es.length c] 32)) #[.int .i64 0, .int .i64 0, .slice none 0 0] 32
  simp only [World.size_alloc] at B1 B2
  obtain ⟨bm, hbm⟩ := bool_of (IsMor r0 d)
  have HM := Lib.hid hbm
  obtain ⟨bf, hbf⟩ := bool_of (IsCor r s es)
  have HF := Lib.hid hbf
  clear hbm hbf
  go_enter Tryz.func9, Tryz.ntmps9
  go_wp2_with fail
  generalize hw1 : ((w.alloc (.cells #[.int .i64 r0, .slice Ad d.length cd] 35)).alloc (.cells #[.int .i64 r, .int .i64 s, .slice A es.length c] 32)).alloc (.cells #[.int .i64 0, .int .i64 0, .slice none 0 0] 32) = w1 at hm0 B0 B1 B2 ⊢
  have hs1 : w1.heap.size = w.heap.size + 1 + 1 + 1 := by rw [← hw1]; simp
  have HS := Lib.hid hs1
  clear hw1 hs1
  with_reducible refine (impl_IsMorphism r0 Ad d cd _ _ _ (hd.mid hm0 oZl) HOK.out hdl bm HM.out).mono ?_
  rintro en w2 ⟨rfl, hm2⟩
  replace B0 := B0.mid hm2 oZr
  replace B1 := B1.mid hm2 oZr
  replace B2 := B2.mid hm2 oZr
  replace hm0 := hm0.trans hm2
  have p0 := B0.cell 0 rfl
  have p1 := B0.cell 1 rfl
  have q0 := B1.cell 0 rfl
  have q1 := B1.cell 1 rfl
  have q2 := B1.cell 2 rfl
  cases bm with
  | false =>
    have hno : ¬ ImgOk r0 d r s es := fun h => by have := HM.out.2 h.1; cases this
    obtain ⟨rfl, rfl, rfl, rfl⟩ := HR.out.no hno
    have z0 := B2.cell 0 rfl
    have z1 := B2.cell 1 rfl
    have z2 := B2.cell 2 rfl
    have zf := B2.2.2
    go_wp2_with fail
    refine bodyPost_ret (v := .tuple #[.agg #[.int .i64 0, .int .i64 0, .slice none 0 0], .bool false]) (by simp [results, Tryz.results9, go_sem, z0, z1, z2, zf]) rfl ⟨none, 0, rfl, OG.nil, ?_⟩
    repeat (first | exact hm0 | refine Mid.storeNew ?_ (by simp; try omega) _)
  | true =>
  have hmor := HM.out.1 rfl
  have hms2 := hm2.size
  clear hm2 HM
  go_wp2_with fail
  with_reducible refine (impl_IsCore r s A es c _ _ _ (hr.mid hm0 oZl) hl hcl bf HF.out).mono ?_
  rintro en w3 ⟨rfl, hm3⟩
  replace B0 := B0.mid hm3 oZr
  replace B1 := B1.mid hm3 oZr
  replace B2 := B2.mid hm3 oZr
  replace hm0 := hm0.trans hm3
  have hms3 := hm3.size
  clear p0 p1 q0 q1 q2 hm3
  have p0 := B0.cell 0 rfl
  have p1 := B0.cell 1 rfl
  have q0 := B1.cell 0 rfl
  have q1 := B1.cell 1 rfl
  have q2 := B1.cell 2 rfl
  cases bf with
  | false =>
    have hno : ¬ ImgOk r0 d r s es := fun h => by have := HF.out.2 h.2.1; cases this
    obtain ⟨rfl, rfl, rfl, rfl⟩ := HR.out.no hno
    have z0 := B2.cell 0 rfl
    have z1 := B2.cell 1 rfl
    have z2 := B2.cell 2 rfl
    have zf := B2.2.2
    go_wp2_with fail
    refine bodyPost_ret (v := .tuple #[.agg #[.int .i64 0, .int .i64 0, .slice none 0 0], .bool false]) (by simp [results, Tryz.results9, go_sem, z0, z1, z2, zf]) rfl ⟨none, 0, rfl, OG.nil, ?_⟩
    repeat (first | exact hm0 | refine Mid.storeNew ?_ (by simp; try omega) _)
  | true =>
  have hcor := HF.out.1 rfl
  clear HF
  rcases (Decidable.em (r = r0)).symm with hrk | hrk
  · have hno : ¬ ImgOk r0 d r s es := fun h => hrk h.2.2
    obtain ⟨rfl, rfl, rfl, rfl⟩ := HR.out.no hno
    have bne : (r != r0) = true := by simpa using hrk
    have z0 := B2.cell 0 rfl
    have z1 := B2.cell 1 rfl
    have z2 := B2.cell 2 rfl
    have zf := B2.2.2
    clear hrk hmor hcor hno HR
    go_wp2_with fail
    refine bodyPost_ret (v := .tuple #[.agg #[.int .i64 0, .int .i64 0, .slice none 0 0], .bool false]) (by simp [results, Tryz.results9, go_sem, z0, z1, z2, zf]) rfl ⟨none, 0, rfl, OG.nil, ?_⟩
    repeat (first | exact hm0 | refine Mid.storeNew ?_ (by simp; try omega) _)
  have hRA := HR.out.yes ⟨hmor, hcor, hrk⟩
  subst hrk
  obtain ⟨r, n, rfl, rfl⟩ := hcor.gr.nat
  have hg1 := hcor.gr.rank
  have hg2 := hcor.gr.size
  have hg3 := hcor.gr.len
  have hbl := basA_len hcor
  have HBO := Lib.hid (fun (x : List Int) (hx : x ∈ basA r es) => basA_ok hcor hx)
  have HBA := Lib.hid (fun W h => impl_BasisA r n A es c W lo2 hi2 h hcl hcor)
  have HWD := Lib.hid hmor.2.2.2
  have H24 := Lib.hid (fun (xs : List Int) (hx : xs ∈ d) => (HWD.out xs hx).2.2.1)
  have hdl4 : d.length ≤ 1048576 := by omega
  have beq0 : ((r : Int) != (r : Int)) = false := by simp
  clear hcor hmor HR
  go_wp2_with fail
  with_reducible refine (impl_TrivialSubgroup r _ hg1).mono ?_
  rintro en w4 ⟨rfl, hm4⟩
  have hs4 := hm4.size
  clear p0 p1 q0 q1 q2
  have ha4 := Mid.alloc w4 (.cells #[.int .i64 r, .int .i64 1, .slice none 0 0] 32)
  have Y4 := Box.new w4 #[.int .i64 r, .int .i64 1, .slice none 0 0] 32
  replace B0 := B0.mid hm4 oZr
  replace B1 := B1.mid hm4 oZr
  replace B2 := B2.mid hm4 oZr
  replace hm0 := hm0.trans hm4
  have hb4 : w.heap.size + 1 + 1 < w4.heap.size := B2.1
  replace B0 := B0.mid ha4 oZr
  replace B1 := B1.mid ha4 oZr
  replace B2 := B2.mid ha4 oZr
  replace hm0 := hm0.trans ha4
  have q0 := B1.cell 0 rfl
  have q1 := B1.cell 1 rfl
  have q2 := B1.cell 2 rfl
  go_wp2_with fail
  generalize w4.alloc (.cells #[.int .i64 r, .int .i64 1, .slice none 0 0] 32) = w5 at B0 B1 B2 Y4 hm0 q0 q1 q2 ⊢
  have hs5 : w4.heap.size < w5.heap.size := Y4.1
  clear ha4 hm4 hs4
  generalize w4.heap.size = Gb at Y4 hb4 hs5 ⊢
  with_reducible refine (HBA.out _ (hr.mid hm0 oZl)).mono ?_
  rintro en w6 ⟨A5, c5, rfl, ho5, hm6⟩
  have hs6 := hm6.size
  clear q0 q1 q2
  replace B0 := B0.mid hm6 oZr
  replace B1 := B1.mid hm6 oZr
  replace B2 := B2.mid hm6 oZr
  replace Y4 := Y4.mid hm6 oZr
  replace hm0 := hm0.trans hm6
  clear hm6 HBA
  generalize basA r es = BA at ho5 HBO hbl hRA ⊢
  have HRA := Lib.hid hRA
  have HO5 := Lib.hid ho5
  clear hRA ho5
  generalize w6.heap.size = Q5 at HO5 hs6
  generalize hQ : w5.heap.size = L5 at HO5 hs6 hs5
  clear hQ
  go_wp2_with fail
  go_loopw [38] (fun iv wr => ∃ (k : Nat) (A2 : Option Addr) (c2 hi3 : Nat) (g : Int × List Ed), k ≤ BA.length ∧ iv = .int .i64 k ∧ Hid (joinJ r ((BA.map (expand d)).take k) = some g) ∧ OG wr (Gb + 1) hi3 A2 c2 g.2 ∧ Hid (OSS wr L5 Q5 48 3 A5 c5 BA) ∧
      Box wr w.heap.size [.int .i64 r, .slice Ad d.length cd] ∧ Box wr (w.heap.size + 1 + 1) [.int .i64 0, .int .i64 0, .slice none 0 0] ∧ Box wr Gb [.int .i64 r, .int .i64 g.1, .slice A2 g.2.length c2] ∧ Mid 0 0 w wr) (fun iv _ => BA.length - (intOf iv).toNat)
  case atStart => exact ⟨0, none, 0, _, (1, []), Nat.zero_le _, rfl, Lib.hid rfl, OG.nil, HO5, B0, B2, Y4, hm0⟩
  case round =>
    clear HO5 B0 B1 B2 Y4 hm0
    obtain ⟨wo, hwo⟩ : ∃ wo, wo = wr := ⟨_, rfl⟩
    subst hwo
    obtain ⟨k, A2, c2, hi3, ⟨gs, ge⟩, hk, rfl, HGE, hown, HO5, B0, Z2, Z3, hm⟩ := hrel
    dsimp only at hown Z3
    have hGo : Gb < wo.heap.size := Z3.1
    have hgl := (joinJ_gr hg1 HGE.out).len
    dsimp only at hgl
    by_cases hlt : k < BA.length
    · obtain ⟨Bd, od, Ak, ck, xs, hAd, hb1, hb2, hxs, hcell, hrv, hcap⟩ := HO5.out.rowI hlt
      subst hAd
      have hBs : Bd < wo.heap.size := Nat.lt_of_lt_of_le hb2 HO5.out.size
      obtain ⟨hx81, hxok⟩ := HBO.out xs (List.mem_of_getElem? hxs)
      have hxm : (BA.map (expand d))[k]? = some (expand d xs) := by rw [List.getElem?_map, hxs]; rfl
      have HP := Lib.hid hxm
      have hk0 : (0 : Int) ≤ (k : Int) := by omega
      have hk1 : (k : Int) < (BA.length : Int) := by omega
      have hEx := impl_ExpandBy Ad d cd Ak xs ck wo lo hi (hd.mid hm oZl) hrv.rsS hcap H24.out HOK.out.2 hxok hdl4 (by omega)
      have hel := expand_lenA H24.out HOK.out.2 xs
      have HEK := Lib.hid (expand_ok H24.out HOK.out.2 xs)
      have p0 := B0.cell 0 rfl
      have p1 := B0.cell 1 rfl
      clear hxs hxok hxm
      go_wp2_with fail
      with_reducible refine hEx.mono ?_
      intro en w7 hq7
      obtain ⟨A7, c7, rfl, hov, hm7⟩ := RetI.get hq7
      have hrw := owns_rv hov
      have HO7 := Lib.hid (HO5.out.mid hm7 oZl)
      have hs7 := hm7.size
      clear p0 p1 hcell hrv hq7 hEx hov HO5
      replace B0 := B0.mid hm7 oZr
      replace Z2 := Z2.mid hm7 oZr
      replace Z3 := Z3.mid hm7 oZr
      replace hown := hown.mid hm7 oZl
      replace hm := hm.trans hm7
      clear hm7
      generalize expand d xs = x at HP hel HEK hrw ⊢
      rcases (Decidable.em (x.length ≤ 24)).symm with hp24 | hp24
      · have hjn : joinJ r (BA.map (expand d)) = none := joinJ_none (k := k + 1) (by rw [joinJ_take HP.out, HGE.out, stepJ_long hp24])
        obtain ⟨rfl, rfl, rfl, rfl⟩ := HRA.out.no hjn
        have hp25 : (24 : Int) < (x.length : Int) := by omega
        clear hjn HGE hp24
        have z0 := Z2.cell 0 rfl
        have z1 := Z2.cell 1 rfl
        have z2 := Z2.cell 2 rfl
        have zf := Z2.2.2
        go_wp2_with fail
        refine bodyPost_ret (v := .tuple #[.agg #[.int .i64 0, .int .i64 0, .slice none 0 0], .bool false]) (by simp [results, Tryz.results9, go_sem, z0, z1, z2, zf]) rfl ⟨none, 0, rfl, OG.nil, ?_⟩
        repeat (first | exact hm | refine Mid.storeNew ?_ (by simp; try omega) _)
      have hp25 : ¬ (24 : Int) < (x.length : Int) := by omega
      obtain ⟨jr, js, je, jb, hjw⟩ := JwIs_ex r gs ge x
      have HJW := Lib.hid hjw
      have hP := impl_JoinWord r gs A2 ge c2 A7 x c7 w7 _ _ _ _ hown.rg hrw (by omega) hown.cnt.1 (by omega) HEK.out jr js je jb hjw
      clear hjw
      have q0 := Z3.cell 0 rfl
      have q1 := Z3.cell 1 rfl
      have q2 := Z3.cell 2 rfl
      go_wp2_with fail
      with_reducible refine hP.mono ?_
      rintro en w10 ⟨A6, c6, rfl, ho6, hm10⟩
      have HO10 := Lib.hid (HO7.out.mid hm10 oZl)
      have hs10 := hm10.size
      clear q0 q1 q2 HO7 hP hrw hown
      replace B0 := B0.mid hm10 oZr
      replace Z2 := Z2.mid hm10 oZr
      replace Z3 := Z3.mid hm10 oZr
      replace hm := hm.trans hm10
      have hal := Mid.alloc w10 (.cells #[.int .i64 jr, .int .i64 js, .slice A6 je.length c6] 32)
      have Zx := Box.new w10 #[.int .i64 jr, .int .i64 js, .slice A6 je.length c6] 32
      have HO11 := Lib.hid (HO10.out.mid hal oZl)
      replace ho6 := ho6.mid hal oZl
      replace B0 := B0.mid hal oZr
      replace Z2 := Z2.mid hal oZr
      replace Z3 := Z3.mid hal oZr
      replace hm := hm.trans hal
      have hgz : Gb + 1 ≤ w10.heap.size := by omega
      clear hal HO10 hm10
      cases jb with
      | false =>
        rcases HJW.out with ⟨hb0, -, -⟩ | ⟨-, hja, -⟩
        · cases hb0
        have hjn : joinJ r (BA.map (expand d)) = none := joinJ_none (k := k + 1) (by rw [joinJ_take HP.out, HGE.out, stepJ_some hp24]; exact hja)
        obtain ⟨rfl, rfl, rfl, rfl⟩ := HRA.out.no hjn
        clear hjn hja HJW HGE
        have z0 := Z2.cell 0 rfl
        have z1 := Z2.cell 1 rfl
        have z2 := Z2.cell 2 rfl
        have zf := Z2.2.2
        go_wp2_with fail
        refine bodyPost_ret (v := .tuple #[.agg #[.int .i64 0, .int .i64 0, .slice none 0 0], .bool false]) (by simp [results, Tryz.results9, go_sem, z0, z1, z2, zf]) rfl ⟨none, 0, rfl, OG.nil, ?_⟩
        repeat (first | exact hm | refine Mid.storeNew ?_ (by simp; try omega) _)
      | true =>
        obtain ⟨hja, rfl⟩ : jwA r gs ge x = some (js, je) ∧ jr = r := by
          rcases HJW.out with ⟨-, h1, h2⟩ | ⟨h1, -⟩
          · exact ⟨h1, h2⟩
          · cases h1
        have HG2 : Hid (joinJ r ((BA.map (expand d)).take (k + 1)) = some (js, je)) := Lib.hid (by rw [joinJ_take HP.out, HGE.out, stepJ_some hp24]; exact hja)
        clear HJW hja HGE
        have x0 := Zx.cell 0 rfl
        have x1 := Zx.cell 1 rfl
        have x2 := Zx.cell 2 rfl
        have xf := Zx.2.2
        have q0 := Z3.cell 0 rfl
        have q1 := Z3.cell 1 rfl
        have q2 := Z3.cell 2 rfl
        have qf := Z3.2.2
        go_wp2_with fail
        generalize w10.alloc (.cells #[.int .i64 r, .int .i64 js, .slice A6 je.length c6] 32) = w11 at B0 Z2 Z3 Zx ho6 HO11 hm x0 x1 x2 xf q0 q1 q2 qf ⊢
        generalize w10.heap.size = Gz at Zx hgz ho6 x0 x1 x2 xf ⊢
        have hst := ((Mid.setCell w11 (lo := Gb) (hi := Gb + 1) (p := ⟨Gb, 0, none⟩) (.int .i64 r) (Nat.le_refl _) (Nat.lt_succ_self _)).trans (Mid.setCell _ (lo := Gb) (hi := Gb + 1) (p := ⟨Gb, 1, none⟩) (.int .i64 js) (Nat.le_refl _) (Nat.lt_succ_self _))).trans (Mid.setCell _ (lo := Gb) (hi := Gb + 1) (p := ⟨Gb, 2, none⟩) (.slice A6 je.length c6) (Nat.le_refl _) (Nat.lt_succ_self _))
        have Y7 := ((Z3.set 0 (.int .i64 r) (by simp) rfl).set 1 (.int .i64 js) (by simp) rfl).set 2 (.slice A6 je.length c6) (by simp) rfl
        simp only [List.set_cons_succ, List.set_cons_zero] at Y7
        go_roundw
        case rel => exact ⟨k + 1, A6, c6, _, (js, je), hlt, by go_num, HG2, (ho6.wide (lo' := Gb + 1) (by omega) (Nat.le_refl _) ho6.size).mid hst (Or.inl (Nat.le_refl _)), Lib.hid (HO11.out.mid hst (Or.inl (by omega))), B0.mid hst (Or.inl (by omega)), Z2.mid hst (Or.inl (by omega)), Y7, ((hm.storeNew (p := ⟨Gb, 0, none⟩) (by show w.heap.size ≤ Gb; omega) (.int .i64 r)).storeNew (p := ⟨Gb, 1, none⟩) (by show w.heap.size ≤ Gb; omega) (.int .i64 js)).storeNew (p := ⟨Gb, 2, none⟩) (by show w.heap.size ≤ Gb; omega) (.slice A6 je.length c6)⟩
        case measure => simp [intOf]; omega
    · obtain rfl : k = BA.length := by omega
      have hge := HGE.out
      rw [List.take_of_length_le (by rw [List.length_map]; exact Nat.le_refl _)] at hge
      obtain ⟨rfl, rfl, rfl, rfl⟩ := HRA.out.yes hge
      clear HRA HGE hge
      have z0 := Z2.cell 0 rfl
      have z1 := Z2.cell 1 rfl
      have z2 := Z2.cell 2 rfl
      have q0 := Z3.cell 0 rfl
      have q1 := Z3.cell 1 rfl
      have q2 := Z3.cell 2 rfl
      have zf := Z2.2.2
      have hcl2 : (w.heap.size + 1 + 1 == Gb) = false := by simp; omega
      go_wp2_with fail
      refine bodyPost_ret (v := .tuple #[.agg #[.int .i64 r, .int .i64 rs, .slice A2 res.length c2], .bool true]) (by simp [results, Tryz.results9, go_sem, z0, z1, z2, zf, q0, q1, q2]) rfl ⟨A2, c2, rfl, ?_, ?_⟩
      · refine OG.wide (OG.mid hown (a := w.heap.size + 2) (b := w.heap.size + 3) ?_ (Or.inl (by omega))) (by omega) (by have := hown.size; simp; omega) (Nat.le_refl _)
        repeat (first | exact Mid.refl _ _ _ | refine Mid.stored ?_ _ (by simp; try omega) (by simp; try omega))
      · repeat (first | exact hm | refine Mid.storeNew ?_ (by simp; try omega) _)
end Go.Proofs.YtkaofcakelpnpaaGreat

namespace Go.Proofs.YtkaofcakelpnpaaGreat
set_option linter.unusedVariables false
open Go.RowKit
def ImageOfIs (r0 : Int) (d0 : List (List Int)) (r1 s1 : Int) (d1 : List Ed) (rr0 rs0 : Int) (res0 : List Ed) (res1 : Bool) : Prop := ImgIs r0 d0 r1 s1 d1 rr0 rs0 res0 res1
theorem ImageOfIs_ex (r0 : Int) (d0 : List (List Int)) (r1 s1 : Int) (d1 : List Ed) (b0 : (Lit.int .i64 r0).wf = true) (o0 : OkSS d0) (hl0 : d0.length + sumL d0 ≤ 1048576) (hl1 : d1.length ≤ 1048576) : ∃ rr0 rs0 res0 res1, ImageOfIs r0 d0 r1 s1 d1 rr0 rs0 res0 res1 := ImgIs_ex r0 d0 r1 s1 d1
theorem ImageOfIs_len {r0 : Int} {d0 : List (List Int)} {r1 s1 : Int} {d1 : List Ed} {rr0 rs0 : Int} {res0 : List Ed} {res1 : Bool} (h : ImageOfIs r0 d0 r1 s1 d1 rr0 rs0 res0 res1) (b0 : (Lit.int .i64 r0).wf = true) (o0 : OkSS d0) (hl0 : d0.length + sumL d0 ≤ 1048576) (hl1 : d1.length ≤ 1048576) : res0.length ≤ 1048576 := by
  have := ImgIs.lens h
  omega
theorem sspec_ImageOf (r0 : Int) (A0 : Option Addr) (d0 : List (List Int)) (c0 : Nat) (r1 s1 : Int) (A1 : Option Addr) (d1 : List Ed) (c1 : Nat) (w : World) (lo0 hi0 : Nat) (h0 : OSS w lo0 hi0 48 3 A0 c0 d0) (b0 : (Lit.int .i64 r0).wf = true) (o0 : OkSS d0) (hl0 : d0.length + sumL d0 ≤ 1048576) (lo1 hi1 : Nat) (h1 : OG w lo1 hi1 A1 c1 d1) (hl1 : d1.length ≤ 1048576) (rr0 rs0 : Int) (res0 : List Ed) (res1 : Bool) (h : ImageOfIs r0 d0 r1 s1 d1 rr0 rs0 res0 res1) :
    Calls Tryz.prog 6 #[.agg #[.int .i64 r0, .slice A0 d0.length c0], .agg #[.int .i64 r1, .int .i64 s1, .slice A1 d1.length c1]] w fun e w' => ∃ (A : Option Addr) (c : Nat), e = .returned (.tuple #[.agg #[.int .i64 rr0, .int .i64 rs0, .slice A res0.length c], .bool res1]) ∧ OG w' w.heap.size w'.heap.size A c res0 ∧ Mid 0 0 w w' :=
  spec_ImageOf r0 A0 d0 c0 r1 s1 A1 d1 c1 w lo0 hi0 lo1 hi1 h0.rss o0 hl0 h1.rg hl1 rr0 rs0 res0 res1 h
theorem simpl_ImageOf (r0 : Int) (A0 : Option Addr) (d0 : List (List Int)) (c0 : Nat) (r1 s1 : Int) (A1 : Option Addr) (d1 : List Ed) (c1 : Nat) (w : World) (lo0 hi0 : Nat) (h0 : OSS w lo0 hi0 48 3 A0 c0 d0) (b0 : (Lit.int .i64 r0).wf = true) (o0 : OkSS d0) (hl0 : d0.length + sumL d0 ≤ 1048576) (lo1 hi1 : Nat) (h1 : OG w lo1 hi1 A1 c1 d1) (hl1 : d1.length ≤ 1048576) (rr0 rs0 : Int) (res0 : List Ed) (res1 : Bool) (h : ImageOfIs r0 d0 r1 s1 d1 rr0 rs0 res0 res1) :
    Calls Tryz.prog 9 #[.agg #[.int .i64 r0, .slice A0 d0.length c0], .agg #[.int .i64 r1, .int .i64 s1, .slice A1 d1.length c1]] w fun e w' => ∃ (A : Option Addr) (c : Nat), e = .returned (.tuple #[.agg #[.int .i64 rr0, .int .i64 rs0, .slice A res0.length c], .bool res1]) ∧ OG w' w.heap.size w'.heap.size A c res0 ∧ Mid 0 0 w w' :=
  impl_ImageOf r0 A0 d0 c0 r1 s1 A1 d1 c1 w lo0 hi0 lo1 hi1 h0.rss o0 hl0 h1.rg hl1 h1.cnt.1 rr0 rs0 res0 res1 h
end Go.Proofs.YtkaofcakelpnpaaGreat

namespace Go.Proofs.YtkaofcakelpnpaaGreat
set_option linter.unusedVariables false
open Go.ChangeShapes Go.WideShapes Go.ChangeAt Go.RowKit
open Go.Joins
theorem cellsSI : Tryz.prog.cellsOf 48 = 1 := by kernel_rfl
set_option maxRecDepth 100000 in
theorem open_morph {H : Type} {enc : TypeId × Value → H} {W : World} {r : Reach} {base : Nat} {v : Value} {d : DataW H} {ps : List MemPlace}
    (hok : Value.okWide Tryz.prog W r base 24 v) (h : DataW.Trod enc Tryz.prog W 0 (fun _ => true) true 24 v d ps) :
    ∃ m A xss c, v = .agg #[.int .i64 m, .slice A (List.length xss) c] ∧ (Lit.int .i64 m).wf = true ∧ RSS W 0 W.heap.size A xss ∧ OkSS xss := by
  obtain ⟨v0, v1, y0, y1, n, rfl, -, -, h0, h1⟩ := open_agg2 Tryz.underlying24 (by kernel_rfl) (by kernel_rfl) hok h
  have h0' : DataW.trod enc Tryz.prog W 0 (fun _ => true) true n 3 [v0] = some y0 := h0
  have h1' : DataW.trod enc Tryz.prog W 0 (fun _ => true) true n 22 [v1] = some y1 := h1
  clear h0 h1
  obtain ⟨m, hm, -, hw⟩ := DataW.trod_int undI h0'
  obtain ⟨A, l, c, hs⟩ := slice_form undSSI h1'
  simp at hm hs
  subst hm hs
  obtain ⟨xss, rfl, ha, hb⟩ := rss_of_cells undSSI undSI undI cellsSI cellsI h1'
  exact ⟨m, A, xss, c, rfl, hw, ha, hb⟩
end Go.Proofs.YtkaofcakelpnpaaGreat
