/- Contracts and lemmas of this seat, many texts in one: see the words ahead of each. No condition beyond those typed in each lemma. -/
import Derived.Test.YtimmnnncgnnkgaaGreatSw4
import Derived.Test.YtimmnnncgnnkgaaGreatSw2
import Derived.ChangeAlike
import Derived.Test.YtimmnnncgnnkgaaGreatSw3
import Derived.Test.YtimmnnncgnnkgaaGreatSw1

/- MergeVertices, the reference. -/
namespace Go.Proofs.YtimmnnncgnnkgaaGreat
set_option linter.unusedVariables false
set_option linter.unusedSimpArgs false
open Go.RowKit

set_option maxHeartbeats 6400000 in
set_option maxRecDepth 100000 in
theorem spec_MergeVertices (r s : Int) (A : Option Addr) (es : List Ed) (c : Nat) (p1 p2 : Int) (w : World) (lo hi : Nat) (hr : RG w lo hi A es) (hg : IsGr r s es) (h0 : 0 ≤ p1) (h1 : p1 < p2) (h2 : p2 < s) :
    Calls Tryz.prog 162 #[graV r s A es.length c, .agg #[.int .i64 p1, .int .i64 p2]] w fun e w' => ∃ A1 c1, e = .returned (.tuple #[graV r (s - 1) A1 (mergeE (p1, p2) es).length c1, .bool true]) ∧ OG w' w.heap.size w'.heap.size A1 c1 (mergeE (p1, p2) es) ∧ Mid 0 0 w w' := by
  have hl := hg.len
  have hs40 := hg.size
  have HG := Lib.hid hg
  have hm0 : Mid 0 0 w (((w.alloc (.cells #[.int .i64 r, .int .i64 s, .slice A es.length c] 29)).alloc (.cells #[.int .i64 p1, .int .i64 p2] 118)).alloc (.cells #[.int .i64 0, .int .i64 0, .slice none 0 0] 29)) := ((Mid.alloc _ _).trans (Mid.alloc _ _)).trans (Mid.alloc _ _)
  have b0 := ((Box.new w #[.int .i64 r, .int .i64 s, .slice A es.length c] 29).mid (Mid.alloc _ (.cells #[.int .i64 p1, .int .i64 p2] 118)) (Or.inr (Nat.zero_le _))).mid (Mid.alloc _ (.cells #[.int .i64 0, .int .i64 0, .slice none 0 0] 29)) (Or.inr (Nat.zero_le _))
  have bf := (Box.new (w.alloc (.cells #[.int .i64 r, .int .i64 s, .slice A es.length c] 29)) #[.int .i64 p1, .int .i64 p2] 118).mid (Mid.alloc _ (.cells #[.int .i64 0, .int .i64 0, .slice none 0 0] 29)) (Or.inr (Nat.zero_le _))
  have b2 := Box.new ((w.alloc (.cells #[.int .i64 r, .int .i64 s, .slice A es.length c] 29)).alloc (.cells #[.int .i64 p1, .int .i64 p2] 118)) #[.int .i64 0, .int .i64 0, .slice none 0 0] 29
  simp only [World.size_alloc, Nat.add_assoc, Nat.reduceAdd] at bf b2
  have d1 : decide (p1 < 0) = false := by simp; omega
  have d2 : decide (p2 ≤ p1) = false := by simp; omega
  have d3 : decide (s ≤ p2) = false := by simp; omega
  clear hg
  go_enter Tryz.func162, Tryz.ntmps162
  go_wp2_with fail
  generalize hw1 : (((w.alloc (.cells #[.int .i64 r, .int .i64 s, .slice A es.length c] 29)).alloc (.cells #[.int .i64 p1, .int .i64 p2] 118)).alloc (.cells #[.int .i64 0, .int .i64 0, .slice none 0 0] 29)) = w1 at hm0 b0 bf b2 ⊢
  clear hw1
  with_reducible refine (spec_IsGraph r s A es c _ _ _ (hr.mid hm0 (Or.inl (Nat.zero_le _))).rv (by omega) true (iff_of_true rfl HG.out)).mono ?_
  rintro en w4 ⟨rfl, hm4⟩
  replace b0 := b0.mid hm4 (Or.inr (Nat.zero_le _))
  replace bf := bf.mid hm4 (Or.inr (Nat.zero_le _))
  replace b2 := b2.mid hm4 (Or.inr (Nat.zero_le _))
  replace hm0 := hm0.trans hm4
  have hs4 : w.heap.size + 3 ≤ w4.heap.size := b2.1
  have q0 := b0.cell 0 rfl
  have q1 := b0.cell 1 rfl
  have q2 := b0.cell 2 rfl
  have k0 := bf.cell 0 rfl
  have k1 := bf.cell 1 rfl
  have hal := Mid.alloc w4 (.cells #[.int .i64 r, .int .i64 (s - 1), .slice none 0 0] 29)
  have Y3 := Box.new w4 #[.int .i64 r, .int .i64 (s - 1), .slice none 0 0] 29
  replace b0 := b0.mid hal (Or.inr (Nat.zero_le _))
  replace bf := bf.mid hal (Or.inr (Nat.zero_le _))
  replace b2 := b2.mid hal (Or.inr (Nat.zero_le _))
  replace hm0 := hm0.trans hal
  go_wp2_with fail
  clear q0 q1 q2 k0 k1
  have hs5 : (w4.alloc (.cells #[.int .i64 r, .int .i64 (s - 1), .slice none 0 0] 29)).heap.size = w4.heap.size + 1 := by simp
  generalize w4.alloc (.cells #[.int .i64 r, .int .i64 (s - 1), .slice none 0 0] 29) = w5 at Y3 b0 bf b2 hm0 hs5 ⊢
  obtain ⟨G, hG⟩ : ∃ G, w4.heap.size = G := ⟨_, rfl⟩
  rw [hG] at Y3 hs4 hs5 ⊢
  clear hal hm4 hG
  go_loopw [7] (fun i wr => ∃ (q : Nat) (A2 : Option Addr) (c2 lo2 hi2 : Nat) (xs : List Ed), q ≤ es.length ∧ i = .int .i64 q ∧ Hid (xs = putAll [] ((es.take q).map (foldE (p1, p2)))) ∧
      OG wr lo2 hi2 A2 c2 xs ∧ G + 1 ≤ lo2 ∧
      Box wr w.heap.size [.int .i64 r, .int .i64 s, .slice A es.length c] ∧ Box wr (w.heap.size + 1) [.int .i64 p1, .int .i64 p2] ∧ Box wr (w.heap.size + 2) [.int .i64 0, .int .i64 0, .slice none 0 0] ∧ Box wr G [.int .i64 r, .int .i64 (s - 1), .slice A2 xs.length c2] ∧ Mid 0 0 w wr) (fun i _ => es.length - (intOf i).toNat)
  case atStart => exact ⟨0, none, 0, G + 1, _, [], Nat.zero_le _, rfl, Lib.hid rfl, ⟨Nat.le_of_eq hs5.symm, ⟨rfl, .inl ⟨rfl, rfl⟩⟩, fun g hg => by simp [Value.ownBlock] at hg⟩, Nat.le_refl _, b0, bf, b2, Y3, hm0⟩
  case round =>
    clear b0 bf b2 Y3 hm0 hs5
    obtain ⟨q, A2, c2, lo2, hi2, xs, hq, rfl, HX, hown, hlo2, b0, bf, b2, Y3, hm⟩ := hrel
    have hxl : xs.length ≤ 120 := by
      have h1 := putAll_len [] ((es.take q).map (foldE (p1, p2)))
      rw [← HX.out] at h1
      simp at h1
      omega
    by_cases hlt : q < es.length
    · obtain ⟨B, off, e, rfl, -, hbh, he, e0, e1, e2⟩ := (hr.mid hm (Or.inl (Nat.zero_le _))).ed hlt
      have hin := HG.out.all e (List.mem_of_getElem? he)
      have htk : (es.take (q + 1)).map (foldE (p1, p2)) = (es.take q).map (foldE (p1, p2)) ++ [foldE (p1, p2) e] := by
        rw [take_snoc he, List.map_append]
        rfl
      obtain ⟨i1, i2, i3, i4, i5, i6⟩ := hin
      have hq0 : (0 : Int) ≤ (q : Int) := by omega
      have hq1 : (q : Int) < (es.length : Int) := by omega
      have hal := Mid.alloc wr (.cells #[.int .i64 e.a, .int .i64 e.l, .int .i64 e.b] 78)
      have ZE := Box.new wr #[.int .i64 e.a, .int .i64 e.l, .int .i64 e.b] 78
      have hGr : G < wr.heap.size := Y3.1
      have u0 := b0.cell 0 rfl
      have u1 := b0.cell 1 rfl
      have u2 := b0.cell 2 rfl
      replace b0 := b0.mid hal (Or.inr (Nat.zero_le _))
      replace bf := bf.mid hal (Or.inr (Nat.zero_le _))
      replace b2 := b2.mid hal (Or.inr (Nat.zero_le _))
      replace Y3 := Y3.mid hal (Or.inr (Nat.zero_le _))
      replace hown := hown.mid hal (Or.inl (Nat.zero_le _))
      replace hm := hm.trans hal
      have HTK := Lib.hid htk
      clear he htk
      go_wp2_with fail
      clear e0 e1 e2 u0 u1 u2
      generalize hwx : wr.alloc (.cells #[.int .i64 e.a, .int .i64 e.l, .int .i64 e.b] 78) = wx at ZE b0 bf b2 Y3 hown hm ⊢
      generalize hgE : wr.heap.size = E at ZE hGr ⊢
      clear hgE hwx hal
      have hmd := Mid.drew1 wx
      replace b0 := b0.mid hmd (Or.inr (Nat.zero_le _))
      replace bf := bf.mid hmd (Or.inr (Nat.zero_le _))
      replace b2 := b2.mid hmd (Or.inr (Nat.zero_le _))
      replace Y3 := Y3.mid hmd (Or.inr (Nat.zero_le _))
      replace ZE := ZE.mid hmd (Or.inr (Nat.zero_le _))
      replace hown := hown.mid hmd (Or.inl (Nat.zero_le _))
      replace hm := hm.trans hmd
      have f0 := ZE.cell 0 rfl
      have f1 := ZE.cell 1 rfl
      have f2 := ZE.cell 2 rfl
      have g2 := Y3.cell 2 rfl
      have k0 := bf.cell 0 rfl
      have k1 := bf.cell 1 rfl
      obtain ⟨x, hx⟩ : ∃ x, foldV (p1, p2) e.a = x := ⟨_, rfl⟩
      obtain ⟨y, hy⟩ : ∃ y, foldV (p1, p2) e.b = y := ⟨_, rfl⟩
      have HFE : Hid (foldE (p1, p2) e = ⟨x, e.l, y⟩) := Lib.hid (by simp [foldE, hx, hy])
      clear hmd
      refine wp_region_T (S := (fun w' => w'.cell? ⟨E, 0, none⟩ = some (.int .i64 e.a) ∧ w'.cell? ⟨E, 1, none⟩ = some (.int .i64 e.l) ∧ w'.cell? ⟨E, 2, none⟩ = some (.int .i64 e.b) ∧ w'.cell? ⟨G, 2, none⟩ = some (.slice A2 xs.length c2) ∧ w'.cell? ⟨w.heap.size + 1, 0, none⟩ = some (.int .i64 p1) ∧ w'.cell? ⟨w.heap.size + 1, 1, none⟩ = some (.int .i64 p2))) 15 (by kernel_rfl) ⟨f0, f1, f2, g2, k0, k1⟩ ?_
      generalize World.drew wx = wz at b0 bf b2 Y3 ZE hown hm f0 f1 f2 g2 k0 k1 ⊢
      have hS : wz.cell? ⟨E, 0, none⟩ = some (.int .i64 e.a) ∧ wz.cell? ⟨E, 1, none⟩ = some (.int .i64 e.l) ∧ wz.cell? ⟨E, 2, none⟩ = some (.int .i64 e.b) ∧ wz.cell? ⟨G, 2, none⟩ = some (.slice A2 xs.length c2) ∧ wz.cell? ⟨w.heap.size + 1, 0, none⟩ = some (.int .i64 p1) ∧ wz.cell? ⟨w.heap.size + 1, 1, none⟩ = some (.int .i64 p2) := ⟨f0, f1, f2, g2, k0, k1⟩
      have hP1 := spec_l7New p1 p2 e.a wz h1 i1 (by omega)
      rw [hx] at hP1
      refine wpAnyT_take (i := 0) (v := ?_) rfl (by kernel_rfl) (by kernel_rfl) (by kernel_rfl) (by kernel_rfl) (fun _ _ _ h => h) (Or.inl ⟨by rfl, ?_⟩) hS ?_
      rotate_left
      focus (intro w hSw; (try dsimp only at hSw); go_simp; try with_reducible rfl)
      try simp only [Act.put, List.setIfInBounds_toArray, List.set_cons_zero, List.set_cons_succ, List.getElem_toArray, List.getElem_cons_zero, List.getElem_cons_succ]
      refine wpAnyT_take (i := 1) (v := ?_) rfl (by kernel_rfl) (by kernel_rfl) (by kernel_rfl) (by kernel_rfl) (fun _ _ _ h => h) (Or.inl ⟨by rfl, ?_⟩) hS ?_
      rotate_left
      focus (intro w hSw; (try dsimp only at hSw); go_simp; try with_reducible rfl)
      try simp only [Act.put, List.setIfInBounds_toArray, List.set_cons_zero, List.set_cons_succ, List.getElem_toArray, List.getElem_cons_zero, List.getElem_cons_succ]
      refine wpAnyT_take (i := 2) (v := ?_) rfl (by kernel_rfl) (by kernel_rfl) (by kernel_rfl) (by kernel_rfl) (fun _ _ _ h => h) (Or.inl ⟨by rfl, ?_⟩) hS ?_
      rotate_left
      focus (intro w hSw; (try dsimp only at hSw); go_simp; try with_reducible rfl)
      try simp only [Act.put, List.setIfInBounds_toArray, List.set_cons_zero, List.set_cons_succ, List.getElem_toArray, List.getElem_cons_zero, List.getElem_cons_succ]
      refine wpAnyT_take (i := 3) (v := ?_) rfl (by kernel_rfl) (by kernel_rfl) (by kernel_rfl) (by kernel_rfl) (fun _ _ _ h => h) (Or.inl ⟨by rfl, ?_⟩) hS ?_
      rotate_left
      focus (intro w hSw; (try dsimp only at hSw); go_simp; try with_reducible rfl)
      try simp only [Act.put, List.setIfInBounds_toArray, List.set_cons_zero, List.set_cons_succ, List.getElem_toArray, List.getElem_cons_zero, List.getElem_cons_succ]
      refine wpAnyT_take (i := 4) (v := ?_) rfl (by kernel_rfl) (by kernel_rfl) (by kernel_rfl) (by kernel_rfl) (fun _ _ _ h => h) (Or.inl ⟨by rfl, ?_⟩) hS ?_
      rotate_left
      focus (intro w hSw; (try dsimp only at hSw); go_simp; try with_reducible rfl)
      try simp only [Act.put, List.setIfInBounds_toArray, List.set_cons_zero, List.set_cons_succ, List.getElem_toArray, List.getElem_cons_zero, List.getElem_cons_succ]
      refine wpAnyT_take (i := 6) (v := ?_) rfl (by kernel_rfl) (by kernel_rfl) (by kernel_rfl) (by kernel_rfl) (fun _ _ _ h => h) (Or.inl ⟨by rfl, ?_⟩) hS ?_
      rotate_left
      focus (intro w hSw; (try dsimp only at hSw); go_simp; try with_reducible rfl)
      try simp only [Act.put, List.setIfInBounds_toArray, List.set_cons_zero, List.set_cons_succ, List.getElem_toArray, List.getElem_cons_zero, List.getElem_cons_succ]
      refine wpAnyT_take (i := 7) (v := ?_) rfl (by kernel_rfl) (by kernel_rfl) (by kernel_rfl) (by kernel_rfl) (fun _ _ _ h => h) (Or.inl ⟨by rfl, ?_⟩) hS ?_
      rotate_left
      focus (intro w hSw; (try dsimp only at hSw); go_simp; try with_reducible rfl)
      try simp only [Act.put, List.setIfInBounds_toArray, List.set_cons_zero, List.set_cons_succ, List.getElem_toArray, List.getElem_cons_zero, List.getElem_cons_succ]
      refine wpAnyT_take (i := 8) (v := ?_) rfl (by kernel_rfl) (by kernel_rfl) (by kernel_rfl) (by kernel_rfl) (fun _ _ _ h => h) (Or.inl ⟨by rfl, ?_⟩) hS ?_
      rotate_left
      focus (intro w hSw; (try dsimp only at hSw); go_simp; try with_reducible rfl)
      try simp only [Act.put, List.setIfInBounds_toArray, List.set_cons_zero, List.set_cons_succ, List.getElem_toArray, List.getElem_cons_zero, List.getElem_cons_succ]
      refine wpAnyT_take (i := 9) (v := ?_) rfl (by kernel_rfl) (by kernel_rfl) (by kernel_rfl) (by kernel_rfl) (fun _ _ _ h => h) (Or.inl ⟨by rfl, ?_⟩) hS ?_
      rotate_left
      focus (intro w hSw; (try dsimp only at hSw); go_simp; try with_reducible rfl)
      try simp only [Act.put, List.setIfInBounds_toArray, List.set_cons_zero, List.set_cons_succ, List.getElem_toArray, List.getElem_cons_zero, List.getElem_cons_succ]
      refine wpAnyT_take (i := 10) (v := ?_) rfl (by kernel_rfl) (by kernel_rfl) (by kernel_rfl) (by kernel_rfl) (fun _ _ _ h => h) (Or.inl ⟨by rfl, ?_⟩) hS ?_
      rotate_left
      focus (intro w hSw; (try dsimp only at hSw); go_simp; try with_reducible rfl)
      try simp only [Act.put, List.setIfInBounds_toArray, List.set_cons_zero, List.set_cons_succ, List.getElem_toArray, List.getElem_cons_zero, List.getElem_cons_succ]
      refine wpAnyT_ready (rs := [5]) (by kernel_rfl) (by simp) (AllReadyT.cons rfl (fun K hK => ?_) AllReadyT.nil)
      (go_simp; refine hP1.mono ?_; rintro _ w6 ⟨rfl, hc6⟩; have b06 := b0.mid hc6 (Or.inr (Nat.zero_le _)); have bf6 := bf.mid hc6 (Or.inr (Nat.zero_le _)); have b26 := b2.mid hc6 (Or.inr (Nat.zero_le _)); have Y36 := Y3.mid hc6 (Or.inr (Nat.zero_le _)); have ZE6 := ZE.mid hc6 (Or.inr (Nat.zero_le _)); have hown6 := OG.mid hown hc6 (Or.inl (Nat.zero_le _)); have hm6 := hm.trans hc6; have hS6 : w6.cell? ⟨E, 0, none⟩ = some (.int .i64 e.a) ∧ w6.cell? ⟨E, 1, none⟩ = some (.int .i64 e.l) ∧ w6.cell? ⟨E, 2, none⟩ = some (.int .i64 e.b) ∧ w6.cell? ⟨G, 2, none⟩ = some (.slice A2 xs.length c2) ∧ w6.cell? ⟨w.heap.size + 1, 0, none⟩ = some (.int .i64 p1) ∧ w6.cell? ⟨w.heap.size + 1, 1, none⟩ = some (.int .i64 p2) := ⟨ZE6.cell 0 rfl, ZE6.cell 1 rfl, ZE6.cell 2 rfl, Y36.cell 2 rfl, bf6.cell 0 rfl, bf6.cell 1 rfl⟩; go_wp2_with fail)
      refine hK.out _ _ (Or.inr hS6) (fun _ => ?_)
      clear hK K
      try simp only [Act.put, List.setIfInBounds_toArray, List.set_cons_zero, List.set_cons_succ, List.getElem_toArray, List.getElem_cons_zero, List.getElem_cons_succ]
      clear hS hP1 b0 bf b2 Y3 ZE hown hm f0 f1 f2 g2 k0 k1 hc6
      have hP2 := spec_l7New p1 p2 e.b w6 h1 i3 (by omega)
      rw [hy] at hP2
      clear hx hy
      refine wpAnyT_ready (rs := [11]) (by kernel_rfl) (by simp) (AllReadyT.cons rfl (fun K hK => ?_) AllReadyT.nil)
      (go_simp; refine hP2.mono ?_; rintro _ w7 ⟨rfl, hc7⟩; have b07 := b06.mid hc7 (Or.inr (Nat.zero_le _)); have bf7 := bf6.mid hc7 (Or.inr (Nat.zero_le _)); have b27 := b26.mid hc7 (Or.inr (Nat.zero_le _)); have Y37 := Y36.mid hc7 (Or.inr (Nat.zero_le _)); have ZE7 := ZE6.mid hc7 (Or.inr (Nat.zero_le _)); have hown7 := OG.mid hown6 hc7 (Or.inl (Nat.zero_le _)); have hm7 := hm6.trans hc7; have hS7 : w7.cell? ⟨E, 0, none⟩ = some (.int .i64 e.a) ∧ w7.cell? ⟨E, 1, none⟩ = some (.int .i64 e.l) ∧ w7.cell? ⟨E, 2, none⟩ = some (.int .i64 e.b) ∧ w7.cell? ⟨G, 2, none⟩ = some (.slice A2 xs.length c2) ∧ w7.cell? ⟨w.heap.size + 1, 0, none⟩ = some (.int .i64 p1) ∧ w7.cell? ⟨w.heap.size + 1, 1, none⟩ = some (.int .i64 p2) := ⟨ZE7.cell 0 rfl, ZE7.cell 1 rfl, ZE7.cell 2 rfl, Y37.cell 2 rfl, bf7.cell 0 rfl, bf7.cell 1 rfl⟩; go_wp2_with fail)
      refine hK.out _ _ (Or.inr hS7) (fun _ => ?_)
      clear hK K
      try simp only [Act.put, List.setIfInBounds_toArray, List.set_cons_zero, List.set_cons_succ, List.getElem_toArray, List.getElem_cons_zero, List.getElem_cons_succ]
      clear hS6 hP2 b06 bf6 b26 Y36 ZE6 hown6 hm6 hc7
      refine wpAnyT_take (i := 12) (v := ?_) rfl (by kernel_rfl) (by kernel_rfl) (by kernel_rfl) (by kernel_rfl) (fun _ _ _ h => h) (Or.inl ⟨by rfl, ?_⟩) hS7 ?_
      rotate_left
      focus (intro w hSw; (try dsimp only at hSw); go_simp; try with_reducible rfl)
      try simp only [Act.put, List.setIfInBounds_toArray, List.set_cons_zero, List.set_cons_succ, List.getElem_toArray, List.getElem_cons_zero, List.getElem_cons_succ]
      have hQ := spec_l4Put A2 xs c2 ⟨x, e.l, y⟩ w7 _ _ hown7.rg (by omega)
      refine wpAnyT_ready (rs := [13]) (by kernel_rfl) (by simp) (AllReadyT.cons rfl (fun K hK => ?_) AllReadyT.nil)
      (go_simp; refine hQ.mono ?_; rintro en w9 ⟨A9, c9, rfl, ho9, hc9⟩; have b09 := b07.mid hc9 (Or.inr (Nat.zero_le _)); have bf9 := bf7.mid hc9 (Or.inr (Nat.zero_le _)); have b29 := b27.mid hc9 (Or.inr (Nat.zero_le _)); have Y39 := Y37.mid hc9 (Or.inr (Nat.zero_le _)); have ZE9 := ZE7.mid hc9 (Or.inr (Nat.zero_le _)); have hown9 := OG.mid hown7 hc9 (Or.inl (Nat.zero_le _)); have hm9 := hm7.trans hc9; go_wp2_with fail)
      refine hK.out _ _ (Or.inr ⟨ZE9.cell 0 rfl, ZE9.cell 1 rfl, ZE9.cell 2 rfl, Y39.cell 2 rfl, bf9.cell 0 rfl, bf9.cell 1 rfl⟩) (fun _ => ?_)
      clear hK K
      try simp only [Act.put, List.setIfInBounds_toArray, List.set_cons_zero, List.set_cons_succ, List.getElem_toArray, List.getElem_cons_zero, List.getElem_cons_succ]
      have hS9 : w9.cell? ⟨E, 0, none⟩ = some (.int .i64 e.a) ∧ w9.cell? ⟨E, 1, none⟩ = some (.int .i64 e.l) ∧ w9.cell? ⟨E, 2, none⟩ = some (.int .i64 e.b) ∧ w9.cell? ⟨G, 2, none⟩ = some (.slice A2 xs.length c2) ∧ w9.cell? ⟨w.heap.size + 1, 0, none⟩ = some (.int .i64 p1) ∧ w9.cell? ⟨w.heap.size + 1, 1, none⟩ = some (.int .i64 p2) := ⟨ZE9.cell 0 rfl, ZE9.cell 1 rfl, ZE9.cell 2 rfl, Y39.cell 2 rfl, bf9.cell 0 rfl, bf9.cell 1 rfl⟩
      have hr2 := Y39.cell 2 rfl
      have hrf := Y39.2.2
      have hG7 : G + 1 ≤ w7.heap.size := Y37.1
      clear hS7 b07 bf7 b27 Y37 ZE7 hown7 hm7 hc9 hQ
      refine wpAnyT_take (i := 14) (v := ?_) rfl (by kernel_rfl) (by kernel_rfl) (by kernel_rfl) (by kernel_rfl) (fun _ _ _ h => h) (Or.inl ⟨by rfl, ?_⟩) hS9 ?_
      rotate_left
      focus (intro w hSw; (try dsimp only at hSw); go_simp; try with_reducible rfl)
      try simp only [Act.put, List.setIfInBounds_toArray, List.set_cons_zero, List.set_cons_succ, List.getElem_toArray, List.getElem_cons_zero, List.getElem_cons_succ]
      refine wpAnyT_ready (rs := [15]) (by kernel_rfl) (by simp) (AllReadyT.cons rfl (fun K hK => ?_) AllReadyT.nil)
      (go_simp)
      refine hK.out _ _ (Or.inl rfl) (fun _ => ?_)
      clear hK K
      try simp only [Act.put, List.setIfInBounds_toArray, List.set_cons_zero, List.set_cons_succ, List.getElem_toArray, List.getElem_cons_zero, List.getElem_cons_succ]
      refine wpAnyT_done (by kernel_rfl) ?_ _
      go_wp2_with fail
      go_roundw
      case rel =>
        have hst := Mid.setAt w9 G 2 (.slice A9 (putE ⟨x, e.l, y⟩ xs).length c9)
        refine ⟨q + 1, A9, c9, _, _, _, by omega, by go_num, Lib.hid ?_, ho9.mid hst (Or.inl hG7), hG7, b09.mid hst (Or.inl (by omega)), bf9.mid hst (Or.inl (by omega)), b29.mid hst (Or.inl (by omega)), Y39.set 2 _ (by simp) rfl, hm9.storeNew (p := ⟨G, 2, none⟩) (by show w.heap.size ≤ G; omega) _⟩
        rw [HTK.out, putAll_snoc, ← HX.out, HFE.out]
      case measure => simp [intOf]; omega
    · obtain rfl : q = es.length := by omega
      have hxx := HX.out
      rw [List.take_length] at hxx
      have HXX := Lib.hid (show xs = mergeE (p1, p2) es from hxx)
      clear hxx
      have u0 := b0.cell 0 rfl
      have u1 := b0.cell 1 rfl
      have u2 := b0.cell 2 rfl
      have a0 := b2.cell 0 rfl
      have a1 := b2.cell 1 rfl
      have a2 := b2.cell 2 rfl
      have x0 := Y3.cell 0 rfl
      have x1 := Y3.cell 1 rfl
      have x2 := Y3.cell 2 rfl
      have af := b2.2.2
      have xf := Y3.2.2
      have hcl : ¬ w.heap.size + 2 = G := by omega
      have hcl2 : ¬ G = w.heap.size + 2 := by omega
      go_wp2_with fail
      have hcl3 : (w.heap.size + 2 == G) = false := by simpa using hcl
      refine bodyPost_ret (v := .tuple #[.agg #[.int .i64 r, .int .i64 (s - 1), .slice A2 xs.length c2], .bool true]) (by simp [results, Tryz.results162, go_sem, a0, a1, a2, x0, x1, x2, af, xf, hcl]) rfl ⟨A2, c2, by rw [HXX.out], ?_, ?_⟩
      · rw [← HXX.out]
        refine OG.wide (OG.mid hown (a := w.heap.size) (b := G + 1) ?_ (Or.inl hlo2)) (by omega) (by have := hown.size; simpa using this) (Nat.le_refl _)
        repeat (first | exact Mid.refl _ _ _ | refine Mid.stored ?_ _ (by simp; try omega) (by simp; try omega))
      · repeat (first | exact hm | refine Mid.storeNew ?_ (by simp; try omega) _)
end Go.Proofs.YtimmnnncgnnkgaaGreat

/- l7Folds and FirstFold, the reference. -/
namespace Go.Proofs.YtimmnnncgnnkgaaGreat
set_option linter.unusedVariables false
set_option linter.unusedSimpArgs false
open Go.RowKit

set_option maxHeartbeats 6400000 in
set_option maxRecDepth 20000 in
theorem spec_l7Folds (r s : Int) (A : Option Addr) (es : List Ed) (c : Nat) (w : World) (lo hi : Nat) (hr : RG w lo hi A es) (hl : es.length ≤ 120) :
    Calls Tryz.prog 180 #[graV r s A es.length c] w fun e w' => ∃ A1 c1, e = .returned (.slice A1 (folds es).length c1) ∧ RV w' 0 w'.heap.size A1 (ints (fdI (folds es))) ∧ Mid 0 0 w w' := by
  have hm0 : Mid 0 0 w ((w.alloc (.cells #[.int .i64 r, .int .i64 s, .slice A es.length c] 29)).alloc (.cells #[] 118)) := (Mid.alloc _ _).trans (Mid.alloc _ _)
  have b0 := (Box.new w #[.int .i64 r, .int .i64 s, .slice A es.length c] 29).mid (Mid.alloc _ (.cells #[] 118)) (Or.inr (Nat.zero_le _))
  have O0 := owns_empty (w.alloc (.cells #[.int .i64 r, .int .i64 s, .slice A es.length c] 29)) 118 2
  rw [World.size_alloc] at O0
  go_enter Tryz.func180, Tryz.ntmps180
  go_wp2_with fail
  go_loopw [3, 4] (fun out iv wr => ∃ (k : Nat) (A1 : Option Addr) (n1 c1 : Nat), k ≤ es.length ∧ iv = .int .i64 k ∧ out = .slice A1 n1 c1 ∧ Hid ((foldsUp es k).length = n1) ∧ wr.ownsRow (w.heap.size + 1) 118 2 (.slice A1 n1 c1) n1 (ints (fdI (foldsUp es k))) ∧
      Box wr w.heap.size [.int .i64 r, .int .i64 s, .slice A es.length c] ∧ Mid 0 0 w wr) (fun _ i _ => es.length - (intOf i).toNat)
  case atStart => exact ⟨0, _, 0, 0, Nat.zero_le _, rfl, rfl, Lib.hid rfl, O0, b0, hm0⟩
  case round =>
    clear O0 b0 hm0
    obtain ⟨wo, hwo⟩ : ∃ wo, wo = wr := ⟨_, rfl⟩
    subst hwo
    obtain ⟨k, A1, n1, c1, hk, rfl, rfl, HN, hown, b0, hm⟩ := hrel
    have q0 := b0.cell 0 rfl
    have q1 := b0.cell 1 rfl
    have q2 := b0.cell 2 rfl
    by_cases hlt : k < es.length
    · obtain ⟨e, he⟩ := get_of_lt es hlt
      have HE := Lib.hid he
      have hk0 : (0 : Int) ≤ (k : Int) := by omega
      have hk1 : (k : Int) < (es.length : Int) := by omega
      clear he
      go_wp2_with fail
      clear q0 q1 q2
      go_loopw [3, 5] (fun out jv wr => ∃ (j : Nat) (A2 : Option Addr) (n2 c2 : Nat), k + 1 + j ≤ es.length ∧ jv = .int .i64 ((k + 1 + j : Nat) : Int) ∧ out = .slice A2 n2 c2 ∧ Hid ((foldsUp es k ++ ((es.drop (k + 1)).take j).flatMap (foldsAB e)).length = n2) ∧
          wr.ownsRow (w.heap.size + 1) 118 2 (.slice A2 n2 c2) n2 (ints (fdI (foldsUp es k ++ ((es.drop (k + 1)).take j).flatMap (foldsAB e)))) ∧
          Box wr w.heap.size [.int .i64 r, .int .i64 s, .slice A es.length c] ∧ Mid 0 0 w wr) (fun _ j _ => es.length - (intOf j).toNat)
      case atStart => exact ⟨0, A1, n1, c1, by omega, by go_num, rfl, Lib.hid (by simpa using HN.out), by simpa using hown, b0, hm⟩
      case round =>
        clear hown b0 hm HN
        obtain ⟨j, A2, n2, c2, hj, rfl, rfl, HN, hown, b0, hm⟩ := hrel
        have hn2 : n2 ≤ 40000 := by
          have h1 := foldsUp_len es k
          have h2 := flat_len e ((es.drop (k + 1)).take j)
          have h3 := HN.out
          have h4 : k * (2 * es.length) ≤ 120 * 240 := Nat.mul_le_mul (by omega) (by omega)
          rw [List.length_append] at h3
          rw [List.length_take, List.length_drop] at h2
          omega
        obtain ⟨m, hmj⟩ : ∃ m, k + 1 + j = m := ⟨_, rfl⟩
        rw [hmj]
        have HM := Lib.hid hmj
        rw [hmj] at hj
        clear hmj
        have q0 := b0.cell 0 rfl
        have q1 := b0.cell 1 rfl
        have q2 := b0.cell 2 rfl
        by_cases hlt2 : m < es.length
        · obtain ⟨B, off, e', rfl, -, hbh, he', e0, e1c, e2c⟩ := (hr.mid hm (Or.inl (Nat.zero_le _))).ed hlt
          rw [HE.out] at he'
          injection he' with he'
          subst he'
          obtain ⟨B', off', f, hX, -, hbh2, hf, f0, f1, f2⟩ := (hr.mid hm (Or.inl (Nat.zero_le _))).ed hlt2
          injection hX with hX
          injection hX with hX1 hX2
          subst hX1 hX2
          have HF := Lib.hid (flat_take (e := e) (show (es.drop (k + 1))[j]? = some f by rw [List.getElem?_drop, HM.out]; exact hf))
          have hj0 : (0 : Int) ≤ (m : Int) := by omega
          have hjn : (m : Int) < (es.length : Int) := by omega
          have zb : B < wr.heap.size := Nat.lt_of_lt_of_le hbh (hr.mid hm (Or.inl (Nat.zero_le _))).1
          have h0r : w.heap.size < wr.heap.size := b0.1
          have hal := (Mid.alloc wr (.cells #[.int .i64 e.a, .int .i64 e.l, .int .i64 e.b] 78)).trans (Mid.alloc (wr.alloc (.cells #[.int .i64 e.a, .int .i64 e.l, .int .i64 e.b] 78)) (.cells #[.int .i64 f.a, .int .i64 f.l, .int .i64 f.b] 78))
          have ZE := (Box.new wr #[.int .i64 e.a, .int .i64 e.l, .int .i64 e.b] 78).mid (Mid.alloc (wr.alloc (.cells #[.int .i64 e.a, .int .i64 e.l, .int .i64 e.b] 78)) (.cells #[.int .i64 f.a, .int .i64 f.l, .int .i64 f.b] 78)) (Or.inr (Nat.zero_le _))
          have ZF := Box.new (wr.alloc (.cells #[.int .i64 e.a, .int .i64 e.l, .int .i64 e.b] 78)) #[.int .i64 f.a, .int .i64 f.l, .int .i64 f.b] 78
          rw [World.size_alloc] at ZF
          have HNE := Lib.hid (show Value.ownBlock (.slice A2 n2 c2) ≠ some wr.heap.size from fun h => by have := (hown.lt _ h).2; omega)
          have HFE := Lib.hid (show Value.ownBlock (.slice A2 n2 c2) ≠ some (wr.heap.size + 1) from fun h => by have := (hown.lt _ h).2; omega)
          have hB0 := Lib.hid (fun (g : Nat) (h : Value.ownBlock (.slice A2 n2 c2) = some g) => (hown.lt g h).1)
          replace b0 := b0.mid hal (Or.inr (Nat.zero_le _))
          replace hown := owns_mid hown hal (Or.inl (Nat.zero_le _))
          replace hm := hm.trans hal
          have HW := Lib.hid hown
          have hszA : w.heap.size + 1 ≤ ((wr.alloc (.cells #[.int .i64 e.a, .int .i64 e.l, .int .i64 e.b] 78)).alloc (.cells #[.int .i64 f.a, .int .i64 f.l, .int .i64 f.b] 78)).heap.size := by simp; omega
          clear hf hown hal
          by_cases e1 : e.l = f.l
          · have d1 : (e.l == f.l) = true := by simpa using e1
            by_cases e2 : e.a = f.a
            · have d2 : (e.a == f.a) = true := by simpa using e2
              by_cases e3 : e.b = f.b
              · have d3 : (e.b == f.b) = true := by simpa using e3
                have hAB : foldsAB e f = [(min e.b f.b, max e.b f.b), (min e.a f.a, max e.a f.a)] := by simp [foldsAB, e1, e2, e3]
                have HAB : Hid (foldsUp es k ++ ((es.drop (k + 1)).take (j + 1)).flatMap (foldsAB e) = (foldsUp es k ++ ((es.drop (k + 1)).take j).flatMap (foldsAB e)) ++ [(min e.b f.b, max e.b f.b)] ++ [(min e.a f.a, max e.a f.a)]) := Lib.hid (by rw [HF.out, hAB]; simp)
                clear e1 e2 e3 hAB
                go_wp2_with (first | (at_builtin; refine wpList_pushF rfl _ _ rfl (w.heap.size + 1) A2 n2 c2 _ rfl HW.out (min e.b f.b, max e.b f.b) (by rw [World.size_alloc, World.size_alloc]; rfl) (by omega) hszA ?_; intro A8 c8 w8 ho8 hgr8 hat8; have ZE8 := ZE.grown hgr8 HNE.out; have ZF8 := ZF.grown hgr8 HFE.out; have g80 := ZE8.cell 0 rfl; have g81 := ZE8.cell 1 rfl; have g82 := ZE8.cell 2 rfl; have h80 := ZF8.cell 0 rfl; have h81 := ZF8.cell 1 rfl; have h82 := ZF8.cell 2 rfl; have HW8 := Lib.hid ho8; have hsz8 := Nat.le_trans hszA hgr8.size; clear ho8) | (at_builtin; refine wpList_pushF rfl _ _ rfl (w.heap.size + 1) A8 (n2 + 1) c8 _ rfl HW8.out (min e.a f.a, max e.a f.a) rfl (by omega) hsz8 ?_; intro A9 c9 w9 ho9 hgr9 hat9))
                have hm8 := Mid.of_grownRow HW.out hgr8
                have hm9 := Mid.of_grownRow HW8.out hgr9
                have HB8 := Lib.hid (fun (g : Nat) (h : Value.ownBlock (.slice A8 (n2 + 1) c8) = some g) => (HW8.out.lt g h).1)
                clear hat9 hat8
                go_roundw
                case rel => exact ⟨j + 1, A9, n2 + 1 + 1, c9, by have := HM.out; omega, by have := HM.out; go_num, rfl, Lib.hid (by rw [HAB.out, List.length_append, List.length_append, HN.out]; rfl), by rw [HAB.out]; exact ho9, (b0.grown hgr8 (fun h => by have := hB0.out _ h; omega)).grown hgr9 (fun h => by have := HB8.out _ h; omega), (hm.transNew hm8 (Or.inl (Nat.le_succ _))).transNew hm9 (Or.inl (Nat.le_succ _))⟩
                case measure => have := HM.out; simp [intOf]; omega
              · have d3 : (e.b == f.b) = false := by simpa only [beq_eq_false_iff_ne] using e3
                have hAB : foldsAB e f = [(min e.b f.b, max e.b f.b)] := by simp [foldsAB, e1, e2, e3]
                have HAB : Hid (foldsUp es k ++ ((es.drop (k + 1)).take (j + 1)).flatMap (foldsAB e) = (foldsUp es k ++ ((es.drop (k + 1)).take j).flatMap (foldsAB e)) ++ [(min e.b f.b, max e.b f.b)]) := Lib.hid (by rw [HF.out, hAB, List.append_assoc])
                clear e1 e2 e3 hAB
                go_wp2_with (at_builtin; refine wpList_pushF rfl _ _ rfl (w.heap.size + 1) A2 n2 c2 _ rfl HW.out (min e.b f.b, max e.b f.b) (by rw [World.size_alloc, World.size_alloc]; rfl) (by omega) hszA ?_; intro A9 c9 w9 ho9 hgr9 hat9; have ZE8 := ZE.grown hgr9 HNE.out; have ZF8 := ZF.grown hgr9 HFE.out; have g80 := ZE8.cell 0 rfl; have g81 := ZE8.cell 1 rfl; have g82 := ZE8.cell 2 rfl; have h80 := ZF8.cell 0 rfl; have h81 := ZF8.cell 1 rfl; have h82 := ZF8.cell 2 rfl)
                have hm9 := Mid.of_grownRow HW.out hgr9
                clear hat9
                go_roundw
                case rel => exact ⟨j + 1, A9, n2 + 1, c9, by have := HM.out; omega, by have := HM.out; go_num, rfl, Lib.hid (by rw [HAB.out, List.length_append, HN.out]; rfl), by rw [HAB.out]; exact ho9, b0.grown hgr9 (fun h => by have := hB0.out _ h; omega), hm.transNew hm9 (Or.inl (Nat.le_succ _))⟩
                case measure => have := HM.out; simp [intOf]; omega
            · have d2 : (e.a == f.a) = false := by simpa only [beq_eq_false_iff_ne] using e2
              by_cases e3 : e.b = f.b
              · have d3 : (e.b == f.b) = true := by simpa using e3
                have hAB : foldsAB e f = [(min e.a f.a, max e.a f.a)] := by simp [foldsAB, e1, e2, e3]
                have HAB : Hid (foldsUp es k ++ ((es.drop (k + 1)).take (j + 1)).flatMap (foldsAB e) = (foldsUp es k ++ ((es.drop (k + 1)).take j).flatMap (foldsAB e)) ++ [(min e.a f.a, max e.a f.a)]) := Lib.hid (by rw [HF.out, hAB, List.append_assoc])
                clear e1 e2 e3 hAB
                go_wp2_with (at_builtin; refine wpList_pushF rfl _ _ rfl (w.heap.size + 1) A2 n2 c2 _ rfl HW.out (min e.a f.a, max e.a f.a) (by rw [World.size_alloc, World.size_alloc]; rfl) (by omega) hszA ?_; intro A9 c9 w9 ho9 hgr9 hat9; have ZE8 := ZE.grown hgr9 HNE.out; have ZF8 := ZF.grown hgr9 HFE.out; have g80 := ZE8.cell 0 rfl; have g81 := ZE8.cell 1 rfl; have g82 := ZE8.cell 2 rfl; have h80 := ZF8.cell 0 rfl; have h81 := ZF8.cell 1 rfl; have h82 := ZF8.cell 2 rfl)
                have hm9 := Mid.of_grownRow HW.out hgr9
                clear hat9
                go_roundw
                case rel => exact ⟨j + 1, A9, n2 + 1, c9, by have := HM.out; omega, by have := HM.out; go_num, rfl, Lib.hid (by rw [HAB.out, List.length_append, HN.out]; rfl), by rw [HAB.out]; exact ho9, b0.grown hgr9 (fun h => by have := hB0.out _ h; omega), hm.transNew hm9 (Or.inl (Nat.le_succ _))⟩
                case measure => have := HM.out; simp [intOf]; omega
              · have d3 : (e.b == f.b) = false := by simpa only [beq_eq_false_iff_ne] using e3
                have hAB : foldsAB e f = [] := by simp [foldsAB, e1, e2, e3]
                have HAB : Hid (((es.drop (k + 1)).take (j + 1)).flatMap (foldsAB e) = ((es.drop (k + 1)).take j).flatMap (foldsAB e)) := Lib.hid (by rw [HF.out, hAB, List.append_nil])
                clear e1 e2 e3 hAB
                go_wp2_with fail
                go_roundw
                case rel => exact ⟨j + 1, A2, n2, c2, by have := HM.out; omega, by have := HM.out; go_num, rfl, by rw [HAB.out]; exact HN, by rw [HAB.out]; exact HW.out, b0, hm⟩
                case measure => have := HM.out; simp [intOf]; omega
          · have d1 : (e.l == f.l) = false := by simpa only [beq_eq_false_iff_ne] using e1
            have hAB : foldsAB e f = [] := by unfold foldsAB; rw [if_neg e1]
            have HAB : Hid (((es.drop (k + 1)).take (j + 1)).flatMap (foldsAB e) = ((es.drop (k + 1)).take j).flatMap (foldsAB e)) := Lib.hid (by rw [HF.out, hAB, List.append_nil])
            clear e1 hAB
            go_wp2_with fail
            go_roundw
            case rel => exact ⟨j + 1, A2, n2, c2, by have := HM.out; omega, by have := HM.out; go_num, rfl, by rw [HAB.out]; exact HN, by rw [HAB.out]; exact HW.out, b0, hm⟩
            case measure => have := HM.out; simp [intOf]; omega
        · have hje : j = es.length - (k + 1) := by have := HM.out; omega
          subst hje
          rw [List.take_of_length_le (by rw [List.length_drop]; exact Nat.le_refl _), ← foldsUp_succ HE.out] at HN hown
          obtain rfl : m = es.length := by omega
          go_wp2_with fail
          go_roundw
          case rel => exact ⟨k + 1, A2, n2, c2, by omega, by go_num, rfl, HN, hown, b0, hm⟩
          case measure => simp [intOf]; omega
    · obtain rfl : k = es.length := by omega
      rw [foldsUp_all] at HN hown
      go_wp2_with fail
      go_ret
      have hn := HN.out
      subst hn
      exact ⟨A1, c1, rfl, (owns_rv hown).wide (Nat.zero_le _) (Nat.le_refl _) (Nat.le_refl _), hm⟩
end Go.Proofs.YtimmnnncgnnkgaaGreat

/- FirstFold, the reference. -/
namespace Go.Proofs.YtimmnnncgnnkgaaGreat
set_option linter.unusedVariables false
set_option linter.unusedSimpArgs false
open Go.RowKit

set_option maxHeartbeats 1600000 in
theorem spec_FirstFold (r s : Int) (A : Option Addr) (es : List Ed) (c : Nat) (w : World) (lo hi : Nat) (hr : RG w lo hi A es) (hg : IsGr r s es) (p : Int × Int) (b : Bool) (hp : FirstIs es p b) :
    Calls Tryz.prog 161 #[graV r s A es.length c] w fun e w' => e = .returned (.tuple #[.agg #[.int .i64 p.1, .int .i64 p.2], .bool b]) ∧ Mid 0 0 w w' := by
  have hl := hg.len
  have HG := Lib.hid hg
  have hm0 : Mid 0 0 w ((w.alloc (.cells #[.int .i64 r, .int .i64 s, .slice A es.length c] 29)).alloc (.cells #[.int .i64 0, .int .i64 0] 118)) := (Mid.alloc _ _).trans (Mid.alloc _ _)
  have b0 := (Box.new w #[.int .i64 r, .int .i64 s, .slice A es.length c] 29).mid (Mid.alloc _ (.cells #[.int .i64 0, .int .i64 0] 118)) (Or.inr (Nat.zero_le _))
  have b2 := Box.new (w.alloc (.cells #[.int .i64 r, .int .i64 s, .slice A es.length c] 29)) #[.int .i64 0, .int .i64 0] 118
  rw [World.size_alloc] at b2
  clear hg
  obtain ⟨p1, p2⟩ := p
  go_enter Tryz.func161, Tryz.ntmps161
  go_wp2_with fail
  with_reducible refine (spec_IsGraph r s A es c _ _ _ (hr.mid hm0 (Or.inl (Nat.zero_le _))).rv (by omega) true (iff_of_true rfl HG.out)).mono ?_
  rintro en w1 ⟨rfl, hm1⟩
  replace b0 := b0.mid hm1 (Or.inr (Nat.zero_le _))
  replace b2 := b2.mid hm1 (Or.inr (Nat.zero_le _))
  replace hm0 := hm0.trans hm1
  have q0 := b0.cell 0 rfl
  have q1 := b0.cell 1 rfl
  have q2 := b0.cell 2 rfl
  go_wp2_with fail
  with_reducible refine (spec_l7Folds r s A es c _ _ _ (hr.mid hm0 (Or.inl (Nat.zero_le _))) hl).mono ?_
  rintro en w2 ⟨A2, c2, rfl, hrv, hm2⟩
  replace b2 := b2.mid hm2 (Or.inr (Nat.zero_le _))
  replace hm0 := hm0.trans hm2
  have zf := b2.2.2
  have z0 := b2.cell 0 rfl
  have z1 := b2.cell 1 rfl
  clear q0 q1 q2 hm1 hm2
  rcases hp with ⟨rfl, hn, hpp⟩ | ⟨rfl, t, ht⟩
  · injection hpp with h1 h2
    subst h1 h2
    have hn0 : (folds es).length = 0 := by rw [hn]; rfl
    clear hn
    go_wp2_with fail
    refine bodyPost_ret (v := .tuple #[.agg #[.int .i64 0, .int .i64 0], .bool false]) (by simp [results, Tryz.results161, go_sem, z0, z1, zf]) rfl ⟨rfl, ?_⟩
    repeat (first | exact hm0 | refine Mid.storeNew ?_ (by simp; try omega) _)
  · obtain ⟨nl, hnl⟩ : ∃ nl, (folds es).length = nl + 1 := ⟨t.length, by rw [ht]; rfl⟩
    obtain ⟨g, off, rfl, -, -, hc⟩ := hrv.2 (by rw [ht]; simp [fdI_head, ints])
    have y0 := hc 0 (.int .i64 p1) (by rw [ht]; simp [fdI_head, ints])
    have y1 := hc 1 (.int .i64 p2) (by rw [ht]; simp [fdI_head, ints])
    rw [Nat.add_zero] at y0
    have hd : ((nl + 1 : Nat) == 0) = false := by simp
    rw [hnl]
    have h1 : (0 : Int) < ((nl + 1 : Nat) : Int) := by omega
    clear hc ht hrv hnl
    go_wp2_with fail
    refine bodyPost_ret (v := .tuple #[.agg #[.int .i64 p1, .int .i64 p2], .bool true]) (by simp [results, Tryz.results161, go_sem, z0, z1, zf]) rfl ⟨rfl, ?_⟩
    repeat (first | exact hm0 | refine Mid.storeNew ?_ (by simp; try omega) _)

end Go.Proofs.YtimmnnncgnnkgaaGreat

/- FoldOnce, the reference. -/
namespace Go.Proofs.YtimmnnncgnnkgaaGreat
set_option linter.unusedVariables false
set_option linter.unusedSimpArgs false
open Go.RowKit

set_option maxHeartbeats 3200000 in
set_option maxRecDepth 20000 in
theorem spec_FoldOnce (r s : Int) (A : Option Addr) (es : List Ed) (c : Nat) (w : World) (lo hi : Nat) (hr : RG w lo hi A es) (hg : IsGr r s es) (p : Int × Int) (b : Bool) (rs : Int) (res : List Ed) (hp : OnceIs s es p b rs res) :
    Calls Tryz.prog 135 #[graV r s A es.length c] w fun e w' => ∃ A1 c1, e = .returned (.tuple #[graV r rs A1 res.length c1, .agg #[.int .i64 p.1, .int .i64 p.2], .bool b]) ∧ OG w' w.heap.size w'.heap.size A1 c1 res ∧ Mid 0 0 w w' := by
  have hl := hg.len
  have HG := Lib.hid hg
  have hm0 : Mid 0 0 w (((w.alloc (.cells #[.int .i64 r, .int .i64 s, .slice A es.length c] 29)).alloc (.cells #[.int .i64 0, .int .i64 0, .slice none 0 0] 29)).alloc (.cells #[.int .i64 0, .int .i64 0] 118)) := ((Mid.alloc _ _).trans (Mid.alloc _ _)).trans (Mid.alloc _ _)
  have b0 := ((Box.new w #[.int .i64 r, .int .i64 s, .slice A es.length c] 29).mid (Mid.alloc _ (.cells #[.int .i64 0, .int .i64 0, .slice none 0 0] 29)) (Or.inr (Nat.zero_le _))).mid (Mid.alloc _ (.cells #[.int .i64 0, .int .i64 0] 118)) (Or.inr (Nat.zero_le _))
  have b2 := (Box.new (w.alloc (.cells #[.int .i64 r, .int .i64 s, .slice A es.length c] 29)) #[.int .i64 0, .int .i64 0, .slice none 0 0] 29).mid (Mid.alloc _ (.cells #[.int .i64 0, .int .i64 0] 118)) (Or.inr (Nat.zero_le _))
  have b3 := Box.new ((w.alloc (.cells #[.int .i64 r, .int .i64 s, .slice A es.length c] 29)).alloc (.cells #[.int .i64 0, .int .i64 0, .slice none 0 0] 29)) #[.int .i64 0, .int .i64 0] 118
  simp only [World.size_alloc, Nat.add_assoc, Nat.reduceAdd] at b2 b3
  have hF := hp.first
  have HF := Lib.hid hF
  clear hg hF
  obtain ⟨p1, p2⟩ := p
  go_enter Tryz.func135, Tryz.ntmps135
  go_wp2_with fail
  generalize hw1 : (((w.alloc (.cells #[.int .i64 r, .int .i64 s, .slice A es.length c] 29)).alloc (.cells #[.int .i64 0, .int .i64 0, .slice none 0 0] 29)).alloc (.cells #[.int .i64 0, .int .i64 0] 118)) = w1 at hm0 b0 b2 b3 ⊢
  clear hw1
  with_reducible refine (spec_FirstFold r s A es c _ _ _ (hr.mid hm0 (Or.inl (Nat.zero_le _))) HG.out (p1, p2) b HF.out).mono ?_
  rintro en w2 ⟨rfl, hm2⟩
  replace b0 := b0.mid hm2 (Or.inr (Nat.zero_le _))
  replace b2 := b2.mid hm2 (Or.inr (Nat.zero_le _))
  replace b3 := b3.mid hm2 (Or.inr (Nat.zero_le _))
  replace hm0 := hm0.trans hm2
  have hbs0 := b0.1
  have hbs2 := b2.1
  have hbs3 := b3.1
  have u0 := b0.cell 0 rfl
  have u1 := b0.cell 1 rfl
  have u2 := b0.cell 2 rfl
  have hal := Mid.alloc w2 (.cells #[.int .i64 p1, .int .i64 p2] 118)
  have bf := Box.new w2 #[.int .i64 p1, .int .i64 p2] 118
  replace b0 := b0.mid hal (Or.inr (Nat.zero_le _))
  replace b2 := b2.mid hal (Or.inr (Nat.zero_le _))
  replace b3 := b3.mid hal (Or.inr (Nat.zero_le _))
  replace hm0 := hm0.trans hal
  clear hm2
  rcases hp with ⟨rfl, hn, hpp, rfl, rfl⟩ | ⟨rfl, ⟨t, ht⟩, rfl, hres⟩
  · injection hpp with h1 h2
    subst h1 h2
    clear hn
    go_wp2_with fail
    clear u0 u1 u2
    generalize hw3 : w2.alloc (.cells #[.int .i64 0, .int .i64 0] 118) = w3 at b0 b2 b3 bf hm0 ⊢
    clear hw3 hal
    with_reducible refine (spec_l4Copy r rs A res c _ _ _ (hr.mid hm0 (Or.inl (Nat.zero_le _))) (by omega)).mono ?_
    rintro en w4 ⟨A4, c4, rfl, hog, hm4⟩
    have hs3 : w.heap.size + 3 ≤ w3.heap.size := b3.1
    replace b2 := b2.mid hm4 (Or.inr (Nat.zero_le _))
    replace b3 := b3.mid hm4 (Or.inr (Nat.zero_le _))
    replace hm0 := hm0.trans hm4
    have a0 := b2.cell 0 rfl
    have a1 := b2.cell 1 rfl
    have a2 := b2.cell 2 rfl
    have x0 := b3.cell 0 rfl
    have x1 := b3.cell 1 rfl
    have af := b2.2.2
    have xf := b3.2.2
    go_wp2_with fail
    refine bodyPost_ret (v := .tuple #[.agg #[.int .i64 r, .int .i64 rs, .slice A4 res.length c4], .agg #[.int .i64 0, .int .i64 0], .bool false]) (by simp [results, Tryz.results135, go_sem, a0, a1, a2, x0, x1, af, xf]) rfl ⟨A4, c4, rfl, ?_, ?_⟩
    · refine OG.wide (OG.mid hog (a := w.heap.size + 1) (b := w.heap.size + 3) ?_ (Or.inl (by omega))) (by omega) (by simp) (Nat.le_refl _)
      repeat (first | exact Mid.refl _ _ _ | refine Mid.stored ?_ _ (by simp; try omega) (by simp; try omega))
    · repeat (first | exact hm0 | refine Mid.storeNew ?_ (by simp; try omega) _)
  · obtain ⟨k1, k2, k3⟩ := mem_folds HG.out.all HG.out.asc (p := (p1, p2)) (by rw [ht]; simp)
    simp only at k1 k2 k3
    have HRES := Lib.hid hres
    clear ht hres
    have y0 := bf.cell 0 rfl
    have y1 := bf.cell 1 rfl
    go_wp2_with fail
    clear u0 u1 u2 y0 y1
    generalize hw3 : w2.alloc (.cells #[.int .i64 p1, .int .i64 p2] 118) = w3 at b0 b2 b3 bf hm0 ⊢
    have hs3 : w3.heap.size = w2.heap.size + 1 := by rw [← hw3]; simp
    clear hw3 hal
    obtain ⟨F, hF⟩ : ∃ F, w2.heap.size = F := ⟨_, rfl⟩
    rw [hF] at bf hs3 hbs0 hbs2 hbs3 ⊢
    clear hF
    with_reducible refine (spec_MergeVertices r s A es c p1 p2 _ _ _ (hr.mid hm0 (Or.inl (Nat.zero_le _))) HG.out k1 k2 k3).mono ?_
    rintro en w4 ⟨A4, c4, rfl, hog, hm4⟩
    rw [← HRES.out] at hog ⊢
    have hsz4 := hm4.size
    replace b2 := b2.mid hm4 (Or.inr (Nat.zero_le _))
    replace b3 := b3.mid hm4 (Or.inr (Nat.zero_le _))
    replace bf := bf.mid hm4 (Or.inr (Nat.zero_le _))
    replace hm0 := hm0.trans hm4
    have hal4 := Mid.alloc w4 (.cells #[.int .i64 r, .int .i64 (s - 1), .slice A4 res.length c4] 29)
    have bg := Box.new w4 #[.int .i64 r, .int .i64 (s - 1), .slice A4 res.length c4] 29
    replace b2 := b2.mid hal4 (Or.inr (Nat.zero_le _))
    replace b3 := b3.mid hal4 (Or.inr (Nat.zero_le _))
    replace bf := bf.mid hal4 (Or.inr (Nat.zero_le _))
    replace hog := hog.mid hal4 (Or.inl (Nat.zero_le _))
    replace hm0 := hm0.trans hal4
    go_wp2_with fail
    generalize hw5 : w4.alloc (.cells #[.int .i64 r, .int .i64 (s - 1), .slice A4 res.length c4] 29) = w5 at b2 b3 bf bg hog hm0 ⊢
    have hs5 : w5.heap.size = w4.heap.size + 1 := by rw [← hw5]; simp
    clear hw5 hal4
    obtain ⟨H, hH⟩ : ∃ H, w4.heap.size = H := ⟨_, rfl⟩
    rw [hH] at bg hsz4 hs5 hog ⊢
    clear hH
    have a0 := b2.cell 0 rfl
    have a1 := b2.cell 1 rfl
    have a2 := b2.cell 2 rfl
    have x0 := b3.cell 0 rfl
    have x1 := b3.cell 1 rfl
    have y0 := bf.cell 0 rfl
    have y1 := bf.cell 1 rfl
    have z0 := bg.cell 0 rfl
    have z1 := bg.cell 1 rfl
    have z2 := bg.cell 2 rfl
    have af := b2.2.2
    have xf := b3.2.2
    have n1 : ¬ w.heap.size + 1 = H := by omega
    have n2 : ¬ w.heap.size + 2 = H := by omega
    have n3 : ¬ w.heap.size + 1 = F := by omega
    have n4 : ¬ w.heap.size + 2 = F := by omega
    have n5 : ¬ F = H := by omega
    go_region
    go_wp2_with fail
    refine bodyPost_ret (v := .tuple #[.agg #[.int .i64 r, .int .i64 (s - 1), .slice A4 res.length c4], .agg #[.int .i64 p1, .int .i64 p2], .bool true]) (by simp [results, Tryz.results135, go_sem, a0, a1, a2, x0, x1, af, xf]) rfl ⟨A4, c4, rfl, ?_, ?_⟩
    · refine OG.wide (OG.mid hog (a := w.heap.size + 1) (b := w.heap.size + 3) ?_ (Or.inl (by omega))) (by omega) (by have := hog.size; simp; omega) (Nat.le_refl _)
      refine Mid.trans ?_ (Mid.drew1 _).zero
      repeat (first | exact Mid.refl _ _ _ | refine Mid.stored ?_ _ (by simp; try omega) (by simp; try omega))
    · refine Mid.trans ?_ (Mid.drew1 _)
      repeat (first | exact hm0 | refine Mid.storeNew ?_ (by simp; try omega) _)
end Go.Proofs.YtimmnnncgnnkgaaGreat

/- FoldAll, the reference. -/
namespace Go.Proofs.YtimmnnncgnnkgaaGreat
set_option linter.unusedVariables false
set_option linter.unusedSimpArgs false
open Go.RowKit

set_option maxHeartbeats 3200000 in
set_option maxRecDepth 20000 in
theorem spec_FoldAll (r : Int) (n : Nat) (A : Option Addr) (es : List Ed) (c : Nat) (w : World) (lo hi : Nat) (hr : RG w lo hi A es) (hg : IsGr r n es) :
    Calls Tryz.prog 94 #[graV r n A es.length c] w fun e w' => ∃ A1 c1 Al nl cl, e = .returned (.tuple #[graV r (foldA 40 ((n : Int), es)).1 A1 (foldA 40 ((n : Int), es)).2.length c1, .slice Al nl cl]) ∧ OG w' w.heap.size w'.heap.size A1 c1 (foldA 40 ((n : Int), es)).2 ∧ Mid 0 0 w w' := by
  have hn40 : n ≤ 40 := by have := hg.size; omega
  have hl := hg.len
  have hm0 : Mid 0 0 w ((w.alloc (.cells #[.int .i64 r, .int .i64 n, .slice A es.length c] 29)).alloc (.cells #[.int .i64 0, .int .i64 0, .slice none 0 0] 29)) := (Mid.alloc _ _).trans (Mid.alloc _ _)
  have b0 := (Box.new w #[.int .i64 r, .int .i64 n, .slice A es.length c] 29).mid (Mid.alloc _ (.cells #[.int .i64 0, .int .i64 0, .slice none 0 0] 29)) (Or.inr (Nat.zero_le _))
  have b2 := Box.new (w.alloc (.cells #[.int .i64 r, .int .i64 n, .slice A es.length c] 29)) #[.int .i64 0, .int .i64 0, .slice none 0 0] 29
  simp only [World.size_alloc] at b2
  have HG := Lib.hid hg
  obtain ⟨T, hT⟩ : ∃ T, foldA 40 ((n : Int), es) = T := ⟨_, rfl⟩
  rw [hT]
  have HT := Lib.hid hT
  clear hg hT
  go_enter Tryz.func94, Tryz.ntmps94
  go_wp2_with fail
  generalize hw1 : ((w.alloc (.cells #[.int .i64 r, .int .i64 n, .slice A es.length c] 29)).alloc (.cells #[.int .i64 0, .int .i64 0, .slice none 0 0] 29)) = w1 at hm0 b0 b2 ⊢
  clear hw1
  with_reducible refine (spec_l4Copy r n A es c _ _ _ (hr.mid hm0 (Or.inl (Nat.zero_le _))) (by omega)).mono ?_
  rintro en w2 ⟨A1, c1, rfl, ho, hm2⟩
  have hs2 : w.heap.size + 1 < w1.heap.size := b2.1
  replace b2 := b2.mid hm2 (Or.inr (Nat.zero_le _))
  replace hm0 := hm0.trans hm2
  have hsz2 := hm2.size
  have hown0 := owns_base (base' := w.heap.size + 2) ho.ov.2.1 hs2
  have hbk0 : Value.ownBlock (.slice A1 es.length c1) ≠ some w2.heap.size := fun h => by have := ho.ov.2.2 _ h; omega
  have hal := (Mid.alloc w2 (.cells #[.int .i64 r, .int .i64 n, .slice A1 es.length c1] 29)).trans (Mid.alloc (w2.alloc (.cells #[.int .i64 r, .int .i64 n, .slice A1 es.length c1] 29)) (.cells #[] 118))
  have Y3 := (Box.new w2 #[.int .i64 r, .int .i64 n, .slice A1 es.length c1] 29).mid (Mid.alloc (w2.alloc (.cells #[.int .i64 r, .int .i64 n, .slice A1 es.length c1] 29)) (.cells #[] 118)) (Or.inr (Nat.zero_le _))
  have O0 := owns_empty (w2.alloc (.cells #[.int .i64 r, .int .i64 n, .slice A1 es.length c1] 29)) 118 2
  rw [World.size_alloc] at O0
  replace b2 := b2.mid hal (Or.inr (Nat.zero_le _))
  replace hown0 := owns_mid hown0 hal (Or.inl (Nat.zero_le _))
  replace hm0 := hm0.trans hal
  go_wp2_with fail
  generalize hw3 : (w2.alloc (.cells #[.int .i64 r, .int .i64 n, .slice A1 es.length c1] 29)).alloc (.cells #[] 118) = w3 at Y3 O0 b2 hown0 hm0 ⊢
  obtain ⟨G, hG⟩ : ∃ G, w2.heap.size = G := ⟨_, rfl⟩
  rw [hG] at Y3 O0 hbk0 hsz2 ⊢
  have hGw : w.heap.size + 2 ≤ G := by omega
  clear hw3 hal hm2 ho hG hsz2 hs2 b0
  go_loopw [5, 6] (fun l iv wr => ∃ (i m s : Nat) (es1 : List Ed) (A2 : Option Addr) (c2 : Nat) (Al : Option Addr) (nl cl : Nat) (ps : List (Int × Int)), l = .slice Al nl cl ∧ iv = .int .i64 i ∧ i + m = 40 ∧ nl + s ≤ 40 ∧ Hid (foldA m ((s : Int), es1) = T) ∧ s ≤ m ∧ Hid (IsGr r s es1) ∧ wr.ownsRow (G + 1) 118 2 (.slice Al nl cl) nl (ints (fdI ps)) ∧
      Hid (wr.ownsRow (w.heap.size + 2) 78 3 (.slice A2 es1.length c2) es1.length (ints (edI es1))) ∧ Hid (Value.ownBlock (.slice A2 es1.length c2) ≠ some G) ∧ Box wr (w.heap.size + 1) [.int .i64 0, .int .i64 0, .slice none 0 0] ∧ Box wr G [.int .i64 r, .int .i64 s, .slice A2 es1.length c2] ∧ Mid 0 0 w wr) (fun _ _ wr => sizeAt wr G)
  case atStart => exact ⟨0, 40, n, es, A1, c1, _, 0, 0, [], rfl, rfl, by omega, by omega, HT, hn40, HG, O0, Lib.hid hown0, Lib.hid hbk0, b2, Y3, hm0⟩
  case round =>
    clear O0 hown0 b2 Y3 hm0 hbk0
    obtain ⟨i, m, s, es1, A2, c2, Al, nl, cl, ps, rfl, rfl, him, hnl, HTm, hsm, HGs, hleft, HE, HBK, b2, Y3, hm⟩ := hrel
    have hl1 := HGs.out.len
    have hs1 : 1 ≤ s := by have := HGs.out.size; omega
    have hlsz := Lib.hid (sizeAt_box Y3)
    have hi40 : (i : Int) < 40 := by omega
    have hec : es1.length ≤ c2 := by
      obtain ⟨A', c', hv0, hsc, hcm⟩ := owns_shape HE.out
      injection hv0 with _ _ hv0
      omega
    obtain ⟨p, b, rs, res, hone⟩ := OnceIs.ex (s : Int) es1
    have HO := Lib.hid (spec_FoldOnce r s A2 es1 c2 wr _ _ (owns_rv HE.out).rg HGs.out p b rs res hone)
    have HON := Lib.hid hone
    obtain ⟨p1, p2⟩ := p
    clear hone
    have y0 := Y3.cell 0 rfl
    have y1 := Y3.cell 1 rfl
    have y2 := Y3.cell 2 rfl
    go_wp2_with fail
    with_reducible refine HO.out.mono ?_
    rintro en w5 ⟨A3, c3, rfl, hog, hm5⟩
    have hGr : G < wr.heap.size := Y3.1
    have hw2r : w.heap.size + 2 ≤ wr.heap.size := by omega
    have hE5 := owns_mid HE.out hm5 (Or.inl (Nat.zero_le _))
    replace b2 := b2.mid hm5 (Or.inr (Nat.zero_le _))
    replace Y3 := Y3.mid hm5 (Or.inr (Nat.zero_le _))
    replace hleft := owns_mid hleft hm5 (Or.inl (Nat.zero_le _))
    replace hm := hm.trans hm5
    clear HO y0 y1 y2 HE
    have hal1 := Mid.alloc w5 (.cells #[.int .i64 r, .int .i64 rs, .slice A3 res.length c3] 29)
    have hal2 := Mid.alloc (w5.alloc (.cells #[.int .i64 r, .int .i64 rs, .slice A3 res.length c3] 29)) (.cells #[.int .i64 p1, .int .i64 p2] 118)
    have bh := (Box.new w5 #[.int .i64 r, .int .i64 rs, .slice A3 res.length c3] 29).mid hal2 (Or.inr (Nat.zero_le _))
    have bp := Box.new (w5.alloc (.cells #[.int .i64 r, .int .i64 rs, .slice A3 res.length c3] 29)) #[.int .i64 p1, .int .i64 p2] 118
    rw [World.size_alloc] at bp
    have hal := hal1.trans hal2
    have hs5 := hm5.size
    have hG5 : G < w5.heap.size := Y3.1
    have hG6 : G < w5.heap.size + 1 := by omega
    have hb5 : w.heap.size + 1 < w5.heap.size := b2.1
    have hb6 : w.heap.size < w5.heap.size := by omega
    have yf := Y3.2.2
    have y0 := Y3.cell 0 rfl
    have y1 := Y3.cell 1 rfl
    have y2 := Y3.cell 2 rfl
    cases b with
    | false =>
      have af := b2.2.2
      have a0 := b2.cell 0 rfl
      have a1 := b2.cell 1 rfl
      have a2 := b2.cell 2 rfl
      have hfn : folds es1 = [] ∧ True := by
        rcases HON.out with h | h
        · exact ⟨h.2.1, trivial⟩
        · exact absurd h.1 (by decide)
      have hTT := HTm.out
      rw [foldA_nil (g := ((s : Int), es1)) hfn.1] at hTT
      have HTT := Lib.hid hTT
      clear hTT hfn
      go_wp2_with fail
      refine bodyPost_ret (v := .tuple #[.agg #[.int .i64 r, .int .i64 s, .slice A2 es1.length c2], .slice Al nl cl]) (by simp [results, Tryz.results94, go_sem, a0, a1, a2, af, hb5, hb6, World.cell?_alloc_lt]) rfl ⟨A2, c2, Al, nl, cl, by rw [← HTT.out], ?_, ?_⟩
      · rw [← HTT.out]
        have h0 : OG w5 (w.heap.size + 2) w5.heap.size A2 c2 es1 := ⟨Nat.le_refl _, hE5, fun g hg => (hE5.lt g hg).2⟩
        refine OG.wide (OG.mid h0 (a := w.heap.size + 1) (b := w.heap.size + 2) ?_ (Or.inl (Nat.le_refl _))) (by omega) (by simp; try omega) (Nat.le_refl _)
        repeat (first | exact Mid.refl _ _ _ | refine Mid.trans ?_ (Mid.alloc _ _).zero | refine Mid.stored ?_ _ (by simp; try omega) (by simp; try omega))
      · repeat (first | exact hm | refine Mid.trans ?_ (Mid.alloc _ _) | refine Mid.storeNew ?_ (by simp; try omega) _)
    | true =>
      obtain ⟨t, htt⟩ : ∃ t, folds es1 = (p1, p2) :: t := by
        rcases HON.out with h | h
        · exact absurd h.1 (by decide)
        · exact h.2.1
      obtain ⟨rfl, rfl⟩ : rs = (s : Int) - 1 ∧ res = mergeE (p1, p2) es1 := by
        rcases HON.out with h | h
        · exact absurd h.1 (by decide)
        · exact h.2.2
      obtain ⟨k1, k2, k3⟩ := mem_folds HGs.out.all HGs.out.asc (p := (p1, p2)) (by rw [htt]; simp)
      obtain ⟨m', rfl⟩ : ∃ m', m = m' + 1 := ⟨m - 1, by omega⟩
      have hTT := HTm.out
      rw [foldA_cons (g := ((s : Int), es1)) htt] at hTT
      simp only at hTT
      have HTT := Lib.hid hTT
      have HG2 := Lib.hid (mergeE_gr HGs.out k1 k2 k3)
      clear hTT htt k1 k2 k3 HON
      obtain ⟨s', rfl⟩ : ∃ s', s = s' + 1 := ⟨s - 1, by omega⟩
      rw [show ((s' + 1 : Nat) : Int) - 1 = (s' : Int) by omega] at HTT HG2 hal hal1 hal2 bh bp ⊢
      obtain ⟨me, hme⟩ : ∃ me, mergeE (p1, p2) es1 = me := ⟨_, rfl⟩
      rw [hme] at HTT HG2 hal hal1 hal2 bh bp hog ⊢
      clear hme
      have hst := (Mid.setAt w5 G 0 (.int .i64 r)).trans ((Mid.setAt (w5.setCell ⟨G, 0, none⟩ (.int .i64 r)) G 1 (.int .i64 s')).trans (Mid.setAt ((w5.setCell ⟨G, 0, none⟩ (.int .i64 r)).setCell ⟨G, 1, none⟩ (.int .i64 s')) G 2 (.slice A3 me.length c3)))
      have Y5 := ((Y3.set 0 (.int .i64 r) (by simp) rfl).set 1 (.int .i64 s') (by simp) rfl).set 2 (.slice A3 me.length c3) (by simp) rfl
      have hm6 := ((hm.storeNew (p := ⟨G, 0, none⟩) (by show w.heap.size ≤ G; omega) (.int .i64 r)).storeNew (p := ⟨G, 1, none⟩) (by show w.heap.size ≤ G; omega) (.int .i64 s')).storeNew (p := ⟨G, 2, none⟩) (by show w.heap.size ≤ G; omega) (.slice A3 me.length c3)
      have b6 := b2.mid hst (Or.inl (by omega))
      have hleft6 := owns_mid hleft hst (Or.inl (Nat.le_refl _))
      have hog6 := OG.mid hog hst (Or.inl hGr)
      have ha2 := (Mid.alloc (((w5.setCell ⟨G, 0, none⟩ (.int .i64 r)).setCell ⟨G, 1, none⟩ (.int .i64 s')).setCell ⟨G, 2, none⟩ (.slice A3 me.length c3)) (.cells #[.int .i64 r, .int .i64 s', .slice A3 me.length c3] 29)).trans (Mid.alloc _ (.cells #[.int .i64 p1, .int .i64 p2] 118))
      replace b6 := b6.mid ha2 (Or.inr (Nat.zero_le _))
      replace Y5 := Y5.mid ha2 (Or.inr (Nat.zero_le _))
      replace hleft6 := owns_mid hleft6 ha2 (Or.inl (Nat.zero_le _))
      replace hm6 := hm6.trans ha2
      replace hog6 := OG.mid hog6 ha2 (Or.inl (Nat.zero_le _))
      have hWs : (((((w5.setCell ⟨G, 0, none⟩ (.int .i64 r)).setCell ⟨G, 1, none⟩ (.int .i64 s')).setCell ⟨G, 2, none⟩ (.slice A3 me.length c3)).alloc (.cells #[.int .i64 r, .int .i64 s', .slice A3 me.length c3] 29)).alloc (.cells #[.int .i64 p1, .int .i64 p2] 118)).heap.size = w5.heap.size + 1 + 1 := by simp
      have HL := Lib.hid hleft6
      have HY := Lib.hid Y5
      have HB := Lib.hid b6
      have HM := Lib.hid hm6
      have HO6 := Lib.hid hog6
      clear hleft6 Y5 b6 hm6 hog6 ha2 hst hleft b2 hm hog hE5 hal hal1 hal2 bh bp
      go_wp2_with (at_builtin; refine wpList_pushF rfl _ _ rfl (G + 1) Al nl cl ps rfl HL.out (p1, p2) (by rw [hWs]; rfl) (by omega) (by rw [hWs]; omega) ?_; intro A9 c9 w9 hl9 hgr9 hat9)
      have hm9 := Mid.of_grownRow HL.out hgr9
      have hmo := (HO6.out).2.1
      have hE9 := (owns_base hmo hw2r).kept hgr9 (owns_ne hmo HL.out (by decide))
      have hbk9 : Value.ownBlock (.slice A3 me.length c3) ≠ some G := fun h => by have := (hmo.lt _ h).1; omega
      have Y9 := HY.out.mid hm9 (Or.inl (Nat.lt_succ_self _))
      have hmsz := hlsz.out
      go_roundw
      case rel => exact ⟨i + 1, m', s', me, A3, c3, A9, nl + 1, c9, ps ++ [(p1, p2)], rfl, by go_num, by omega, by omega, HTT, by omega, HG2, hl9, Lib.hid hE9, Lib.hid hbk9, HB.out.mid hm9 (Or.inl (by omega)), Y9, HM.out.transNew hm9 (Or.inl (by omega))⟩
      case measure => rw [hmsz, sizeAt_box Y9]; omega
end Go.Proofs.YtimmnnncgnnkgaaGreat

/- TrimGraph, the reference. -/
namespace Go.Proofs.YtimmnnncgnnkgaaGreat
set_option linter.unusedVariables false
set_option linter.unusedSimpArgs false
open Go.RowKit

set_option maxHeartbeats 6400000 in
set_option maxRecDepth 100000 in
theorem spec_TrimGraph (r : Int) (n : Nat) (A : Option Addr) (es : List Ed) (c : Nat) (w : World) (lo hi : Nat) (hr : RG w lo hi A es) (hg : IsGr r n es) :
    Calls Tryz.prog 95 #[graV r n A es.length c] w fun e w' => ∃ A1 c1 Al nl cl, e = .returned (.tuple #[graV r (trimA 40 ((n : Int), es)).1 A1 (trimA 40 ((n : Int), es)).2.length c1, .slice Al nl cl]) ∧ OG w' w.heap.size w'.heap.size A1 c1 (trimA 40 ((n : Int), es)).2 ∧ Mid 0 0 w w' := by
  have hn40 : n ≤ 40 := by have := hg.size; omega
  have hl := hg.len
  have hm0 : Mid 0 0 w ((w.alloc (.cells #[.int .i64 r, .int .i64 n, .slice A es.length c] 29)).alloc (.cells #[.int .i64 0, .int .i64 0, .slice none 0 0] 29)) := (Mid.alloc _ _).trans (Mid.alloc _ _)
  have b0 := (Box.new w #[.int .i64 r, .int .i64 n, .slice A es.length c] 29).mid (Mid.alloc _ (.cells #[.int .i64 0, .int .i64 0, .slice none 0 0] 29)) (Or.inr (Nat.zero_le _))
  have b2 := Box.new (w.alloc (.cells #[.int .i64 r, .int .i64 n, .slice A es.length c] 29)) #[.int .i64 0, .int .i64 0, .slice none 0 0] 29
  simp only [World.size_alloc] at b2
  have HG := Lib.hid hg
  obtain ⟨T, hT⟩ : ∃ T, trimA 40 ((n : Int), es) = T := ⟨_, rfl⟩
  rw [hT]
  have HT := Lib.hid hT
  clear hg hT
  go_enter Tryz.func95, Tryz.ntmps95
  go_wp2_with fail
  generalize hw1 : ((w.alloc (.cells #[.int .i64 r, .int .i64 n, .slice A es.length c] 29)).alloc (.cells #[.int .i64 0, .int .i64 0, .slice none 0 0] 29)) = w1 at hm0 b0 b2 ⊢
  clear hw1
  with_reducible refine (spec_l4Copy r n A es c _ _ _ (hr.mid hm0 (Or.inl (Nat.zero_le _))) (by omega)).mono ?_
  rintro en w2 ⟨A1, c1, rfl, ho, hm2⟩
  have hsz12 := hm0.size
  have hs2 : w.heap.size + 1 < w1.heap.size := b2.1
  replace b0 := b0.mid hm2 (Or.inr (Nat.zero_le _))
  replace b2 := b2.mid hm2 (Or.inr (Nat.zero_le _))
  replace hm0 := hm0.trans hm2
  have hsz2 := hm2.size
  have hown0 := owns_base (base' := w.heap.size + 2) ho.ov.2.1 hs2
  have hbk0 : Value.ownBlock (.slice A1 es.length c1) ≠ some w2.heap.size := fun h => by have := ho.ov.2.2 _ h; omega
  have hal := (Mid.alloc w2 (.cells #[.int .i64 r, .int .i64 n, .slice A1 es.length c1] 29)).trans (Mid.alloc (w2.alloc (.cells #[.int .i64 r, .int .i64 n, .slice A1 es.length c1] 29)) (.cells #[] 3))
  have Y3 := (Box.new w2 #[.int .i64 r, .int .i64 n, .slice A1 es.length c1] 29).mid (Mid.alloc (w2.alloc (.cells #[.int .i64 r, .int .i64 n, .slice A1 es.length c1] 29)) (.cells #[] 3)) (Or.inr (Nat.zero_le _))
  have O0 := owns_empty (w2.alloc (.cells #[.int .i64 r, .int .i64 n, .slice A1 es.length c1] 29)) 3 1
  rw [World.size_alloc] at O0
  have hbs0 := b0.1
  have p0 := b0.cell 0 rfl
  have p1 := b0.cell 1 rfl
  have p2 := b0.cell 2 rfl
  replace b0 := b0.mid hal (Or.inr (Nat.zero_le _))
  replace b2 := b2.mid hal (Or.inr (Nat.zero_le _))
  replace hown0 := owns_mid hown0 hal (Or.inl (Nat.zero_le _))
  replace hm0 := hm0.trans hal
  go_wp2_with fail
  clear p0 p1 p2
  have hsA : ((w2.alloc (.cells #[.int .i64 r, .int .i64 n, .slice A1 es.length c1] 29)).alloc (.cells #[] 3)).heap.size = w2.heap.size + 2 := by simp
  generalize hw3 : (w2.alloc (.cells #[.int .i64 r, .int .i64 n, .slice A1 es.length c1] 29)).alloc (.cells #[] 3) = w3 at Y3 O0 b0 b2 hown0 hm0 hsA ⊢
  obtain ⟨G, hG⟩ : ∃ G, w2.heap.size = G := ⟨_, rfl⟩
  rw [hG] at Y3 O0 hbk0 hsA hsz2 hbs0 ⊢
  clear hw3 hal hm2 ho hG
  have hGw : w.heap.size + 2 ≤ G := by omega
  clear hsA hsz2 hs2 hsz12 hbs0
  go_loopw [5, 6] (fun l i wr => ∃ (k : Nat) (Al : Option Addr) (nl cl : Nat), k ≤ n ∧ i = .int .i64 k ∧ l = .slice Al nl cl ∧ Hid ((upto k).length = nl) ∧ wr.ownsRow (G + 1) 3 1 (.slice Al nl cl) nl (ints (upto k)) ∧
      Hid (wr.ownsRow (w.heap.size + 2) 78 3 (.slice A1 es.length c1) es.length (ints (edI es))) ∧ Box wr w.heap.size [.int .i64 r, .int .i64 n, .slice A es.length c] ∧ Box wr (w.heap.size + 1) [.int .i64 0, .int .i64 0, .slice none 0 0] ∧ Box wr G [.int .i64 r, .int .i64 n, .slice A1 es.length c1] ∧ Mid 0 0 w wr) (fun _ i _ => n - (intOf i).toNat)
  case atStart => exact ⟨0, _, 0, 0, Nat.zero_le _, rfl, rfl, Lib.hid rfl, O0, Lib.hid hown0, b0, b2, Y3, hm0⟩
  case round =>
    clear O0 hown0 b0 b2 Y3 hm0
    obtain ⟨wo, hwo⟩ : ∃ wo, wo = wr := ⟨_, rfl⟩
    subst hwo
    obtain ⟨k, Al, nl, cl, hk, rfl, rfl, HN, hleft, HE, b0, b2, Y3, hm⟩ := hrel
    obtain rfl : k = nl := by rw [← HN.out, upto_len]
    have p0 := b0.cell 0 rfl
    have p1 := b0.cell 1 rfl
    have p2 := b0.cell 2 rfl
    by_cases hlt : k < n
    · have hk1 : (k : Int) < (n : Int) := by omega
      go_wp2_with fail
      with_reducible refine (spec_IsGraph r n A es c _ _ _ (hr.mid hm (Or.inl (Nat.zero_le _))).rv (by omega) true (iff_of_true rfl HG.out)).mono ?_
      rintro en w4 ⟨rfl, hm4⟩
      have hE4 := owns_mid HE.out hm4 (Or.inl (Nat.zero_le _))
      replace b0 := b0.mid hm4 (Or.inr (Nat.zero_le _))
      replace b2 := b2.mid hm4 (Or.inr (Nat.zero_le _))
      replace Y3 := Y3.mid hm4 (Or.inr (Nat.zero_le _))
      replace hleft := owns_mid hleft hm4 (Or.inl (Nat.zero_le _))
      replace hm := hm.trans hm4
      have hGo : G + 1 ≤ w4.heap.size := Y3.1
      have HL := Lib.hid hleft
      clear hleft HE
      go_wp2_with (at_builtin; refine wpList_pushI2 rfl _ _ rfl (G + 1) Al k cl (upto k) rfl HL.out k rfl (by omega) hGo ?_; intro A9 c9 w9 hl9 hgr9 hat9)
      clear hat9
      have hm9 := Mid.of_grownRow HL.out hgr9
      have hE9 := hE4.kept hgr9 (owns_ne hE4 HL.out (by decide))
      go_roundw
      case rel => exact ⟨k + 1, A9, k + 1, c9, by omega, by go_num, rfl, Lib.hid (by rw [upto_len]), by rw [upto_succ]; exact hl9, Lib.hid hE9, b0.mid hm9 (Or.inl (by omega)), b2.mid hm9 (Or.inl (by omega)), Y3.mid hm9 (Or.inl (by omega)), hm.transNew hm9 (Or.inl (by omega))⟩
      case measure => simp [intOf]; omega
    · obtain rfl : k = n := by omega
      go_wp2_with fail
      clear p0 p1 p2
      have hGo := Y3.1
      go_loopw [5, 7] (fun l iv wr => ∃ (i m s : Nat) (es1 : List Ed) (A2 : Option Addr) (c2 : Nat) (Al : Option Addr) (cl : Nat) (xs : List Int), l = .slice Al s cl ∧ iv = .int .i64 i ∧ i + m = 40 ∧ Hid (trimA m ((s : Int), es1) = T) ∧ s ≤ m ∧ Hid (IsGr r s es1) ∧ wr.ownsRow (G + 1) 3 1 (.slice Al s cl) s (ints xs) ∧
          Hid (wr.ownsRow (w.heap.size + 2) 78 3 (.slice A2 es1.length c2) es1.length (ints (edI es1))) ∧ Hid (Value.ownBlock (.slice A2 es1.length c2) ≠ some G) ∧ Box wr w.heap.size [.int .i64 r, .int .i64 k, .slice A es.length c] ∧ Box wr (w.heap.size + 1) [.int .i64 0, .int .i64 0, .slice none 0 0] ∧ Box wr G [.int .i64 r, .int .i64 s, .slice A2 es1.length c2] ∧ Mid 0 0 w wr) (fun _ iv _ => 40 - (intOf iv).toNat)
      case atStart => exact ⟨0, 40, k, es, A1, c1, Al, cl, upto k, rfl, rfl, by omega, HT, hn40, HG, hleft, HE, Lib.hid hbk0, b0, b2, Y3, hm⟩
      case round =>
        clear hleft HE b0 b2 Y3 hm HN hGo
        obtain ⟨wj, hwj⟩ : ∃ wj, wj = wr := ⟨_, rfl⟩
        subst hwj
        obtain ⟨i, m, s, es1, A2, c2, Al, cl, xs, rfl, rfl, him, HTm, hsm, HGs, hleft, HE, HBK, b0, b2, Y3, hm⟩ := hrel
        have hs1 : 1 ≤ s := by have := HGs.out.size; omega
        have hs40 : s ≤ 40 := by have := HGs.out.size; omega
        have hl1 := HGs.out.len
        have hi40 : (i : Int) < 40 := by omega
        have p0 := b0.cell 0 rfl
        have p1 := b0.cell 1 rfl
        have p2 := b0.cell 2 rfl
        go_wp2_with fail
        with_reducible refine (spec_IsGraph r k A es c _ _ _ (hr.mid hm (Or.inl (Nat.zero_le _))).rv (by omega) true (iff_of_true rfl HG.out)).mono ?_
        rintro en w4 ⟨rfl, hm4⟩
        have hE4 := owns_mid HE.out hm4 (Or.inl (Nat.zero_le _))
        replace HE := Lib.hid hE4
        replace b0 := b0.mid hm4 (Or.inr (Nat.zero_le _))
        replace b2 := b2.mid hm4 (Or.inr (Nat.zero_le _))
        replace Y3 := Y3.mid hm4 (Or.inr (Nat.zero_le _))
        replace hleft := owns_mid hleft hm4 (Or.inl (Nat.zero_le _))
        replace hm := hm.trans hm4
        clear p0 p1 p2 hE4 hm4
        have y0 := Y3.cell 0 rfl
        have y1 := Y3.cell 1 rfl
        have y2 := Y3.cell 2 rfl
        go_wp2_with fail
        with_reducible refine (spec_l8Leaf r s A2 es1 c2 _ _ _ (owns_rv HE.out).rg HGs.out).mono ?_
        rintro en w5 ⟨rfl, hm5⟩
        have hE5 := owns_mid HE.out hm5 (Or.inl (Nat.zero_le _))
        replace HE := Lib.hid hE5
        replace b0 := b0.mid hm5 (Or.inr (Nat.zero_le _))
        replace b2 := b2.mid hm5 (Or.inr (Nat.zero_le _))
        replace Y3 := Y3.mid hm5 (Or.inr (Nat.zero_le _))
        replace hleft := owns_mid hleft hm5 (Or.inl (Nat.zero_le _))
        replace hm := hm.trans hm5
        clear y0 y1 y2 hE5 hm5
        have y0 := Y3.cell 0 rfl
        have y1 := Y3.cell 1 rfl
        have y2 := Y3.cell 2 rfl
        cases hlf : leaf s es1 with
        | none =>
          have hTT := HTm.out
          rw [trimA_none hlf] at hTT
          have HTT := Lib.hid hTT
          rw [leafI_none hlf]
          have z0 := b2.cell 0 rfl
          have z1 := b2.cell 1 rfl
          have z2 := b2.cell 2 rfl
          have zf := b2.2.2
          have hbs := b2.1
          clear hTT hlf
          go_wp2_with fail
          have hcl : (w.heap.size + 1 == G) = false := by simp; omega
          refine bodyPost_ret (v := .tuple #[.agg #[.int .i64 r, .int .i64 s, .slice A2 es1.length c2], .slice Al s cl]) (by simp [results, Tryz.results95, go_sem, z0, z1, z2, zf, y0, y1, y2]) rfl ⟨A2, c2, Al, s, cl, by rw [← HTT.out], ?_, ?_⟩
          · rw [← HTT.out]
            have h0 : OG w5 (w.heap.size + 2) w5.heap.size A2 c2 es1 := ⟨Nat.le_refl _, HE.out, fun g hg => (HE.out.lt g hg).2⟩
            refine OG.wide (OG.mid h0 (a := w.heap.size + 1) (b := w.heap.size + 2) ?_ (Or.inl (Nat.le_refl _))) (by omega) (by simp) (Nat.le_refl _)
            repeat (first | exact Mid.refl _ _ _ | refine Mid.stored ?_ _ (by simp; try omega) (by simp; try omega))
          · repeat (first | exact hm | refine Mid.storeNew ?_ (by simp; try omega) _)
        | some g =>
          obtain ⟨hg1, hgs', -⟩ := leaf_spec hlf
          have hgs : g < s := by omega
          obtain ⟨m', rfl⟩ : ∃ m', m = m' + 1 := ⟨m - 1, by omega⟩
          have hTT := HTm.out
          rw [trimA_some hlf] at hTT
          have HTT := Lib.hid hTT
          have HCG := Lib.hid (cutV_gr (g := ((s : Int), es1)) HGs.out hg1 hgs')
          rw [leafI_some hlf]
          have dg0 : decide ((g : Int) < 0) = false := by simp
          clear hTT hlf hgs'
          obtain ⟨wk, hwk⟩ : ∃ wk, wk = w5 := ⟨_, rfl⟩
          subst hwk
          go_wp2_with fail
          have hal := (Mid.alloc wk (.cells #[] 3)).trans (Mid.alloc (wk.alloc (.cells #[] 3)) (.cells #[] 3))
          have T0 : TwoI ((wk.alloc (.cells #[] 3)).alloc (.cells #[] 3)) wk.heap.size (.slice (some ⟨wk.heap.size, 0, none⟩) 0 0) (.slice (some ⟨wk.heap.size + 1, 0, none⟩) 0 0) 0 0 [] [] := by
            refine ⟨(owns_empty wk 3 1).alloc _, ?_, ?_⟩
            · have h := owns_empty (wk.alloc (.cells #[] 3)) 3 1
              rw [World.size_alloc] at h
              exact owns_base h (Nat.le_succ _)
            · simp [Value.ownBlock]
          clear y0 y1 y2
          go_loopw [9, 10, 11] (fun o rs kv wr => ∃ (kk : Nat) (Ao : Option Addr) (co : Nat) (Ar : Option Addr) (cr no : Nat) (ys : List Int), kk ≤ s ∧ kv = .int .i64 kk ∧ o = .slice Ao no co ∧ rs = .slice Ar no cr ∧ Hid ((but g kk).length = no) ∧ Hid (TwoI wr wk.heap.size (.slice Ao no co) (.slice Ar no cr) no no (but g kk) ys) ∧ Mid 0 0 wk wr) (fun _ _ kv _ => s - (intOf kv).toNat)
          case atStart => exact ⟨0, _, 0, _, 0, 0, [], Nat.zero_le _, rfl, rfl, rfl, Lib.hid rfl, Lib.hid T0, hal⟩
          case round =>
            clear T0 hal
            obtain ⟨kk, Ao, co, Ar, cr, no, ys, hkk, rfl, rfl, rfl, HNo, HT2, hmy⟩ := hrel
            have hno : no ≤ 40 := by
              have h1 : (but g kk).length ≤ kk := by unfold but; rw [List.length_map]; exact Nat.le_trans (List.length_filter_le _ _) (by simp)
              have h2 := HNo.out
              omega
            have Y4 := Y3.mid hmy (Or.inr (Nat.zero_le _))
            have y0 := Y4.cell 0 rfl
            have y1 := Y4.cell 1 rfl
            have y2 := Y4.cell 2 rfl
            by_cases hlt : kk < s
            · have hbs := but_succ g kk
              have hk3 : (kk : Int) < (s : Int) := by omega
              have hk0 : (0 : Int) ≤ (kk : Int) := by omega
              by_cases hkg : kk = g
              · have d3 : ((kk : Int) != (g : Int)) = false := by simp; omega
                rw [if_pos hkg] at hbs
                have HBS := Lib.hid hbs
                clear hbs hkg
                go_wp2_with fail
                go_roundw
                case rel => exact ⟨kk + 1, Ao, co, Ar, cr, no, ys, by omega, by go_num, rfl, rfl, by rw [HBS.out]; exact HNo, by rw [HBS.out]; exact HT2, hmy⟩
                case measure => simp [intOf]; omega
              · have d3 : ((kk : Int) != (g : Int)) = true := by simp; omega
                rw [if_neg hkg] at hbs
                have HBS := Lib.hid hbs
                have hsz := hmy.size
                obtain ⟨gl, rfl, hgl1, hgl2⟩ := owns_addr hleft (show 0 < s by omega)
                obtain ⟨y, hy⟩ := get_of_lt xs (show kk < xs.length by have h := hleft.1; simp [ints] at h; omega)
                have hyc : ∀ W : World, Mid wk.heap.size W.heap.size wk W → True := fun _ _ => trivial
                have HLF := Lib.hid hleft
                have HY := Lib.hid hy
                clear hbs hkg hy hyc
                go_wp2_with (first | (at_builtin; refine wpList_push2 rfl _ _ rfl wk.heap.size Ao no co (but g kk) _ _ _ rfl HT2.out kk rfl (by omega) hsz ?_; intro A7 c7 w7 ht7 hm7; have hmw := hmy.transNew hm7 (Or.inl (Nat.le_refl _)); have hcx := ((owns_mid HLF.out hmw (Or.inl (Nat.zero_le _))).cellAt kk (by omega)).trans (show (ints xs)[kk]? = some (.int .i64 y) by simp [ints, HY.out]); have hsz7 := hmw.size; have HT7 := Lib.hid ht7.swap; clear ht7) | (at_builtin; refine wpList_push2 rfl _ _ rfl wk.heap.size Ar no cr ys _ _ _ rfl HT7.out y rfl (by omega) hsz7 ?_; intro A9 c9 w9 ht9 hm9))
                go_roundw
                case rel => exact ⟨kk + 1, A7, c7, A9, c9, no + 1, ys ++ [y], by omega, by go_num, rfl, rfl, Lib.hid (by rw [HBS.out, List.length_append, HNo.out]; rfl), Lib.hid (by rw [HBS.out]; exact ht9.swap), hmw.transNew hm9 (Or.inl (Nat.le_refl _))⟩
                case measure => simp [intOf]; omega
            · obtain rfl : kk = s := by omega
              have hln : (but g kk).length = no := HNo.out
              have hn1 : no = kk - 1 := by rw [← hln, but_len g hgs]
              obtain ⟨es2, hes2⟩ : ∃ es2, partE (but g kk) es1 = es2 := ⟨_, rfl⟩
              have hcv : cutV ((kk : Int), es1) g = ((no : Int), es2) := by unfold cutV; simp only [Int.toNat_natCast]; rw [hln, hes2]
              have hE6 := owns_mid HE.out hmy (Or.inl (Nat.zero_le _))
              have hP := spec_RenumberGraph r kk A2 es1 c2 Ao (but g kk) co wr _ _ _ _ (owns_rv hE6).rg (owns_rv HT2.out.f) HGs.out (but_nodup g kk) (fun x hx => but_range hx) (by omega)
              have HN1 := Lib.hid hn1
              rw [hln, hes2] at hP
              have HP := Lib.hid hP
              have hTT2 := HTT.out
              rw [hcv] at hTT2
              have hgr2 := HCG.out
              rw [hcv] at hgr2
              have HTT2 := Lib.hid hTT2
              have HG2 := Lib.hid hgr2
              have hwks : G + 1 ≤ wk.heap.size := Y3.1
              have hto := HT2.out.t
              clear hP hTT2 hgr2 hcv hes2 hln HTT HCG HE hE6 hn1
              go_wp2_with fail
              with_reducible refine HP.out.mono ?_
              rintro en w8 ⟨A3, c3, rfl, hog, hm8⟩
              clear HP
              have hogw : wk.heap.size ≤ wr.heap.size := hmy.size
              replace hto := owns_mid hto hm8 (Or.inl (Nat.zero_le _))
              have hm28 := hmy.trans hm8
              clear Y4 y0 y1 y2
              replace b0 := b0.mid hm28 (Or.inr (Nat.zero_le _))
              replace b2 := b2.mid hm28 (Or.inr (Nat.zero_le _))
              replace Y3 := Y3.mid hm28 (Or.inr (Nat.zero_le _))
              replace hm := hm.trans hm28
              clear hmy hm8 hm28
              have y0 := Y3.cell 0 rfl
              have y1 := Y3.cell 1 rfl
              have y2 := Y3.cell 2 rfl
              have yf := Y3.2.2
              go_wp2_with fail
              have hst := (Mid.setAt w8 G 0 (.int .i64 r)).trans ((Mid.setAt (w8.setCell ⟨G, 0, none⟩ (.int .i64 r)) G 1 (.int .i64 no)).trans (Mid.setAt ((w8.setCell ⟨G, 0, none⟩ (.int .i64 r)).setCell ⟨G, 1, none⟩ (.int .i64 no)) G 2 (.slice A3 es2.length c3)))
              have Y5 := ((Y3.set 0 (.int .i64 r) (by simp) rfl).set 1 (.int .i64 no) (by simp) rfl).set 2 (.slice A3 es2.length c3) (by simp) rfl
              have hm5 := ((hm.storeNew (p := ⟨G, 0, none⟩) (by show w.heap.size ≤ G; omega) (.int .i64 r)).storeNew (p := ⟨G, 1, none⟩) (by show w.heap.size ≤ G; omega) (.int .i64 no)).storeNew (p := ⟨G, 2, none⟩) (by show w.heap.size ≤ G; omega) (.slice A3 es2.length c3)
              replace b0 := b0.mid hst (Or.inl (by omega))
              replace b2 := b2.mid hst (Or.inl (by omega))
              replace hto := owns_base (owns_mid hto hst (Or.inl hwks)) hwks
              have hoe := (OG.mid hog hst (Or.inl (by omega))).ov.2.1
              have hbk9 : Value.ownBlock (.slice A3 es2.length c3) ≠ some G := fun h => by have := (hoe.lt _ h).1; omega
              go_roundw
              case rel => exact ⟨i + 1, m', no, es2, A3, c3, Ar, cr, ys, rfl, by go_num, by omega, HTT2, by have := HN1.out; omega, HG2, hto, Lib.hid (owns_base hoe (by omega)), Lib.hid hbk9, b0, b2, Y5, hm5⟩
              case measure => simp [intOf]; omega
end Go.Proofs.YtimmnnncgnnkgaaGreat

/- CoreGraph, both sides. -/
namespace Go.Proofs.YtimmnnncgnnkgaaGreat
set_option linter.unusedVariables false
set_option linter.unusedSimpArgs false
open Go.RowKit

theorem nat_gr {r : Int} {g : Int × List Ed} (h : IsGr r g.1 g.2) : ∃ (n : Nat) (es : List Ed), g = ((n : Int), es) ∧ IsGr r n es := by
  obtain ⟨s, es⟩ := g
  have h1 : 1 ≤ s := h.size.1
  obtain ⟨n, rfl⟩ : ∃ n : Nat, s = n := ⟨s.toNat, by omega⟩
  exact ⟨n, es, rfl, h⟩
theorem hcl_of {w : World} {lo hi : Nat} {A : Option Addr} {c : Nat} {es : List Ed} (h : OG w lo hi A c es) : es.length ≤ c := by
  obtain ⟨A', c', hv0, hsc, hcm⟩ := owns_shape h.ov.2.1
  injection hv0 with _ _ hv0
  omega

set_option maxHeartbeats 1600000 in
set_option maxRecDepth 20000 in
theorem spec_CoreGraph (r n : Nat) (A : Option Addr) (es : List Ed) (c : Nat) (w : World) (lo hi : Nat) (hr : RG w lo hi A es) (hg : IsGr r n es) :
    Calls Tryz.prog 57 #[graV r n A es.length c] w fun e w' => ∃ A1 c1, e = .returned (graV r (coreA r ((n : Int), es)).1 A1 (coreA r ((n : Int), es)).2.length c1) ∧ OG w' w.heap.size w'.heap.size A1 c1 (coreA r ((n : Int), es)).2 ∧ Mid 0 0 w w' := by
  obtain ⟨f, fs, hF, hgf⟩ := nat_gr (foldA_gr 40 (g := ((n : Int), es)) hg)
  obtain ⟨t, ts, hT, hgt⟩ := nat_gr (trimA_gr 40 (g := ((f : Int), fs)) hgf)
  obtain ⟨q, qs, hQ, -⟩ := nat_gr (canonG_gr (g := ((t : Int), ts)) hgt)
  have hcore : coreA r ((n : Int), es) = ((q : Int), qs) := by rw [coreA, hF, hT, hQ]
  rw [hcore]
  have hm0 : Mid 0 0 w ((w.alloc (.cells #[.int .i64 r, .int .i64 n, .slice A es.length c] 29)).alloc (.cells #[.int .i64 0, .int .i64 0, .slice none 0 0] 29)) := (Mid.alloc _ _).trans (Mid.alloc _ _)
  have b2 := Box.new (w.alloc (.cells #[.int .i64 r, .int .i64 n, .slice A es.length c] 29)) #[.int .i64 0, .int .i64 0, .slice none 0 0] 29
  simp only [World.size_alloc] at b2
  have HG := Lib.hid hg
  have HGF := Lib.hid hgf
  have HGT := Lib.hid hgt
  have HF := Lib.hid hF
  have HT := Lib.hid hT
  have HQ := Lib.hid hQ
  clear hg hgf hgt hF hT hQ hcore
  go_enter Tryz.func57, Tryz.ntmps57
  go_wp2_with fail
  generalize ((w.alloc (.cells #[.int .i64 r, .int .i64 n, .slice A es.length c] 29)).alloc (.cells #[.int .i64 0, .int .i64 0, .slice none 0 0] 29)) = w1 at hm0 b2 ⊢
  have hP1 := spec_FoldAll r n A es c w1 _ _ (hr.mid hm0 (Or.inl (Nat.zero_le _))) HG.out
  rw [HF.out] at hP1
  with_reducible refine hP1.mono ?_
  rintro en w2 ⟨A1, c1, Al, nl, cl, rfl, ho1, hm2⟩
  clear hP1
  have hs1 : w.heap.size + 1 < w1.heap.size := b2.1
  have hs2 := hm2.size
  have ha2 := Mid.alloc w2 (.cells #[.int .i64 r, .int .i64 f, .slice A1 fs.length c1] 29)
  have Y1 := Box.new w2 #[.int .i64 r, .int .i64 f, .slice A1 fs.length c1] 29
  replace b2 := b2.mid hm2 (Or.inr (Nat.zero_le _))
  replace hm0 := hm0.trans hm2
  replace b2 := b2.mid ha2 (Or.inr (Nat.zero_le _))
  replace ho1 := ho1.mid ha2 (Or.inl (Nat.zero_le _))
  replace hm0 := hm0.trans ha2
  dsimp only
  go_wp2_with fail
  generalize w2.alloc (.cells #[.int .i64 r, .int .i64 f, .slice A1 fs.length c1] 29) = w3 at hm0 b2 ho1 Y1 ha2 ⊢
  have hP2 := spec_TrimGraph r f A1 fs c1 w3 _ _ (OG.rg ho1) HGF.out
  rw [HT.out] at hP2
  with_reducible refine hP2.mono ?_
  rintro en w4 ⟨A3, c3, Al3, nl3, cl3, rfl, ho3, hm4⟩
  clear hP2
  have hs3 := ha2.size
  have hs4 := hm4.size
  have ha4 := Mid.alloc w4 (.cells #[.int .i64 r, .int .i64 t, .slice A3 ts.length c3] 29)
  replace b2 := b2.mid hm4 (Or.inr (Nat.zero_le _))
  replace hm0 := hm0.trans hm4
  replace b2 := b2.mid ha4 (Or.inr (Nat.zero_le _))
  replace ho3 := ho3.mid ha4 (Or.inl (Nat.zero_le _))
  replace hm0 := hm0.trans ha4
  dsimp only
  go_wp2_with fail
  generalize w4.alloc (.cells #[.int .i64 r, .int .i64 t, .slice A3 ts.length c3] 29) = w5 at hm0 b2 ho3 ha4 ⊢
  have hP3 := spec_CanonicalGraph r t A3 ts c3 w5 _ _ (OG.rg ho3) HGT.out
  rw [HQ.out] at hP3
  with_reducible refine hP3.mono ?_
  rintro en w6 ⟨A5, c5, rfl, ho5, hm6⟩
  clear hP3
  have hs5 := ha4.size
  replace b2 := b2.mid hm6 (Or.inr (Nat.zero_le _))
  replace hm0 := hm0.trans hm6
  have z0 := b2.cell 0 rfl
  have z1 := b2.cell 1 rfl
  have z2 := b2.cell 2 rfl
  have zf := b2.2.2
  dsimp only at ho5
  dsimp only
  go_wp2_with fail
  refine bodyPost_ret (v := .agg #[.int .i64 r, .int .i64 q, .slice A5 qs.length c5]) (by simp [results, Tryz.results57, go_sem, z0, z1, z2, zf]) rfl ⟨A5, c5, rfl, ?_, ?_⟩
  · refine OG.wide (OG.mid ho5 (a := w.heap.size + 1) (b := w.heap.size + 2) ?_ (Or.inl (by omega))) (by omega) (by simp) (Nat.le_refl _)
    repeat (first | exact Mid.refl _ _ _ | refine Mid.stored ?_ _ (by simp; try omega) (by simp; try omega))
  · repeat (first | exact hm0 | refine Mid.storeNew ?_ (by simp; try omega) _)

set_option maxHeartbeats 1600000 in
set_option maxRecDepth 20000 in
theorem impl_CoreGraph (r n : Nat) (A : Option Addr) (es : List Ed) (c : Nat) (w : World) (lo hi : Nat) (hr : RG w lo hi A es) (hg : IsGr r n es) :
    Calls Tryz.prog 63 #[graV r n A es.length c] w fun e w' => ∃ A1 c1, e = .returned (graV r (coreA r ((n : Int), es)).1 A1 (coreA r ((n : Int), es)).2.length c1) ∧ OG w' w.heap.size w'.heap.size A1 c1 (coreA r ((n : Int), es)).2 ∧ Mid 0 0 w w' := by
  obtain ⟨f, fs, hF, hgf⟩ := nat_gr (foldA_gr 40 (g := ((n : Int), es)) hg)
  obtain ⟨t, ts, hT, hgt⟩ := nat_gr (trimA_gr 40 (g := ((f : Int), fs)) hgf)
  obtain ⟨q, qs, hQ, -⟩ := nat_gr (canonG_gr (g := ((t : Int), ts)) hgt)
  have hcore : coreA r ((n : Int), es) = ((q : Int), qs) := by rw [coreA, hF, hT, hQ]
  rw [hcore]
  have hm0 : Mid 0 0 w ((w.alloc (.cells #[.int .i64 r, .int .i64 n, .slice A es.length c] 29)).alloc (.cells #[.int .i64 0, .int .i64 0, .slice none 0 0] 29)) := (Mid.alloc _ _).trans (Mid.alloc _ _)
  have b2 := Box.new (w.alloc (.cells #[.int .i64 r, .int .i64 n, .slice A es.length c] 29)) #[.int .i64 0, .int .i64 0, .slice none 0 0] 29
  simp only [World.size_alloc] at b2
  have HG := Lib.hid hg
  have HGF := Lib.hid hgf
  have HGT := Lib.hid hgt
  have HF := Lib.hid hF
  have HT := Lib.hid hT
  have HQ := Lib.hid hQ
  clear hg hgf hgt hF hT hQ hcore
  go_enter Tryz.func63, Tryz.ntmps63
  go_wp2_with fail
  generalize ((w.alloc (.cells #[.int .i64 r, .int .i64 n, .slice A es.length c] 29)).alloc (.cells #[.int .i64 0, .int .i64 0, .slice none 0 0] 29)) = w1 at hm0 b2 ⊢
  have hP1 := impl_FoldAll r n A es c w1 _ _ (hr.mid hm0 (Or.inl (Nat.zero_le _))) HG.out
  rw [HF.out] at hP1
  with_reducible refine hP1.mono ?_
  rintro en w2 ⟨A1, c1, Al, nl, cl, rfl, ho1, hm2⟩
  clear hP1
  have hs1 : w.heap.size + 1 < w1.heap.size := b2.1
  have hs2 := hm2.size
  have ha2 := Mid.alloc w2 (.cells #[.int .i64 r, .int .i64 f, .slice A1 fs.length c1] 29)
  have Y1 := Box.new w2 #[.int .i64 r, .int .i64 f, .slice A1 fs.length c1] 29
  replace b2 := b2.mid hm2 (Or.inr (Nat.zero_le _))
  replace hm0 := hm0.trans hm2
  replace b2 := b2.mid ha2 (Or.inr (Nat.zero_le _))
  replace ho1 := ho1.mid ha2 (Or.inl (Nat.zero_le _))
  replace hm0 := hm0.trans ha2
  dsimp only
  go_wp2_with fail
  generalize w2.alloc (.cells #[.int .i64 r, .int .i64 f, .slice A1 fs.length c1] 29) = w3 at hm0 b2 ho1 Y1 ha2 ⊢
  have hP2 := impl_TrimGraph r f A1 fs c1 w3 _ _ (OG.rg ho1) HGF.out
  rw [HT.out] at hP2
  with_reducible refine hP2.mono ?_
  rintro en w4 ⟨A3, c3, Al3, nl3, cl3, rfl, ho3, hm4⟩
  clear hP2
  have hs3 := ha2.size
  have hs4 := hm4.size
  have ha4 := Mid.alloc w4 (.cells #[.int .i64 r, .int .i64 t, .slice A3 ts.length c3] 29)
  replace b2 := b2.mid hm4 (Or.inr (Nat.zero_le _))
  replace hm0 := hm0.trans hm4
  replace b2 := b2.mid ha4 (Or.inr (Nat.zero_le _))
  replace ho3 := ho3.mid ha4 (Or.inl (Nat.zero_le _))
  replace hm0 := hm0.trans ha4
  dsimp only
  go_wp2_with fail
  generalize w4.alloc (.cells #[.int .i64 r, .int .i64 t, .slice A3 ts.length c3] 29) = w5 at hm0 b2 ho3 ha4 ⊢
  have hP3 := impl_CanonicalGraph r t A3 ts c3 w5 _ _ (OG.rg ho3) (hcl_of ho3) HGT.out
  rw [HQ.out] at hP3
  with_reducible refine hP3.mono ?_
  rintro en w6 ⟨A5, c5, rfl, ho5, hm6⟩
  clear hP3
  have hs5 := ha4.size
  replace b2 := b2.mid hm6 (Or.inr (Nat.zero_le _))
  replace hm0 := hm0.trans hm6
  have z0 := b2.cell 0 rfl
  have z1 := b2.cell 1 rfl
  have z2 := b2.cell 2 rfl
  have zf := b2.2.2
  dsimp only at ho5
  dsimp only
  go_wp2_with fail
  refine bodyPost_ret (v := .agg #[.int .i64 r, .int .i64 q, .slice A5 qs.length c5]) (by simp [results, Tryz.results63, go_sem, z0, z1, z2, zf]) rfl ⟨A5, c5, rfl, ?_, ?_⟩
  · refine OG.wide (OG.mid ho5 (a := w.heap.size + 1) (b := w.heap.size + 2) ?_ (Or.inl (by omega))) (by omega) (by simp) (Nat.le_refl _)
    repeat (first | exact Mid.refl _ _ _ | refine Mid.stored ?_ _ (by simp; try omega) (by simp; try omega))
  · repeat (first | exact hm0 | refine Mid.storeNew ?_ (by simp; try omega) _)
end Go.Proofs.YtimmnnncgnnkgaaGreat

/- A row of one cell of the call's own, laid by a literal. -/
namespace Go.Proofs.YtimmnnncgnnkgaaGreat
set_option linter.unusedVariables false
open Go.RowKit
end Go.Proofs.YtimmnnncgnnkgaaGreat

/- AddVertex and MoveBase, both sides. -/
namespace Go.Proofs.YtimmnnncgnnkgaaGreat
set_option linter.unusedVariables false
set_option linter.unusedSimpArgs false
open Go.RowKit

def AvIs (r s : Int) (es : List Ed) (rs : Int) (b : Bool) : Prop := (b = true ∧ (IsGr r s es ∧ s < 40) ∧ rs = s + 1) ∨ (b = false ∧ ¬ (IsGr r s es ∧ s < 40) ∧ rs = s)
theorem MoveIs.no {r s : Int} {es : List Ed} {v rs : Int} {res : List Ed} {b : Bool} (h : MoveIs r s es v rs res b) (hn : ¬ (IsFol r s es ∧ 0 ≤ v ∧ v < s)) : b = false ∧ rs = s ∧ res = es := by
  rcases h with ⟨-, h, -⟩ | ⟨h1, -, h2⟩
  · exact absurd h hn
  · exact ⟨h1, h2⟩
theorem MoveIs.yes {r s : Int} {es : List Ed} {v rs : Int} {res : List Ed} {b : Bool} (h : MoveIs r s es v rs res b) (hn : IsFol r s es ∧ 0 ≤ v ∧ v < s) : b = true ∧ rs = (moveA r s es v).1 ∧ res = (moveA r s es v).2 := by
  rcases h with ⟨h1, -, h2⟩ | ⟨-, h, -⟩
  · exact ⟨h1, h2⟩
  · exact absurd hn h
set_option maxHeartbeats 1600000 in
set_option maxRecDepth 20000 in
theorem spec_AddVertex (r s : Int) (A : Option Addr) (es : List Ed) (c : Nat) (w : World) (lo hi : Nat) (hr : RG w lo hi A es) (hl : es.length ≤ 1048576) (rs : Int) (b : Bool) (hres : AvIs r s es rs b) :
    Calls Tryz.prog 90 #[graV r s A es.length c] w fun e w' => ∃ A1 c1, e = .returned (.tuple #[graV r rs A1 es.length c1, .bool b]) ∧ OG w' w.heap.size w'.heap.size A1 c1 es ∧ Mid 0 0 w w' := by
  have hm0 : Mid 0 0 w ((w.alloc (.cells #[.int .i64 r, .int .i64 s, .slice A es.length c] 29)).alloc (.cells #[.int .i64 0, .int .i64 0, .slice none 0 0] 29)) := (Mid.alloc _ _).trans (Mid.alloc _ _)
  have B0 := (Box.new w #[.int .i64 r, .int .i64 s, .slice A es.length c] 29).mid (Mid.alloc _ (.cells #[.int .i64 0, .int .i64 0, .slice none 0 0] 29)) (Or.inr (Nat.zero_le _))
  have B2 := Box.new (w.alloc (.cells #[.int .i64 r, .int .i64 s, .slice A es.length c] 29)) #[.int .i64 0, .int .i64 0, .slice none 0 0] 29
  simp only [World.size_alloc] at B2
  obtain ⟨b1, hb1⟩ := bool_of (IsGr r s es)
  have H1 := Lib.hid hb1
  clear hb1
  go_enter Tryz.func90, Tryz.ntmps90
  go_wp2_with fail
  generalize ((w.alloc (.cells #[.int .i64 r, .int .i64 s, .slice A es.length c] 29)).alloc (.cells #[.int .i64 0, .int .i64 0, .slice none 0 0] 29)) = w1 at hm0 B0 B2 ⊢
  have hs1 : w.heap.size + 1 < w1.heap.size := B2.1
  with_reducible refine (spec_l4Copy r s A es c _ _ _ (hr.mid hm0 (Or.inl (Nat.zero_le _))) hl).mono ?_
  rintro en w2 ⟨A1, c1, rfl, ho2, hm2⟩
  have hal := Mid.alloc w2 (.cells #[.int .i64 r, .int .i64 s, .slice A1 es.length c1] 29)
  have Y3 := Box.new w2 #[.int .i64 r, .int .i64 s, .slice A1 es.length c1] 29
  have hs2 := hm2.size
  replace B0 := B0.mid hm2 (Or.inr (Nat.zero_le _))
  replace B2 := B2.mid hm2 (Or.inr (Nat.zero_le _))
  replace hm0 := hm0.trans hm2
  replace B0 := B0.mid hal (Or.inr (Nat.zero_le _))
  replace B2 := B2.mid hal (Or.inr (Nat.zero_le _))
  replace hm0 := hm0.trans hal
  have ho5 := (ho2.mid hal (Or.inl (Nat.zero_le _)))
  have p0 := B0.cell 0 rfl
  have p1 := B0.cell 1 rfl
  have p2 := B0.cell 2 rfl
  go_wp2_with fail
  generalize w2.alloc (.cells #[.int .i64 r, .int .i64 s, .slice A1 es.length c1] 29) = w3 at hm0 B0 B2 Y3 ho5 p0 p1 p2 ⊢
  have hG3 : w2.heap.size < w3.heap.size := Y3.1
  with_reducible refine (spec_IsGraph r s A es c _ _ _ (hr.mid hm0 (Or.inl (Nat.zero_le _))).rv hl b1 H1.out).mono ?_
  rintro en w4 ⟨rfl, hm4⟩
  replace B0 := B0.mid hm4 (Or.inr (Nat.zero_le _))
  replace B2 := B2.mid hm4 (Or.inr (Nat.zero_le _))
  replace Y3 := Y3.mid hm4 (Or.inr (Nat.zero_le _))
  replace ho5 := ho5.mid hm4 (Or.inl (Nat.zero_le _))
  replace hm0 := hm0.trans hm4
  have hs4 := hm4.size
  clear p0 p1 p2 hm4 ho2 hal
  have p0 := B0.cell 0 rfl
  have p1 := B0.cell 1 rfl
  have p2 := B0.cell 2 rfl
  have q0 := Y3.cell 0 rfl
  have q1 := Y3.cell 1 rfl
  have q2 := Y3.cell 2 rfl
  cases b1 with
  | false =>
    have hno : ¬ (IsGr r s es ∧ s < 40) := fun h => by have := H1.out.2 h.1; cases this
    obtain ⟨rfl, rfl⟩ : b = false ∧ rs = s := by
      rcases hres with ⟨-, h, -⟩ | ⟨h1, -, h2⟩
      · exact absurd h hno
      · exact ⟨h1, h2⟩
    clear hres hno
    have a0 := B2.cell 0 rfl
    have a1 := B2.cell 1 rfl
    have a2 := B2.cell 2 rfl
    have af := B2.2.2
    go_wp2_with fail
    refine bodyPost_ret (v := .tuple #[.agg #[.int .i64 r, .int .i64 rs, .slice A1 es.length c1], .bool false]) (by simp [results, Tryz.results90, go_sem, a0, a1, a2, af, q0, q1, q2]) rfl ⟨A1, c1, rfl, ?_, ?_⟩
    · refine OG.wide (OG.mid ho5 (a := w.heap.size) (b := w.heap.size + 2) ?_ (Or.inl (by omega))) (by omega) (by have := ho5.size; simp; omega) (Nat.le_refl _)
      repeat (first | exact Mid.refl _ _ _ | refine Mid.stored ?_ _ (by simp; try omega) (by simp; try omega))
    · repeat (first | exact hm0 | refine Mid.storeNew ?_ (by simp; try omega) _)
  | true =>
  have hgr := H1.out.1 rfl
  have hsz := hgr.size
  have GR := Lib.hid hgr
  clear hgr H1
  by_cases h40 : s < 40
  · obtain ⟨rfl, rfl⟩ : b = true ∧ rs = s + 1 := by
      rcases hres with ⟨h1, -, h2⟩ | ⟨-, h, -⟩
      · exact ⟨h1, h2⟩
      · exact absurd ⟨GR.out, h40⟩ h
    have d40 : (s == 40) = false := by simp only [beq_eq_false_iff_ne]; omega
    have d40' : decide ((40 : Int) ≤ s) = false := by simp; omega
    have hw1 : IntKind.i64.wrap (s + 1) = s + 1 := IntWalk.i64_in _ (by omega)
    have hst := Mid.setCell w4 (lo := w2.heap.size) (hi := w2.heap.size + 1) (p := ⟨w2.heap.size, 1, none⟩) (.int .i64 (s + 1)) (Nat.le_refl _) (Nat.lt_succ_self _)
    have qf := Y3.2.2
    have Y4 := Y3.set 1 (.int .i64 (s + 1)) (by simp) rfl
    simp only [List.set_cons_succ, List.set_cons_zero] at Y4
    have r0 := Y4.cell 0 rfl
    have r1 := Y4.cell 1 rfl
    have r2 := Y4.cell 2 rfl
    have B4 := B2.mid hst (Or.inl (by omega))
    have hm9 := hm0.storeNew (p := ⟨w2.heap.size, 1, none⟩) (by show w.heap.size ≤ w2.heap.size; omega) (.int .i64 (s + 1))
    have ho9 := ho5.mid hst (Or.inr (Nat.le_refl _))
    have hcl : (w.heap.size + 1 == w2.heap.size) = false := by simp; omega
    have hsp : w.heap.size + 1 < w2.heap.size := by omega
    have a0 := B2.cell 0 rfl
    have a1 := B2.cell 1 rfl
    have a2 := B2.cell 2 rfl
    have af := B2.2.2
    clear hres
    go_wp2_with fail
    refine bodyPost_ret (v := .tuple #[.agg #[.int .i64 r, .int .i64 (s + 1), .slice A1 es.length c1], .bool true]) (by simp [results, Tryz.results90, go_sem, a0, a1, a2, af, q0, q1, q2, qf]) rfl ⟨A1, c1, rfl, ?_, ?_⟩
    · refine OG.wide (OG.mid ho9 (a := w.heap.size) (b := w.heap.size + 2) ?_ (Or.inl (by omega))) (by omega) (by have := ho9.size; simp at this ⊢; omega) (Nat.le_refl _)
      repeat (first | exact Mid.refl _ _ _ | refine Mid.stored ?_ _ (by simp; try omega) (by simp; try omega))
    · repeat (first | exact hm9 | refine Mid.storeNew ?_ (by simp; try omega) _)
  · obtain ⟨rfl, rfl⟩ : b = false ∧ rs = s := by
      rcases hres with ⟨-, h, -⟩ | ⟨h1, -, h2⟩
      · exact absurd h.2 h40
      · exact ⟨h1, h2⟩
    have d40 : (rs == 40) = true := by simp only [beq_iff_eq]; omega
    have d40' : decide ((40 : Int) ≤ rs) = true := by simp; omega
    clear hres
    have a0 := B2.cell 0 rfl
    have a1 := B2.cell 1 rfl
    have a2 := B2.cell 2 rfl
    have af := B2.2.2
    go_wp2_with fail
    refine bodyPost_ret (v := .tuple #[.agg #[.int .i64 r, .int .i64 rs, .slice A1 es.length c1], .bool false]) (by simp [results, Tryz.results90, go_sem, a0, a1, a2, af, q0, q1, q2]) rfl ⟨A1, c1, rfl, ?_, ?_⟩
    · refine OG.wide (OG.mid ho5 (a := w.heap.size) (b := w.heap.size + 2) ?_ (Or.inl (by omega))) (by omega) (by have := ho5.size; simp; omega) (Nat.le_refl _)
      repeat (first | exact Mid.refl _ _ _ | refine Mid.stored ?_ _ (by simp; try omega) (by simp; try omega))
    · repeat (first | exact hm0 | refine Mid.storeNew ?_ (by simp; try omega) _)

set_option maxHeartbeats 1600000 in
set_option maxRecDepth 20000 in
theorem impl_AddVertex (r s : Int) (A : Option Addr) (es : List Ed) (c : Nat) (w : World) (lo hi : Nat) (hr : RG w lo hi A es) (hl : es.length ≤ 1048576) (rs : Int) (b : Bool) (hres : AvIs r s es rs b) :
    Calls Tryz.prog 103 #[graV r s A es.length c] w fun e w' => ∃ A1 c1, e = .returned (.tuple #[graV r rs A1 es.length c1, .bool b]) ∧ OG w' w.heap.size w'.heap.size A1 c1 es ∧ Mid 0 0 w w' := by
  have hm0 : Mid 0 0 w ((w.alloc (.cells #[.int .i64 r, .int .i64 s, .slice A es.length c] 29)).alloc (.cells #[.int .i64 0, .int .i64 0, .slice none 0 0] 29)) := (Mid.alloc _ _).trans (Mid.alloc _ _)
  have B0 := (Box.new w #[.int .i64 r, .int .i64 s, .slice A es.length c] 29).mid (Mid.alloc _ (.cells #[.int .i64 0, .int .i64 0, .slice none 0 0] 29)) (Or.inr (Nat.zero_le _))
  have B2 := Box.new (w.alloc (.cells #[.int .i64 r, .int .i64 s, .slice A es.length c] 29)) #[.int .i64 0, .int .i64 0, .slice none 0 0] 29
  simp only [World.size_alloc] at B2
  obtain ⟨b1, hb1⟩ := bool_of (IsGr r s es)
  have H1 := Lib.hid hb1
  clear hb1
  go_enter Tryz.func103, Tryz.ntmps103
  go_wp2_with fail
  generalize ((w.alloc (.cells #[.int .i64 r, .int .i64 s, .slice A es.length c] 29)).alloc (.cells #[.int .i64 0, .int .i64 0, .slice none 0 0] 29)) = w1 at hm0 B0 B2 ⊢
  have hs1 : w.heap.size + 1 < w1.heap.size := B2.1
  with_reducible refine (impl_copyGraph r s A es c _ _ _ (hr.mid hm0 (Or.inl (Nat.zero_le _))) hl).mono ?_
  rintro en w2 ⟨A1, c1, rfl, ho2, hm2⟩
  have hal := Mid.alloc w2 (.cells #[.int .i64 r, .int .i64 s, .slice A1 es.length c1] 29)
  have Y3 := Box.new w2 #[.int .i64 r, .int .i64 s, .slice A1 es.length c1] 29
  have hs2 := hm2.size
  replace B0 := B0.mid hm2 (Or.inr (Nat.zero_le _))
  replace B2 := B2.mid hm2 (Or.inr (Nat.zero_le _))
  replace hm0 := hm0.trans hm2
  replace B0 := B0.mid hal (Or.inr (Nat.zero_le _))
  replace B2 := B2.mid hal (Or.inr (Nat.zero_le _))
  replace hm0 := hm0.trans hal
  have ho5 := (ho2.mid hal (Or.inl (Nat.zero_le _)))
  have p0 := B0.cell 0 rfl
  have p1 := B0.cell 1 rfl
  have p2 := B0.cell 2 rfl
  go_wp2_with fail
  generalize w2.alloc (.cells #[.int .i64 r, .int .i64 s, .slice A1 es.length c1] 29) = w3 at hm0 B0 B2 Y3 ho5 p0 p1 p2 ⊢
  have hG3 : w2.heap.size < w3.heap.size := Y3.1
  with_reducible refine (impl_IsGraph r s A es c _ _ _ (hr.mid hm0 (Or.inl (Nat.zero_le _))).rv hl b1 H1.out).mono ?_
  rintro en w4 ⟨rfl, hm4⟩
  replace B0 := B0.mid hm4 (Or.inr (Nat.zero_le _))
  replace B2 := B2.mid hm4 (Or.inr (Nat.zero_le _))
  replace Y3 := Y3.mid hm4 (Or.inr (Nat.zero_le _))
  replace ho5 := ho5.mid hm4 (Or.inl (Nat.zero_le _))
  replace hm0 := hm0.trans hm4
  have hs4 := hm4.size
  clear p0 p1 p2 hm4 ho2 hal
  have p0 := B0.cell 0 rfl
  have p1 := B0.cell 1 rfl
  have p2 := B0.cell 2 rfl
  have q0 := Y3.cell 0 rfl
  have q1 := Y3.cell 1 rfl
  have q2 := Y3.cell 2 rfl
  cases b1 with
  | false =>
    have hno : ¬ (IsGr r s es ∧ s < 40) := fun h => by have := H1.out.2 h.1; cases this
    obtain ⟨rfl, rfl⟩ : b = false ∧ rs = s := by
      rcases hres with ⟨-, h, -⟩ | ⟨h1, -, h2⟩
      · exact absurd h hno
      · exact ⟨h1, h2⟩
    clear hres hno
    have a0 := B2.cell 0 rfl
    have a1 := B2.cell 1 rfl
    have a2 := B2.cell 2 rfl
    have af := B2.2.2
    go_wp2_with fail
    refine bodyPost_ret (v := .tuple #[.agg #[.int .i64 r, .int .i64 rs, .slice A1 es.length c1], .bool false]) (by simp [results, Tryz.results103, go_sem, a0, a1, a2, af, q0, q1, q2]) rfl ⟨A1, c1, rfl, ?_, ?_⟩
    · refine OG.wide (OG.mid ho5 (a := w.heap.size) (b := w.heap.size + 2) ?_ (Or.inl (by omega))) (by omega) (by have := ho5.size; simp; omega) (Nat.le_refl _)
      repeat (first | exact Mid.refl _ _ _ | refine Mid.stored ?_ _ (by simp; try omega) (by simp; try omega))
    · repeat (first | exact hm0 | refine Mid.storeNew ?_ (by simp; try omega) _)
  | true =>
  have hgr := H1.out.1 rfl
  have hsz := hgr.size
  have GR := Lib.hid hgr
  clear hgr H1
  by_cases h40 : s < 40
  · obtain ⟨rfl, rfl⟩ : b = true ∧ rs = s + 1 := by
      rcases hres with ⟨h1, -, h2⟩ | ⟨-, h, -⟩
      · exact ⟨h1, h2⟩
      · exact absurd ⟨GR.out, h40⟩ h
    have d40 : (s == 40) = false := by simp only [beq_eq_false_iff_ne]; omega
    have d40' : decide ((40 : Int) ≤ s) = false := by simp; omega
    have hw1 : IntKind.i64.wrap (s + 1) = s + 1 := IntWalk.i64_in _ (by omega)
    have hst := Mid.setCell w4 (lo := w2.heap.size) (hi := w2.heap.size + 1) (p := ⟨w2.heap.size, 1, none⟩) (.int .i64 (s + 1)) (Nat.le_refl _) (Nat.lt_succ_self _)
    have qf := Y3.2.2
    have Y4 := Y3.set 1 (.int .i64 (s + 1)) (by simp) rfl
    simp only [List.set_cons_succ, List.set_cons_zero] at Y4
    have r0 := Y4.cell 0 rfl
    have r1 := Y4.cell 1 rfl
    have r2 := Y4.cell 2 rfl
    have B4 := B2.mid hst (Or.inl (by omega))
    have hm9 := hm0.storeNew (p := ⟨w2.heap.size, 1, none⟩) (by show w.heap.size ≤ w2.heap.size; omega) (.int .i64 (s + 1))
    have ho9 := ho5.mid hst (Or.inr (Nat.le_refl _))
    have hcl : (w.heap.size + 1 == w2.heap.size) = false := by simp; omega
    have hsp : w.heap.size + 1 < w2.heap.size := by omega
    have a0 := B2.cell 0 rfl
    have a1 := B2.cell 1 rfl
    have a2 := B2.cell 2 rfl
    have af := B2.2.2
    clear hres
    go_wp2_with fail
    refine bodyPost_ret (v := .tuple #[.agg #[.int .i64 r, .int .i64 (s + 1), .slice A1 es.length c1], .bool true]) (by simp [results, Tryz.results103, go_sem, a0, a1, a2, af, q0, q1, q2, qf]) rfl ⟨A1, c1, rfl, ?_, ?_⟩
    · refine OG.wide (OG.mid ho9 (a := w.heap.size) (b := w.heap.size + 2) ?_ (Or.inl (by omega))) (by omega) (by have := ho9.size; simp at this ⊢; omega) (Nat.le_refl _)
      repeat (first | exact Mid.refl _ _ _ | refine Mid.stored ?_ _ (by simp; try omega) (by simp; try omega))
    · repeat (first | exact hm9 | refine Mid.storeNew ?_ (by simp; try omega) _)
  · obtain ⟨rfl, rfl⟩ : b = false ∧ rs = s := by
      rcases hres with ⟨-, h, -⟩ | ⟨h1, -, h2⟩
      · exact absurd h.2 h40
      · exact ⟨h1, h2⟩
    have d40 : (rs == 40) = true := by simp only [beq_iff_eq]; omega
    have d40' : decide ((40 : Int) ≤ rs) = true := by simp; omega
    clear hres
    have a0 := B2.cell 0 rfl
    have a1 := B2.cell 1 rfl
    have a2 := B2.cell 2 rfl
    have af := B2.2.2
    go_wp2_with fail
    refine bodyPost_ret (v := .tuple #[.agg #[.int .i64 r, .int .i64 rs, .slice A1 es.length c1], .bool false]) (by simp [results, Tryz.results103, go_sem, a0, a1, a2, af, q0, q1, q2]) rfl ⟨A1, c1, rfl, ?_, ?_⟩
    · refine OG.wide (OG.mid ho5 (a := w.heap.size) (b := w.heap.size + 2) ?_ (Or.inl (by omega))) (by omega) (by have := ho5.size; simp; omega) (Nat.le_refl _)
      repeat (first | exact Mid.refl _ _ _ | refine Mid.stored ?_ _ (by simp; try omega) (by simp; try omega))
    · repeat (first | exact hm0 | refine Mid.storeNew ?_ (by simp; try omega) _)

end Go.Proofs.YtimmnnncgnnkgaaGreat

/- IsWord of the reference. -/
namespace Go.Proofs.YtimmnnncgnnkgaaGreat
set_option linter.unusedVariables false
set_option linter.unusedSimpArgs false
open Go.RowKit

set_option maxHeartbeats 3200000 in
theorem spec_IsWord (rank : Int) (A : Option Addr) (xs : List Int) (c : Nat) (w : World) (B : Nat) (hr : Rs w B A (ints xs)) (hok : OkI xs) (hl : xs.length ≤ 4194304) (r : Bool) (hres : r = true ↔ IsW rank xs) :
    Calls Tryz.prog 53 #[.int .i64 rank, .slice A xs.length c] w fun e w' => e = .returned (.bool r) ∧ ∃ n, w' = w.drewN n := by
  have HOK := Lib.hid hok
  have hR2 : r = true ↔ (RawTo rank xs xs.length ∧ inB rank 1 3 = true ∧ xs.length ≤ 24) := hres.trans ⟨fun h => ⟨(rawTo_all h.1 h.2.1).2 h.2.2.2, by simp [inB]; exact ⟨h.1, h.2.1⟩, h.2.2.1⟩, fun h => by
    have h13 : 1 ≤ rank ∧ rank ≤ 3 := by simpa [inB] using h.2.1
    exact ⟨h13.1, h13.2, h.2.2, (rawTo_all h13.1 h13.2).1 h.1⟩⟩
  have HR := Lib.hid hR2
  clear hok hres hR2
  obtain ⟨nr, hnr⟩ : ∃ nr, wrap64 (-rank) = nr := ⟨_, rfl⟩
  go_enter Tryz.func53, Tryz.ntmps53
  go_wp2_with fail
  go_loopw [5] (fun i wr => ∃ k : Nat, k ≤ xs.length ∧ i = .int .i64 k ∧ (∃ n, wr = w.drewN n) ∧ RawTo rank xs k) (fun i _ => xs.length - (intOf i).toNat)
  case atStart => exact ⟨0, Nat.zero_le _, rfl, ⟨0, rfl⟩, RawTo.zero _ _⟩
  case round =>
    obtain ⟨k, hk, rfl, ⟨nd, rfl⟩, hto⟩ := hrel
    have HT := Lib.hid hto
    clear hto
    by_cases hlt : k < xs.length
    · obtain ⟨b, off, x, rfl, -, hx, hc⟩ := hr.int hlt
      have HX := Lib.hid hx
      clear hx
      have hlt3 : (k : Int) < (xs.length : Int) := by omega
      have hno : ∀ (P : Prop), (RawAt rank xs k x → P) → r = true → P := fun P h hr1 => h ((HR.out.1 hr1).1 k x hlt HX.out)
      have HNO := Lib.hid hno
      clear hno
      by_cases hx0 : (x == 0) = true
      · have hf : r = false := by
          cases r with
          | false => rfl
          | true =>
            refine (HNO.out False (fun h => ?_) rfl).elim
            rw [h.1] at hx0
            cases hx0
        subst hf
        go_wp2_with fail
        go_quiet (fail)
        go_wp2_with fail
        go_ret
        exact ⟨rfl, _, by first | rfl | exact dn _ _ _⟩
      · have hx0' : (x == 0) = false := by simpa using hx0
        clear hx0
        have hC := fun n : Nat => pq (l1In_any x nr rank (w.drewN n))
        by_cases hi : inB x nr rank = false
        · have hf : r = false := by
            cases r with
            | false => rfl
            | true =>
              refine (HNO.out False (fun h => ?_) rfl).elim
              have h2 := h.2.1
              rw [hnr, hi] at h2
              cases h2
          subst hf
          rw [hi] at hC
          have HC := Lib.hid hC
          clear hC hi
          go_wp2_with fail
          go_quiet ((go_at_call 77; first | exact qz0 (HC.out _) | exact qz1 (HC.out _)))
          go_wp2_with fail
          go_ret
          exact ⟨rfl, _, by first | rfl | exact dn _ _ _⟩
        · have hi' : inB x nr rank = true := by simpa using hi
          rw [hi'] at hC
          have HC := Lib.hid hC
          have HI := Lib.hid hi'
          clear hC hi hi'
          cases k with
          | zero =>
            have hc0 : w.cell? ⟨b, off, none⟩ = some (.int .i64 x) := hc
            go_wp2_with fail
            go_quiet ((go_at_call 77; first | exact qz0 (HC.out _) | exact qz1 (HC.out _)))
            go_wp2_with fail
            go_roundw
            case rel => exact ⟨1, by omega, by go_num, ⟨_, by first | rfl | exact dn _ _ _⟩, HT.out.succ HX.out ⟨hx0', by rw [hnr]; exact HI.out, fun y h => absurd h (Nat.lt_irrefl 0)⟩⟩
            case measure => simp [intOf]; omega
          | succ m =>
            obtain ⟨b', off', y, he, -, hy, hcy⟩ := hr.int (show m < xs.length by omega)
            injection he with he
            injection he with he1 he2 _
            subst he1 he2
            have HY := Lib.hid hy
            clear hy
            have hlm3 : (m : Int) < (xs.length : Int) := by omega
            have hm0 : (0 : Int) < (m : Int) + 1 := by omega
            have hp1 : (m : Int) + 1 - 1 = (m : Int) := by omega
            obtain ⟨ny, hny⟩ : ∃ ny, wrap64 (-y) = ny := ⟨_, rfl⟩
            by_cases hxy : (x == ny) = true
            · have hf : r = false := by
                cases r with
                | false => rfl
                | true =>
                  refine (HNO.out False (fun h => ?_) rfl).elim
                  have h2 := h.2.2 y (Nat.succ_pos m) HY.out
                  rw [hny, hxy] at h2
                  cases h2
              subst hf
              go_wp2_with fail
              go_quiet ((go_at_call 77; first | exact qz0 (HC.out _) | exact qz1 (HC.out _)))
              go_wp2_with fail
              go_ret
              exact ⟨rfl, _, by first | rfl | exact dn _ _ _⟩
            · have hxy' : (x == ny) = false := by simpa using hxy
              clear hxy
              go_wp2_with fail
              go_quiet ((go_at_call 77; first | exact qz0 (HC.out _) | exact qz1 (HC.out _)))
              go_wp2_with fail
              go_roundw
              case rel =>
                refine ⟨m + 1 + 1, by omega, by go_num, ⟨_, by first | rfl | exact dn _ _ _⟩, HT.out.succ HX.out ⟨hx0', by rw [hnr]; exact HI.out, fun z _ hz => ?_⟩⟩
                rw [Nat.add_sub_cancel, HY.out] at hz
                obtain rfl := Option.some.inj hz
                rw [hny]
                exact hxy'
              case measure => simp [intOf]; omega
    · obtain rfl : k = xs.length := by omega
      have hrv : r = (inB rank 1 3 && decide ((xs.length : Int) ≤ 24)) := by
        rw [Bool.eq_iff_iff, HR.out]
        simp only [Bool.and_eq_true, decide_eq_true_eq]
        exact ⟨fun h => ⟨h.2.1, by omega⟩, fun h => ⟨HT.out, h.1, by omega⟩⟩
      by_cases hib : inB rank 1 3 = false
      · rw [hib] at hrv
        have HI := Lib.hid hib
        clear hib
        simp only [Bool.false_and] at hrv
        subst hrv
        go_wp2_with fail
        refine (l1In_any _ _ _ _).mono ?_
        rintro e w' ⟨rfl, rfl⟩
        rw [HI.out]
        go_wp2_with fail
        go_ret
        exact ⟨rfl, _, rfl⟩
      · have hib' : inB rank 1 3 = true := by simpa using hib
        rw [hib'] at hrv
        have HI := Lib.hid hib'
        simp only [Bool.true_and] at hrv
        clear hib hib'
        subst hrv
        go_wp2_with fail
        refine (l1In_any _ _ _ _).mono ?_
        rintro e w' ⟨rfl, rfl⟩
        rw [HI.out]
        go_wp2_with fail
        go_ret
        exact ⟨rfl, _, rfl⟩
end Go.Proofs.YtimmnnncgnnkgaaGreat

/- AddPath, the reference. -/
namespace Go.Proofs.YtimmnnncgnnkgaaGreat
set_option linter.unusedVariables false
set_option linter.unusedSimpArgs false
open Go.RowKit

set_option maxHeartbeats 3000000 in
set_option maxRecDepth 100000 in
theorem spec_AddPath (r s : Int) (A : Option Addr) (es : List Ed) (c : Nat) (u : Int) (Aw : Option Addr) (wd : List Int) (cw : Nat) (v : Int) (w : World) (lo hi lo' hi' : Nat)
    (hr : RG w lo hi A es) (hw : RV w lo' hi' Aw (ints wd)) (hl : es.length ≤ 1048576) (hwl : wd.length ≤ 1048576) (hok : OkI wd) (rs : Int) (res : List Ed) (b : Bool) (hres : PathIs r s es u wd v rs res b) :
    Calls Tryz.prog 91 #[graV r s A es.length c, .int .i64 u, .slice Aw wd.length cw, .int .i64 v] w fun e w' => ∃ A1 c1, e = .returned (.tuple #[graV r rs A1 res.length c1, .bool b]) ∧ OG w' w.heap.size w'.heap.size A1 c1 res ∧ Mid 0 0 w w' := by
  have HR := Lib.hid hres
  have HOK := Lib.hid hok
  clear hres hok
  obtain ⟨b1, hb1⟩ := bool_of (IsGr r s es)
  obtain ⟨b2, hb2⟩ := bool_of (0 ≤ u ∧ u < s)
  obtain ⟨b3, hb3⟩ := bool_of (0 ≤ v ∧ v < s)
  obtain ⟨b4, hb4⟩ := bool_of (IsW r wd)
  have H1 := Lib.hid hb1
  have H2 := Lib.hid hb2
  have H3 := Lib.hid hb3
  have H4 := Lib.hid hb4
  clear hb1 hb2 hb3 hb4
  have hm0 : Mid 0 0 w ((w.alloc (.cells #[.int .i64 r, .int .i64 s, .slice A es.length c] 29)).alloc (.cells #[.int .i64 0, .int .i64 0, .slice none 0 0] 29)) := (Mid.alloc _ _).trans (Mid.alloc _ _)
  have B0 := (Box.new w #[.int .i64 r, .int .i64 s, .slice A es.length c] 29).mid (Mid.alloc _ (.cells #[.int .i64 0, .int .i64 0, .slice none 0 0] 29)) (Or.inr (Nat.zero_le _))
  have B2 := Box.new (w.alloc (.cells #[.int .i64 r, .int .i64 s, .slice A es.length c] 29)) #[.int .i64 0, .int .i64 0, .slice none 0 0] 29
  simp only [World.size_alloc] at B2
  go_enter Tryz.func91, Tryz.ntmps91
  go_wp2_with fail
  generalize hw1 : ((w.alloc (.cells #[.int .i64 r, .int .i64 s, .slice A es.length c] 29)).alloc (.cells #[.int .i64 0, .int .i64 0, .slice none 0 0] 29)) = w1 at hm0 B0 B2 ⊢
  have hs1 : w1.heap.size = w.heap.size + 1 + 1 := by rw [← hw1]; simp
  have HS := Lib.hid hs1
  clear hw1 hs1
  with_reducible refine (spec_l4Copy r s A es c _ _ _ (hr.mid hm0 (Or.inl (Nat.zero_le _))) hl).mono ?_
  rintro en w2 ⟨A1, c1, rfl, ho2, hm2⟩
  have hal := Mid.alloc w2 (.cells #[.int .i64 r, .int .i64 s, .slice A1 es.length c1] 29)
  have Y3 := Box.new w2 #[.int .i64 r, .int .i64 s, .slice A1 es.length c1] 29
  replace B0 := B0.mid hm2 (Or.inr (Nat.zero_le _))
  replace B2 := B2.mid hm2 (Or.inr (Nat.zero_le _))
  replace hm0 := hm0.trans hm2
  replace B0 := B0.mid hal (Or.inr (Nat.zero_le _))
  replace B2 := B2.mid hal (Or.inr (Nat.zero_le _))
  replace hm0 := hm0.trans hal
  have hG2 : w.heap.size + 1 < w2.heap.size := by have := HS.out; have := hm2.size; omega
  have ho5 := (ho2.mid hal (Or.inl (Nat.zero_le _)))
  have hlt2 := ho2.ov.2.2
  have hb2k : Value.ownBlock (.slice A1 es.length c1) ≠ some w2.heap.size := fun h => by have := hlt2 _ h; omega
  have p0 := B0.cell 0 rfl
  have p1 := B0.cell 1 rfl
  have p2 := B0.cell 2 rfl
  go_wp2_with fail
  generalize w2.alloc (.cells #[.int .i64 r, .int .i64 s, .slice A1 es.length c1] 29) = w3 at hm0 B0 B2 Y3 ho5 p0 p1 p2 ⊢
  have hG3 : w2.heap.size < w3.heap.size := Y3.1
  have HOW := Lib.hid ho5.ov.2.1
  have HBK := Lib.hid hb2k
  have ho6 := ho5.wide (Nat.le_refl _) (Nat.le_refl _) (Nat.le_of_lt hG3)
  generalize hG : w2.heap.size = G at Y3 hG2 hG3 ho5 HBK ⊢
  have HGW := Lib.hid (show w1.heap.size ≤ G by rw [← hG]; exact hm2.size)
  clear hG hal hm2 hlt2 hb2k ho2 ho6

  with_reducible refine (spec_IsGraph r s A es c _ _ _ (hr.mid hm0 (Or.inl (Nat.zero_le _))).rv hl b1 H1.out).mono ?_
  rintro en w4 ⟨rfl, hm4⟩
  replace B0 := B0.mid hm4 (Or.inr (Nat.zero_le _))
  replace B2 := B2.mid hm4 (Or.inr (Nat.zero_le _))
  replace Y3 := Y3.mid hm4 (Or.inr (Nat.zero_le _))
  replace ho5 := ho5.mid hm4 (Or.inl (Nat.zero_le _))
  replace hm0 := hm0.trans hm4
  replace HOW := Lib.hid (owns_mid HOW.out hm4 (Or.inl (Nat.zero_le _)))
  clear hm4
  cases b1 with
  | false =>
    have hno : ¬ PathOk r s es u wd v := fun h => by have := H1.out.2 h.gr; cases this
    clear p0 p1 p2
    obtain ⟨rfl, rfl, rfl⟩ := HR.out.no hno
    have a0 := B2.cell 0 rfl
    have a1 := B2.cell 1 rfl
    have a2 := B2.cell 2 rfl
    have q0 := Y3.cell 0 rfl
    have q1 := Y3.cell 1 rfl
    have q2 := Y3.cell 2 rfl
    have af := B2.2.2
    go_wp2_with fail
    refine bodyPost_ret (v := .tuple #[.agg #[.int .i64 r, .int .i64 rs, .slice A1 res.length c1], .bool false]) (by simp [results, Tryz.results91, go_sem, a0, a1, a2, af, q0, q1, q2]) rfl ⟨A1, c1, rfl, ?_, ?_⟩
    · refine OG.wide (OG.mid ho5 (a := w.heap.size) (b := w.heap.size + 2) ?_ (Or.inl (by have := HS.out; omega))) (by have := HS.out; omega) (by have := ho5.size; simp; omega) (Nat.le_refl _)
      repeat (first | exact Mid.refl _ _ _ | refine Mid.stored ?_ _ (by simp; try omega) (by simp; try omega))
    · repeat (first | exact hm0 | refine Mid.storeNew ?_ (by simp; try omega) _)
  | true =>
  have hgr := H1.out.1 rfl
  have hsz := hgr.size
  have hln := hgr.len
  have hrk := hgr.rank
  have GR := Lib.hid hgr
  clear hgr H1
  have hwsub : IntKind.i64.wrap (s - 1) = s - 1 := IntWalk.i64_in _ (by omega)
  clear p0 p1 p2
  have p0 := B0.cell 0 rfl
  have p1 := B0.cell 1 rfl
  have p2 := B0.cell 2 rfl
  go_wp2_with fail
  with_reducible refine (l1In_at (has_bool hsz.1 hsz.2 H2.out).2 _).mono ?_
  rintro en w5 ⟨rfl, rfl⟩
  cases b2 with
  | false =>
    have hno : ¬ PathOk r s es u wd v := fun h => by have := H2.out.2 h.u0; cases this
    clear p0 p1 p2
    obtain ⟨rfl, rfl, rfl⟩ := HR.out.no hno
    have a0 := B2.cell 0 rfl
    have a1 := B2.cell 1 rfl
    have a2 := B2.cell 2 rfl
    have q0 := Y3.cell 0 rfl
    have q1 := Y3.cell 1 rfl
    have q2 := Y3.cell 2 rfl
    have af := B2.2.2
    go_wp2_with fail
    refine bodyPost_ret (v := .tuple #[.agg #[.int .i64 r, .int .i64 rs, .slice A1 res.length c1], .bool false]) (by simp [results, Tryz.results91, go_sem, a0, a1, a2, af, q0, q1, q2]) rfl ⟨A1, c1, rfl, ?_, ?_⟩
    · refine OG.wide (OG.mid ho5 (a := w.heap.size) (b := w.heap.size + 2) ?_ (Or.inl (by have := HS.out; omega))) (by have := HS.out; omega) (by have := ho5.size; simp; omega) (Nat.le_refl _)
      repeat (first | exact Mid.refl _ _ _ | refine Mid.stored ?_ _ (by simp; try omega) (by simp; try omega))
    · repeat (first | exact hm0 | refine Mid.storeNew ?_ (by simp; try omega) _)
  | true =>
  have hxu := H2.out.1 rfl
  clear H2
  clear p0 p1 p2
  have p0 := B0.cell 0 rfl
  have p1 := B0.cell 1 rfl
  have p2 := B0.cell 2 rfl
  go_wp2_with fail
  with_reducible refine (l1In_at (has_bool hsz.1 hsz.2 H3.out).2 _).mono ?_
  rintro en w6 ⟨rfl, rfl⟩
  cases b3 with
  | false =>
    have hno : ¬ PathOk r s es u wd v := fun h => by have := H3.out.2 h.v0; cases this
    clear p0 p1 p2
    obtain ⟨rfl, rfl, rfl⟩ := HR.out.no hno
    have a0 := B2.cell 0 rfl
    have a1 := B2.cell 1 rfl
    have a2 := B2.cell 2 rfl
    have q0 := Y3.cell 0 rfl
    have q1 := Y3.cell 1 rfl
    have q2 := Y3.cell 2 rfl
    have af := B2.2.2
    go_wp2_with fail
    refine bodyPost_ret (v := .tuple #[.agg #[.int .i64 r, .int .i64 rs, .slice A1 res.length c1], .bool false]) (by simp [results, Tryz.results91, go_sem, a0, a1, a2, af, q0, q1, q2]) rfl ⟨A1, c1, rfl, ?_, ?_⟩
    · refine OG.wide (OG.mid ho5 (a := w.heap.size) (b := w.heap.size + 2) ?_ (Or.inl (by have := HS.out; omega))) (by have := HS.out; omega) (by have := ho5.size; simp; omega) (Nat.le_refl _)
      repeat (first | exact Mid.refl _ _ _ | refine Mid.stored ?_ _ (by simp; try omega) (by simp; try omega))
    · repeat (first | exact hm0 | refine Mid.storeNew ?_ (by simp; try omega) _)
  | true =>
  have hxv := H3.out.1 rfl
  clear H3
  clear p0 p1 p2
  have p0 := B0.cell 0 rfl
  have p1 := B0.cell 1 rfl
  have p2 := B0.cell 2 rfl
  go_wp2_with fail
  with_reducible refine (spec_IsWord r Aw wd cw _ _ ((hw.mid hm0 (Or.inl (Nat.zero_le _))).rs) HOK.out (by omega) b4 H4.out).mono ?_
  rintro en w7 ⟨rfl, nd, hwd7⟩
  have hm7 : Mid 0 0 w4 w7 := by rw [hwd7]; exact (Mid.refl 0 0 w4).drewN nd
  clear hwd7
  replace B0 := B0.mid hm7 (Or.inr (Nat.zero_le _))
  replace B2 := B2.mid hm7 (Or.inr (Nat.zero_le _))
  replace Y3 := Y3.mid hm7 (Or.inr (Nat.zero_le _))
  replace ho5 := ho5.mid hm7 (Or.inl (Nat.zero_le _))
  replace hm0 := hm0.trans hm7
  replace HOW := Lib.hid (owns_mid HOW.out hm7 (Or.inl (Nat.zero_le _)))
  clear hm7
  cases b4 with
  | false =>
    have hno : ¬ PathOk r s es u wd v := fun h => by have := H4.out.2 h.word; cases this
    clear p0 p1 p2
    obtain ⟨rfl, rfl, rfl⟩ := HR.out.no hno
    have a0 := B2.cell 0 rfl
    have a1 := B2.cell 1 rfl
    have a2 := B2.cell 2 rfl
    have q0 := Y3.cell 0 rfl
    have q1 := Y3.cell 1 rfl
    have q2 := Y3.cell 2 rfl
    have af := B2.2.2
    go_wp2_with fail
    refine bodyPost_ret (v := .tuple #[.agg #[.int .i64 r, .int .i64 rs, .slice A1 res.length c1], .bool false]) (by simp [results, Tryz.results91, go_sem, a0, a1, a2, af, q0, q1, q2]) rfl ⟨A1, c1, rfl, ?_, ?_⟩
    · refine OG.wide (OG.mid ho5 (a := w.heap.size) (b := w.heap.size + 2) ?_ (Or.inl (by have := HS.out; omega))) (by have := HS.out; omega) (by have := ho5.size; simp; omega) (Nat.le_refl _)
      repeat (first | exact Mid.refl _ _ _ | refine Mid.stored ?_ _ (by simp; try omega) (by simp; try omega))
    · repeat (first | exact hm0 | refine Mid.storeNew ?_ (by simp; try omega) _)
  | true =>
  have hwd := H4.out.1 rfl
  have hwd24 := hwd.2.2.1
  have HWD := Lib.hid hwd
  clear hwd H4
  clear p0 p1 p2
  have p0 := B0.cell 0 rfl
  have p1 := B0.cell 1 rfl
  have p2 := B0.cell 2 rfl
  by_cases hne : wd = []
  · subst hne
    have hno : ¬ PathOk r s es u [] v := fun h => h.ne rfl
    clear p0 p1 p2
    obtain ⟨rfl, rfl, rfl⟩ := HR.out.no hno
    have a0 := B2.cell 0 rfl
    have a1 := B2.cell 1 rfl
    have a2 := B2.cell 2 rfl
    have q0 := Y3.cell 0 rfl
    have q1 := Y3.cell 1 rfl
    have q2 := Y3.cell 2 rfl
    have af := B2.2.2
    go_wp2_with fail
    refine bodyPost_ret (v := .tuple #[.agg #[.int .i64 r, .int .i64 rs, .slice A1 res.length c1], .bool false]) (by simp [results, Tryz.results91, go_sem, a0, a1, a2, af, q0, q1, q2]) rfl ⟨A1, c1, rfl, ?_, ?_⟩
    · refine OG.wide (OG.mid ho5 (a := w.heap.size) (b := w.heap.size + 2) ?_ (Or.inl (by have := HS.out; omega))) (by have := HS.out; omega) (by have := ho5.size; simp; omega) (Nat.le_refl _)
      repeat (first | exact Mid.refl _ _ _ | refine Mid.stored ?_ _ (by simp; try omega) (by simp; try omega))
    · repeat (first | exact hm0 | refine Mid.storeNew ?_ (by simp; try omega) _)
  have hpos : 0 < wd.length := List.length_pos_iff.2 hne
  have d4 : ((wd.length : Int) == 0) = false := by simp only [beq_eq_false_iff_ne]; omega
  have HNE := Lib.hid hne
  clear hne
  clear p0 p1 p2
  have p0 := B0.cell 0 rfl
  have p1 := B0.cell 1 rfl
  have p2 := B0.cell 2 rfl
  have d5' : IntKind.i64.wrap (s + (wd.length : Int)) = s + (wd.length : Int) := IntWalk.i64_in _ (by omega)
  have d5'' : IntKind.i64.wrap (s + (wd.length : Int) - 1) = s + (wd.length : Int) - 1 := IntWalk.i64_in _ (by omega)
  by_cases hsl : 40 < s + (wd.length : Int) - 1
  · have hno : ¬ PathOk r s es u wd v := fun h => by have := h.sz; omega
    have d5 : decide (40 < s + (wd.length : Int) - 1) = true := by simpa using hsl
    clear p1
    clear p0 p2
    have p0 := B0.cell 0 rfl
    have p1 := B0.cell 1 rfl
    have p2 := B0.cell 2 rfl
    obtain ⟨rfl, rfl, rfl⟩ := HR.out.no hno
    have a0 := B2.cell 0 rfl
    have a1 := B2.cell 1 rfl
    have a2 := B2.cell 2 rfl
    have q0 := Y3.cell 0 rfl
    have q1 := Y3.cell 1 rfl
    have q2 := Y3.cell 2 rfl
    have af := B2.2.2
    go_wp2_with fail
    refine bodyPost_ret (v := .tuple #[.agg #[.int .i64 r, .int .i64 rs, .slice A1 res.length c1], .bool false]) (by simp [results, Tryz.results91, go_sem, a0, a1, a2, af, q0, q1, q2]) rfl ⟨A1, c1, rfl, ?_, ?_⟩
    · refine OG.wide (OG.mid ho5 (a := w.heap.size) (b := w.heap.size + 2) ?_ (Or.inl (by have := HS.out; omega))) (by have := HS.out; omega) (by have := ho5.size; simp; omega) (Nat.le_refl _)
      repeat (first | exact Mid.refl _ _ _ | refine Mid.stored ?_ _ (by simp; try omega) (by simp; try omega))
    · repeat (first | exact hm0 | refine Mid.storeNew ?_ (by simp; try omega) _)
  have d5 : decide (40 < s + (wd.length : Int) - 1) = false := by simpa using hsl
  by_cases hll : 120 < es.length + wd.length
  · have hno : ¬ PathOk r s es u wd v := fun h => by have := h.ln; omega
    have d6 : decide (120 < (es.length : Int) + (wd.length : Int)) = true := by simp; omega
    obtain ⟨rfl, rfl, rfl⟩ := HR.out.no hno
    have a0 := B2.cell 0 rfl
    have a1 := B2.cell 1 rfl
    have a2 := B2.cell 2 rfl
    have q0 := Y3.cell 0 rfl
    have q1 := Y3.cell 1 rfl
    have q2 := Y3.cell 2 rfl
    have af := B2.2.2
    go_wp2_with fail
    refine bodyPost_ret (v := .tuple #[.agg #[.int .i64 r, .int .i64 rs, .slice A1 res.length c1], .bool false]) (by simp [results, Tryz.results91, go_sem, a0, a1, a2, af, q0, q1, q2]) rfl ⟨A1, c1, rfl, ?_, ?_⟩
    · refine OG.wide (OG.mid ho5 (a := w.heap.size) (b := w.heap.size + 2) ?_ (Or.inl (by have := HS.out; omega))) (by have := HS.out; omega) (by have := ho5.size; simp; omega) (Nat.le_refl _)
      repeat (first | exact Mid.refl _ _ _ | refine Mid.stored ?_ _ (by simp; try omega) (by simp; try omega))
    · repeat (first | exact hm0 | refine Mid.storeNew ?_ (by simp; try omega) _)
  have d6 : decide (120 < (es.length : Int) + (wd.length : Int)) = false := by simp; omega
  obtain ⟨rfl, hrs, hre⟩ := HR.out.yes ⟨GR.out, hxu, hxv, HWD.out, HNE.out, by omega, by omega⟩
  have HRS := Lib.hid hrs
  have HRE := Lib.hid hre
  have hasc := Lib.hid GR.out.asc
  clear hrs hre HR
  have hwn : IntKind.i64.wrap ((wd.length : Int) - 1) = (wd.length : Int) - 1 := IntWalk.i64_in _ (by omega)
  have hletb := Lib.hid HWD.out.2.2.2.1
  have q0 := Y3.cell 0 rfl
  have q1 := Y3.cell 1 rfl
  have q2 := Y3.cell 2 rfl
  go_wp2_with fail
  clear p0 p1 p2 q0 q1 q2
  go_loopw [11, 12] (fun at_ i wr => ∃ (k : Nat) (A2 : Option Addr) (c2 lo2 hi2 : Nat) (xs : List Ed) (sz : Int), k ≤ wd.length ∧ i = .int .i64 k ∧ at_ = .int .i64 (pathV u s wd.length v k) ∧ Hid (sz = s + ((min k (wd.length - 1) : Nat) : Int)) ∧ Hid (xs = putAll es (pathE u s wd v k)) ∧
    OG wr lo2 hi2 A2 c2 xs ∧ (hi2 ≤ G ∨ G + 1 ≤ lo2) ∧ w1.heap.size ≤ lo2 ∧
    Box wr w.heap.size [.int .i64 r, .int .i64 s, .slice A es.length c] ∧ Box wr (w.heap.size + 1) [.int .i64 0, .int .i64 0, .slice none 0 0] ∧
    Box wr G [.int .i64 r, .int .i64 sz, .slice A2 xs.length c2] ∧ Mid 0 0 w wr) (fun _ i _ => wd.length - (intOf i).toNat)
  case atStart => exact ⟨0, A1, c1, _, _, es, s, Nat.zero_le _, rfl, rfl, Lib.hid (by simp), Lib.hid (by simp [pathE, putAll]), ho5, .inl (Nat.le_refl _), Nat.le_refl _, B0, B2, Y3, hm0⟩
  case round =>
    clear B0 B2 Y3 hm0 ho5 HOW HBK hG3
    obtain ⟨k, A2, c2, lo2, hi2, xs, sz, hk, rfl, rfl, HSZ, HX, hown, hdis, hlo2, Z0, Z2, Z3, hmr⟩ := hrel
    have hszv := HSZ.out
    have hxl : xs.length ≤ 1000 := by
      have h1 := putAll_len es (pathE u s wd v k)
      rw [← HX.out, pathE_len] at h1
      omega
    by_cases hlt : k < wd.length
    · obtain ⟨B, off, x, rfl, hbh, hx, hcx⟩ := (hw.mid hmr (Or.inl (Nat.zero_le _))).at hlt
      have hxb := hletb.out x (List.mem_of_getElem? hx)
      have hkn : (k : Int) < (wd.length : Int) := by omega
      have hk0 : (0 : Int) ≤ (k : Int) := by omega
      have hpe := pathE_succ (u := u) (s := s) (v := v) hx
      have HPE := Lib.hid hpe
      have hGr : G < wr.heap.size := Z3.1
      have hBw : B < wr.heap.size := by have := hw.1; have := hmr.size; omega
      have hBG : B < G := by have := hw.1; omega
      have hw1r : w1.heap.size ≤ wr.heap.size := by have := HGW.out; omega
      clear hx hpe
      generalize hat : pathV u s wd.length v k = at0 at HPE ⊢
      clear hat
      rcases (by omega : 0 < x ∨ x < 0) with hx0 | hx0
      · have dx : decide (0 < x) = true := by simpa using hx0
        have hst0 : ∀ t, stepE at0 x t = ⟨at0, x, t⟩ := fun t => by rw [stepE, if_neg (by omega)]
        rw [hst0] at HPE
        clear hst0
        by_cases hlast : k + 1 < wd.length
        · have hmin : ((min k (wd.length - 1) : Nat) : Int) = (k : Int) := by rw [Nat.min_eq_left (by omega)]
          have hmin2 : ((min (k + 1) (wd.length - 1) : Nat) : Int) = (k : Int) + 1 := by rw [Nat.min_eq_left (by omega)]; rfl
          rw [hmin] at hszv
          subst hszv
          have hto : pathV u s wd.length v (k + 1) = s + (k : Int) := by
            rw [pathV, if_neg (by omega), if_pos hlast]
            omega
          rw [hto] at HPE
          have dk : decide ((k : Int) + 1 < (wd.length : Int)) = true := by simp; omega
          have hws : IntKind.i64.wrap (s + (k : Int) + 1) = s + (k : Int) + 1 := IntWalk.i64_in _ (by omega)
          have q1 := Z3.cell 1 rfl
          have qf := Z3.2.2
          have hst := Mid.setCell wr (lo := G) (hi := G + 1) (p := ⟨G, 1, none⟩) (.int .i64 (s + (k : Int) + 1)) (Nat.le_refl _) (Nat.lt_succ_self _)
          have V0 := Z0.mid hst (Or.inl (by omega))
          have V2 := Z2.mid hst (Or.inl (by omega))
          have V3 := Z3.set 1 (.int .i64 (s + (k : Int) + 1)) (by simp) rfl
          have hownV := hown.mid hst (by omega)
          have hcV := cell_keep hst hBw (Or.inl hBG) hcx
          have hmv := hmr.storeNew (p := ⟨G, 1, none⟩) (by show w.heap.size ≤ G; omega) (.int .i64 (s + (k : Int) + 1))
          have hsV : (wr.setCell ⟨G, 1, none⟩ (.int .i64 (s + (k : Int) + 1))).heap.size = wr.heap.size := by simp
          go_wp2_with fail
          clear dk dx
          generalize wr.setCell ⟨G, 1, none⟩ (.int .i64 (s + (k : Int) + 1)) = wx at V0 V2 V3 hownV hmv hsV hcV ⊢
          have hnsz : Hid (s + (k : Int) + 1 = s + ((min (k + 1) (wd.length - 1) : Nat) : Int)) := Lib.hid (by rw [hmin2]; omega)
          clear Z0 Z2 Z3 hown hmr q1 qf hst hcx hmin hmin2 HSZ
          simp only [List.set_cons_succ, List.set_cons_zero] at V3
          generalize s + (k : Int) + 1 = sz' at V3 hnsz
          generalize s + (k : Int) = to at HPE hto ⊢
          have hGx : G < wx.heap.size := V3.1
          have hmd := Mid.drew1 wx
          have U0 := V0.mid hmd (Or.inr (Nat.zero_le _))
          have U2 := V2.mid hmd (Or.inr (Nat.zero_le _))
          have U3 := V3.mid hmd (Or.inr (Nat.zero_le _))
          have hownU := hownV.mid hmd (Or.inl (Nat.zero_le _))
          have hmu := hmv.trans hmd
          have g2 := U3.cell 2 rfl
          have f0 := cell_keep hmd (by omega) (Or.inr (Nat.zero_le _)) hcV
          clear V0 V2 V3 hownV hmv hmd hcV
          refine wp_region_T (S := (fun w' => w'.cell? ⟨G, 2, none⟩ = some (.slice A2 xs.length c2) ∧ w'.cell? ⟨B, off + k, none⟩ = some (.int .i64 x))) 11 (by kernel_rfl) ⟨g2, f0⟩ ?_
          generalize World.drew wx = wz at U0 U2 U3 hownU hmu f0 g2 ⊢
          have hS : wz.cell? ⟨G, 2, none⟩ = some (.slice A2 xs.length c2) ∧ wz.cell? ⟨B, off + k, none⟩ = some (.int .i64 x) := ⟨g2, f0⟩
          refine wpAnyT_take (i := 0) (v := ?_) rfl (by kernel_rfl) (by kernel_rfl) (by kernel_rfl) (by kernel_rfl) (fun _ _ _ h => h) (Or.inl ⟨by rfl, ?_⟩) hS ?_
          rotate_left
          focus (intro w hSw; (try dsimp only at hSw); go_simp; try with_reducible rfl)
          try simp only [Act.put, List.setIfInBounds_toArray, List.set_cons_zero, List.set_cons_succ, List.getElem_toArray, List.getElem_cons_zero, List.getElem_cons_succ]
          refine wpAnyT_take (i := 1) (v := ?_) rfl (by kernel_rfl) (by kernel_rfl) (by kernel_rfl) (by kernel_rfl) (fun _ _ _ h => h) (Or.inl ⟨by rfl, ?_⟩) hS ?_
          rotate_left
          focus (intro w hSw; (try dsimp only at hSw); go_simp; try with_reducible rfl)
          try simp only [Act.put, List.setIfInBounds_toArray, List.set_cons_zero, List.set_cons_succ, List.getElem_toArray, List.getElem_cons_zero, List.getElem_cons_succ]
          refine wpAnyT_take (i := 2) (v := ?_) rfl (by kernel_rfl) (by kernel_rfl) (by kernel_rfl) (by kernel_rfl) (fun _ _ _ h => h) (Or.inl ⟨by rfl, ?_⟩) hS ?_
          rotate_left
          focus (intro w hSw; (try dsimp only at hSw); go_simp; try with_reducible rfl)
          try simp only [Act.put, List.setIfInBounds_toArray, List.set_cons_zero, List.set_cons_succ, List.getElem_toArray, List.getElem_cons_zero, List.getElem_cons_succ]
          refine wpAnyT_take (i := 3) (v := ?_) rfl (by kernel_rfl) (by kernel_rfl) (by kernel_rfl) (by kernel_rfl) (fun _ _ _ h => h) (Or.inl ⟨by rfl, ?_⟩) hS ?_
          rotate_left
          focus (intro w hSw; (try dsimp only at hSw); go_simp; try with_reducible rfl)
          try simp only [Act.put, List.setIfInBounds_toArray, List.set_cons_zero, List.set_cons_succ, List.getElem_toArray, List.getElem_cons_zero, List.getElem_cons_succ]
          refine wpAnyT_take (i := 4) (v := ?_) rfl (by kernel_rfl) (by kernel_rfl) (by kernel_rfl) (by kernel_rfl) (fun _ _ _ h => h) (Or.inl ⟨by rfl, ?_⟩) hS ?_
          rotate_left
          focus (intro w hSw; (try dsimp only at hSw); go_simp; try with_reducible rfl)
          try simp only [Act.put, List.setIfInBounds_toArray, List.set_cons_zero, List.set_cons_succ, List.getElem_toArray, List.getElem_cons_zero, List.getElem_cons_succ]
          refine wpAnyT_take (i := 5) (v := ?_) rfl (by kernel_rfl) (by kernel_rfl) (by kernel_rfl) (by kernel_rfl) (fun _ _ _ h => h) (Or.inl ⟨by rfl, ?_⟩) hS ?_
          rotate_left
          focus (intro w hSw; (try dsimp only at hSw); go_simp; try with_reducible rfl)
          try simp only [Act.put, List.setIfInBounds_toArray, List.set_cons_zero, List.set_cons_succ, List.getElem_toArray, List.getElem_cons_zero, List.getElem_cons_succ]
          refine wpAnyT_take (i := 6) (v := ?_) rfl (by kernel_rfl) (by kernel_rfl) (by kernel_rfl) (by kernel_rfl) (fun _ _ _ h => h) (Or.inl ⟨by rfl, ?_⟩) hS ?_
          rotate_left
          focus (intro w hSw; (try dsimp only at hSw); go_simp; try with_reducible rfl)
          try simp only [Act.put, List.setIfInBounds_toArray, List.set_cons_zero, List.set_cons_succ, List.getElem_toArray, List.getElem_cons_zero, List.getElem_cons_succ]
          refine wpAnyT_take (i := 7) (v := ?_) rfl (by kernel_rfl) (by kernel_rfl) (by kernel_rfl) (by kernel_rfl) (fun _ _ _ h => h) (Or.inl ⟨by rfl, ?_⟩) hS ?_
          rotate_left
          focus (intro w hSw; (try dsimp only at hSw); go_simp; try with_reducible rfl)
          try simp only [Act.put, List.setIfInBounds_toArray, List.set_cons_zero, List.set_cons_succ, List.getElem_toArray, List.getElem_cons_zero, List.getElem_cons_succ]
          refine wpAnyT_take (i := 8) (v := ?_) rfl (by kernel_rfl) (by kernel_rfl) (by kernel_rfl) (by kernel_rfl) (fun _ _ _ h => h) (Or.inl ⟨by rfl, ?_⟩) hS ?_
          rotate_left
          focus (intro w hSw; (try dsimp only at hSw); go_simp; try with_reducible rfl)
          try simp only [Act.put, List.setIfInBounds_toArray, List.set_cons_zero, List.set_cons_succ, List.getElem_toArray, List.getElem_cons_zero, List.getElem_cons_succ]
          have hP := spec_l4Put A2 xs c2 ⟨at0, x, to⟩ wz _ _ hownU.rg (by omega)
          refine wpAnyT_ready (rs := [9]) (by kernel_rfl) (by simp) (AllReadyT.cons rfl (fun K hK => ?_) AllReadyT.nil)
          (go_simp; (with_reducible refine hP.mono ?_); rintro en w9 ⟨A9, c9, rfl, ho9, hm9⟩; have T0' := U0.mid hm9 (Or.inr (Nat.zero_le _)); have T2' := U2.mid hm9 (Or.inr (Nat.zero_le _)); have T3' := U3.mid hm9 (Or.inr (Nat.zero_le _)); have f0' := cell_keep hm9 (by have := U3.1; omega) (Or.inr (Nat.zero_le _)) f0; go_wp2_with fail)
          refine hK.out _ _ (Or.inr ⟨T3'.cell 2 rfl, f0'⟩) (fun _ => ?_)
          clear hK K
          try simp only [Act.put, List.setIfInBounds_toArray, List.set_cons_zero, List.set_cons_succ, List.getElem_toArray, List.getElem_cons_zero, List.getElem_cons_succ]
          have hmr9 := hmu.trans hm9
          have hGz : G < wz.heap.size := U3.1
          have hS3 := And.intro (T3'.cell 2 rfl) f0'
          have hr2 := T3'.cell 2 rfl
          have hrf := T3'.2.2
          clear hS U0 U2 U3 hmu hP
          refine wpAnyT_take (i := 10) (v := ?_) rfl (by kernel_rfl) (by kernel_rfl) (by kernel_rfl) (by kernel_rfl) (fun _ _ _ h => h) (Or.inl ⟨by rfl, ?_⟩) hS3 ?_
          rotate_left
          focus (intro w hSw; (try dsimp only at hSw); go_simp; try with_reducible rfl)
          try simp only [Act.put, List.setIfInBounds_toArray, List.set_cons_zero, List.set_cons_succ, List.getElem_toArray, List.getElem_cons_zero, List.getElem_cons_succ]
          refine wpAnyT_ready (rs := [11]) (by kernel_rfl) (by simp) (AllReadyT.cons rfl (fun K hK => ?_) AllReadyT.nil)
          (go_simp)
          refine hK.out _ _ (Or.inl rfl) (fun _ => ?_)
          clear hK K
          try simp only [Act.put, List.setIfInBounds_toArray, List.set_cons_zero, List.set_cons_succ, List.getElem_toArray, List.getElem_cons_zero, List.getElem_cons_succ]
          refine wpAnyT_done (by kernel_rfl) ?_ _
          go_wp2_with fail
          go_roundw
          case rel =>
            have hst := Mid.setCell w9 (lo := G) (hi := G + 1) (p := ⟨G, 2, none⟩) (.slice A9 (putE ⟨at0, x, to⟩ xs).length c9) (Nat.le_refl _) (Nat.lt_succ_self _)
            refine ⟨k + 1, A9, c9, _, _, putE ⟨at0, x, to⟩ xs, sz', by omega, by go_num, by rw [hto], hnsz, Lib.hid ?_, ho9.mid hst (Or.inl (by omega)), .inr (by omega), by have := HGW.out; omega, T0'.mid hst (Or.inl (by omega)), T2'.mid hst (Or.inl (by omega)), T3'.set 2 _ (by simp) rfl, hmr9.storeNew (by show w.heap.size ≤ G; omega) _⟩
            rw [HPE.out, putAll_snoc, ← HX.out]
          case measure => simp [intOf]; omega
        · have hkl : k + 1 = wd.length := by omega
          have hmin : min k (wd.length - 1) = min (k + 1) (wd.length - 1) := by omega
          have hnsz : Hid (sz = s + ((min (k + 1) (wd.length - 1) : Nat) : Int)) := Lib.hid (by rw [hszv, hmin])
          have hto : pathV u s wd.length v (k + 1) = v := by
            rw [pathV, if_neg (by omega), if_neg (by omega)]
          rw [hto] at HPE
          have dk : decide ((k : Int) + 1 < (wd.length : Int)) = false := by simp; omega
          clear hszv hmin HSZ
          generalize sz = sz' at Z3 hnsz
          go_wp2_with fail
          clear dk dx
          have V0 := Z0
          have V2 := Z2
          have V3 := Z3
          have hownV := hown
          have hmv := hmr
          have hcV := hcx
          obtain ⟨wx, hwx⟩ : ∃ wx, wr = wx := ⟨_, rfl⟩
          have hsV : wx.heap.size = wr.heap.size := by rw [hwx]
          rw [hwx] at V0 V2 V3 hownV hmv hcV ⊢
          clear Z0 Z2 Z3 hown hmr hcx
          have hGx : G < wx.heap.size := V3.1
          have hmd := Mid.drew1 wx
          have U0 := V0.mid hmd (Or.inr (Nat.zero_le _))
          have U2 := V2.mid hmd (Or.inr (Nat.zero_le _))
          have U3 := V3.mid hmd (Or.inr (Nat.zero_le _))
          have hownU := hownV.mid hmd (Or.inl (Nat.zero_le _))
          have hmu := hmv.trans hmd
          have g2 := U3.cell 2 rfl
          have f0 := cell_keep hmd (by omega) (Or.inr (Nat.zero_le _)) hcV
          clear V0 V2 V3 hownV hmv hmd hcV
          refine wp_region_T (S := (fun w' => w'.cell? ⟨G, 2, none⟩ = some (.slice A2 xs.length c2) ∧ w'.cell? ⟨B, off + k, none⟩ = some (.int .i64 x))) 11 (by kernel_rfl) ⟨g2, f0⟩ ?_
          generalize World.drew wx = wz at U0 U2 U3 hownU hmu f0 g2 ⊢
          have hS : wz.cell? ⟨G, 2, none⟩ = some (.slice A2 xs.length c2) ∧ wz.cell? ⟨B, off + k, none⟩ = some (.int .i64 x) := ⟨g2, f0⟩
          refine wpAnyT_take (i := 0) (v := ?_) rfl (by kernel_rfl) (by kernel_rfl) (by kernel_rfl) (by kernel_rfl) (fun _ _ _ h => h) (Or.inl ⟨by rfl, ?_⟩) hS ?_
          rotate_left
          focus (intro w hSw; (try dsimp only at hSw); go_simp; try with_reducible rfl)
          try simp only [Act.put, List.setIfInBounds_toArray, List.set_cons_zero, List.set_cons_succ, List.getElem_toArray, List.getElem_cons_zero, List.getElem_cons_succ]
          refine wpAnyT_take (i := 1) (v := ?_) rfl (by kernel_rfl) (by kernel_rfl) (by kernel_rfl) (by kernel_rfl) (fun _ _ _ h => h) (Or.inl ⟨by rfl, ?_⟩) hS ?_
          rotate_left
          focus (intro w hSw; (try dsimp only at hSw); go_simp; try with_reducible rfl)
          try simp only [Act.put, List.setIfInBounds_toArray, List.set_cons_zero, List.set_cons_succ, List.getElem_toArray, List.getElem_cons_zero, List.getElem_cons_succ]
          refine wpAnyT_take (i := 2) (v := ?_) rfl (by kernel_rfl) (by kernel_rfl) (by kernel_rfl) (by kernel_rfl) (fun _ _ _ h => h) (Or.inl ⟨by rfl, ?_⟩) hS ?_
          rotate_left
          focus (intro w hSw; (try dsimp only at hSw); go_simp; try with_reducible rfl)
          try simp only [Act.put, List.setIfInBounds_toArray, List.set_cons_zero, List.set_cons_succ, List.getElem_toArray, List.getElem_cons_zero, List.getElem_cons_succ]
          refine wpAnyT_take (i := 3) (v := ?_) rfl (by kernel_rfl) (by kernel_rfl) (by kernel_rfl) (by kernel_rfl) (fun _ _ _ h => h) (Or.inl ⟨by rfl, ?_⟩) hS ?_
          rotate_left
          focus (intro w hSw; (try dsimp only at hSw); go_simp; try with_reducible rfl)
          try simp only [Act.put, List.setIfInBounds_toArray, List.set_cons_zero, List.set_cons_succ, List.getElem_toArray, List.getElem_cons_zero, List.getElem_cons_succ]
          refine wpAnyT_take (i := 4) (v := ?_) rfl (by kernel_rfl) (by kernel_rfl) (by kernel_rfl) (by kernel_rfl) (fun _ _ _ h => h) (Or.inl ⟨by rfl, ?_⟩) hS ?_
          rotate_left
          focus (intro w hSw; (try dsimp only at hSw); go_simp; try with_reducible rfl)
          try simp only [Act.put, List.setIfInBounds_toArray, List.set_cons_zero, List.set_cons_succ, List.getElem_toArray, List.getElem_cons_zero, List.getElem_cons_succ]
          refine wpAnyT_take (i := 5) (v := ?_) rfl (by kernel_rfl) (by kernel_rfl) (by kernel_rfl) (by kernel_rfl) (fun _ _ _ h => h) (Or.inl ⟨by rfl, ?_⟩) hS ?_
          rotate_left
          focus (intro w hSw; (try dsimp only at hSw); go_simp; try with_reducible rfl)
          try simp only [Act.put, List.setIfInBounds_toArray, List.set_cons_zero, List.set_cons_succ, List.getElem_toArray, List.getElem_cons_zero, List.getElem_cons_succ]
          refine wpAnyT_take (i := 6) (v := ?_) rfl (by kernel_rfl) (by kernel_rfl) (by kernel_rfl) (by kernel_rfl) (fun _ _ _ h => h) (Or.inl ⟨by rfl, ?_⟩) hS ?_
          rotate_left
          focus (intro w hSw; (try dsimp only at hSw); go_simp; try with_reducible rfl)
          try simp only [Act.put, List.setIfInBounds_toArray, List.set_cons_zero, List.set_cons_succ, List.getElem_toArray, List.getElem_cons_zero, List.getElem_cons_succ]
          refine wpAnyT_take (i := 7) (v := ?_) rfl (by kernel_rfl) (by kernel_rfl) (by kernel_rfl) (by kernel_rfl) (fun _ _ _ h => h) (Or.inl ⟨by rfl, ?_⟩) hS ?_
          rotate_left
          focus (intro w hSw; (try dsimp only at hSw); go_simp; try with_reducible rfl)
          try simp only [Act.put, List.setIfInBounds_toArray, List.set_cons_zero, List.set_cons_succ, List.getElem_toArray, List.getElem_cons_zero, List.getElem_cons_succ]
          refine wpAnyT_take (i := 8) (v := ?_) rfl (by kernel_rfl) (by kernel_rfl) (by kernel_rfl) (by kernel_rfl) (fun _ _ _ h => h) (Or.inl ⟨by rfl, ?_⟩) hS ?_
          rotate_left
          focus (intro w hSw; (try dsimp only at hSw); go_simp; try with_reducible rfl)
          try simp only [Act.put, List.setIfInBounds_toArray, List.set_cons_zero, List.set_cons_succ, List.getElem_toArray, List.getElem_cons_zero, List.getElem_cons_succ]
          have hP := spec_l4Put A2 xs c2 ⟨at0, x, v⟩ wz _ _ hownU.rg (by omega)
          refine wpAnyT_ready (rs := [9]) (by kernel_rfl) (by simp) (AllReadyT.cons rfl (fun K hK => ?_) AllReadyT.nil)
          (go_simp; (with_reducible refine hP.mono ?_); rintro en w9 ⟨A9, c9, rfl, ho9, hm9⟩; have T0' := U0.mid hm9 (Or.inr (Nat.zero_le _)); have T2' := U2.mid hm9 (Or.inr (Nat.zero_le _)); have T3' := U3.mid hm9 (Or.inr (Nat.zero_le _)); have f0' := cell_keep hm9 (by have := U3.1; omega) (Or.inr (Nat.zero_le _)) f0; go_wp2_with fail)
          refine hK.out _ _ (Or.inr ⟨T3'.cell 2 rfl, f0'⟩) (fun _ => ?_)
          clear hK K
          try simp only [Act.put, List.setIfInBounds_toArray, List.set_cons_zero, List.set_cons_succ, List.getElem_toArray, List.getElem_cons_zero, List.getElem_cons_succ]
          have hmr9 := hmu.trans hm9
          have hGz : G < wz.heap.size := U3.1
          have hS3 := And.intro (T3'.cell 2 rfl) f0'
          have hr2 := T3'.cell 2 rfl
          have hrf := T3'.2.2
          clear hS U0 U2 U3 hmu hP
          refine wpAnyT_take (i := 10) (v := ?_) rfl (by kernel_rfl) (by kernel_rfl) (by kernel_rfl) (by kernel_rfl) (fun _ _ _ h => h) (Or.inl ⟨by rfl, ?_⟩) hS3 ?_
          rotate_left
          focus (intro w hSw; (try dsimp only at hSw); go_simp; try with_reducible rfl)
          try simp only [Act.put, List.setIfInBounds_toArray, List.set_cons_zero, List.set_cons_succ, List.getElem_toArray, List.getElem_cons_zero, List.getElem_cons_succ]
          refine wpAnyT_ready (rs := [11]) (by kernel_rfl) (by simp) (AllReadyT.cons rfl (fun K hK => ?_) AllReadyT.nil)
          (go_simp)
          refine hK.out _ _ (Or.inl rfl) (fun _ => ?_)
          clear hK K
          try simp only [Act.put, List.setIfInBounds_toArray, List.set_cons_zero, List.set_cons_succ, List.getElem_toArray, List.getElem_cons_zero, List.getElem_cons_succ]
          refine wpAnyT_done (by kernel_rfl) ?_ _
          go_wp2_with fail
          go_roundw
          case rel =>
            have hst := Mid.setCell w9 (lo := G) (hi := G + 1) (p := ⟨G, 2, none⟩) (.slice A9 (putE ⟨at0, x, v⟩ xs).length c9) (Nat.le_refl _) (Nat.lt_succ_self _)
            refine ⟨k + 1, A9, c9, _, _, putE ⟨at0, x, v⟩ xs, sz', by omega, by go_num, by rw [hto], hnsz, Lib.hid ?_, ho9.mid hst (Or.inl (by omega)), .inr (by omega), by have := HGW.out; omega, T0'.mid hst (Or.inl (by omega)), T2'.mid hst (Or.inl (by omega)), T3'.set 2 _ (by simp) rfl, hmr9.storeNew (by show w.heap.size ≤ G; omega) _⟩
            rw [HPE.out, putAll_snoc, ← HX.out]
          case measure => simp [intOf]; omega
      · have dx : decide (0 < x) = false := by simp; omega
        have hst0 : ∀ t, stepE at0 x t = ⟨t, -x, at0⟩ := fun t => by rw [stepE, if_pos hx0]
        have hwx1 : IntKind.i64.wrap (-x) = -x := IntWalk.i64_in _ (by omega)
        have hwx2 : wrap64 (-x) = -x := by unfold wrap64; omega
        rw [hst0] at HPE
        clear hst0
        by_cases hlast : k + 1 < wd.length
        · have hmin : ((min k (wd.length - 1) : Nat) : Int) = (k : Int) := by rw [Nat.min_eq_left (by omega)]
          have hmin2 : ((min (k + 1) (wd.length - 1) : Nat) : Int) = (k : Int) + 1 := by rw [Nat.min_eq_left (by omega)]; rfl
          rw [hmin] at hszv
          subst hszv
          have hto : pathV u s wd.length v (k + 1) = s + (k : Int) := by
            rw [pathV, if_neg (by omega), if_pos hlast]
            omega
          rw [hto] at HPE
          have dk : decide ((k : Int) + 1 < (wd.length : Int)) = true := by simp; omega
          have hws : IntKind.i64.wrap (s + (k : Int) + 1) = s + (k : Int) + 1 := IntWalk.i64_in _ (by omega)
          have q1 := Z3.cell 1 rfl
          have qf := Z3.2.2
          have hst := Mid.setCell wr (lo := G) (hi := G + 1) (p := ⟨G, 1, none⟩) (.int .i64 (s + (k : Int) + 1)) (Nat.le_refl _) (Nat.lt_succ_self _)
          have V0 := Z0.mid hst (Or.inl (by omega))
          have V2 := Z2.mid hst (Or.inl (by omega))
          have V3 := Z3.set 1 (.int .i64 (s + (k : Int) + 1)) (by simp) rfl
          have hownV := hown.mid hst (by omega)
          have hcV := cell_keep hst hBw (Or.inl hBG) hcx
          have hmv := hmr.storeNew (p := ⟨G, 1, none⟩) (by show w.heap.size ≤ G; omega) (.int .i64 (s + (k : Int) + 1))
          have hsV : (wr.setCell ⟨G, 1, none⟩ (.int .i64 (s + (k : Int) + 1))).heap.size = wr.heap.size := by simp
          go_wp2_with fail
          clear dk dx
          generalize wr.setCell ⟨G, 1, none⟩ (.int .i64 (s + (k : Int) + 1)) = wx at V0 V2 V3 hownV hmv hsV hcV ⊢
          have hnsz : Hid (s + (k : Int) + 1 = s + ((min (k + 1) (wd.length - 1) : Nat) : Int)) := Lib.hid (by rw [hmin2]; omega)
          clear Z0 Z2 Z3 hown hmr q1 qf hst hcx hmin hmin2 HSZ
          simp only [List.set_cons_succ, List.set_cons_zero] at V3
          generalize s + (k : Int) + 1 = sz' at V3 hnsz
          generalize s + (k : Int) = to at HPE hto ⊢
          have hGx : G < wx.heap.size := V3.1
          have hmd := Mid.drew1 wx
          have U0 := V0.mid hmd (Or.inr (Nat.zero_le _))
          have U2 := V2.mid hmd (Or.inr (Nat.zero_le _))
          have U3 := V3.mid hmd (Or.inr (Nat.zero_le _))
          have hownU := hownV.mid hmd (Or.inl (Nat.zero_le _))
          have hmu := hmv.trans hmd
          have g2 := U3.cell 2 rfl
          have f0 := cell_keep hmd (by omega) (Or.inr (Nat.zero_le _)) hcV
          clear V0 V2 V3 hownV hmv hmd hcV
          refine wp_region_T (S := (fun w' => w'.cell? ⟨G, 2, none⟩ = some (.slice A2 xs.length c2) ∧ w'.cell? ⟨B, off + k, none⟩ = some (.int .i64 x))) 12 (by kernel_rfl) ⟨g2, f0⟩ ?_
          generalize World.drew wx = wz at U0 U2 U3 hownU hmu f0 g2 ⊢
          have hS : wz.cell? ⟨G, 2, none⟩ = some (.slice A2 xs.length c2) ∧ wz.cell? ⟨B, off + k, none⟩ = some (.int .i64 x) := ⟨g2, f0⟩
          refine wpAnyT_take (i := 0) (v := ?_) rfl (by kernel_rfl) (by kernel_rfl) (by kernel_rfl) (by kernel_rfl) (fun _ _ _ h => h) (Or.inl ⟨by rfl, ?_⟩) hS ?_
          rotate_left
          focus (intro w hSw; (try dsimp only at hSw); go_simp; try with_reducible rfl)
          try simp only [Act.put, List.setIfInBounds_toArray, List.set_cons_zero, List.set_cons_succ, List.getElem_toArray, List.getElem_cons_zero, List.getElem_cons_succ]
          refine wpAnyT_take (i := 1) (v := ?_) rfl (by kernel_rfl) (by kernel_rfl) (by kernel_rfl) (by kernel_rfl) (fun _ _ _ h => h) (Or.inl ⟨by rfl, ?_⟩) hS ?_
          rotate_left
          focus (intro w hSw; (try dsimp only at hSw); go_simp; try with_reducible rfl)
          try simp only [Act.put, List.setIfInBounds_toArray, List.set_cons_zero, List.set_cons_succ, List.getElem_toArray, List.getElem_cons_zero, List.getElem_cons_succ]
          refine wpAnyT_take (i := 2) (v := ?_) rfl (by kernel_rfl) (by kernel_rfl) (by kernel_rfl) (by kernel_rfl) (fun _ _ _ h => h) (Or.inl ⟨by rfl, ?_⟩) hS ?_
          rotate_left
          focus (intro w hSw; (try dsimp only at hSw); go_simp; try with_reducible rfl)
          try simp only [Act.put, List.setIfInBounds_toArray, List.set_cons_zero, List.set_cons_succ, List.getElem_toArray, List.getElem_cons_zero, List.getElem_cons_succ]
          refine wpAnyT_take (i := 3) (v := ?_) rfl (by kernel_rfl) (by kernel_rfl) (by kernel_rfl) (by kernel_rfl) (fun _ _ _ h => h) (Or.inl ⟨by rfl, ?_⟩) hS ?_
          rotate_left
          focus (intro w hSw; (try dsimp only at hSw); go_simp; try with_reducible rfl)
          try simp only [Act.put, List.setIfInBounds_toArray, List.set_cons_zero, List.set_cons_succ, List.getElem_toArray, List.getElem_cons_zero, List.getElem_cons_succ]
          refine wpAnyT_take (i := 4) (v := ?_) rfl (by kernel_rfl) (by kernel_rfl) (by kernel_rfl) (by kernel_rfl) (fun _ _ _ h => h) (Or.inl ⟨by rfl, ?_⟩) hS ?_
          rotate_left
          focus (intro w hSw; (try dsimp only at hSw); go_simp; try with_reducible rfl)
          try simp only [Act.put, List.setIfInBounds_toArray, List.set_cons_zero, List.set_cons_succ, List.getElem_toArray, List.getElem_cons_zero, List.getElem_cons_succ]
          refine wpAnyT_take (i := 5) (v := ?_) rfl (by kernel_rfl) (by kernel_rfl) (by kernel_rfl) (by kernel_rfl) (fun _ _ _ h => h) (Or.inl ⟨by rfl, ?_⟩) hS ?_
          rotate_left
          focus (intro w hSw; (try dsimp only at hSw); go_simp; try with_reducible rfl)
          try simp only [Act.put, List.setIfInBounds_toArray, List.set_cons_zero, List.set_cons_succ, List.getElem_toArray, List.getElem_cons_zero, List.getElem_cons_succ]
          refine wpAnyT_take (i := 6) (v := ?_) rfl (by kernel_rfl) (by kernel_rfl) (by kernel_rfl) (by kernel_rfl) (fun _ _ _ h => h) (Or.inl ⟨by rfl, ?_⟩) hS ?_
          rotate_left
          focus (intro w hSw; (try dsimp only at hSw); go_simp; try with_reducible rfl)
          try simp only [Act.put, List.setIfInBounds_toArray, List.set_cons_zero, List.set_cons_succ, List.getElem_toArray, List.getElem_cons_zero, List.getElem_cons_succ]
          refine wpAnyT_take (i := 7) (v := ?_) rfl (by kernel_rfl) (by kernel_rfl) (by kernel_rfl) (by kernel_rfl) (fun _ _ _ h => h) (Or.inl ⟨by rfl, ?_⟩) hS ?_
          rotate_left
          focus (intro w hSw; (try dsimp only at hSw); go_simp; try with_reducible rfl)
          try simp only [Act.put, List.setIfInBounds_toArray, List.set_cons_zero, List.set_cons_succ, List.getElem_toArray, List.getElem_cons_zero, List.getElem_cons_succ]
          refine wpAnyT_take (i := 8) (v := ?_) rfl (by kernel_rfl) (by kernel_rfl) (by kernel_rfl) (by kernel_rfl) (fun _ _ _ h => h) (Or.inl ⟨by rfl, ?_⟩) hS ?_
          rotate_left
          focus (intro w hSw; (try dsimp only at hSw); go_simp; try with_reducible rfl)
          try simp only [Act.put, List.setIfInBounds_toArray, List.set_cons_zero, List.set_cons_succ, List.getElem_toArray, List.getElem_cons_zero, List.getElem_cons_succ]
          refine wpAnyT_take (i := 9) (v := ?_) rfl (by kernel_rfl) (by kernel_rfl) (by kernel_rfl) (by kernel_rfl) (fun _ _ _ h => h) (Or.inl ⟨by rfl, ?_⟩) hS ?_
          rotate_left
          focus (intro w hSw; (try dsimp only at hSw); go_simp; try with_reducible rfl)
          try simp only [Act.put, List.setIfInBounds_toArray, List.set_cons_zero, List.set_cons_succ, List.getElem_toArray, List.getElem_cons_zero, List.getElem_cons_succ]
          have hP := spec_l4Put A2 xs c2 ⟨to, -x, at0⟩ wz _ _ hownU.rg (by omega)
          refine wpAnyT_ready (rs := [10]) (by kernel_rfl) (by simp) (AllReadyT.cons rfl (fun K hK => ?_) AllReadyT.nil)
          (go_simp; (try simp only [hwx1, hwx2]); (with_reducible refine hP.mono ?_); rintro en w9 ⟨A9, c9, rfl, ho9, hm9⟩; have T0' := U0.mid hm9 (Or.inr (Nat.zero_le _)); have T2' := U2.mid hm9 (Or.inr (Nat.zero_le _)); have T3' := U3.mid hm9 (Or.inr (Nat.zero_le _)); have f0' := cell_keep hm9 (by have := U3.1; omega) (Or.inr (Nat.zero_le _)) f0; go_wp2_with fail)
          refine hK.out _ _ (Or.inr ⟨T3'.cell 2 rfl, f0'⟩) (fun _ => ?_)
          clear hK K
          try simp only [Act.put, List.setIfInBounds_toArray, List.set_cons_zero, List.set_cons_succ, List.getElem_toArray, List.getElem_cons_zero, List.getElem_cons_succ]
          have hmr9 := hmu.trans hm9
          have hGz : G < wz.heap.size := U3.1
          have hS3 := And.intro (T3'.cell 2 rfl) f0'
          have hr2 := T3'.cell 2 rfl
          have hrf := T3'.2.2
          clear hS U0 U2 U3 hmu hP
          refine wpAnyT_take (i := 11) (v := ?_) rfl (by kernel_rfl) (by kernel_rfl) (by kernel_rfl) (by kernel_rfl) (fun _ _ _ h => h) (Or.inl ⟨by rfl, ?_⟩) hS3 ?_
          rotate_left
          focus (intro w hSw; (try dsimp only at hSw); go_simp; try with_reducible rfl)
          try simp only [Act.put, List.setIfInBounds_toArray, List.set_cons_zero, List.set_cons_succ, List.getElem_toArray, List.getElem_cons_zero, List.getElem_cons_succ]
          refine wpAnyT_ready (rs := [12]) (by kernel_rfl) (by simp) (AllReadyT.cons rfl (fun K hK => ?_) AllReadyT.nil)
          (go_simp)
          refine hK.out _ _ (Or.inl rfl) (fun _ => ?_)
          clear hK K
          try simp only [Act.put, List.setIfInBounds_toArray, List.set_cons_zero, List.set_cons_succ, List.getElem_toArray, List.getElem_cons_zero, List.getElem_cons_succ]
          refine wpAnyT_done (by kernel_rfl) ?_ _
          go_wp2_with fail
          go_roundw
          case rel =>
            have hst := Mid.setCell w9 (lo := G) (hi := G + 1) (p := ⟨G, 2, none⟩) (.slice A9 (putE ⟨to, -x, at0⟩ xs).length c9) (Nat.le_refl _) (Nat.lt_succ_self _)
            refine ⟨k + 1, A9, c9, _, _, putE ⟨to, -x, at0⟩ xs, sz', by omega, by go_num, by rw [hto], hnsz, Lib.hid ?_, ho9.mid hst (Or.inl (by omega)), .inr (by omega), by have := HGW.out; omega, T0'.mid hst (Or.inl (by omega)), T2'.mid hst (Or.inl (by omega)), T3'.set 2 _ (by simp) rfl, hmr9.storeNew (by show w.heap.size ≤ G; omega) _⟩
            rw [HPE.out, putAll_snoc, ← HX.out]
          case measure => simp [intOf]; omega
        · have hkl : k + 1 = wd.length := by omega
          have hmin : min k (wd.length - 1) = min (k + 1) (wd.length - 1) := by omega
          have hnsz : Hid (sz = s + ((min (k + 1) (wd.length - 1) : Nat) : Int)) := Lib.hid (by rw [hszv, hmin])
          have hto : pathV u s wd.length v (k + 1) = v := by
            rw [pathV, if_neg (by omega), if_neg (by omega)]
          rw [hto] at HPE
          have dk : decide ((k : Int) + 1 < (wd.length : Int)) = false := by simp; omega
          clear hszv hmin HSZ
          generalize sz = sz' at Z3 hnsz
          go_wp2_with fail
          clear dk dx
          have V0 := Z0
          have V2 := Z2
          have V3 := Z3
          have hownV := hown
          have hmv := hmr
          have hcV := hcx
          obtain ⟨wx, hwx⟩ : ∃ wx, wr = wx := ⟨_, rfl⟩
          have hsV : wx.heap.size = wr.heap.size := by rw [hwx]
          rw [hwx] at V0 V2 V3 hownV hmv hcV ⊢
          clear Z0 Z2 Z3 hown hmr hcx
          have hGx : G < wx.heap.size := V3.1
          have hmd := Mid.drew1 wx
          have U0 := V0.mid hmd (Or.inr (Nat.zero_le _))
          have U2 := V2.mid hmd (Or.inr (Nat.zero_le _))
          have U3 := V3.mid hmd (Or.inr (Nat.zero_le _))
          have hownU := hownV.mid hmd (Or.inl (Nat.zero_le _))
          have hmu := hmv.trans hmd
          have g2 := U3.cell 2 rfl
          have f0 := cell_keep hmd (by omega) (Or.inr (Nat.zero_le _)) hcV
          clear V0 V2 V3 hownV hmv hmd hcV
          refine wp_region_T (S := (fun w' => w'.cell? ⟨G, 2, none⟩ = some (.slice A2 xs.length c2) ∧ w'.cell? ⟨B, off + k, none⟩ = some (.int .i64 x))) 12 (by kernel_rfl) ⟨g2, f0⟩ ?_
          generalize World.drew wx = wz at U0 U2 U3 hownU hmu f0 g2 ⊢
          have hS : wz.cell? ⟨G, 2, none⟩ = some (.slice A2 xs.length c2) ∧ wz.cell? ⟨B, off + k, none⟩ = some (.int .i64 x) := ⟨g2, f0⟩
          refine wpAnyT_take (i := 0) (v := ?_) rfl (by kernel_rfl) (by kernel_rfl) (by kernel_rfl) (by kernel_rfl) (fun _ _ _ h => h) (Or.inl ⟨by rfl, ?_⟩) hS ?_
          rotate_left
          focus (intro w hSw; (try dsimp only at hSw); go_simp; try with_reducible rfl)
          try simp only [Act.put, List.setIfInBounds_toArray, List.set_cons_zero, List.set_cons_succ, List.getElem_toArray, List.getElem_cons_zero, List.getElem_cons_succ]
          refine wpAnyT_take (i := 1) (v := ?_) rfl (by kernel_rfl) (by kernel_rfl) (by kernel_rfl) (by kernel_rfl) (fun _ _ _ h => h) (Or.inl ⟨by rfl, ?_⟩) hS ?_
          rotate_left
          focus (intro w hSw; (try dsimp only at hSw); go_simp; try with_reducible rfl)
          try simp only [Act.put, List.setIfInBounds_toArray, List.set_cons_zero, List.set_cons_succ, List.getElem_toArray, List.getElem_cons_zero, List.getElem_cons_succ]
          refine wpAnyT_take (i := 2) (v := ?_) rfl (by kernel_rfl) (by kernel_rfl) (by kernel_rfl) (by kernel_rfl) (fun _ _ _ h => h) (Or.inl ⟨by rfl, ?_⟩) hS ?_
          rotate_left
          focus (intro w hSw; (try dsimp only at hSw); go_simp; try with_reducible rfl)
          try simp only [Act.put, List.setIfInBounds_toArray, List.set_cons_zero, List.set_cons_succ, List.getElem_toArray, List.getElem_cons_zero, List.getElem_cons_succ]
          refine wpAnyT_take (i := 3) (v := ?_) rfl (by kernel_rfl) (by kernel_rfl) (by kernel_rfl) (by kernel_rfl) (fun _ _ _ h => h) (Or.inl ⟨by rfl, ?_⟩) hS ?_
          rotate_left
          focus (intro w hSw; (try dsimp only at hSw); go_simp; try with_reducible rfl)
          try simp only [Act.put, List.setIfInBounds_toArray, List.set_cons_zero, List.set_cons_succ, List.getElem_toArray, List.getElem_cons_zero, List.getElem_cons_succ]
          refine wpAnyT_take (i := 4) (v := ?_) rfl (by kernel_rfl) (by kernel_rfl) (by kernel_rfl) (by kernel_rfl) (fun _ _ _ h => h) (Or.inl ⟨by rfl, ?_⟩) hS ?_
          rotate_left
          focus (intro w hSw; (try dsimp only at hSw); go_simp; try with_reducible rfl)
          try simp only [Act.put, List.setIfInBounds_toArray, List.set_cons_zero, List.set_cons_succ, List.getElem_toArray, List.getElem_cons_zero, List.getElem_cons_succ]
          refine wpAnyT_take (i := 5) (v := ?_) rfl (by kernel_rfl) (by kernel_rfl) (by kernel_rfl) (by kernel_rfl) (fun _ _ _ h => h) (Or.inl ⟨by rfl, ?_⟩) hS ?_
          rotate_left
          focus (intro w hSw; (try dsimp only at hSw); go_simp; try with_reducible rfl)
          try simp only [Act.put, List.setIfInBounds_toArray, List.set_cons_zero, List.set_cons_succ, List.getElem_toArray, List.getElem_cons_zero, List.getElem_cons_succ]
          refine wpAnyT_take (i := 6) (v := ?_) rfl (by kernel_rfl) (by kernel_rfl) (by kernel_rfl) (by kernel_rfl) (fun _ _ _ h => h) (Or.inl ⟨by rfl, ?_⟩) hS ?_
          rotate_left
          focus (intro w hSw; (try dsimp only at hSw); go_simp; try with_reducible rfl)
          try simp only [Act.put, List.setIfInBounds_toArray, List.set_cons_zero, List.set_cons_succ, List.getElem_toArray, List.getElem_cons_zero, List.getElem_cons_succ]
          refine wpAnyT_take (i := 7) (v := ?_) rfl (by kernel_rfl) (by kernel_rfl) (by kernel_rfl) (by kernel_rfl) (fun _ _ _ h => h) (Or.inl ⟨by rfl, ?_⟩) hS ?_
          rotate_left
          focus (intro w hSw; (try dsimp only at hSw); go_simp; try with_reducible rfl)
          try simp only [Act.put, List.setIfInBounds_toArray, List.set_cons_zero, List.set_cons_succ, List.getElem_toArray, List.getElem_cons_zero, List.getElem_cons_succ]
          refine wpAnyT_take (i := 8) (v := ?_) rfl (by kernel_rfl) (by kernel_rfl) (by kernel_rfl) (by kernel_rfl) (fun _ _ _ h => h) (Or.inl ⟨by rfl, ?_⟩) hS ?_
          rotate_left
          focus (intro w hSw; (try dsimp only at hSw); go_simp; try with_reducible rfl)
          try simp only [Act.put, List.setIfInBounds_toArray, List.set_cons_zero, List.set_cons_succ, List.getElem_toArray, List.getElem_cons_zero, List.getElem_cons_succ]
          refine wpAnyT_take (i := 9) (v := ?_) rfl (by kernel_rfl) (by kernel_rfl) (by kernel_rfl) (by kernel_rfl) (fun _ _ _ h => h) (Or.inl ⟨by rfl, ?_⟩) hS ?_
          rotate_left
          focus (intro w hSw; (try dsimp only at hSw); go_simp; try with_reducible rfl)
          try simp only [Act.put, List.setIfInBounds_toArray, List.set_cons_zero, List.set_cons_succ, List.getElem_toArray, List.getElem_cons_zero, List.getElem_cons_succ]
          have hP := spec_l4Put A2 xs c2 ⟨v, -x, at0⟩ wz _ _ hownU.rg (by omega)
          refine wpAnyT_ready (rs := [10]) (by kernel_rfl) (by simp) (AllReadyT.cons rfl (fun K hK => ?_) AllReadyT.nil)
          (go_simp; (try simp only [hwx1, hwx2]); (with_reducible refine hP.mono ?_); rintro en w9 ⟨A9, c9, rfl, ho9, hm9⟩; have T0' := U0.mid hm9 (Or.inr (Nat.zero_le _)); have T2' := U2.mid hm9 (Or.inr (Nat.zero_le _)); have T3' := U3.mid hm9 (Or.inr (Nat.zero_le _)); have f0' := cell_keep hm9 (by have := U3.1; omega) (Or.inr (Nat.zero_le _)) f0; go_wp2_with fail)
          refine hK.out _ _ (Or.inr ⟨T3'.cell 2 rfl, f0'⟩) (fun _ => ?_)
          clear hK K
          try simp only [Act.put, List.setIfInBounds_toArray, List.set_cons_zero, List.set_cons_succ, List.getElem_toArray, List.getElem_cons_zero, List.getElem_cons_succ]
          have hmr9 := hmu.trans hm9
          have hGz : G < wz.heap.size := U3.1
          have hS3 := And.intro (T3'.cell 2 rfl) f0'
          have hr2 := T3'.cell 2 rfl
          have hrf := T3'.2.2
          clear hS U0 U2 U3 hmu hP
          refine wpAnyT_take (i := 11) (v := ?_) rfl (by kernel_rfl) (by kernel_rfl) (by kernel_rfl) (by kernel_rfl) (fun _ _ _ h => h) (Or.inl ⟨by rfl, ?_⟩) hS3 ?_
          rotate_left
          focus (intro w hSw; (try dsimp only at hSw); go_simp; try with_reducible rfl)
          try simp only [Act.put, List.setIfInBounds_toArray, List.set_cons_zero, List.set_cons_succ, List.getElem_toArray, List.getElem_cons_zero, List.getElem_cons_succ]
          refine wpAnyT_ready (rs := [12]) (by kernel_rfl) (by simp) (AllReadyT.cons rfl (fun K hK => ?_) AllReadyT.nil)
          (go_simp)
          refine hK.out _ _ (Or.inl rfl) (fun _ => ?_)
          clear hK K
          try simp only [Act.put, List.setIfInBounds_toArray, List.set_cons_zero, List.set_cons_succ, List.getElem_toArray, List.getElem_cons_zero, List.getElem_cons_succ]
          refine wpAnyT_done (by kernel_rfl) ?_ _
          go_wp2_with fail
          go_roundw
          case rel =>
            have hst := Mid.setCell w9 (lo := G) (hi := G + 1) (p := ⟨G, 2, none⟩) (.slice A9 (putE ⟨v, -x, at0⟩ xs).length c9) (Nat.le_refl _) (Nat.lt_succ_self _)
            refine ⟨k + 1, A9, c9, _, _, putE ⟨v, -x, at0⟩ xs, sz', by omega, by go_num, by rw [hto], hnsz, Lib.hid ?_, ho9.mid hst (Or.inl (by omega)), .inr (by omega), by have := HGW.out; omega, T0'.mid hst (Or.inl (by omega)), T2'.mid hst (Or.inl (by omega)), T3'.set 2 _ (by simp) rfl, hmr9.storeNew (by show w.heap.size ≤ G; omega) _⟩
            rw [HPE.out, putAll_snoc, ← HX.out]
          case measure => simp [intOf]; omega
    · obtain rfl : k = wd.length := by omega
      have hszf : sz = s + (wd.length : Int) - 1 := by rw [hszv, Nat.min_eq_right (by omega)]; omega
      subst hszf
      have hxx := HX.out
      rw [putAll_canon hasc.out] at hxx
      have hGr : G < wr.heap.size := Z3.1
      have HXX := Lib.hid hxx
      clear hszv hxx
      have a0 := Z2.cell 0 rfl
      have a1 := Z2.cell 1 rfl
      have a2 := Z2.cell 2 rfl
      have b0 := Z3.cell 0 rfl
      have b1 := Z3.cell 1 rfl
      have b2 := Z3.cell 2 rfl
      have af := Z2.2.2
      have bf := Z3.2.2
      go_wp2_with fail
      have hcl : (w.heap.size + 1 == G) = false := by simp; omega
      refine bodyPost_ret (v := .tuple #[.agg #[.int .i64 r, .int .i64 (s + (wd.length : Int) - 1), .slice A2 xs.length c2], .bool true]) (by simp [results, Tryz.results91, go_sem, a0, a1, a2, b0, b1, b2, af, bf]) rfl ⟨A2, c2, ?_, ?_, ?_⟩
      · rw [HRS.out, HRE.out, HXX.out]
      · rw [HRE.out, ← HXX.out]
        refine OG.wide (OG.mid hown (a := w.heap.size) (b := w.heap.size + 2) ?_ (Or.inl (by have := HS.out; omega))) (by have := HS.out; omega) (by have := hown.size; simp; omega) (Nat.le_refl _)
        repeat (first | exact Mid.refl _ _ _ | refine Mid.stored ?_ _ (by simp; try omega) (by simp; try omega))
      · repeat (first | exact hmr | refine Mid.storeNew ?_ (by simp; try omega) _)
end Go.Proofs.YtimmnnncgnnkgaaGreat

/- MissingSteps (whether there are some), IsFiniteIndex. -/
namespace Go.Proofs.YtimmnnncgnnkgaaGreat
set_option linter.unusedVariables false
set_option linter.unusedSimpArgs false
open Go.RowKit

/-- Every letter goes on at every vertex. -/
def Full (r n : Nat) (es : List Ed) : Prop := ∀ v : Nat, v < n → ∀ x ∈ lets r, 0 ≤ nextV es v x
/-- The same of the vertices below v, and of the first j letters at v. -/
def FullTo (r : Nat) (es : List Ed) (v j : Nat) : Prop := (∀ u : Nat, u < v → ∀ x ∈ lets r, 0 ≤ nextV es u x) ∧ ∀ x ∈ (lets r).take j, 0 ≤ nextV es v x
theorem FullTo.zero (r : Nat) (es : List Ed) : FullTo r es 0 0 := ⟨fun u h => absurd h (Nat.not_lt_zero _), by simp⟩
theorem FullTo.step {r : Nat} {es : List Ed} {v j : Nat} {x : Int} (hx : (lets r)[j]? = some x) : FullTo r es v (j + 1) ↔ FullTo r es v j ∧ 0 ≤ nextV es v x := by
  unfold FullTo
  rw [take_snocI hx]
  constructor
  · rintro ⟨h1, h2⟩
    exact ⟨⟨h1, fun y hy => h2 y (List.mem_append.2 (.inl hy))⟩, h2 x (by simp)⟩
  · rintro ⟨⟨h1, h2⟩, h3⟩
    refine ⟨h1, fun y hy => ?_⟩
    rcases List.mem_append.1 hy with hy | hy
    · exact h2 y hy
    · simp at hy; subst hy; exact h3
theorem FullTo.row {r : Nat} {es : List Ed} {v : Nat} : FullTo r es v (lets r).length ↔ FullTo r es (v + 1) 0 := by
  unfold FullTo
  rw [List.take_length]
  constructor
  · rintro ⟨h1, h2⟩
    refine ⟨fun u hu x hx => ?_, by simp⟩
    by_cases h : u < v
    · exact h1 u h x hx
    · obtain rfl : u = v := by omega
      exact h2 x hx
  · rintro ⟨h1, -⟩
    exact ⟨fun u hu x hx => h1 u (by omega) x hx, fun x hx => h1 v (by omega) x hx⟩
theorem FullTo.all {r n : Nat} {es : List Ed} : FullTo r es n 0 ↔ Full r n es := ⟨fun h => h.1, fun h => ⟨h, by simp⟩⟩

/-- A subgroup of finite index. -/
structure IsFin (r s : Int) (es : List Ed) : Prop where
  cor : IsCor r s es
  full : Full r.toNat s.toNat es

end Go.Proofs.YtimmnnncgnnkgaaGreat

/- ActionOf, of both, and the law's data. -/
namespace Go.Proofs.YtimmnnncgnnkgaaGreat
set_option linter.unusedVariables false
set_option linter.unusedSimpArgs false
open Go.RowKit

/-- Where the letter x leads from each vertex; for all letters up to k. -/
def rowL (n : Nat) (es : List Ed) (x : Int) : List Int := (List.range n).map fun (v : Nat) => nextV es (v : Int) x
def actL (n : Nat) (es : List Ed) (k : Nat) : List (List Int) := (List.range k).map fun (i : Nat) => rowL n es ((i : Int) + 1)
open Classical in
noncomputable def actI (r s : Int) (es : List Ed) : List (List Int) := if IsFin r s es then actL s.toNat es r.toNat else []
def ActionOfIs (r0 s0 : Int) (d0 : List Ed) (res0 : List (List Int)) : Prop := res0 = actI r0 s0 d0
end Go.Proofs.YtimmnnncgnnkgaaGreat
