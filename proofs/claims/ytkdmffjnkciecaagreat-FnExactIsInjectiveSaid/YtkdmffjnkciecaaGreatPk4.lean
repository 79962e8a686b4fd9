/- Contracts and lemmas of this seat, many texts in one: see the words ahead of each. No condition beyond those typed in each lemma. -/
import Derived.Test.YtkdmffjnkciecaaGreatPk3
import Derived.Test.YtkdmffjnkciecaaGreatPk2
import Derived.Test.YtkdmffjnkciecaaGreatPk1
import Derived.Deep.Slices
import Derived.Deep.Fields
import Derived.ChangeSame

/- IsCore, IsSubgroup, RankOf. -/
namespace Go.Proofs.YtkdmffjnkciecaaGreat
set_option linter.unusedVariables false
set_option linter.unusedSimpArgs false
open Go.RowKit

theorem IsGr.nat {r s : Int} {es : List Ed} (h : IsGr r s es) : ∃ k n : Nat, r = k ∧ s = n := by
  have h1 := h.rank
  have h2 := h.size
  exact ⟨r.toNat, s.toNat, by omega, by omega⟩

set_option maxHeartbeats 3200000 in
set_option maxRecDepth 20000 in
theorem impl_IsCore (r s : Int) (A : Option Addr) (es : List Ed) (c : Nat) (w : World) (lo hi : Nat) (hr : RG w lo hi A es) (hl : es.length ≤ 1048576) (hcl : es.length ≤ c) (b : Bool) (hb : b = true ↔ IsCor r s es) :
    Calls Tryz.prog 66 #[graV r s A es.length c] w fun e w' => e = .returned (.bool b) ∧ Mid 0 0 w w' := by
  have HB := Lib.hid hb
  clear hb
  have hm0 : Mid 0 0 w (w.alloc (.cells #[.int .i64 r, .int .i64 s, .slice A es.length c] 30)) := Mid.alloc _ _
  have b0 := Box.new w #[.int .i64 r, .int .i64 s, .slice A es.length c] 30
  by_cases hf : IsFol r s es
  · obtain ⟨r, n, rfl, rfl⟩ := hf.gr.nat
    have hn1 : 0 < n := by have := hf.gr.size; omega
    have HF := Lib.hid hf
    obtain ⟨T, hT⟩ : ∃ T, trimA 40 ((n : Int), es) = T := ⟨_, rfl⟩
    have HTS : Hid (T.1 = n ↔ leaf n es = none) := Lib.hid (by rw [← hT]; exact trimA_same (g := ((n : Int), es)) (by omega))
    have hTg : IsGr r T.1 T.2 := by rw [← hT]; exact trimA_gr 40 (g := ((n : Int), es)) hf.gr
    obtain ⟨tr, tn, -, htn⟩ := hTg.nat
    obtain ⟨ts, te⟩ := T
    simp only at htn HTS
    subst htn
    have htl := hTg.len
    have HTR := Lib.hid hT
    clear hf hT hTg
    have hTRIM := fun W h => impl_TrimGraph r n A es c W lo hi h HF.out.gr
    simp only [HTR.out] at hTRIM
    have HTRIM := Lib.hid hTRIM
    clear hTRIM HTR
    go_enter Tryz.func66, Tryz.ntmps66
    go_wp2_with fail
    with_reducible refine (impl_IsFolded r n A es c _ _ _ (hr.mid hm0 (Or.inl (Nat.zero_le _))) hl hcl true (iff_of_true rfl HF.out)).mono ?_
    rintro en w1 ⟨rfl, hm1⟩
    replace b0 := b0.mid hm1 (Or.inr (Nat.zero_le _))
    replace hm0 := hm0.trans hm1
    have p0 := b0.cell 0 rfl
    have p1 := b0.cell 1 rfl
    have p2 := b0.cell 2 rfl
    go_wp2_with fail
    with_reducible refine (HTRIM.out _ (hr.mid hm0 (Or.inl (Nat.zero_le _)))).mono ?_
    rintro en w2 ⟨A1, c1, Al, nl, cl, rfl, hog, hm2⟩
    replace b0 := b0.mid hm2 (Or.inr (Nat.zero_le _))
    replace hm0 := hm0.trans hm2
    have hal := Mid.alloc w2 (.cells #[.int .i64 r, .int .i64 tn, .slice A1 te.length c1] 30)
    have bt := Box.new w2 #[.int .i64 r, .int .i64 tn, .slice A1 te.length c1] 30
    replace b0 := b0.mid hal (Or.inr (Nat.zero_le _))
    replace hm0 := hm0.trans hal
    clear p0 p1 p2 HTRIM
    go_wp2_with fail
    generalize w2.alloc (.cells #[.int .i64 r, .int .i64 tn, .slice A1 te.length c1] 30) = w3 at b0 bt hm0 ⊢
    by_cases hts : (tn : Int) = n
    · have hlf := HTS.out.1 hts
      obtain rfl : tn = n := by omega
      obtain ⟨C, hC⟩ : ∃ C, canonG r ((tn : Int), es) = C := ⟨_, rfl⟩
      have hCg : IsGr r C.1 C.2 := by rw [← hC]; exact canonG_gr (g := ((tn : Int), es)) HF.out.gr
      have HB2 : Hid (b = true ↔ (r : Int) = r ∧ C.1 = tn ∧ C.2 = es) := Lib.hid (by
        rw [HB.out]
        constructor
        · intro h
          have h1 := h.canon
          rw [hC] at h1
          exact ⟨rfl, by rw [h1], by rw [h1]⟩
        · rintro ⟨-, h1, h2⟩
          exact ⟨HF.out, hlf, by rw [hC]; exact Prod.ext h1 h2⟩)
      have hcl2 := hCg.len
      have hmd := Mid.drew1 w3
      replace b0 := b0.mid hmd (Or.inr (Nat.zero_le _))
      replace bt := bt.mid hmd (Or.inr (Nat.zero_le _))
      replace hm0 := hm0.trans hmd
      have p0 := b0.cell 0 rfl
      have p1 := b0.cell 1 rfl
      have p2 := b0.cell 2 rfl
      have q1 := bt.cell 1 rfl
      have hCAN := fun W h => impl_CanonicalGraph r tn A es c W lo hi h hcl HF.out.gr
      simp only [hC] at hCAN
      have HCAN := Lib.hid hCAN
      clear hCAN hC hCg HB hlf HTS hts hmd
      refine wp_region_T (S := (fun w' => w'.cell? ⟨w.heap.size, 0, none⟩ = some (.int .i64 r) ∧ w'.cell? ⟨w.heap.size, 1, none⟩ = some (.int .i64 tn) ∧ w'.cell? ⟨w.heap.size, 2, none⟩ = some (.slice A es.length c) ∧ w'.cell? ⟨w2.heap.size, 1, none⟩ = some (.int .i64 tn))) 11 (by kernel_rfl) ⟨p0, p1, p2, q1⟩ ?_
      generalize World.drew w3 = wz at b0 bt hm0 p0 p1 p2 q1 ⊢
      have hS : wz.cell? ⟨w.heap.size, 0, none⟩ = some (.int .i64 r) ∧ wz.cell? ⟨w.heap.size, 1, none⟩ = some (.int .i64 tn) ∧ wz.cell? ⟨w.heap.size, 2, none⟩ = some (.slice A es.length c) ∧ wz.cell? ⟨w2.heap.size, 1, none⟩ = some (.int .i64 tn) := ⟨p0, p1, p2, q1⟩
      refine wpAnyT_take (i := 0) (v := ?_) rfl (by kernel_rfl) (by kernel_rfl) (by kernel_rfl) (by kernel_rfl) (fun _ _ _ h => h) (Or.inl ⟨by rfl, ?_⟩) hS ?_
      rotate_left
      focus (intro w hSw; (try dsimp only at hSw); go_simp; try with_reducible rfl)
      try simp only [Act.put, List.setIfInBounds_toArray, List.set_cons_zero, List.set_cons_succ, List.getElem_toArray, List.getElem_cons_zero, List.getElem_cons_succ]
      refine wpAnyT_take (i := 1) (v := ?_) rfl (by kernel_rfl) (by kernel_rfl) (by kernel_rfl) (by kernel_rfl) (fun _ _ _ h => h) (Or.inl ⟨by rfl, ?_⟩) hS ?_
      rotate_left
      focus (intro w hSw; (try dsimp only at hSw); go_simp; try with_reducible rfl)
      try simp only [Act.put, List.setIfInBounds_toArray, List.set_cons_zero, List.set_cons_succ, List.getElem_toArray, List.getElem_cons_zero, List.getElem_cons_succ]
      refine wpAnyT_take (i := 2) (v := ?_) rfl (by kernel_rfl) (by kernel_rfl) (by kernel_rfl) (by kernel_rfl) (fun _ _ _ h => h) (Or.inl ⟨by rfl, ?_⟩) hS ?_
      rotate_left
      focus (intro w hSw; (try dsimp only at hSw); go_simp; try with_reducible rfl)
      try simp only [Act.put, List.setIfInBounds_toArray, List.set_cons_zero, List.set_cons_succ, List.getElem_toArray, List.getElem_cons_zero, List.getElem_cons_succ]
      refine wpAnyT_take (i := 3) (v := ?_) rfl (by kernel_rfl) (by kernel_rfl) (by kernel_rfl) (by kernel_rfl) (fun _ _ _ h => h) (Or.inl ⟨by rfl, ?_⟩) hS ?_
      rotate_left
      focus (intro w hSw; (try dsimp only at hSw); go_simp; try with_reducible rfl)
      try simp only [Act.put, List.setIfInBounds_toArray, List.set_cons_zero, List.set_cons_succ, List.getElem_toArray, List.getElem_cons_zero, List.getElem_cons_succ]
      refine wpAnyT_take (i := 4) (v := ?_) rfl (by kernel_rfl) (by kernel_rfl) (by kernel_rfl) (by kernel_rfl) (fun _ _ _ h => h) (Or.inl ⟨by rfl, ?_⟩) hS ?_
      rotate_left
      focus (intro w hSw; (try dsimp only at hSw); go_simp; try with_reducible rfl)
      try simp only [Act.put, List.setIfInBounds_toArray, List.set_cons_zero, List.set_cons_succ, List.getElem_toArray, List.getElem_cons_zero, List.getElem_cons_succ]
      refine wpAnyT_take (i := 5) (v := ?_) rfl (by kernel_rfl) (by kernel_rfl) (by kernel_rfl) (by kernel_rfl) (fun _ _ _ h => h) (Or.inl ⟨by rfl, ?_⟩) hS ?_
      rotate_left
      focus (intro w hSw; (try dsimp only at hSw); go_simp; try with_reducible rfl)
      try simp only [Act.put, List.setIfInBounds_toArray, List.set_cons_zero, List.set_cons_succ, List.getElem_toArray, List.getElem_cons_zero, List.getElem_cons_succ]
      refine wpAnyT_take (i := 6) (v := ?_) rfl (by kernel_rfl) (by kernel_rfl) (by kernel_rfl) (by kernel_rfl) (fun _ _ _ h => h) (Or.inl ⟨by rfl, ?_⟩) hS ?_
      rotate_left
      focus (intro w hSw; (try dsimp only at hSw); go_simp; try with_reducible rfl)
      try simp only [Act.put, List.setIfInBounds_toArray, List.set_cons_zero, List.set_cons_succ, List.getElem_toArray, List.getElem_cons_zero, List.getElem_cons_succ]
      refine wpAnyT_take (i := 8) (v := ?_) rfl (by kernel_rfl) (by kernel_rfl) (by kernel_rfl) (by kernel_rfl) (fun _ _ _ h => h) (Or.inl ⟨by rfl, ?_⟩) hS ?_
      rotate_left
      focus (intro w hSw; (try dsimp only at hSw); go_simp; try with_reducible rfl)
      try simp only [Act.put, List.setIfInBounds_toArray, List.set_cons_zero, List.set_cons_succ, List.getElem_toArray, List.getElem_cons_zero, List.getElem_cons_succ]
      refine wpAnyT_ready (rs := [7]) (by kernel_rfl) (by simp) (AllReadyT.cons rfl (fun K hK => ?_) AllReadyT.nil)
      (go_simp; refine (HCAN.out _ (hr.mid hm0 (Or.inl (Nat.zero_le _)))).mono ?_; rintro en w4 ⟨A4, c4, rfl, hog4, hm4⟩; have b0' := b0.mid hm4 (Or.inr (Nat.zero_le _)); have bt' := bt.mid hm4 (Or.inr (Nat.zero_le _)); go_wp2_with fail)
      refine hK.out _ _ (Or.inr ⟨b0'.cell 0 rfl, b0'.cell 1 rfl, b0'.cell 2 rfl, bt'.cell 1 rfl⟩) (fun _ => ?_)
      clear hK K
      try simp only [Act.put, List.setIfInBounds_toArray, List.set_cons_zero, List.set_cons_succ, List.getElem_toArray, List.getElem_cons_zero, List.getElem_cons_succ]
      replace hm0 := hm0.trans hm4
      have hE := impl_EqualGraphs r C.1 A4 C.2 c4 r tn A es c w4 _ _ _ _ hog4.rg (hr.mid hm0 (Or.inl (Nat.zero_le _))) (by omega) hl b (by have h := HB2.out; simpa using h)
      have HE := Lib.hid hE
      clear hS p0 p1 p2 q1 b0 bt HCAN HB2 hE hm4
      refine wpAnyT_ready (rs := [9]) (by kernel_rfl) (by simp) (AllReadyT.cons rfl (fun K hK => ?_) AllReadyT.nil)
      (go_simp; refine HE.out.mono ?_; rintro en w5 ⟨rfl, hm5⟩; have b0 := b0'.mid hm5 (Or.inr (Nat.zero_le _)); have bt := bt'.mid hm5 (Or.inr (Nat.zero_le _)); go_wp2_with fail)
      refine hK.out _ _ (Or.inr ⟨b0.cell 0 rfl, b0.cell 1 rfl, b0.cell 2 rfl, bt.cell 1 rfl⟩) (fun _ => ?_)
      clear hK K
      try simp only [Act.put, List.setIfInBounds_toArray, List.set_cons_zero, List.set_cons_succ, List.getElem_toArray, List.getElem_cons_zero, List.getElem_cons_succ]
      have hS2 : w5.cell? ⟨w.heap.size, 0, none⟩ = some (.int .i64 r) ∧ w5.cell? ⟨w.heap.size, 1, none⟩ = some (.int .i64 tn) ∧ w5.cell? ⟨w.heap.size, 2, none⟩ = some (.slice A es.length c) ∧ w5.cell? ⟨w2.heap.size, 1, none⟩ = some (.int .i64 tn) := ⟨b0.cell 0 rfl, b0.cell 1 rfl, b0.cell 2 rfl, bt.cell 1 rfl⟩
      have hmm := hm0.trans hm5
      clear HE b0' bt'
      refine wpAnyT_take (i := 10) (v := ?_) rfl (by kernel_rfl) (by kernel_rfl) (by kernel_rfl) (by kernel_rfl) (fun _ _ _ h => h) (Or.inl ⟨by rfl, ?_⟩) hS2 ?_
      rotate_left
      focus (intro w hSw; (try dsimp only at hSw); go_simp; try with_reducible rfl)
      try simp only [Act.put, List.setIfInBounds_toArray, List.set_cons_zero, List.set_cons_succ, List.getElem_toArray, List.getElem_cons_zero, List.getElem_cons_succ]
      refine wpAnyT_ready (rs := [11]) (by kernel_rfl) (by simp) (AllReadyT.cons rfl (fun K hK => ?_) AllReadyT.nil)
      (go_simp)
      refine hK.out _ _ (Or.inl rfl) (fun _ => ?_)
      clear hK K
      try simp only [Act.put, List.setIfInBounds_toArray, List.set_cons_zero, List.set_cons_succ, List.getElem_toArray, List.getElem_cons_zero, List.getElem_cons_succ]
      refine wpAnyT_done (by kernel_rfl) ?_ _
      go_wp2_with fail
      go_ret
      exact ⟨rfl, hmm⟩
    · obtain rfl : b = false := bool_no HB.out fun h => hts (HTS.out.2 h.leaf)
      have d1 : ((tn : Int) == (n : Int)) = false := by simpa only [beq_eq_false_iff_ne] using hts
      have d2 : ¬ tn = n := fun h => hts (by rw [h])
      have u0 := wg_cell b0.1 (b0.cell 0 rfl)
      have u1 := wg_cell b0.1 (b0.cell 1 rfl)
      have u2 := wg_cell b0.1 (b0.cell 2 rfl)
      have v1 := wg_cell bt.1 (bt.cell 1 rfl)
      clear HB HTS hts
      refine wp_region_quiet_wg (by kernel_rfl) (by kernel_rfl) ?_
      repeat
        (with_reducible refine wpQuiet_step (fun K hK => ?_))
        go_simp
        first
          | ((with_reducible refine hK _ ?_); clear hK K)
          | (rw [if_neg (by decide)]; (with_reducible refine hK _ ?_); clear hK K)
          | (apply Exists.intro; refine ⟨fun _ => ?_, hK _ ?_⟩; (fail); clear hK K)
      with_reducible refine wpQuiet_nil ?_
      intro _ hw'
      obtain ⟨⟨nq, osq⟩, hw''⟩ := hw'
      subst hw''
      go_wp2_with fail
      go_ret
      exact ⟨rfl, hm0.trans (Mid.ofWg w3 nq osq)⟩
  · obtain rfl : b = false := bool_no HB.out fun h => hf h.fol
    have HF := Lib.hid hf
    clear hf HB
    go_enter Tryz.func66, Tryz.ntmps66
    go_wp2_with fail
    with_reducible refine (impl_IsFolded r s A es c _ _ _ (hr.mid hm0 (Or.inl (Nat.zero_le _))) hl hcl false (iff_of_false Bool.false_ne_true HF.out)).mono ?_
    rintro en w1 ⟨rfl, hm1⟩
    go_wp2_with fail
    go_ret
    exact ⟨rfl, hm0.trans hm1⟩

set_option maxHeartbeats 3200000 in
set_option maxRecDepth 20000 in
theorem spec_IsCore (r s : Int) (A : Option Addr) (es : List Ed) (c : Nat) (w : World) (lo hi : Nat) (hr : RG w lo hi A es) (hl : es.length ≤ 1048576) (b : Bool) (hb : b = true ↔ IsCor r s es) :
    Calls Tryz.prog 92 #[graV r s A es.length c] w fun e w' => e = .returned (.bool b) ∧ Mid 0 0 w w' := by
  have HB := Lib.hid hb
  clear hb
  have hm0 : Mid 0 0 w (w.alloc (.cells #[.int .i64 r, .int .i64 s, .slice A es.length c] 30)) := Mid.alloc _ _
  have b0 := Box.new w #[.int .i64 r, .int .i64 s, .slice A es.length c] 30
  by_cases hf : IsFol r s es
  · obtain ⟨r, n, rfl, rfl⟩ := hf.gr.nat
    have HF := Lib.hid hf
    clear hf
    have hFol := fun W h => spec_IsFolded r n A es c W lo hi h hl true (iff_of_true rfl HF.out)
    have hLeaf := fun W h => spec_l8Leaf r n A es c W lo hi h HF.out.gr
    obtain ⟨lf, hlf⟩ : ∃ lf, leafI n es = lf := ⟨_, rfl⟩
    have HLF := Lib.hid hlf
    simp only [hlf] at hLeaf
    clear hlf
    have HFol := Lib.hid hFol
    have HLeaf := Lib.hid hLeaf
    clear hFol hLeaf
    by_cases hln : leaf n es = none
    · have hlf0 : lf = -1 := by rw [← HLF.out, leafI_none hln]
      subst hlf0
      obtain ⟨C, hC⟩ : ∃ C, canonG r ((n : Int), es) = C := ⟨_, rfl⟩
      have hCg : IsGr r C.1 C.2 := by rw [← hC]; exact canonG_gr (g := ((n : Int), es)) HF.out.gr
      have HB2 : Hid (b = true ↔ (r : Int) = r ∧ C.1 = n ∧ C.2 = es) := Lib.hid (by
        rw [HB.out]
        constructor
        · intro h
          have h1 := h.canon
          rw [hC] at h1
          exact ⟨rfl, by rw [h1], by rw [h1]⟩
        · rintro ⟨-, h1, h2⟩
          exact ⟨HF.out, hln, by rw [hC]; exact Prod.ext h1 h2⟩)
      have hcl2 := hCg.len
      have hCAN := fun W h => spec_CanonicalGraph r n A es c W lo hi h HF.out.gr
      simp only [hC] at hCAN
      have HCAN := Lib.hid hCAN
      clear hCAN hC hCg HB hln HLF
      go_enter Tryz.func92, Tryz.ntmps92
      go_wp2_with fail
      generalize w.alloc (.cells #[.int .i64 r, .int .i64 n, .slice A es.length c] 30) = w3 at b0 hm0 ⊢
      have hmd := Mid.drew1 w3
      replace b0 := b0.mid hmd (Or.inr (Nat.zero_le _))
      replace hm0 := hm0.trans hmd
      have p0 := b0.cell 0 rfl
      have p1 := b0.cell 1 rfl
      have p2 := b0.cell 2 rfl
      clear hmd
      refine wp_region_T (S := (fun w' => w'.cell? ⟨w.heap.size, 0, none⟩ = some (.int .i64 r) ∧ w'.cell? ⟨w.heap.size, 1, none⟩ = some (.int .i64 n) ∧ w'.cell? ⟨w.heap.size, 2, none⟩ = some (.slice A es.length c))) 13 (by kernel_rfl) ⟨p0, p1, p2⟩ ?_
      generalize World.drew w3 = wz at b0 hm0 p0 p1 p2 ⊢
      have hS : wz.cell? ⟨w.heap.size, 0, none⟩ = some (.int .i64 r) ∧ wz.cell? ⟨w.heap.size, 1, none⟩ = some (.int .i64 n) ∧ wz.cell? ⟨w.heap.size, 2, none⟩ = some (.slice A es.length c) := ⟨p0, p1, p2⟩
      refine wpAnyT_take (i := 0) (v := ?_) rfl (by kernel_rfl) (by kernel_rfl) (by kernel_rfl) (by kernel_rfl) (fun _ _ _ h => h) (Or.inl ⟨by rfl, ?_⟩) hS ?_
      rotate_left
      focus (intro w hSw; (try dsimp only at hSw); go_simp; try with_reducible rfl)
      try simp only [Act.put, List.setIfInBounds_toArray, List.set_cons_zero, List.set_cons_succ, List.getElem_toArray, List.getElem_cons_zero, List.getElem_cons_succ]
      refine wpAnyT_ready (rs := [1]) (by kernel_rfl) (by simp) (AllReadyT.cons rfl (fun K hK => ?_) AllReadyT.nil)
      (go_simp; refine (HFol.out _ (hr.mid hm0 (Or.inl (Nat.zero_le _)))).mono ?_; rintro en w4 ⟨rfl, hm4⟩; have b1 := b0.mid hm4 (Or.inr (Nat.zero_le _)); go_wp2_with fail)
      refine hK.out _ _ (Or.inr ⟨b1.cell 0 rfl, b1.cell 1 rfl, b1.cell 2 rfl⟩) (fun _ => ?_)
      clear hK K
      try simp only [Act.put, List.setIfInBounds_toArray, List.set_cons_zero, List.set_cons_succ, List.getElem_toArray, List.getElem_cons_zero, List.getElem_cons_succ]
      replace hm0 := hm0.trans hm4
      have hS4 : w4.cell? ⟨w.heap.size, 0, none⟩ = some (.int .i64 r) ∧ w4.cell? ⟨w.heap.size, 1, none⟩ = some (.int .i64 n) ∧ w4.cell? ⟨w.heap.size, 2, none⟩ = some (.slice A es.length c) := ⟨b1.cell 0 rfl, b1.cell 1 rfl, b1.cell 2 rfl⟩
      clear b0 hS p0 p1 p2 hm4 HFol
      refine wpAnyT_take (i := 2) (v := ?_) rfl (by kernel_rfl) (by kernel_rfl) (by kernel_rfl) (by kernel_rfl) (fun _ _ _ h => h) (Or.inl ⟨by rfl, ?_⟩) hS4 ?_
      rotate_left
      focus (intro w hSw; (try dsimp only at hSw); go_simp; try with_reducible rfl)
      try simp only [Act.put, List.setIfInBounds_toArray, List.set_cons_zero, List.set_cons_succ, List.getElem_toArray, List.getElem_cons_zero, List.getElem_cons_succ]
      refine wpAnyT_take (i := 3) (v := ?_) rfl (by kernel_rfl) (by kernel_rfl) (by kernel_rfl) (by kernel_rfl) (fun _ _ _ h => h) (Or.inl ⟨by rfl, ?_⟩) hS4 ?_
      rotate_left
      focus (intro w hSw; (try dsimp only at hSw); go_simp; try with_reducible rfl)
      try simp only [Act.put, List.setIfInBounds_toArray, List.set_cons_zero, List.set_cons_succ, List.getElem_toArray, List.getElem_cons_zero, List.getElem_cons_succ]
      refine wpAnyT_ready (rs := [4]) (by kernel_rfl) (by simp) (AllReadyT.cons rfl (fun K hK => ?_) AllReadyT.nil)
      (go_simp; refine (HLeaf.out _ (hr.mid hm0 (Or.inl (Nat.zero_le _)))).mono ?_; rintro en w5 ⟨rfl, hm5⟩; have b2 := b1.mid hm5 (Or.inr (Nat.zero_le _)); go_wp2_with fail)
      refine hK.out _ _ (Or.inr ⟨b2.cell 0 rfl, b2.cell 1 rfl, b2.cell 2 rfl⟩) (fun _ => ?_)
      clear hK K
      try simp only [Act.put, List.setIfInBounds_toArray, List.set_cons_zero, List.set_cons_succ, List.getElem_toArray, List.getElem_cons_zero, List.getElem_cons_succ]
      replace hm0 := hm0.trans hm5
      have hS5 : w5.cell? ⟨w.heap.size, 0, none⟩ = some (.int .i64 r) ∧ w5.cell? ⟨w.heap.size, 1, none⟩ = some (.int .i64 n) ∧ w5.cell? ⟨w.heap.size, 2, none⟩ = some (.slice A es.length c) := ⟨b2.cell 0 rfl, b2.cell 1 rfl, b2.cell 2 rfl⟩
      clear b1 hS4 hm5 HLeaf
      refine wpAnyT_take (i := 5) (v := ?_) rfl (by kernel_rfl) (by kernel_rfl) (by kernel_rfl) (by kernel_rfl) (fun _ _ _ h => h) (Or.inl ⟨by rfl, ?_⟩) hS5 ?_
      rotate_left
      focus (intro w hSw; (try dsimp only at hSw); go_simp; try with_reducible rfl)
      try simp only [Act.put, List.setIfInBounds_toArray, List.set_cons_zero, List.set_cons_succ, List.getElem_toArray, List.getElem_cons_zero, List.getElem_cons_succ]
      refine wpAnyT_take (i := 6) (v := ?_) rfl (by kernel_rfl) (by kernel_rfl) (by kernel_rfl) (by kernel_rfl) (fun _ _ _ h => h) (Or.inl ⟨by rfl, ?_⟩) hS5 ?_
      rotate_left
      focus (intro w hSw; (try dsimp only at hSw); go_simp; try with_reducible rfl)
      try simp only [Act.put, List.setIfInBounds_toArray, List.set_cons_zero, List.set_cons_succ, List.getElem_toArray, List.getElem_cons_zero, List.getElem_cons_succ]
      refine wpAnyT_take (i := 7) (v := ?_) rfl (by kernel_rfl) (by kernel_rfl) (by kernel_rfl) (by kernel_rfl) (fun _ _ _ h => h) (Or.inl ⟨by rfl, ?_⟩) hS5 ?_
      rotate_left
      focus (intro w hSw; (try dsimp only at hSw); go_simp; try with_reducible rfl)
      try simp only [Act.put, List.setIfInBounds_toArray, List.set_cons_zero, List.set_cons_succ, List.getElem_toArray, List.getElem_cons_zero, List.getElem_cons_succ]
      refine wpAnyT_take (i := 8) (v := ?_) rfl (by kernel_rfl) (by kernel_rfl) (by kernel_rfl) (by kernel_rfl) (fun _ _ _ h => h) (Or.inl ⟨by rfl, ?_⟩) hS5 ?_
      rotate_left
      focus (intro w hSw; (try dsimp only at hSw); go_simp; try with_reducible rfl)
      try simp only [Act.put, List.setIfInBounds_toArray, List.set_cons_zero, List.set_cons_succ, List.getElem_toArray, List.getElem_cons_zero, List.getElem_cons_succ]
      refine wpAnyT_take (i := 10) (v := ?_) rfl (by kernel_rfl) (by kernel_rfl) (by kernel_rfl) (by kernel_rfl) (fun _ _ _ h => h) (Or.inl ⟨by rfl, ?_⟩) hS5 ?_
      rotate_left
      focus (intro w hSw; (try dsimp only at hSw); go_simp; try with_reducible rfl)
      try simp only [Act.put, List.setIfInBounds_toArray, List.set_cons_zero, List.set_cons_succ, List.getElem_toArray, List.getElem_cons_zero, List.getElem_cons_succ]
      refine wpAnyT_ready (rs := [9]) (by kernel_rfl) (by simp) (AllReadyT.cons rfl (fun K hK => ?_) AllReadyT.nil)
      (go_simp; refine (HCAN.out _ (hr.mid hm0 (Or.inl (Nat.zero_le _)))).mono ?_; rintro en w6 ⟨A6, c6, rfl, hog6, hm6⟩; have b3 := b2.mid hm6 (Or.inr (Nat.zero_le _)); go_wp2_with fail)
      refine hK.out _ _ (Or.inr ⟨b3.cell 0 rfl, b3.cell 1 rfl, b3.cell 2 rfl⟩) (fun _ => ?_)
      clear hK K
      try simp only [Act.put, List.setIfInBounds_toArray, List.set_cons_zero, List.set_cons_succ, List.getElem_toArray, List.getElem_cons_zero, List.getElem_cons_succ]
      replace hm0 := hm0.trans hm6
      have hE := spec_EqualGraphs r C.1 A6 C.2 c6 r n A es c w6 _ _ _ _ hog6.rg (hr.mid hm0 (Or.inl (Nat.zero_le _))) (by omega) hl b (by have h := HB2.out; simpa using h)
      have HE := Lib.hid hE
      clear hS5 b2 HCAN HB2 hE hm6
      refine wpAnyT_ready (rs := [11]) (by kernel_rfl) (by simp) (AllReadyT.cons rfl (fun K hK => ?_) AllReadyT.nil)
      (go_simp; refine HE.out.mono ?_; rintro en w7 ⟨rfl, hm7⟩; have b4 := b3.mid hm7 (Or.inr (Nat.zero_le _)); go_wp2_with fail)
      refine hK.out _ _ (Or.inr ⟨b4.cell 0 rfl, b4.cell 1 rfl, b4.cell 2 rfl⟩) (fun _ => ?_)
      clear hK K
      try simp only [Act.put, List.setIfInBounds_toArray, List.set_cons_zero, List.set_cons_succ, List.getElem_toArray, List.getElem_cons_zero, List.getElem_cons_succ]
      have hS7 : w7.cell? ⟨w.heap.size, 0, none⟩ = some (.int .i64 r) ∧ w7.cell? ⟨w.heap.size, 1, none⟩ = some (.int .i64 n) ∧ w7.cell? ⟨w.heap.size, 2, none⟩ = some (.slice A es.length c) := ⟨b4.cell 0 rfl, b4.cell 1 rfl, b4.cell 2 rfl⟩
      have hmm := hm0.trans hm7
      clear HE b3
      refine wpAnyT_take (i := 12) (v := ?_) rfl (by kernel_rfl) (by kernel_rfl) (by kernel_rfl) (by kernel_rfl) (fun _ _ _ h => h) (Or.inl ⟨by rfl, ?_⟩) hS7 ?_
      rotate_left
      focus (intro w hSw; (try dsimp only at hSw); go_simp; try with_reducible rfl)
      try simp only [Act.put, List.setIfInBounds_toArray, List.set_cons_zero, List.set_cons_succ, List.getElem_toArray, List.getElem_cons_zero, List.getElem_cons_succ]
      refine wpAnyT_ready (rs := [13]) (by kernel_rfl) (by simp) (AllReadyT.cons rfl (fun K hK => ?_) AllReadyT.nil)
      (go_simp)
      refine hK.out _ _ (Or.inl rfl) (fun _ => ?_)
      clear hK K
      try simp only [Act.put, List.setIfInBounds_toArray, List.set_cons_zero, List.set_cons_succ, List.getElem_toArray, List.getElem_cons_zero, List.getElem_cons_succ]
      refine wpAnyT_done (by kernel_rfl) ?_ _
      go_wp2_with fail
      go_ret
      exact ⟨rfl, hmm⟩
    · obtain rfl : b = false := bool_no HB.out fun h => hln h.leaf
      obtain ⟨v, hv⟩ : ∃ v : Nat, leaf n es = some v := by
        cases h : leaf n es with
        | none => exact absurd h hln
        | some v => exact ⟨v, rfl⟩
      have hlf0 : lf = v := by rw [← HLF.out, leafI_some hv]
      subst hlf0
      have d1 : decide ((v : Int) < 0) = false := by simp
      clear HB hln hv HLF
      go_enter Tryz.func92, Tryz.ntmps92
      go_wp2_with fail
      generalize w.alloc (.cells #[.int .i64 r, .int .i64 n, .slice A es.length c] 30) = w3 at b0 hm0 ⊢
      have u0 := wg_cell b0.1 (b0.cell 0 rfl)
      have u1 := wg_cell b0.1 (b0.cell 1 rfl)
      have u2 := wg_cell b0.1 (b0.cell 2 rfl)
      have hA1 := fun m os => HFol.out (wg w3 m os) (hr.mid (hm0.trans (Mid.ofWg w3 m os)) (Or.inl (Nat.zero_le _)))
      have hA2 := fun m os => HLeaf.out (wg w3 m os) (hr.mid (hm0.trans (Mid.ofWg w3 m os)) (Or.inl (Nat.zero_le _)))
      refine wp_region_quiet_wg (by kernel_rfl) (by kernel_rfl) ?_
      repeat
        (with_reducible refine wpQuiet_step (fun K hK => ?_))
        go_simp
        first
          | ((with_reducible refine hK _ ?_); clear hK K)
          | (rw [if_neg (by decide)]; (with_reducible refine hK _ ?_); clear hK K)
          | (apply Exists.intro; refine ⟨fun _ => ?_, hK _ ?_⟩; ((first | (go_at_call 93; exact Calls.wg_of (hA1 _ _)) | (go_at_call 122; exact Calls.wg_of (hA2 _ _)))); clear hK K)
      with_reducible refine wpQuiet_nil ?_
      intro _ hw'
      obtain ⟨⟨nq, osq⟩, hw''⟩ := hw'
      subst hw''
      go_wp2_with fail
      go_ret
      exact ⟨rfl, hm0.trans (Mid.ofWg w3 nq osq)⟩
  · obtain rfl : b = false := bool_no HB.out fun h => hf h.fol
    have hFol := fun W h => spec_IsFolded r s A es c W lo hi h hl false (iff_of_false Bool.false_ne_true hf)
    have HFol := Lib.hid hFol
    clear hf HB hFol
    go_enter Tryz.func92, Tryz.ntmps92
    go_wp2_with fail
    generalize w.alloc (.cells #[.int .i64 r, .int .i64 s, .slice A es.length c] 30) = w3 at b0 hm0 ⊢
    have u0 := wg_cell b0.1 (b0.cell 0 rfl)
    have u1 := wg_cell b0.1 (b0.cell 1 rfl)
    have u2 := wg_cell b0.1 (b0.cell 2 rfl)
    have hA1 := fun m os => HFol.out (wg w3 m os) (hr.mid (hm0.trans (Mid.ofWg w3 m os)) (Or.inl (Nat.zero_le _)))
    refine wp_region_quiet_wg (by kernel_rfl) (by kernel_rfl) ?_
    repeat
      (with_reducible refine wpQuiet_step (fun K hK => ?_))
      go_simp
      first
        | ((with_reducible refine hK _ ?_); clear hK K)
        | (rw [if_neg (by decide)]; (with_reducible refine hK _ ?_); clear hK K)
        | (apply Exists.intro; refine ⟨fun _ => ?_, hK _ ?_⟩; ((go_at_call 93; exact Calls.wg_of (hA1 _ _))); clear hK K)
    with_reducible refine wpQuiet_nil ?_
    intro _ hw'
    obtain ⟨⟨nq, osq⟩, hw''⟩ := hw'
    subst hw''
    go_wp2_with fail
    go_ret
    exact ⟨rfl, hm0.trans (Mid.ofWg w3 nq osq)⟩

set_option maxHeartbeats 1600000 in
theorem spec_IsSubgroup (r s : Int) (A : Option Addr) (es : List Ed) (c : Nat) (w : World) (lo hi : Nat) (hr : RG w lo hi A es) (hl : es.length ≤ 1048576) (b : Bool) (hb : b = true ↔ IsCor r s es) :
    Calls Tryz.prog 63 #[graV r s A es.length c] w fun e w' => e = .returned (.bool b) ∧ Mid 0 0 w w' := by
  have hm0 : Mid 0 0 w (w.alloc (.cells #[.int .i64 r, .int .i64 s, .slice A es.length c] 30)) := Mid.alloc _ _
  have HB := Lib.hid hb
  clear hb
  go_enter Tryz.func63, Tryz.ntmps63
  go_wp2_with fail
  with_reducible refine (spec_IsCore r s A es c _ _ _ (hr.mid hm0 (Or.inl (Nat.zero_le _))) hl b HB.out).mono ?_
  rintro en w1 ⟨rfl, hm1⟩
  go_wp2_with fail
  go_ret
  exact ⟨rfl, hm0.trans hm1⟩

open Classical in
/-- The rank of the subgroup, -1 if it is none. -/
noncomputable def rankI (r s : Int) (es : List Ed) : Int := if IsCor r s es then (es.length : Int) - s + 1 else -1

set_option maxHeartbeats 1600000 in
theorem impl_RankOf (r s : Int) (A : Option Addr) (es : List Ed) (c : Nat) (w : World) (lo hi : Nat) (hr : RG w lo hi A es) (hl : es.length ≤ 1048576) (hcl : es.length ≤ c) :
    Calls Tryz.prog 91 #[graV r s A es.length c] w fun e w' => e = .returned (.int .i64 (rankI r s es)) ∧ Mid 0 0 w w' := by
  have hm0 : Mid 0 0 w (w.alloc (.cells #[.int .i64 r, .int .i64 s, .slice A es.length c] 30)) := Mid.alloc _ _
  have b0 := Box.new w #[.int .i64 r, .int .i64 s, .slice A es.length c] 30
  by_cases h : IsCor r s es
  · have HR : Hid (rankI r s es = (es.length : Int) - s + 1) := Lib.hid (by rw [rankI, if_pos h])
    have hsz := h.fol.gr.size
    have HC := Lib.hid h
    clear h
    go_enter Tryz.func91, Tryz.ntmps91
    go_wp2_with fail
    with_reducible refine (impl_IsCore r s A es c _ _ _ (hr.mid hm0 (Or.inl (Nat.zero_le _))) hl hcl true (iff_of_true rfl HC.out)).mono ?_
    rintro en w1 ⟨rfl, hm1⟩
    replace b0 := b0.mid hm1 (Or.inr (Nat.zero_le _))
    replace hm0 := hm0.trans hm1
    have p0 := b0.cell 0 rfl
    have p1 := b0.cell 1 rfl
    have p2 := b0.cell 2 rfl
    go_wp2_with fail
    go_ret
    exact ⟨by rw [HR.out]; rfl, hm0⟩
  · have HR : Hid (rankI r s es = -1) := Lib.hid (by rw [rankI, if_neg h])
    have HC := Lib.hid h
    clear h
    go_enter Tryz.func91, Tryz.ntmps91
    go_wp2_with fail
    with_reducible refine (impl_IsCore r s A es c _ _ _ (hr.mid hm0 (Or.inl (Nat.zero_le _))) hl hcl false (iff_of_false Bool.false_ne_true HC.out)).mono ?_
    rintro en w1 ⟨rfl, hm1⟩
    go_wp2_with fail
    go_ret
    exact ⟨by rw [HR.out]; rfl, hm0.trans hm1⟩

set_option maxHeartbeats 1600000 in
theorem spec_RankOf (r s : Int) (A : Option Addr) (es : List Ed) (c : Nat) (w : World) (lo hi : Nat) (hr : RG w lo hi A es) (hl : es.length ≤ 1048576) :
    Calls Tryz.prog 90 #[graV r s A es.length c] w fun e w' => e = .returned (.int .i64 (rankI r s es)) ∧ Mid 0 0 w w' := by
  have hm0 : Mid 0 0 w (w.alloc (.cells #[.int .i64 r, .int .i64 s, .slice A es.length c] 30)) := Mid.alloc _ _
  have b0 := Box.new w #[.int .i64 r, .int .i64 s, .slice A es.length c] 30
  by_cases h : IsCor r s es
  · have HR : Hid (rankI r s es = (es.length : Int) - s + 1) := Lib.hid (by rw [rankI, if_pos h])
    have hsz := h.fol.gr.size
    have HC := Lib.hid h
    clear h
    go_enter Tryz.func90, Tryz.ntmps90
    go_wp2_with fail
    with_reducible refine (spec_IsSubgroup r s A es c _ _ _ (hr.mid hm0 (Or.inl (Nat.zero_le _))) hl true (iff_of_true rfl HC.out)).mono ?_
    rintro en w1 ⟨rfl, hm1⟩
    replace b0 := b0.mid hm1 (Or.inr (Nat.zero_le _))
    replace hm0 := hm0.trans hm1
    have p0 := b0.cell 0 rfl
    have p1 := b0.cell 1 rfl
    have p2 := b0.cell 2 rfl
    go_wp2_with fail
    go_ret
    exact ⟨by rw [HR.out]; rfl, hm0⟩
  · have HR : Hid (rankI r s es = -1) := Lib.hid (by rw [rankI, if_neg h])
    have HC := Lib.hid h
    clear h
    go_enter Tryz.func90, Tryz.ntmps90
    go_wp2_with fail
    with_reducible refine (spec_IsSubgroup r s A es c _ _ _ (hr.mid hm0 (Or.inl (Nat.zero_le _))) hl false (iff_of_false Bool.false_ne_true HC.out)).mono ?_
    rintro en w1 ⟨rfl, hm1⟩
    go_wp2_with fail
    go_ret
    exact ⟨by rw [HR.out]; rfl, hm0.trans hm1⟩
end Go.Proofs.YtkdmffjnkciecaaGreat

/- MissingSteps (whether there are some), IsFiniteIndex. -/
namespace Go.Proofs.YtkdmffjnkciecaaGreat
set_option linter.unusedVariables false
set_option linter.unusedSimpArgs false
open Go.RowKit

/-- Every letter goes on at every vertex. -/
def Full (r n : Nat) (es : List Ed) : Prop := ∀ v : Nat, v < n → ∀ x ∈ lets r, 0 ≤ nextV es v x
/-- The same of the vertices below v, and of the first j letters at v. -/
def FullTo (r : Nat) (es : List Ed) (v j : Nat) : Prop := (∀ u : Nat, u < v → ∀ x ∈ lets r, 0 ≤ nextV es u x) ∧ ∀ x ∈ (lets r).take j, 0 ≤ nextV es v x
theorem FullTo.zero (r : Nat) (es : List Ed) : FullTo r es 0 0 := ⟨fun u h => absurd h (Nat.not_lt_zero _), by simp⟩
theorem FullTo.step {r : Nat} {es : List Ed} {v j : Nat} {x : Int} (hx : (lets r)[j]? = some x) : FullTo r es v (j + 1) ↔ FullTo r es v j ∧ 0 ≤ nextV es v x := by
  unfold FullTo
  rw [take_snocI hx]
  constructor
  · rintro ⟨h1, h2⟩
    exact ⟨⟨h1, fun y hy => h2 y (List.mem_append.2 (.inl hy))⟩, h2 x (by simp)⟩
  · rintro ⟨⟨h1, h2⟩, h3⟩
    refine ⟨h1, fun y hy => ?_⟩
    rcases List.mem_append.1 hy with hy | hy
    · exact h2 y hy
    · simp at hy; subst hy; exact h3
theorem FullTo.row {r : Nat} {es : List Ed} {v : Nat} : FullTo r es v (lets r).length ↔ FullTo r es (v + 1) 0 := by
  unfold FullTo
  rw [List.take_length]
  constructor
  · rintro ⟨h1, h2⟩
    refine ⟨fun u hu x hx => ?_, by simp⟩
    by_cases h : u < v
    · exact h1 u h x hx
    · obtain rfl : u = v := by omega
      exact h2 x hx
  · rintro ⟨h1, -⟩
    exact ⟨fun u hu x hx => h1 u (by omega) x hx, fun x hx => h1 v (by omega) x hx⟩
theorem FullTo.all {r n : Nat} {es : List Ed} : FullTo r es n 0 ↔ Full r n es := ⟨fun h => h.1, fun h => ⟨h, by simp⟩⟩

set_option maxHeartbeats 1600000 in
theorem impl_lettersO (n : Nat) (w : World) (hn : n ≤ 1000) :
    Calls Tryz.prog 105 #[.int .i64 n] w fun e w' => ∃ A c, e = .returned (.slice A (lets n).length c) ∧ w'.ownsRow w.heap.size 3 1 (.slice A (lets n).length c) (lets n).length (ints (lets n)) ∧ Mid 0 0 w w' := by
  have hm0 : Mid 0 0 w (w.alloc (.cells #[] 3)) := Mid.alloc _ _
  have O0 := owns_empty w 3 1
  go_enter Tryz.func105, Tryz.ntmps105
  go_wp2_with fail
  go_loopw [3, 4] (fun out i wr => ∃ (k : Nat) (A1 : Option Addr) (c1 n1 : Nat), k ≤ n ∧ i = .int .i64 ((k : Int) + 1) ∧ out = .slice A1 n1 c1 ∧ Hid ((lets k).length = n1) ∧
      wr.ownsRow w.heap.size 3 1 (.slice A1 n1 c1) n1 (ints (lets k)) ∧ Mid 0 0 w wr ∧ w.heap.size ≤ wr.heap.size) (fun _ i _ => (n + 1 - intOf i).toNat)
  case atStart => exact ⟨0, _, 0, 0, Nat.zero_le _, rfl, rfl, Lib.hid rfl, O0, hm0, hm0.size⟩
  case round =>
    obtain ⟨k, A1, c1, n1, hk, rfl, rfl, HN, hown, hm, hsz⟩ := hrel
    have hn1 : n1 ≤ 2000 := by have h1 := lets_len k; have h2 := HN.out; omega
    by_cases hlt : k < n
    · have hkn : (k : Int) + 1 ≤ n := by omega
      have hk0 : (0 : Int) ≤ (k : Int) := by omega
      have b4 : wrap64 (-((k : Int) + 1)) = -((k : Int) + 1) := by unfold wrap64; omega
      have HW := Lib.hid hown
      clear hown
      go_wp2_with (at_builtin; refine wpList_push rfl _ _ 38 rfl w.heap.size 3 (.int .i64 0) 1 8 undSI infoI rfl (by decide) _ _ _ rfl HW.out 2 [.int .i64 ((k : Int) + 1), .int .i64 (-((k : Int) + 1))] rfl rfl ?c1 ?c2 ?c3 hsz ?next)
      case c1 => exact one_of_ints [(k : Int) + 1, -((k : Int) + 1)]
      case c2 => unfold maxLen; omega
      case c3 => omega
      case next =>
        intro v' w3 hown1 hgr _
        obtain ⟨A3, c3, rfl, -, -⟩ := owns_shape hown1
        have hm3 := Mid.of_grownRow HW.out hgr
        go_wp2_with fail
        go_roundw
        case rel =>
          refine ⟨k + 1, A3, c3, n1 + 2, by omega, by go_num, rfl, Lib.hid (by have := HN.out; simp [lets]; omega), ?_, hm.transNew hm3 (Or.inl (Nat.le_refl _)), Nat.le_trans hsz hm3.size⟩
          rw [lets, ints_append]
          exact hown1
        case measure => simp [intOf]; omega
    · obtain rfl : k = n := by omega
      have hx := HN.out
      have hsz2 := hm.size
      go_wp2_with fail
      go_ret
      exact ⟨_, _, (by rw [hx]; rfl), (by rw [hx]; exact hown), hm⟩

set_option maxHeartbeats 1600000 in
theorem spec_l5LettersO (n : Nat) (w : World) (hn : n ≤ 1000) :
    Calls Tryz.prog 125 #[.int .i64 n] w fun e w' => ∃ A c, e = .returned (.slice A (lets n).length c) ∧ w'.ownsRow w.heap.size 3 1 (.slice A (lets n).length c) (lets n).length (ints (lets n)) ∧ Mid 0 0 w w' := by
  have hm0 : Mid 0 0 w (w.alloc (.cells #[] 3)) := Mid.alloc _ _
  have O0 := owns_empty w 3 1
  go_enter Tryz.func125, Tryz.ntmps125
  go_wp2_with fail
  go_loopw [3, 4] (fun out i wr => ∃ (k : Nat) (A1 : Option Addr) (c1 n1 : Nat), k ≤ n ∧ i = .int .i64 ((k : Int) + 1) ∧ out = .slice A1 n1 c1 ∧ Hid ((lets k).length = n1) ∧
      wr.ownsRow w.heap.size 3 1 (.slice A1 n1 c1) n1 (ints (lets k)) ∧ Mid 0 0 w wr ∧ w.heap.size ≤ wr.heap.size) (fun _ i _ => (n + 1 - intOf i).toNat)
  case atStart => exact ⟨0, _, 0, 0, Nat.zero_le _, rfl, rfl, Lib.hid rfl, O0, hm0, hm0.size⟩
  case round =>
    obtain ⟨k, A1, c1, n1, hk, rfl, rfl, HN, hown, hm, hsz⟩ := hrel
    have hn1 : n1 ≤ 2000 := by have h1 := lets_len k; have h2 := HN.out; omega
    by_cases hlt : k < n
    · have hkn : (k : Int) + 1 ≤ n := by omega
      have hk0 : (0 : Int) ≤ (k : Int) := by omega
      have b4 : wrap64 (-((k : Int) + 1)) = -((k : Int) + 1) := by unfold wrap64; omega
      have HW := Lib.hid hown
      clear hown
      go_wp2_with (first | (at_builtin; refine wpList_pushI rfl _ _ rfl w.heap.size A1 n1 c1 (lets k) rfl HW.out ((k : Int) + 1) rfl (by omega) hsz ?_; intro A2 c2 w2 hown2 hm2; have hsz2 := Nat.le_trans hsz hm2.size; have HW2 := Lib.hid hown2; clear hown2) | (at_builtin; refine wpList_pushI rfl _ _ rfl w.heap.size A2 (n1 + 1) c2 (lets k ++ [(k : Int) + 1]) rfl HW2.out (-((k : Int) + 1)) rfl (by omega) hsz2 ?_; intro A3 c3 w3 hown3 hm3))
      go_roundw
      case rel =>
        refine ⟨k + 1, A3, c3, n1 + 1 + 1, by omega, by go_num, rfl, Lib.hid (by have := HN.out; simp [lets]; omega), ?_, (hm.transNew hm2 (Or.inl (Nat.le_refl _))).transNew hm3 (Or.inl (Nat.le_refl _)), Nat.le_trans hsz2 hm3.size⟩
        rw [List.append_assoc] at hown3
        exact hown3
      case measure => simp [intOf]; omega
    · obtain rfl : k = n := by omega
      have hx := HN.out
      have hsz2 := hm.size
      go_wp2_with fail
      go_ret
      exact ⟨_, _, (by rw [hx]; rfl), (by rw [hx]; exact hown), hm⟩

set_option maxHeartbeats 6400000 in
set_option maxRecDepth 20000 in
theorem impl_MissingSteps (r n : Nat) (A : Option Addr) (es : List Ed) (c : Nat) (w : World) (lo hi : Nat) (hr : RG w lo hi A es) (hcl : es.length ≤ c) (hf : IsFol r n es) :
    Calls Tryz.prog 74 #[graV r n A es.length c] w fun e w' => ∃ A1 n1 c1, e = .returned (.slice A1 n1 c1) ∧ (n1 = 0 ↔ Full r n es) ∧ Mid 0 0 w w' := by
  have hg := hf.gr
  have hn40 : n ≤ 40 := by have := hg.size; omega
  have hr3 : r ≤ 3 := by have := hg.rank; omega
  have hl := hg.len
  have HGL := Lib.hid (show ∀ e ∈ es, 1 ≤ e.l ∧ e.l ≤ 3 from fun e he => by have := hg.all e he; unfold InG at this; omega)
  have HF := Lib.hid hf
  have hm0 : Mid 0 0 w ((w.alloc (.cells #[.int .i64 r, .int .i64 n, .slice A es.length c] 30)).alloc (.cells #[] 72)) := (Mid.alloc _ _).trans (Mid.alloc _ _)
  have b0 := (Box.new w #[.int .i64 r, .int .i64 n, .slice A es.length c] 30).mid (Mid.alloc _ (.cells #[] 72)) (Or.inr (Nat.zero_le _))
  have O0 := owns_empty (w.alloc (.cells #[.int .i64 r, .int .i64 n, .slice A es.length c] 30)) 72 3
  rw [World.size_alloc] at O0
  clear hf hg
  go_enter Tryz.func74, Tryz.ntmps74
  go_wp2_with fail
  with_reducible refine (impl_IsFolded r n A es c _ _ _ (hr.mid hm0 (Or.inl (Nat.zero_le _))) (by omega) hcl true (iff_of_true rfl HF.out)).mono ?_
  rintro en w1 ⟨rfl, hm1⟩
  replace b0 := b0.mid hm1 (Or.inr (Nat.zero_le _))
  replace O0 := owns_mid O0 hm1 (Or.inl (Nat.zero_le _))
  replace hm0 := hm0.trans hm1
  clear hm1
  go_wp2_with fail
  go_loopw [3, 4] (fun out vv wr => ∃ (v : Nat) (A1 : Option Addr) (n1 c1 : Nat) (fs : List Ed), v ≤ n ∧ vv = .int .i64 v ∧ out = .slice A1 n1 c1 ∧ n1 ≤ 6 * v ∧ Hid (n1 = 0 ↔ FullTo r es v 0) ∧ wr.ownsRow (w.heap.size + 1) 72 3 (.slice A1 n1 c1) n1 (ints (edI fs)) ∧
      Box wr w.heap.size [.int .i64 r, .int .i64 n, .slice A es.length c] ∧ Mid 0 0 w wr) (fun _ v _ => n - (intOf v).toNat)
  case atStart => exact ⟨0, _, 0, 0, [], Nat.zero_le _, rfl, rfl, Nat.le_refl _, Lib.hid (iff_of_true rfl (FullTo.zero r es)), O0, b0, hm0⟩
  case round =>
    clear O0 b0 hm0
    obtain ⟨wo, hwo⟩ : ∃ wo, wo = wr := ⟨_, rfl⟩
    subst hwo
    obtain ⟨v, A1, n1, c1, fs, hv, rfl, rfl, hn1, HQ, hout, b0, hm⟩ := hrel
    have p0 := b0.cell 0 rfl
    have p1 := b0.cell 1 rfl
    have p2 := b0.cell 2 rfl
    by_cases hlt : v < n
    · have hv3 : (v : Int) < (n : Int) := by omega
      have hv0 : (0 : Int) ≤ (v : Int) := by omega
      go_wp2_with fail
      with_reducible refine (impl_lettersO r _ (by omega)).mono ?_
      rintro en w4 ⟨A4, c4, rfl, hL4, hm4⟩
      have hwo1 : w.heap.size < wo.heap.size := b0.1
      replace b0 := b0.mid hm4 (Or.inr (Nat.zero_le _))
      replace hout := owns_mid hout hm4 (Or.inl (Nat.zero_le _))
      replace hm := hm.trans hm4
      clear p0 p1 p2 hm4
      have HLL := Lib.hid (lets_len r)
      obtain ⟨LL, hLL⟩ : ∃ LL, (lets r).length = LL := ⟨_, rfl⟩
      have hLL6 : LL ≤ 6 := by have := HLL.out; omega
      rw [hLL] at hL4 ⊢
      have HLn := Lib.hid hLL
      clear hLL
      go_wp2_with fail
      go_loopw [3, 22] (fun out jv wr => ∃ (j : Nat) (A1 : Option Addr) (n1 c1 : Nat) (fs : List Ed), j ≤ LL ∧ jv = .int .i64 j ∧ out = .slice A1 n1 c1 ∧ n1 ≤ 6 * v + j ∧ Hid (n1 = 0 ↔ FullTo r es v j) ∧ wr.ownsRow (w.heap.size + 1) 72 3 (.slice A1 n1 c1) n1 (ints (edI fs)) ∧
          Hid (wr.ownsRow wo.heap.size 3 1 (.slice A4 LL c4) LL (ints (lets r))) ∧ Box wr w.heap.size [.int .i64 r, .int .i64 n, .slice A es.length c] ∧ Mid 0 0 w wr) (fun _ j _ => LL - (intOf j).toNat)
      case atStart => exact ⟨0, A1, n1, c1, fs, Nat.zero_le _, rfl, rfl, hn1, HQ, hout, Lib.hid hL4, b0, hm⟩
      case round =>
        clear hout hL4 b0 hm HQ
        obtain ⟨j, A1, n1, c1, fs, hj, rfl, rfl, hn1, HQ, hout, HL4, b0, hm⟩ := hrel
        by_cases hlt2 : j < LL
        · obtain ⟨B4, o4, x, rfl, hB4, hx, hcx⟩ := (owns_rv HL4.out).at (k := j) (by rw [HLn.out]; exact hlt2)
          have hxm := lets_le (List.mem_of_getElem? hx)
          have HST := Lib.hid (FullTo.step (es := es) (v := v) hx)
          have hj1 : (j : Int) < (LL : Int) := by omega
          have hj0 : (0 : Int) ≤ (j : Int) := by omega
          have hcs := nextV_cases HF.out.gr.all (v : Int) x
          have p0 := b0.cell 0 rfl
          have p1 := b0.cell 1 rfl
          have p2 := b0.cell 2 rfl
          clear hx
          go_wp2_with fail
          with_reducible refine (impl_NextVertex r n A es c v x _ lo hi (hr.mid hm (Or.inl (Nat.zero_le _))) (by omega) HGL.out (by omega) (by omega)).mono ?_
          rintro en w6 ⟨rfl, hm6⟩
          replace b0 := b0.mid hm6 (Or.inr (Nat.zero_le _))
          replace hout := owns_mid hout hm6 (Or.inl (Nat.zero_le _))
          replace hm := hm.trans hm6
          have hL6 := Lib.hid (owns_mid HL4.out hm6 (Or.inl (Nat.zero_le _)))
          generalize htx : nextV es (v : Int) x = t at hcs ⊢
          rw [htx] at HST
          clear p0 p1 p2 hcx htx HL4 hm6
          by_cases ht : t < 0
          · have d1 : decide (t < 0) = true := by simpa using ht
            have HNF : Hid (n1 + 1 = 0 ↔ FullTo r es v (j + 1)) := Lib.hid (iff_of_false (by omega) fun h => by have := (HST.out.1 h).2; omega)
            have HO := Lib.hid hout
            have hsz : w.heap.size + 1 ≤ w6.heap.size := b0.1
            clear ht hcs hout
            go_wp2_with (at_builtin; refine wpList_pushE2 rfl _ _ rfl (w.heap.size + 1) A1 n1 c1 fs rfl HO.out ⟨v, x, -1⟩ rfl (by omega) hsz ?_; intro A9 c9 w9 ho9 hgr9 hat9)
            clear hat9
            have hm9 := Mid.of_grownRow HO.out hgr9
            have hL9 := hL6.out.kept hgr9 (owns_ne hL6.out HO.out (by decide))
            go_roundw
            case rel => exact ⟨j + 1, A9, n1 + 1, c9, _, by omega, by go_num, rfl, by omega, HNF, ho9, Lib.hid hL9, b0.mid hm9 (Or.inl (Nat.lt_succ_self _)), hm.transNew hm9 (Or.inl (Nat.le_succ _))⟩
            case measure => simp [intOf]; omega
          · have d1 : decide (t < 0) = false := by simpa using ht
            have HNF : Hid (n1 = 0 ↔ FullTo r es v (j + 1)) := Lib.hid (HQ.out.trans ⟨fun h => HST.out.2 ⟨h, by omega⟩, fun h => (HST.out.1 h).1⟩)
            clear ht hcs
            go_wp2_with fail
            go_roundw
            case rel => exact ⟨j + 1, A1, n1, c1, fs, by omega, by go_num, rfl, by omega, HNF, hout, hL6, b0, hm⟩
            case measure => simp [intOf]; omega
        · obtain rfl : j = LL := by omega
          have HNF : Hid (n1 = 0 ↔ FullTo r es (v + 1) 0) := Lib.hid (by rw [HQ.out, ← HLn.out]; exact FullTo.row)
          go_wp2_with fail
          go_roundw
          case rel => exact ⟨v + 1, A1, n1, c1, fs, by omega, by go_num, rfl, by omega, HNF, hout, b0, hm⟩
          case measure => simp [intOf]; omega
    · obtain rfl : v = n := by omega
      have hres := HQ.out.trans FullTo.all
      have HRES := Lib.hid hres
      clear hres
      go_wp2_with fail
      go_ret
      exact ⟨_, n1, _, rfl, HRES.out, hm⟩

set_option maxHeartbeats 6400000 in
set_option maxRecDepth 20000 in
theorem spec_MissingSteps (r n : Nat) (A : Option Addr) (es : List Ed) (c : Nat) (w : World) (lo hi : Nat) (hr : RG w lo hi A es) (hf : IsFol r n es) :
    Calls Tryz.prog 109 #[graV r n A es.length c] w fun e w' => ∃ A1 n1 c1, e = .returned (.slice A1 n1 c1) ∧ (n1 = 0 ↔ Full r n es) ∧ Mid 0 0 w w' := by
  have hg := hf.gr
  have hn40 : n ≤ 40 := by have := hg.size; omega
  have hr3 : r ≤ 3 := by have := hg.rank; omega
  have hl := hg.len
  have HGL := Lib.hid (show ∀ e ∈ es, 1 ≤ e.l ∧ e.l ≤ 3 from fun e he => by have := hg.all e he; unfold InG at this; omega)
  have HF := Lib.hid hf
  have hm0 : Mid 0 0 w ((w.alloc (.cells #[.int .i64 r, .int .i64 n, .slice A es.length c] 30)).alloc (.cells #[] 72)) := (Mid.alloc _ _).trans (Mid.alloc _ _)
  have b0 := (Box.new w #[.int .i64 r, .int .i64 n, .slice A es.length c] 30).mid (Mid.alloc _ (.cells #[] 72)) (Or.inr (Nat.zero_le _))
  have O0 := owns_empty (w.alloc (.cells #[.int .i64 r, .int .i64 n, .slice A es.length c] 30)) 72 3
  rw [World.size_alloc] at O0
  clear hf hg
  go_enter Tryz.func109, Tryz.ntmps109
  go_wp2_with fail
  go_loopw [3, 4] (fun out vv wr => ∃ (v : Nat) (A1 : Option Addr) (n1 c1 : Nat) (fs : List Ed), v ≤ n ∧ vv = .int .i64 v ∧ out = .slice A1 n1 c1 ∧ n1 ≤ 6 * v ∧ Hid (n1 = 0 ↔ FullTo r es v 0) ∧ wr.ownsRow (w.heap.size + 1) 72 3 (.slice A1 n1 c1) n1 (ints (edI fs)) ∧
      Box wr w.heap.size [.int .i64 r, .int .i64 n, .slice A es.length c] ∧ Mid 0 0 w wr) (fun _ v _ => n - (intOf v).toNat)
  case atStart => exact ⟨0, _, 0, 0, [], Nat.zero_le _, rfl, rfl, Nat.le_refl _, Lib.hid (iff_of_true rfl (FullTo.zero r es)), O0, b0, hm0⟩
  case round =>
    clear O0 b0 hm0
    obtain ⟨wo, hwo⟩ : ∃ wo, wo = wr := ⟨_, rfl⟩
    subst hwo
    obtain ⟨v, A1, n1, c1, fs, hv, rfl, rfl, hn1, HQ, hout, b0, hm⟩ := hrel
    have p0 := b0.cell 0 rfl
    have p1 := b0.cell 1 rfl
    have p2 := b0.cell 2 rfl
    by_cases hlt : v < n
    · have hv3 : (v : Int) < (n : Int) := by omega
      have hv0 : (0 : Int) ≤ (v : Int) := by omega
      go_wp2_with fail
      with_reducible refine (spec_IsFolded r n A es c _ _ _ (hr.mid hm (Or.inl (Nat.zero_le _))) (by omega) true (iff_of_true rfl HF.out)).mono ?_
      rintro en w3 ⟨rfl, hm3⟩
      have hwo1 : w.heap.size < wo.heap.size := b0.1
      replace b0 := b0.mid hm3 (Or.inr (Nat.zero_le _))
      replace hout := owns_mid hout hm3 (Or.inl (Nat.zero_le _))
      replace hm := hm.trans hm3
      have hwo3 := hm3.size
      clear p0 p1 p2 hm3
      have p0 := b0.cell 0 rfl
      have p1 := b0.cell 1 rfl
      have p2 := b0.cell 2 rfl
      go_wp2_with fail
      with_reducible refine (spec_l5LettersO r _ (by omega)).mono ?_
      rintro en w4 ⟨A4, c4, rfl, hL4, hm4⟩
      replace hL4 := owns_base hL4 hwo3
      replace b0 := b0.mid hm4 (Or.inr (Nat.zero_le _))
      replace hout := owns_mid hout hm4 (Or.inl (Nat.zero_le _))
      replace hm := hm.trans hm4
      clear p0 p1 p2 hm4
      have HLL := Lib.hid (lets_len r)
      obtain ⟨LL, hLL⟩ : ∃ LL, (lets r).length = LL := ⟨_, rfl⟩
      have hLL6 : LL ≤ 6 := by have := HLL.out; omega
      rw [hLL] at hL4 ⊢
      have HLn := Lib.hid hLL
      clear hLL
      go_wp2_with fail
      go_loopw [3, 6] (fun out jv wr => ∃ (j : Nat) (A1 : Option Addr) (n1 c1 : Nat) (fs : List Ed), j ≤ LL ∧ jv = .int .i64 j ∧ out = .slice A1 n1 c1 ∧ n1 ≤ 6 * v + j ∧ Hid (n1 = 0 ↔ FullTo r es v j) ∧ wr.ownsRow (w.heap.size + 1) 72 3 (.slice A1 n1 c1) n1 (ints (edI fs)) ∧
          Hid (wr.ownsRow wo.heap.size 3 1 (.slice A4 LL c4) LL (ints (lets r))) ∧ Box wr w.heap.size [.int .i64 r, .int .i64 n, .slice A es.length c] ∧ Mid 0 0 w wr) (fun _ j _ => LL - (intOf j).toNat)
      case atStart => exact ⟨0, A1, n1, c1, fs, Nat.zero_le _, rfl, rfl, hn1, HQ, hout, Lib.hid hL4, b0, hm⟩
      case round =>
        clear hout hL4 b0 hm HQ
        obtain ⟨j, A1, n1, c1, fs, hj, rfl, rfl, hn1, HQ, hout, HL4, b0, hm⟩ := hrel
        by_cases hlt2 : j < LL
        · obtain ⟨B4, o4, x, rfl, hB4, hx, hcx⟩ := (owns_rv HL4.out).at (k := j) (by rw [HLn.out]; exact hlt2)
          have hxm := lets_le (List.mem_of_getElem? hx)
          have HST := Lib.hid (FullTo.step (es := es) (v := v) hx)
          have HX := Lib.hid hx
          have hj1 : (j : Int) < (LL : Int) := by omega
          have hj0 : (0 : Int) ≤ (j : Int) := by omega
          have hcs := nextV_cases HF.out.gr.all (v : Int) x
          have k0 := wg_cell b0.1 (b0.cell 0 rfl)
          have k1 := wg_cell b0.1 (b0.cell 1 rfl)
          have k2 := wg_cell b0.1 (b0.cell 2 rfl)
          have k4 := wg_cell hB4 hcx
          have hA := fun m os => spec_NextVertex r n A es c v x (wg wr m os) lo hi (hr.mid (hm.trans (Mid.ofWg wr m os)) (Or.inl (Nat.zero_le _))) (by omega) HGL.out (by omega) (by omega)
          clear hx
          go_wp2_with fail
          refine wp_region_quiet_wg (by kernel_rfl) (by kernel_rfl) ?_
          repeat
            (with_reducible refine wpQuiet_step (fun K hK => ?_))
            go_simp
            first
              | ((with_reducible refine hK _ ?_); clear hK K)
              | (rw [if_neg (by decide)]; (with_reducible refine hK _ ?_); clear hK K)
              | (apply Exists.intro; refine ⟨fun _ => ?_, hK _ ?_⟩; ((go_at_call 71; exact Calls.wg_of (hA _ _))); clear hK K)
          with_reducible refine wpQuiet_nil ?_
          intro _ hw'
          obtain ⟨⟨nq, osq⟩, hw''⟩ := hw'
          subst hw''
          have hwg := Mid.ofWg wr nq osq
          have hcx6 := k4 nq osq
          have hB6 := Nat.lt_of_lt_of_le hB4 hwg.size
          generalize wg wr nq osq = w6 at hwg hcx6 hB6 ⊢
          replace b0 := b0.mid hwg (Or.inr (Nat.zero_le _))
          replace hout := owns_mid hout hwg (Or.inl (Nat.zero_le _))
          replace hm := hm.trans hwg
          have hL6 := Lib.hid (owns_mid HL4.out hwg (Or.inl (Nat.zero_le _)))
          generalize htx : nextV es (v : Int) x = t at hcs ⊢
          rw [htx] at HST
          clear k0 k1 k2 k4 hcx htx HL4 hA hwg
          by_cases ht : t < 0
          · have d1 : decide (t < 0) = true := by simpa using ht
            have HNF : Hid (n1 + 1 = 0 ↔ FullTo r es v (j + 1)) := Lib.hid (iff_of_false (by omega) fun h => by have := (HST.out.1 h).2; omega)
            have HO := Lib.hid hout
            have hsz : w.heap.size + 1 ≤ w6.heap.size := b0.1
            try simp only [d1]
            clear hcs hout
            go_wp2_with (at_builtin; refine wpList_pushE2 rfl _ _ rfl (w.heap.size + 1) A1 n1 c1 fs rfl HO.out ⟨v, x, -1⟩ rfl (by omega) hsz ?_; intro A9 c9 w9 ho9 hgr9 hat9)
            clear hat9
            have hm9 := Mid.of_grownRow HO.out hgr9
            have hL9 := hL6.out.kept hgr9 (owns_ne hL6.out HO.out (by decide))
            go_roundw
            case rel => exact ⟨j + 1, A9, n1 + 1, c9, _, by omega, by go_num, rfl, by omega, HNF, ho9, Lib.hid hL9, b0.mid hm9 (Or.inl (Nat.lt_succ_self _)), hm.transNew hm9 (Or.inl (Nat.le_succ _))⟩
            case measure => simp [intOf]; omega
          · have d1 : decide (t < 0) = false := by simpa using ht
            have HNF : Hid (n1 = 0 ↔ FullTo r es v (j + 1)) := Lib.hid (HQ.out.trans ⟨fun h => HST.out.2 ⟨h, by omega⟩, fun h => (HST.out.1 h).1⟩)
            try simp only [d1]
            clear hcs
            go_wp2_with fail
            go_roundw
            case rel => exact ⟨j + 1, _, n1, c1, fs, by omega, by go_num, rfl, by omega, HNF, hout, hL6, b0, hm⟩
            case measure => simp [intOf]; omega
        · obtain rfl : j = LL := by omega
          have HNF : Hid (n1 = 0 ↔ FullTo r es (v + 1) 0) := Lib.hid (by rw [HQ.out, ← HLn.out]; exact FullTo.row)
          go_wp2_with fail
          go_roundw
          case rel => exact ⟨v + 1, A1, n1, c1, fs, by omega, by go_num, rfl, by omega, HNF, hout, b0, hm⟩
          case measure => simp [intOf]; omega
    · obtain rfl : v = n := by omega
      have hres := HQ.out.trans FullTo.all
      have HRES := Lib.hid hres
      clear hres
      go_wp2_with fail
      go_ret
      exact ⟨_, n1, _, rfl, HRES.out, hm⟩

/-- A subgroup of finite index. -/
structure IsFin (r s : Int) (es : List Ed) : Prop where
  cor : IsCor r s es
  full : Full r.toNat s.toNat es

set_option maxHeartbeats 1600000 in
theorem impl_IsFiniteIndex (r s : Int) (A : Option Addr) (es : List Ed) (c : Nat) (w : World) (lo hi : Nat) (hr : RG w lo hi A es) (hl : es.length ≤ 1048576) (hcl : es.length ≤ c) (b : Bool) (hb : b = true ↔ IsFin r s es) :
    Calls Tryz.prog 40 #[graV r s A es.length c] w fun e w' => e = .returned (.bool b) ∧ Mid 0 0 w w' := by
  have HB := Lib.hid hb
  clear hb
  have hm0 : Mid 0 0 w (w.alloc (.cells #[.int .i64 r, .int .i64 s, .slice A es.length c] 30)) := Mid.alloc _ _
  have b0 := Box.new w #[.int .i64 r, .int .i64 s, .slice A es.length c] 30
  by_cases h : IsCor r s es
  · obtain ⟨r, n, rfl, rfl⟩ := h.gr.nat
    have HC := Lib.hid h
    clear h
    go_enter Tryz.func40, Tryz.ntmps40
    go_wp2_with fail
    with_reducible refine (impl_IsCore r n A es c _ _ _ (hr.mid hm0 (Or.inl (Nat.zero_le _))) hl hcl true (iff_of_true rfl HC.out)).mono ?_
    rintro en w1 ⟨rfl, hm1⟩
    replace b0 := b0.mid hm1 (Or.inr (Nat.zero_le _))
    replace hm0 := hm0.trans hm1
    have p0 := b0.cell 0 rfl
    have p1 := b0.cell 1 rfl
    have p2 := b0.cell 2 rfl
    go_wp2_with fail
    with_reducible refine (impl_MissingSteps r n A es c _ _ _ (hr.mid hm0 (Or.inl (Nat.zero_le _))) hcl HC.out.fol).mono ?_
    rintro en w2 ⟨A2, n2, c2, rfl, hn2, hm2⟩
    have hbn : b = true ↔ n2 = 0 := by
      rw [HB.out, hn2]
      exact ⟨fun h => h.full, fun h => ⟨HC.out, h⟩⟩
    have hmm := hm0.trans hm2
    clear hn2 HB
    by_cases h0 : n2 = 0
    · obtain rfl : b = true := hbn.2 h0
      subst h0
      go_wp2_with fail
      go_ret
      exact ⟨rfl, hmm⟩
    · obtain rfl : b = false := bool_no hbn h0
      have d1 : ((n2 : Int) == 0) = false := by simp only [beq_eq_false_iff_ne]; omega
      clear hbn
      go_wp2_with fail
      go_ret
      exact ⟨rfl, hmm⟩
  · obtain rfl : b = false := bool_no HB.out fun h' => h h'.cor
    have HC := Lib.hid h
    clear h HB
    go_enter Tryz.func40, Tryz.ntmps40
    go_wp2_with fail
    with_reducible refine (impl_IsCore r s A es c _ _ _ (hr.mid hm0 (Or.inl (Nat.zero_le _))) hl hcl false (iff_of_false Bool.false_ne_true HC.out)).mono ?_
    rintro en w1 ⟨rfl, hm1⟩
    go_wp2_with fail
    go_ret
    exact ⟨rfl, hm0.trans hm1⟩

set_option maxHeartbeats 1600000 in
theorem spec_IsFiniteIndex (r s : Int) (A : Option Addr) (es : List Ed) (c : Nat) (w : World) (lo hi : Nat) (hr : RG w lo hi A es) (hl : es.length ≤ 1048576) (b : Bool) (hb : b = true ↔ IsFin r s es) :
    Calls Tryz.prog 70 #[graV r s A es.length c] w fun e w' => e = .returned (.bool b) ∧ Mid 0 0 w w' := by
  have HB := Lib.hid hb
  clear hb
  have hm0 : Mid 0 0 w (w.alloc (.cells #[.int .i64 r, .int .i64 s, .slice A es.length c] 30)) := Mid.alloc _ _
  have b0 := Box.new w #[.int .i64 r, .int .i64 s, .slice A es.length c] 30
  by_cases h : IsCor r s es
  · obtain ⟨r, n, rfl, rfl⟩ := h.gr.nat
    have HC := Lib.hid h
    clear h
    go_enter Tryz.func70, Tryz.ntmps70
    go_wp2_with fail
    with_reducible refine (spec_IsSubgroup r n A es c _ _ _ (hr.mid hm0 (Or.inl (Nat.zero_le _))) hl true (iff_of_true rfl HC.out)).mono ?_
    rintro en w1 ⟨rfl, hm1⟩
    replace b0 := b0.mid hm1 (Or.inr (Nat.zero_le _))
    replace hm0 := hm0.trans hm1
    have p0 := b0.cell 0 rfl
    have p1 := b0.cell 1 rfl
    have p2 := b0.cell 2 rfl
    go_wp2_with fail
    with_reducible refine (spec_MissingSteps r n A es c _ _ _ (hr.mid hm0 (Or.inl (Nat.zero_le _))) HC.out.fol).mono ?_
    rintro en w2 ⟨A2, n2, c2, rfl, hn2, hm2⟩
    have hbn : b = true ↔ n2 = 0 := by
      rw [HB.out, hn2]
      exact ⟨fun h => h.full, fun h => ⟨HC.out, h⟩⟩
    have hmm := hm0.trans hm2
    clear hn2 HB
    by_cases h0 : n2 = 0
    · obtain rfl : b = true := hbn.2 h0
      subst h0
      go_wp2_with fail
      go_ret
      exact ⟨rfl, hmm⟩
    · obtain rfl : b = false := bool_no hbn h0
      have d1 : ((n2 : Int) == 0) = false := by simp only [beq_eq_false_iff_ne]; omega
      clear hbn
      go_wp2_with fail
      go_ret
      exact ⟨rfl, hmm⟩
  · obtain rfl : b = false := bool_no HB.out fun h' => h h'.cor
    have HC := Lib.hid h
    clear h HB
    go_enter Tryz.func70, Tryz.ntmps70
    go_wp2_with fail
    with_reducible refine (spec_IsSubgroup r s A es c _ _ _ (hr.mid hm0 (Or.inl (Nat.zero_le _))) hl false (iff_of_false Bool.false_ne_true HC.out)).mono ?_
    rintro en w1 ⟨rfl, hm1⟩
    go_wp2_with fail
    go_ret
    exact ⟨rfl, hm0.trans hm1⟩
end Go.Proofs.YtkdmffjnkciecaaGreat

/- ActionOf, of both, and the law's data. -/
namespace Go.Proofs.YtkdmffjnkciecaaGreat
set_option linter.unusedVariables false
set_option linter.unusedSimpArgs false
open Go.RowKit

/-- Where the letter x leads from each vertex; for all letters up to k. -/
def rowL (n : Nat) (es : List Ed) (x : Int) : List Int := (List.range n).map fun (v : Nat) => nextV es (v : Int) x
def actL (n : Nat) (es : List Ed) (k : Nat) : List (List Int) := (List.range k).map fun (i : Nat) => rowL n es ((i : Int) + 1)
theorem rowL_len (n : Nat) (es : List Ed) (x : Int) : (rowL n es x).length = n := by simp [rowL]
theorem rowL_succ (n : Nat) (es : List Ed) (x : Int) : rowL (n + 1) es x = rowL n es x ++ [nextV es (n : Int) x] := by simp [rowL, List.range_succ]
theorem actL_len (n : Nat) (es : List Ed) (k : Nat) : (actL n es k).length = k := by simp [actL]
theorem actL_succ (n : Nat) (es : List Ed) (k : Nat) : actL n es (k + 1) = actL n es k ++ [rowL n es ((k : Int) + 1)] := by simp [actL, List.range_succ]
theorem actL_sum (n : Nat) (es : List Ed) (k : Nat) : sumL (actL n es k) = k * n := by
  induction k with
  | zero => simp [actL, sumL]
  | succ k ih => rw [actL_succ, sumL_append, ih, sumL_one, rowL_len, Nat.succ_mul]

set_option maxHeartbeats 3200000 in
set_option maxRecDepth 20000 in
theorem impl_ActionOf_fin (r n : Nat) (A : Option Addr) (es : List Ed) (c : Nat) (w : World) (lo hi : Nat) (hr : RG w lo hi A es) (hcl : es.length ≤ c) (hf : IsFin r n es) :
    Calls Tryz.prog 41 #[graV r n A es.length c] w fun e w' => ∃ A1 c1, e = .returned (.slice A1 (actL n es r).length c1) ∧ OSS w' w.heap.size w'.heap.size 38 3 A1 c1 (actL n es r) ∧ Mid 0 0 w w' := by
  have hg := hf.cor.gr
  have hn40 : n ≤ 40 := by have := hg.size; omega
  have hr3 : r ≤ 3 := by have := hg.rank; omega
  have hl := hg.len
  have HGL := Lib.hid (show ∀ e ∈ es, 1 ≤ e.l ∧ e.l ≤ 3 from fun e he => by have := hg.all e he; unfold InG at this; omega)
  have HF := Lib.hid hf
  have hm0 : Mid 0 0 w ((w.alloc (.cells #[.int .i64 r, .int .i64 n, .slice A es.length c] 30)).alloc (.cells #[] 38)) := (Mid.alloc _ _).trans (Mid.alloc _ _)
  have b0 := (Box.new w #[.int .i64 r, .int .i64 n, .slice A es.length c] 30).mid (Mid.alloc _ (.cells #[] 38)) (Or.inr (Nat.zero_le _))
  have O0 := owns_empty (w.alloc (.cells #[.int .i64 r, .int .i64 n, .slice A es.length c] 30)) 38 1
  rw [World.size_alloc] at O0
  clear hf hg
  go_enter Tryz.func41, Tryz.ntmps41
  go_wp2_with fail
  with_reducible refine (impl_IsFiniteIndex r n A es c _ _ _ (hr.mid hm0 (Or.inl (Nat.zero_le _))) (by omega) hcl true (iff_of_true rfl HF.out)).mono ?_
  rintro en w1 ⟨rfl, hm1⟩
  replace b0 := b0.mid hm1 (Or.inr (Nat.zero_le _))
  replace O0 := owns_mid O0 hm1 (Or.inl (Nat.zero_le _))
  replace hm0 := hm0.trans hm1
  clear hm1
  go_wp2_with fail
  go_loopw [3, 4] (fun out x wr => ∃ (k : Nat) (rows : List Row) (A1 : Option Addr) (c1 : Nat), k ≤ r ∧ x = .int .i64 ((k : Int) + 1) ∧ out = .slice A1 k c1 ∧ Hid (rowsD rows = actL n es k) ∧ wr.ownsRow (w.heap.size + 1) 38 1 (.slice A1 k c1) k (rowsV rows) ∧ OwnRows wr (w.heap.size + 1) wr.heap.size 3 rows ∧
      Box wr w.heap.size [.int .i64 r, .int .i64 n, .slice A es.length c] ∧ Mid 0 0 w wr) (fun _ x _ => (r + 1 - intOf x).toNat)
  case atStart => exact ⟨0, [], _, 0, Nat.zero_le _, rfl, rfl, Lib.hid rfl, O0, OwnRows.nil, b0, hm0⟩
  case round =>
    clear O0 b0 hm0
    obtain ⟨wo, hwo⟩ : ∃ wo, wo = wr := ⟨_, rfl⟩
    subst hwo
    obtain ⟨k, rows, A1, c1, hk, rfl, rfl, HD, hout, hrows, b0, hm⟩ := hrel
    have p0 := b0.cell 0 rfl
    have p1 := b0.cell 1 rfl
    have p2 := b0.cell 2 rfl
    by_cases hlt : k < r
    · have hk1 : (k : Int) + 1 ≤ r := by omega
      have hk0 : (0 : Int) ≤ (k : Int) := by omega
      have O1 := owns_empty wo 3 1
      have hal := Mid.alloc wo (.cells #[] 3)
      have hwo1 : w.heap.size + 1 ≤ wo.heap.size := b0.1
      go_wp2_with fail
      clear p0 p1 p2
      go_loopw [5, 6] (fun pv vv wr => ∃ (j : Nat) (Ap : Option Addr) (cp np : Nat), j ≤ n ∧ vv = .int .i64 j ∧ pv = .slice Ap np cp ∧ Hid ((rowL j es ((k : Int) + 1)).length = np) ∧ wr.ownsRow wo.heap.size 3 1 (.slice Ap np cp) np (ints (rowL j es ((k : Int) + 1))) ∧ Mid 0 0 wo wr) (fun _ v _ => n - (intOf v).toNat)
      case atStart => exact ⟨0, _, 0, 0, Nat.zero_le _, rfl, rfl, Lib.hid rfl, O1, hal⟩
      case round =>
        clear O1 hal
        obtain ⟨j, Ap, cp, np, hj, rfl, rfl, HN, hp, hmx⟩ := hrel
        have hnp : np = j := by rw [← HN.out, rowL_len]
        have b1 := b0.mid hmx (Or.inr (Nat.zero_le _))
        have p0 := b1.cell 0 rfl
        have p1 := b1.cell 1 rfl
        have p2 := b1.cell 2 rfl
        have hm1 := hm.trans hmx
        by_cases hlt2 : j < n
        · have hj1 : (j : Int) < n := by omega
          have hj0 : (0 : Int) ≤ (j : Int) := by omega
          go_wp2_with fail
          with_reducible refine (impl_NextVertex r n A es c j ((k : Int) + 1) _ lo hi (hr.mid hm1 (Or.inl (Nat.zero_le _))) (by omega) HGL.out (by omega) (by omega)).mono ?_
          rintro en w6 ⟨rfl, hm6⟩
          have HS := Lib.hid (rowL_succ j es ((k : Int) + 1))
          generalize nextV es (j : Int) ((k : Int) + 1) = t at HS ⊢
          have HP := Lib.hid (owns_mid hp hm6 (Or.inl (Nat.zero_le _)))
          have hsz := (hmx.trans hm6).size
          have hmx6 := hmx.trans hm6
          clear hp p0 p1 p2 hm6 hnp
          have hnp2 : np ≤ 1000 := by have := HN.out; rw [rowL_len] at this; omega
          go_wp2_with (at_builtin; refine wpList_pushI rfl _ _ rfl wo.heap.size Ap np cp _ rfl HP.out t rfl (by omega) hsz ?_; intro A9 c9 w9 ho9 hm9)
          go_roundw
          case rel => exact ⟨j + 1, A9, c9, np + 1, by omega, by go_num, rfl, Lib.hid (by rw [HS.out, List.length_append, HN.out]; rfl), by rw [HS.out]; exact ho9, hmx6.transNew hm9 (Or.inl (Nat.le_refl _))⟩
          case measure => simp [intOf]; omega
        · obtain rfl : j = n := by omega
          obtain rfl : j = np := hnp.symm
          have hout1 := owns_mid hout hmx (Or.inl (Nat.zero_le _))
          have hrows1 := hrows.mid hmx (Or.inl (Nat.zero_le _))
          have hsz := hmx.size
          have hpl := hp
          have HPL := Lib.hid hpl
          have HOU := Lib.hid hout1
          clear hpl hp hout1
          go_wp2_with (at_builtin; refine wpList_push rfl _ _ 26 rfl (w.heap.size + 1) 38 (.slice none 0 0) 1 24 undSSI infoSI rfl (by decide) _ _ _ rfl HOU.out 1 [.slice Ap j cp] rfl rfl ?c1 ?c2 ?c3 (by omega) ?next)
          case c1 => simp [Value.oneCell']
          case c2 => unfold maxLen; omega
          case c3 => omega
          case next =>
            intro v' w9 hown9 hgr9 _
            have hm9 := Mid.of_grownRow HOU.out hgr9
            obtain ⟨A9, c9, rfl, -, -⟩ := owns_shape hown9
            have hrl : (rowL j es ((k : Int) + 1)).length = j := rowL_len _ _ _
            have hpr := hrows1.push (r := ⟨Ap, cp, rowL j es ((k : Int) + 1)⟩) (base := wo.heap.size) (hi' := wr.heap.size) (by simp only [Row.v, hrl]; exact HPL.out) (Nat.le_refl _) (by omega) hsz (Nat.le_refl _) (by intro g hg; simp only [Row.v, hrl] at hg; exact (HPL.out.lt g hg).2)
            have hpr9 := (hpr.grown HOU.out (by decide) hgr9).wide (Nat.le_refl _) hm9.size (Nat.le_refl _)
            go_wp2_with fail
            go_roundw
            case rel =>
              refine ⟨k + 1, rows ++ [⟨Ap, cp, rowL j es ((k : Int) + 1)⟩], A9, c9, by omega, by go_num, rfl, Lib.hid ?_, ?_, hpr9, b1.mid hm9 (Or.inl (by omega)), hm1.transNew hm9 (Or.inl (by omega))⟩
              · rw [rowsD_append, HD.out, actL_succ]
                rfl
              · rw [rowsV_append]
                have : rowsV [⟨Ap, cp, rowL j es ((k : Int) + 1)⟩] = [.slice Ap j cp] := by simp [rowsV, Row.v, hrl]
                rw [this]
                exact hown9
            case measure => simp [intOf]; omega
    · obtain rfl : k = r := by omega
      have hal : (actL n es k).length = k := actL_len _ _ _
      have HAL := Lib.hid hal
      have hoss := OSS.mk' hout hrows HD.out
      have hs1 := b0.1
      clear hal
      go_wp2_with fail
      go_ret
      exact ⟨A1, c1, by rw [HAL.out]; rfl, hoss.wide (Nat.le_succ _) (Nat.le_refl _) (Nat.le_refl _), hm⟩

set_option maxHeartbeats 3200000 in
set_option maxRecDepth 20000 in
theorem spec_ActionOf_fin (r n : Nat) (A : Option Addr) (es : List Ed) (c : Nat) (w : World) (lo hi : Nat) (hr : RG w lo hi A es) (hf : IsFin r n es) :
    Calls Tryz.prog 35 #[graV r n A es.length c] w fun e w' => ∃ A1 c1, e = .returned (.slice A1 (actL n es r).length c1) ∧ OSS w' w.heap.size w'.heap.size 38 3 A1 c1 (actL n es r) ∧ Mid 0 0 w w' := by
  have hg := hf.cor.gr
  have hn40 : n ≤ 40 := by have := hg.size; omega
  have hr3 : r ≤ 3 := by have := hg.rank; omega
  have hl := hg.len
  have HGL := Lib.hid (show ∀ e ∈ es, 1 ≤ e.l ∧ e.l ≤ 3 from fun e he => by have := hg.all e he; unfold InG at this; omega)
  have HF := Lib.hid hf
  have hm0 : Mid 0 0 w ((w.alloc (.cells #[.int .i64 r, .int .i64 n, .slice A es.length c] 30)).alloc (.cells #[] 38)) := (Mid.alloc _ _).trans (Mid.alloc _ _)
  have b0 := (Box.new w #[.int .i64 r, .int .i64 n, .slice A es.length c] 30).mid (Mid.alloc _ (.cells #[] 38)) (Or.inr (Nat.zero_le _))
  have O0 := owns_empty (w.alloc (.cells #[.int .i64 r, .int .i64 n, .slice A es.length c] 30)) 38 1
  rw [World.size_alloc] at O0
  clear hf hg
  go_enter Tryz.func35, Tryz.ntmps35
  go_wp2_with fail
  go_loopw [3, 4] (fun out x wr => ∃ (k : Nat) (rows : List Row) (A1 : Option Addr) (c1 : Nat), k ≤ r ∧ x = .int .i64 ((k : Int) + 1) ∧ out = .slice A1 k c1 ∧ Hid (rowsD rows = actL n es k) ∧ wr.ownsRow (w.heap.size + 1) 38 1 (.slice A1 k c1) k (rowsV rows) ∧ OwnRows wr (w.heap.size + 1) wr.heap.size 3 rows ∧
      Box wr w.heap.size [.int .i64 r, .int .i64 n, .slice A es.length c] ∧ Mid 0 0 w wr) (fun _ x _ => (r + 1 - intOf x).toNat)
  case atStart => exact ⟨0, [], _, 0, Nat.zero_le _, rfl, rfl, Lib.hid rfl, O0, OwnRows.nil, b0, hm0⟩
  case round =>
    clear O0 b0 hm0
    obtain ⟨wo, hwo⟩ : ∃ wo, wo = wr := ⟨_, rfl⟩
    subst hwo
    obtain ⟨k, rows, A1, c1, hk, rfl, rfl, HD, hout, hrows, b0, hm⟩ := hrel
    have p0 := b0.cell 0 rfl
    have p1 := b0.cell 1 rfl
    have p2 := b0.cell 2 rfl
    by_cases hlt : k < r
    · have hk1 : (k : Int) + 1 ≤ r := by omega
      have hk0 : (0 : Int) ≤ (k : Int) := by omega
      go_wp2_with fail
      with_reducible refine (spec_IsFiniteIndex r n A es c _ _ _ (hr.mid hm (Or.inl (Nat.zero_le _))) (by omega) true (iff_of_true rfl HF.out)).mono ?_
      rintro en w1 ⟨rfl, hm1⟩
      have hrows1 := hrows.mid hm1 (Or.inl (Nat.zero_le _))
      have hrows2 := hrows1.wide (Nat.le_refl _) hm1.size (Nat.le_refl _)
      replace b0 := b0.mid hm1 (Or.inr (Nat.zero_le _))
      replace hout := owns_mid hout hm1 (Or.inl (Nat.zero_le _))
      replace hm := hm.trans hm1
      clear p0 p1 p2 hrows hrows1 hm1
      obtain ⟨wo, hwo⟩ : ∃ wo, wo = w1 := ⟨_, rfl⟩
      subst hwo
      have hrows := hrows2
      clear hrows2
      have p0 := b0.cell 0 rfl
      have p1 := b0.cell 1 rfl
      have p2 := b0.cell 2 rfl
      have O1 := owns_empty wo 3 1
      have hal := Mid.alloc wo (.cells #[] 3)
      have hwo1 : w.heap.size + 1 ≤ wo.heap.size := b0.1
      go_wp2_with fail
      clear p0 p1 p2
      go_loopw [5, 6] (fun pv vv wr => ∃ (j : Nat) (Ap : Option Addr) (cp np : Nat), j ≤ n ∧ vv = .int .i64 j ∧ pv = .slice Ap np cp ∧ Hid ((rowL j es ((k : Int) + 1)).length = np) ∧ wr.ownsRow wo.heap.size 3 1 (.slice Ap np cp) np (ints (rowL j es ((k : Int) + 1))) ∧ Mid 0 0 wo wr) (fun _ v _ => n - (intOf v).toNat)
      case atStart => exact ⟨0, _, 0, 0, Nat.zero_le _, rfl, rfl, Lib.hid rfl, O1, hal⟩
      case round =>
        clear O1 hal
        obtain ⟨j, Ap, cp, np, hj, rfl, rfl, HN, hp, hmx⟩ := hrel
        have hnp : np = j := by rw [← HN.out, rowL_len]
        have b1 := b0.mid hmx (Or.inr (Nat.zero_le _))
        have p0 := b1.cell 0 rfl
        have p1 := b1.cell 1 rfl
        have p2 := b1.cell 2 rfl
        have hm1 := hm.trans hmx
        by_cases hlt2 : j < n
        · have hj1 : (j : Int) < n := by omega
          have hj0 : (0 : Int) ≤ (j : Int) := by omega
          go_wp2_with fail
          with_reducible refine (spec_NextVertex r n A es c j ((k : Int) + 1) _ lo hi (hr.mid hm1 (Or.inl (Nat.zero_le _))) (by omega) HGL.out (by omega) (by omega)).mono ?_
          rintro en w6 ⟨rfl, hm6⟩
          have HS := Lib.hid (rowL_succ j es ((k : Int) + 1))
          generalize nextV es (j : Int) ((k : Int) + 1) = t at HS ⊢
          have HP := Lib.hid (owns_mid hp hm6 (Or.inl (Nat.zero_le _)))
          have hsz := (hmx.trans hm6).size
          have hmx6 := hmx.trans hm6
          clear hp p0 p1 p2 hm6 hnp
          have hnp2 : np ≤ 1000 := by have := HN.out; rw [rowL_len] at this; omega
          go_wp2_with (at_builtin; refine wpList_pushI rfl _ _ rfl wo.heap.size Ap np cp _ rfl HP.out t rfl (by omega) hsz ?_; intro A9 c9 w9 ho9 hm9)
          go_roundw
          case rel => exact ⟨j + 1, A9, c9, np + 1, by omega, by go_num, rfl, Lib.hid (by rw [HS.out, List.length_append, HN.out]; rfl), by rw [HS.out]; exact ho9, hmx6.transNew hm9 (Or.inl (Nat.le_refl _))⟩
          case measure => simp [intOf]; omega
        · obtain rfl : j = n := by omega
          obtain rfl : j = np := hnp.symm
          have hout1 := owns_mid hout hmx (Or.inl (Nat.zero_le _))
          have hrows1 := hrows.mid hmx (Or.inl (Nat.zero_le _))
          have hsz := hmx.size
          have hpl := hp
          have HPL := Lib.hid hpl
          have HOU := Lib.hid hout1
          clear hpl hp hout1
          go_wp2_with (at_builtin; refine wpList_push rfl _ _ 26 rfl (w.heap.size + 1) 38 (.slice none 0 0) 1 24 undSSI infoSI rfl (by decide) _ _ _ rfl HOU.out 1 [.slice Ap j cp] rfl rfl ?c1 ?c2 ?c3 (by omega) ?next)
          case c1 => simp [Value.oneCell']
          case c2 => unfold maxLen; omega
          case c3 => omega
          case next =>
            intro v' w9 hown9 hgr9 _
            have hm9 := Mid.of_grownRow HOU.out hgr9
            obtain ⟨A9, c9, rfl, -, -⟩ := owns_shape hown9
            have hrl : (rowL j es ((k : Int) + 1)).length = j := rowL_len _ _ _
            have hpr := hrows1.push (r := ⟨Ap, cp, rowL j es ((k : Int) + 1)⟩) (base := wo.heap.size) (hi' := wr.heap.size) (by simp only [Row.v, hrl]; exact HPL.out) (Nat.le_refl _) (by omega) hsz (Nat.le_refl _) (by intro g hg; simp only [Row.v, hrl] at hg; exact (HPL.out.lt g hg).2)
            have hpr9 := (hpr.grown HOU.out (by decide) hgr9).wide (Nat.le_refl _) hm9.size (Nat.le_refl _)
            go_wp2_with fail
            go_roundw
            case rel =>
              refine ⟨k + 1, rows ++ [⟨Ap, cp, rowL j es ((k : Int) + 1)⟩], A9, c9, by omega, by go_num, rfl, Lib.hid ?_, ?_, hpr9, b1.mid hm9 (Or.inl (by omega)), hm1.transNew hm9 (Or.inl (by omega))⟩
              · rw [rowsD_append, HD.out, actL_succ]
                rfl
              · rw [rowsV_append]
                have : rowsV [⟨Ap, cp, rowL j es ((k : Int) + 1)⟩] = [.slice Ap j cp] := by simp [rowsV, Row.v, hrl]
                rw [this]
                exact hown9
            case measure => simp [intOf]; omega
    · obtain rfl : k = r := by omega
      have hal : (actL n es k).length = k := actL_len _ _ _
      have HAL := Lib.hid hal
      have hoss := OSS.mk' hout hrows HD.out
      have hs1 := b0.1
      clear hal
      go_wp2_with fail
      go_ret
      exact ⟨A1, c1, by rw [HAL.out]; rfl, hoss.wide (Nat.le_succ _) (Nat.le_refl _) (Nat.le_refl _), hm⟩

set_option maxHeartbeats 1600000 in
theorem impl_ActionOf_no (r s : Int) (A : Option Addr) (es : List Ed) (c : Nat) (w : World) (lo hi : Nat) (hr : RG w lo hi A es) (hl : es.length ≤ 1048576) (hcl : es.length ≤ c) (hf : ¬ IsFin r s es) :
    Calls Tryz.prog 41 #[graV r s A es.length c] w fun e w' => ∃ A1 c1, e = .returned (.slice A1 0 c1) ∧ OSS w' w.heap.size w'.heap.size 38 3 A1 c1 [] ∧ Mid 0 0 w w' := by
  have hm0 : Mid 0 0 w ((w.alloc (.cells #[.int .i64 r, .int .i64 s, .slice A es.length c] 30)).alloc (.cells #[] 38)) := (Mid.alloc _ _).trans (Mid.alloc _ _)
  have O0 := owns_empty (w.alloc (.cells #[.int .i64 r, .int .i64 s, .slice A es.length c] 30)) 38 1
  rw [World.size_alloc] at O0
  have HF := Lib.hid hf
  clear hf
  go_enter Tryz.func41, Tryz.ntmps41
  go_wp2_with fail
  with_reducible refine (impl_IsFiniteIndex r s A es c _ _ _ (hr.mid hm0 (Or.inl (Nat.zero_le _))) hl hcl false (iff_of_false Bool.false_ne_true HF.out)).mono ?_
  rintro en w1 ⟨rfl, hm1⟩
  replace O0 := owns_mid O0 hm1 (Or.inl (Nat.zero_le _))
  replace hm0 := hm0.trans hm1
  have hoss := (OSS.mk' (tI := 3) (rows := []) (xss := []) O0 OwnRows.nil rfl).wide (lo' := w.heap.size) (Nat.le_succ _) (Nat.le_refl _) (Nat.le_refl _)
  go_wp2_with fail
  go_ret
  exact ⟨_, _, rfl, hoss, hm0⟩

set_option maxHeartbeats 1600000 in
theorem spec_ActionOf_no (r s : Int) (A : Option Addr) (es : List Ed) (c : Nat) (w : World) (lo hi : Nat) (hr : RG w lo hi A es) (hl : es.length ≤ 1048576) (hf : ¬ IsFin r s es) :
    Calls Tryz.prog 35 #[graV r s A es.length c] w fun e w' => ∃ A1 c1, e = .returned (.slice A1 0 c1) ∧ OSS w' w.heap.size w'.heap.size 38 3 A1 c1 [] ∧ Mid 0 0 w w' := by
  have hm0 : Mid 0 0 w ((w.alloc (.cells #[.int .i64 r, .int .i64 s, .slice A es.length c] 30)).alloc (.cells #[] 38)) := (Mid.alloc _ _).trans (Mid.alloc _ _)
  have b0 := (Box.new w #[.int .i64 r, .int .i64 s, .slice A es.length c] 30).mid (Mid.alloc _ (.cells #[] 38)) (Or.inr (Nat.zero_le _))
  have O0 := owns_empty (w.alloc (.cells #[.int .i64 r, .int .i64 s, .slice A es.length c] 30)) 38 1
  rw [World.size_alloc] at O0
  have HF := Lib.hid hf
  clear hf
  go_enter Tryz.func35, Tryz.ntmps35
  go_wp2_with fail
  go_loopw [3, 4] (fun out x wr => out = .slice (some ⟨w.heap.size + 1, 0, none⟩) 0 0 ∧ x = .int .i64 1 ∧ wr.ownsRow (w.heap.size + 1) 38 1 (.slice (some ⟨w.heap.size + 1, 0, none⟩) 0 0) 0 [] ∧ Box wr w.heap.size [.int .i64 r, .int .i64 s, .slice A es.length c] ∧ Mid 0 0 w wr) (fun _ _ _ => 0)
  case atStart => exact ⟨rfl, rfl, O0, b0, hm0⟩
  case round =>
    clear O0 b0 hm0
    obtain ⟨rfl, rfl, O0, b0, hm0⟩ := hrel
    have p0 := b0.cell 0 rfl
    have p1 := b0.cell 1 rfl
    have p2 := b0.cell 2 rfl
    by_cases h1 : 1 ≤ r
    · have d1 : decide (1 ≤ r) = true := by simpa using h1
      go_wp2_with fail
      with_reducible refine (spec_IsFiniteIndex r s A es c _ _ _ (hr.mid hm0 (Or.inl (Nat.zero_le _))) hl false (iff_of_false Bool.false_ne_true HF.out)).mono ?_
      rintro en w1 ⟨rfl, hm1⟩
      replace O0 := owns_mid O0 hm1 (Or.inl (Nat.zero_le _))
      replace hm0 := hm0.trans hm1
      have hoss := (OSS.mk' (tI := 3) (rows := []) (xss := []) O0 OwnRows.nil rfl).wide (lo' := w.heap.size) (Nat.le_succ _) (Nat.le_refl _) (Nat.le_refl _)
      go_wp2_with fail
      go_ret
      exact ⟨_, _, rfl, hoss, hm0⟩
    · have d1 : decide (1 ≤ r) = false := by simpa using h1
      have hoss := (OSS.mk' (tI := 3) (rows := []) (xss := []) O0 OwnRows.nil rfl).wide (lo' := w.heap.size) (Nat.le_succ _) (Nat.le_refl _) (Nat.le_refl _)
      go_wp2_with fail
      go_ret
      exact ⟨_, _, rfl, hoss, hm0⟩

open Classical in
noncomputable def actI (r s : Int) (es : List Ed) : List (List Int) := if IsFin r s es then actL s.toNat es r.toNat else []
def ActionOfIs (r0 s0 : Int) (d0 : List Ed) (res0 : List (List Int)) : Prop := res0 = actI r0 s0 d0
theorem ActionOfIs_ex (r0 s0 : Int) (d0 : List Ed) (hl0 : d0.length ≤ 1048576) : ∃ res0, ActionOfIs r0 s0 d0 res0 := ⟨_, rfl⟩
theorem ActionOfIs_len {r0 s0 : Int} {d0 : List Ed} {res0 : List (List Int)} (h : ActionOfIs r0 s0 d0 res0) (hl0 : d0.length ≤ 1048576) : res0.length + sumL res0 ≤ 1048576 := by
  obtain rfl : res0 = _ := h
  unfold actI
  split
  · rename_i h
    have h1 := h.cor.gr.rank
    have h2 := h.cor.gr.size
    have h3 := actL_sum s0.toNat d0 r0.toNat
    have h4 : r0.toNat * s0.toNat ≤ 3 * 40 := Nat.mul_le_mul (by omega) (by omega)
    rw [actL_len]
    omega
  · simp [sumL]
theorem sspec_ActionOf (r0 s0 : Int) (A0 : Option Addr) (d0 : List Ed) (c0 : Nat) (w : World) (lo0 hi0 : Nat) (h0 : OG w lo0 hi0 A0 c0 d0) (hl0 : d0.length ≤ 1048576) (res0 : List (List Int)) (h : ActionOfIs r0 s0 d0 res0) :
    Calls Tryz.prog 35 #[.agg #[.int .i64 r0, .int .i64 s0, .slice A0 d0.length c0]] w fun e w' => ∃ (A : Option Addr) (c : Nat), e = .returned (.slice A res0.length c) ∧ OSS w' w.heap.size w'.heap.size 38 3 A c res0 ∧ Mid 0 0 w w' := by
  obtain rfl : res0 = _ := h
  unfold actI
  split
  · rename_i h
    obtain ⟨r, n, rfl, rfl⟩ := h.cor.gr.nat
    exact spec_ActionOf_fin r n A0 d0 c0 w lo0 hi0 h0.rg h
  · rename_i h
    exact spec_ActionOf_no r0 s0 A0 d0 c0 w lo0 hi0 h0.rg hl0 h
theorem simpl_ActionOf (r0 s0 : Int) (A0 : Option Addr) (d0 : List Ed) (c0 : Nat) (w : World) (lo0 hi0 : Nat) (h0 : OG w lo0 hi0 A0 c0 d0) (hl0 : d0.length ≤ 1048576) (res0 : List (List Int)) (h : ActionOfIs r0 s0 d0 res0) :
    Calls Tryz.prog 41 #[.agg #[.int .i64 r0, .int .i64 s0, .slice A0 d0.length c0]] w fun e w' => ∃ (A : Option Addr) (c : Nat), e = .returned (.slice A res0.length c) ∧ OSS w' w.heap.size w'.heap.size 38 3 A c res0 ∧ Mid 0 0 w w' := by
  obtain rfl : res0 = _ := h
  unfold actI
  split
  · rename_i h
    obtain ⟨r, n, rfl, rfl⟩ := h.cor.gr.nat
    exact impl_ActionOf_fin r n A0 d0 c0 w lo0 hi0 h0.rg h0.cnt.1 h
  · rename_i h
    exact impl_ActionOf_no r0 s0 A0 d0 c0 w lo0 hi0 h0.rg hl0 h0.cnt.1 h
end Go.Proofs.YtkdmffjnkciecaaGreat

/- A row of one cell of the call's own, laid by a literal. -/
namespace Go.Proofs.YtkdmffjnkciecaaGreat
set_option linter.unusedVariables false
open Go.RowKit
theorem owns_lit (w : World) (e : TypeId) (u : Value) : (w.alloc (.cells #[u] e)).ownsRow w.heap.size e 1 (.slice (some ⟨w.heap.size, 0, none⟩) 1 1) 1 [u] :=
  ⟨rfl, .inr ⟨w.heap.size, 1, #[u], rfl, Nat.le_refl _, heap_alloc_new w _, Nat.le_refl _, by unfold maxLen; omega, rfl, rfl⟩⟩
end Go.Proofs.YtkdmffjnkciecaaGreat

/- A growing list of rows of the call's own, beside a list that it reads. -/
namespace Go.Proofs.YtkdmffjnkciecaaGreat
set_option linter.unusedVariables false
set_option linter.unusedSimpArgs false
open Go.RowKit

/-- A list of rows of the call's own, from block b on, in an outer row of its own from lo on; the list act between a and b. -/
structure Grp (w : World) (lo a b : Nat) (A : Option Addr) (n c : Nat) (rows : List Row) (Aa : Option Addr) (act : List (List Int)) : Prop where
  out : w.ownsRow lo 38 1 (.slice A n c) n (rowsV rows)
  rows : OwnRows w b w.heap.size 3 rows
  act : RSS w a b Aa act
  off : ∀ g, Value.ownBlock (.slice A n c) = some g → g < a ∨ b ≤ g
  lob : lo ≤ b
section
variable {w w' : World} {lo a b : Nat} {A : Option Addr} {n c : Nat} {rows : List Row} {Aa : Option Addr} {act : List (List Int)}
theorem Grp.len (h : Grp w lo a b A n c rows Aa act) : rows.length = n := by
  have := h.out.1
  rw [rowsV_len] at this
  omega
theorem Grp.mid (h : Grp w lo a b A n c rows Aa act) (m : Mid 0 0 w w') : Grp w' lo a b A n c rows Aa act :=
  ⟨owns_mid h.out m (Or.inl (Nat.zero_le _)), (h.rows.mid m (Or.inl (Nat.zero_le _))).wide (Nat.le_refl _) m.size (Nat.le_refl _), h.act.mid m (Or.inl (Nat.zero_le _)), h.off, h.lob⟩
theorem Grp.rss (h : Grp w lo a b A n c rows Aa act) : RSS w lo w.heap.size A (rowsD rows) :=
  (OSS.mk' h.out (h.rows.wide h.lob (Nat.le_refl _) (Nat.le_refl _)) rfl).rss
theorem Grp.row (h : Grp w lo a b A n c rows Aa act) {k : Nat} (hk : k < n) :
    ∃ b off A' c' xs, A = some ⟨b, off, none⟩ ∧ lo ≤ b ∧ b < w.heap.size ∧ (rowsD rows)[k]? = some xs ∧ w.cell? ⟨b, off + k, none⟩ = some (.slice A' xs.length c') ∧ RV w lo w.heap.size A' (ints xs) :=
  h.rss.row (by rw [rowsD_len, h.len]; exact hk)
/-- A row more. -/
theorem Grp.push {W : World} {W' : World} {A' : Option Addr} {c' : Nat} {r : Row} (h : Grp w lo a b A n c rows Aa act) (m : Mid 0 0 w W) (hrow : W.ownsRow w.heap.size 3 1 r.v r.xs.length (ints r.xs))
    (h1 : W'.ownsRow lo 38 1 (.slice A' (n + 1) c') (n + 1) (rowsV rows ++ [r.v])) (h2 : W.grownBy W' (Value.ownBlock (.slice A n c))) (h3 : Value.ownBlock (.slice A' (n + 1) c') = Value.ownBlock (.slice A n c) ∨ Value.ownBlock (.slice A' (n + 1) c') = some (W.heap.size + 1)) :
    Grp W' lo a b A' (n + 1) c' (rows ++ [r]) Aa act := by
  have hbs := h.act.size
  have hms := m.size
  have hG := h.mid m
  refine ⟨by rw [rowsV_append]; exact h1, ?_, ?_, ?_, h.lob⟩
  · have k1 := (h.rows.mid m (Or.inl (Nat.zero_le _))).push (r := r) (base := w.heap.size) (hi' := W.heap.size) hrow (Nat.le_refl _) hbs hms (Nat.le_refl _) (fun g hg => (hrow.lt g hg).2)
    exact (k1.grown hG.out (by decide) h2).wide (Nat.le_refl _) h2.size (Nat.le_refl _)
  · cases hob : Value.ownBlock (.slice A n c) with
    | none =>
      rw [hob] at h2
      exact hG.act.mid (Mid.of_grown (lo := 0) (hi := 0) h2 (by intro g hg; cases hg)) (Or.inl (Nat.zero_le _))
    | some g =>
      rw [hob] at h2
      have := h.off g hob
      exact hG.act.mid (Mid.of_grown (lo := g) (hi := g + 1) h2 (by intro g' hg; injection hg with hg; omega)) (by omega)
  · intro g hg
    rcases h3 with h3 | h3
    · exact h.off g (by rw [← h3]; exact hg)
    · rw [h3] at hg
      injection hg with hg
      omega
end
section
variable {W : World} {ops : Array Oper} {rest : List Oper} {o : Oper} {ac : Act} {Q : Exit → Act → World → Prop}
theorem wpList_pushG {w : World} {lo a b : Nat} {A : Option Addr} {n c : Nat} {rows : List Row} {Aa : Option Addr} {act : List (List Int)} (hgd : o.guard = none) (s x : Operand)
    (ho : o.op = .call { callee := .builtin .append, args := #[s, x], argTypes := #[26, 26] }) (hs : ac.eval s = .slice A n c)
    (h : Grp w lo a b A n c rows Aa act) (m : Mid 0 0 w W) (r : Row) (hrow : W.ownsRow w.heap.size 3 1 r.v r.xs.length (ints r.xs)) (hx : ac.eval x = .slice (some ⟨W.heap.size, 0, none⟩) 1 1) (hn : n ≤ 1048576)
    (hk : ∀ A' c' w', Grp w' lo a b A' (n + 1) c' (rows ++ [r]) Aa act → Mid lo W.heap.size W w' → wpList Tryz.prog ops Q rest (ac.put o.dst (.slice A' (n + 1) c')) w') :
    wpList Tryz.prog ops Q (o :: rest) ac (W.alloc (.cells #[r.v] 38)) := by
  have hbs := h.act.size
  have hms := m.size
  have hlo := h.lob
  refine wpList_push (news := [r.v]) hgd s x 26 ho lo 38 (.slice none 0 0) 1 24 undSSI infoSI rfl (by decide) (.slice A n c) n (rowsV rows) hs (h.mid m).out 1 hx rfl ?_ (by unfold maxLen; omega) (by omega) (by omega) ?_
  · intro u hu
    simp at hu
    subst hu
    rfl
  · intro v' w' h1 h2 h3
    obtain ⟨A', c', rfl, -, -⟩ := owns_shape h1
    exact hk A' c' w' (h.push m hrow h1 h2 h3) (Mid.of_grownRow (h.mid m).out h2)
end
open Classical in
/-- The elements of the group. -/
noncomputable def grpI (r s : Int) (es : List Ed) : List (List Int) := if IsFin r s es then grpRun (actL s.toNat es r.toNat) 201 0 [upto s.toNat] else []
theorem grpI_yes {r n : Nat} {es : List Ed} (h : IsFin r n es) : grpI r n es = grpRun (actL n es r) 201 0 [upto n] := by
  rw [grpI, if_pos h]
  rfl
theorem grpI_no {r s : Int} {es : List Ed} (h : ¬ IsFin r s es) : grpI r s es = [] := if_neg h
theorem grpI_len (r s : Int) (es : List Ed) : (grpI r s es).length ≤ 200 := by
  unfold grpI
  split
  · exact grpRun_len _ _ _ (by simp)
  · simp
theorem sumL_le {m : Nat} : ∀ (l : List (List Int)), (∀ x ∈ l, x.length ≤ m) → sumL l ≤ l.length * m
  | [], _ => by simp [sumL]
  | x :: t, h => by
    have h1 := sumL_le t fun y hy => h y (by simp [hy])
    have h2 := h x (by simp)
    have h3 : sumL (x :: t) = x.length + sumL t := by simp [sumL]
    rw [h3, List.length_cons, Nat.succ_mul]
    omega
theorem grpI_sum (r s : Int) (es : List Ed) : sumL (grpI r s es) ≤ 8000 := by
  have h1 := grpI_len r s es
  have h2 : ∀ x ∈ grpI r s es, x.length ≤ 40 := by
    unfold grpI
    split
    · rename_i h
      have hs := h.cor.gr.size
      exact grpRun_all (Nat.le_refl _) _ _ _ fun x hx => by simp at hx; rw [hx, upto_len]; omega
    · simp
  have h3 := sumL_le _ h2
  have h4 : (grpI r s es).length * 40 ≤ 200 * 40 := Nat.mul_le_mul_right _ h1
  omega
end Go.Proofs.YtkdmffjnkciecaaGreat

/- GroupElements, the program. -/
namespace Go.Proofs.YtkdmffjnkciecaaGreat
set_option linter.unusedVariables false
set_option linter.unusedSimpArgs false
open Go.RowKit

set_option maxHeartbeats 6400000 in
set_option maxRecDepth 100000 in
theorem impl_GroupElements_fin (r n : Nat) (A : Option Addr) (es : List Ed) (c : Nat) (w : World) (lo hi : Nat) (hr : RG w lo hi A es) (hcl : es.length ≤ c) (hf : IsFin r n es) (R : List (List Int)) (hR : grpI r n es = R) :
    Calls Tryz.prog 12 #[graV r n A es.length c] w fun e w' => ∃ A1 c1, e = .returned (.slice A1 R.length c1) ∧ OSS w' w.heap.size w'.heap.size 38 3 A1 c1 R ∧ Mid 0 0 w w' := by
  have hg := hf.cor.gr
  have hn40 : n ≤ 40 := by have := hg.size; omega
  have hr3 : 1 ≤ r ∧ r ≤ 3 := by have := hg.rank; omega
  have hl := hg.len
  have HF := Lib.hid hf
  have HR := Lib.hid (by rw [← hR]; exact (grpI_yes hf).symm : grpRun (actL n es r) 201 0 [upto n] = R)
  have hal0 := actL_len n es r
  have hasum := actL_sum n es r
  obtain ⟨act, hact⟩ : ∃ act, actL n es r = act := ⟨_, rfl⟩
  have hAC := fun W h => impl_ActionOf_fin r n A es c W lo hi h hcl hf
  rw [hact] at HR hal0 hasum
  simp only [hact] at hAC
  have HAC := Lib.hid hAC
  have hall : Hid (∀ p ∈ act, p.length ≤ 40) := Lib.hid (by
    intro p hp
    rw [← hact] at hp
    simp only [actL, List.mem_map, List.mem_range] at hp
    obtain ⟨i, -, rfl⟩ := hp
    rw [rowL_len]
    exact hn40)
  have hmin : min ((n : Int).toNat) 40 = n := by omega
  have hID := fun W => impl_IdentityPermutation (n : Int) W
  simp only [hmin] at hID
  have HID := Lib.hid hID
  clear hf hg hR hact hAC hID hmin hasum
  have hm0 : Mid 0 0 w ((w.alloc (.cells #[.int .i64 r, .int .i64 n, .slice A es.length c] 30)).alloc (.cells #[] 38)) := (Mid.alloc _ _).trans (Mid.alloc _ _)
  have b0 := (Box.new w #[.int .i64 r, .int .i64 n, .slice A es.length c] 30).mid (Mid.alloc _ (.cells #[] 38)) (Or.inr (Nat.zero_le _))
  have O0 := owns_empty (w.alloc (.cells #[.int .i64 r, .int .i64 n, .slice A es.length c] 30)) 38 1
  rw [World.size_alloc] at O0
  go_enter Tryz.func12, Tryz.ntmps12
  go_wp2_with fail
  with_reducible refine (impl_IsFiniteIndex r n A es c _ _ _ (hr.mid hm0 (Or.inl (Nat.zero_le _))) (by omega) hcl true (iff_of_true rfl HF.out)).mono ?_
  rintro en w1 ⟨rfl, hm1⟩
  replace b0 := b0.mid hm1 (Or.inr (Nat.zero_le _))
  replace O0 := owns_mid O0 hm1 (Or.inl (Nat.zero_le _))
  replace hm0 := hm0.trans hm1
  have hs1 : w.heap.size + 1 < w1.heap.size := (O0.lt (w.heap.size + 1) rfl).2
  have p0 := b0.cell 0 rfl
  have p1 := b0.cell 1 rfl
  have p2 := b0.cell 2 rfl
  clear hm1
  go_wp2_with fail
  with_reducible refine (HAC.out _ (hr.mid hm0 (Or.inl (Nat.zero_le _)))).mono ?_
  rintro en w2 ⟨Aa, ca, rfl, hoss, hm2⟩
  replace b0 := b0.mid hm2 (Or.inr (Nat.zero_le _))
  replace O0 := owns_mid O0 hm2 (Or.inl (Nat.zero_le _))
  replace hm0 := hm0.trans hm2
  have hs2 := hm2.size
  have hG0 : Grp w2 (w.heap.size + 1) w1.heap.size w2.heap.size (some ⟨w.heap.size + 1, 0, none⟩) 0 0 [] Aa act := ⟨O0, OwnRows.nil, hoss.rss, fun g hg => by injection hg with hg; simp only at hg; omega, by omega⟩
  clear p0 p1 p2 hm2 hoss O0 HAC
  have p0 := b0.cell 0 rfl
  have p1 := b0.cell 1 rfl
  have p2 := b0.cell 2 rfl
  go_wp2_with fail
  with_reducible refine (HID.out w2).mono ?_
  rintro en w3 ⟨A3, c3, rfl, hid3, hbe3⟩
  have hm3 : Mid 0 0 w2 w3 := Mid.of_below hbe3
  have hm03 := hm0.trans hm3
  have HG0 := Lib.hid hG0
  have HI3 := Lib.hid hid3
  clear p0 p1 p2 b0 hbe3 hid3 hG0 HID
  generalize (some (⟨w.heap.size + 1, 0, none⟩ : Addr)) = A0 at HG0 ⊢
  go_wp2_with (at_builtin; refine wpList_pushG rfl _ _ rfl rfl HG0.out hm3 ⟨A3, c3, upto n⟩ HI3.out rfl (Nat.zero_le _) ?_; intro A4 c4 w4 hG4 hm4)
  have hm04 := hm03.transNew hm4 (Or.inl (Nat.le_succ _))
  have hst : ([] : List Row) ++ [(⟨A3, c3, upto n⟩ : Row)] = [⟨A3, c3, upto n⟩] := rfl
  rw [hst] at hG4
  clear hst hm4 hm03 hm3 hm0 HG0 HI3
  generalize w1.heap.size = Ba at hG4
  generalize w2.heap.size = Bb at hG4
  obtain ⟨lo0, hlo0⟩ : ∃ lo0, w.heap.size + 1 = lo0 := ⟨_, rfl⟩
  have hlo1 : w.heap.size ≤ lo0 := by omega
  rw [hlo0] at hG4

  go_loopw [3, 5] (fun out i wr => ∃ (i0 : Nat) (rows : List Row) (A5 : Option Addr) (n5 c5 : Nat), i = .int .i64 i0 ∧ out = .slice A5 n5 c5 ∧ Hid (i0 ≤ n5 ∧ n5 ≤ 200) ∧ Hid (grpRun act (201 - i0) i0 (rowsD rows) = R) ∧ Hid (∀ x ∈ rowsD rows, x.length ≤ 40) ∧
      Hid (Grp wr lo0 Ba Bb A5 n5 c5 rows Aa act) ∧ Mid 0 0 w wr) (fun out i _ => 201 - (intOf i).toNat)
  case atStart => exact ⟨0, [⟨A3, c3, upto n⟩], _, 1, _, rfl, rfl, Lib.hid ⟨Nat.zero_le _, by omega⟩, HR, Lib.hid (fun x hx => by simp [rowsD] at hx; rw [hx, upto_len]; exact hn40), Lib.hid hG4, hm04⟩
  case round =>
    clear hG4 hm04 HR
    obtain ⟨wo, hwo⟩ : ∃ wo, wo = wr := ⟨_, rfl⟩
    subst hwo
    obtain ⟨i0, rows, A5, n5, c5, rfl, rfl, HI, HRUN, HLEN, HG, hm⟩ := hrel
    have hi0 := HI.out
    by_cases hlt : i0 < n5
    · have hlt1 : (i0 : Int) < (n5 : Int) := by omega
      obtain ⟨q, hq⟩ : ∃ q, (rowsD rows)[i0]? = some q := ⟨_, List.getElem?_eq_getElem (by rw [rowsD_len, HG.out.len]; exact hlt)⟩
      have HQ := Lib.hid hq
      have HQ1 := Lib.hid hq
      obtain ⟨RR, hRR⟩ : ∃ RR, grpRow q act (rowsD rows) = RR := ⟨_, rfl⟩
      have HRR := Lib.hid hRR
      have hq40 : Hid (q.length ≤ 40) := Lib.hid (HLEN.out q (List.mem_of_getElem? hq))
      clear hq hRR
      go_wp2_with fail
      go_loopw [3, 33] (fun out kv wr => ∃ (k : Nat) (rows : List Row) (A6 : Option Addr) (n6 c6 : Nat), kv = .int .i64 k ∧ out = .slice A6 n6 c6 ∧ Hid (k ≤ act.length ∧ i0 < n6 ∧ n6 ≤ 200) ∧ Hid ((rowsD rows)[i0]? = some q) ∧ Hid (grpRow q (act.drop k) (rowsD rows) = RR) ∧ Hid (∀ x ∈ rowsD rows, x.length ≤ 40) ∧
          Hid (Grp wr lo0 Ba Bb A6 n6 c6 rows Aa act) ∧ Mid 0 0 w wr) (fun out kv _ => act.length - (intOf kv).toNat)
      case atStart => exact ⟨0, rows, A5, n5, c5, rfl, rfl, Lib.hid ⟨Nat.zero_le _, hlt, hi0.2⟩, HQ, HRR, HLEN, HG, hm⟩
      case round =>
        clear HG HLEN hm HQ
        obtain ⟨wp, hwp⟩ : ∃ wp, wp = wr := ⟨_, rfl⟩
        subst hwp
        obtain ⟨k, rowsK, A6, n6, c6, rfl, rfl, HK, HQ, HROW, HLEN, HG, hm⟩ := hrel
        obtain ⟨hk, hin, hn6⟩ := HK.out
        by_cases hltk : k < act.length
        · have hltk1 : (k : Int) < (act.length : Int) := by omega
          have hk0 : (0 : Int) ≤ (k : Int) := by omega
          obtain ⟨Bo, oo, Aq, cq, q', rfl, hlB, hBo, hq', hcq, hrq⟩ := HG.out.row hin
          have hqq : q' = q := by
            have := HQ.out
            rw [hq'] at this
            injection this
          subst hqq
          obtain ⟨Bt, ot, Ap, cp, p, rfl, -, hBt, hp, hcp, hrp⟩ := HG.out.act.row hltk
          have hBts : Bt < wp.heap.size := by have := HG.out.act.size; omega
          have hp40 := hall.out p (List.mem_of_getElem? hp)
          have hq40' := hq40.out
          have hi1 : (i0 : Int) < (n6 : Int) := by omega
          have hi00 : (0 : Int) ≤ (i0 : Int) := by omega
          have hdr : act.drop k = p :: act.drop (k + 1) := by
            obtain ⟨h1, h2⟩ := List.getElem?_eq_some_iff.1 hp
            rw [← h2, ← List.drop_eq_getElem_cons h1]
          have HDR := Lib.hid hdr
          have HIN := Lib.hid (show i0 < n6 from hin)
          have hCP := fun W (h1 : RV W lo0 wp.heap.size Aq (ints q')) (h2 : RV W Ba Bb Ap (ints p)) => impl_Compose Aq q' cq _ Ap p cp _ W h1.rs h1.1 h2.rs h2.1 (by omega) (by omega) (cmpX q' p) (cmpX_is q' p)
          obtain ⟨x, hx⟩ : ∃ x, cmpX q' p = x := ⟨_, rfl⟩
          simp only [hx] at hCP
          have hx40 : Hid (x.length ≤ 40) := Lib.hid (by rw [← hx]; exact cmpX_len q' p)
          have Himpl := Lib.hid hx
          have HCP := Lib.hid hCP
          clear hq' hp hdr hx hCP hin

          go_wp2_with fail
          with_reducible refine (HCP.out _ hrq hrp).mono ?_
          rintro en w6 ⟨A7, c7, rfl, hown7, hbe7⟩
          have hm7 : Mid 0 0 wp w6 := Mid.of_below hbe7
          clear hcq hcp hrq hrp HCP hbe7

          have HG7 := Lib.hid (HG.out.mid hm7)
          have hm8 := hm.trans hm7
          have hx40' := hx40.out
          have HOW7 := Lib.hid hown7
          clear hown7
          go_wp2_with fail
          go_loopw [9, 45] (fun kn mv wr => ∃ (m : Nat) (b : Bool), mv = .int .i64 m ∧ kn = .bool b ∧ Hid (m ≤ n6) ∧ Hid (b = true ↔ x ∈ (rowsD rowsK).take m) ∧ Mid 0 0 w6 wr) (fun kn mv _ => n6 - (intOf mv).toNat)
          case atStart => exact ⟨0, false, rfl, rfl, Lib.hid (Nat.zero_le _), Lib.hid (by simp), Mid.refl _ _ _⟩
          case round =>
            obtain ⟨wq, hwq⟩ : ∃ wq, wq = wr := ⟨_, rfl⟩
            subst hwq
            obtain ⟨m, b, rfl, rfl, HM, HB, hmm⟩ := hrel
            have hmn := HM.out
            by_cases hltm : m < n6
            · have hltm1 : (m : Int) < (n6 : Int) := by omega
              have hm00 : (0 : Int) ≤ (m : Int) := by omega
              have hG8 := HG7.out.mid hmm
              obtain ⟨By, oy, Ay, cy, y, hAy, -, hBy, hy, hcy, hry⟩ := hG8.row hltm
              injection hAy with hAy
              injection hAy with hA1 hA2
              subst hA1 hA2
              have HY := Lib.hid hy
              have hy40 := HLEN.out y (List.mem_of_getElem? hy)
              have hrx := (owns_rv (owns_mid HOW7.out hmm (Or.inl (Nat.zero_le _))))
              have hrxs : Rs wq wq.heap.size A7 (ints x) := hrx.rs
              cases b with
              | true =>
                have HB2 : Hid (true = true ↔ x ∈ (rowsD rowsK).take (m + 1)) := Lib.hid (by rw [mem_take_succ HY.out]; exact iff_of_true rfl (Or.inl (HB.out.1 rfl)))
                clear hy hry hrx hrxs hG8
                go_wp2_with fail
                go_roundw
                case rel => exact ⟨m + 1, true, by go_num, rfl, Lib.hid hltm, HB2, hmm⟩
                case measure => simp [intOf]; omega
              | false =>
                obtain ⟨v, hv⟩ := bool_of (x = y)
                have HV := Lib.hid hv
                have HB2 : Hid (v = true ↔ x ∈ (rowsD rowsK).take (m + 1)) := Lib.hid (by
                  rw [mem_take_succ HY.out, HV.out]
                  constructor
                  · exact fun h => Or.inr h
                  · rintro (h | h)
                    · have := HB.out.2 h
                      cases this
                    · exact h)
                clear hy hv hrx hG8
                go_wp2_with fail
                with_reducible refine (impl_EqualWords A7 Ay x y c7 cy wq _ _ hrxs hry.rs (by omega) v HV.out).mono ?_
                rintro en w9 ⟨rfl, nd, rfl⟩
                go_wp2_with fail
                go_roundw
                case rel => exact ⟨m + 1, v, by go_num, rfl, Lib.hid hltm, HB2, hmm.trans ((Mid.refl 0 0 wq).drewN nd)⟩
                case measure => simp [intOf]; omega
            · obtain rfl : m = n6 := by omega
              have htk : (rowsD rowsK).take m = rowsD rowsK := List.take_of_length_le (by rw [rowsD_len, HG7.out.len]; exact Nat.le_refl _)
              have HB3 : Hid (b = true ↔ x ∈ rowsD rowsK) := Lib.hid (by rw [← htk]; exact HB.out)
              have hG8 := HG7.out.mid hmm
              have hm9 := hm8.trans hmm
              have hrw := HROW.out
              rw [HDR.out] at hrw
              have hmi := hm7.trans hmm
              clear HB htk
              cases b with
              | true =>
                rw [grpRow_in (by rw [Himpl.out]; exact HB3.out.1 rfl)] at hrw
                have HROW2 := Lib.hid hrw
                clear hrw
                go_wp2_with fail
                go_roundw
                case rel => exact ⟨k + 1, rowsK, _, m, c6, by go_num, rfl, Lib.hid ⟨hltk, HIN.out, hn6⟩, HQ, HROW2, HLEN, Lib.hid hG8, hm9⟩
                case measure => simp [intOf]; omega
              | false =>
                have hnin : cmpX q' p ∉ rowsD rowsK := fun h => by rw [Himpl.out] at h; have := HB3.out.2 h; cases this
                have hlen : (rowsD rowsK).length = m := by rw [rowsD_len, HG7.out.len]
                by_cases h200 : m = 200
                · rw [grpRow_full hnin (by rw [hlen]; exact h200)] at hrw
                  have hfin := HRUN.out
                  rw [show 201 - i0 = (200 - i0) + 1 by have := HI.out; omega, grpRun_none HQ1.out (HRR.out.trans hrw.symm)] at hfin
                  subst h200 hfin
                  clear hrw hnin hlen
                  go_wp2_with fail
                  go_ret
                  refine ⟨some ⟨wq.heap.size, 0, none⟩, 0, rfl, ?_, ?_⟩
                  · have h1 := OSS.mk' (xss := []) (owns_empty wq 38 1) (OwnRows.nil (tI := 3)) rfl
                    exact h1.wide (by have := hm9.size; omega) (Nat.le_refl _) (Nat.le_refl _)
                  · exact hm9.trans (Mid.alloc _ _)
                · rw [grpRow_new hnin (by rw [hlen]; exact h200), Himpl.out] at hrw
                  have d200 : ((m : Int) == 200) = false := by simp only [beq_eq_false_iff_ne]; omega
                  have d200' : decide ((200 : Int) ≤ (m : Int)) = false := by simp; omega
                  have HROW2 := Lib.hid hrw
                  have HOW8 := Lib.hid (owns_mid HOW7.out hmm (Or.inl (Nat.zero_le _)))
                  clear hrw hnin hlen hG8
                  go_wp2_with (at_builtin; refine wpList_pushG rfl _ _ rfl rfl HG.out hmi ⟨A7, c7, x⟩ HOW8.out rfl (by omega) ?_; intro A10 c10 w10 hG10 hm10)
                  go_roundw
                  case rel =>
                    refine ⟨k + 1, rowsK ++ [⟨A7, c7, x⟩], A10, m + 1, c10, by go_num, rfl, Lib.hid ⟨hltk, by have := HIN.out; omega, by omega⟩, Lib.hid ?_, ?_, Lib.hid ?_, Lib.hid hG10, hm9.transNew hm10 (Or.inl hlo1)⟩
                    · rw [rowsD_append]
                      exact prefix_get (List.prefix_append _ _) HQ.out
                    · rw [rowsD_append]
                      exact HROW2
                    · intro z hz
                      rw [rowsD_append] at hz
                      rcases List.mem_append.1 hz with hz | hz
                      · exact HLEN.out z hz
                      · simp [rowsD] at hz
                        rw [hz]
                        exact hx40.out
                  case measure => simp [intOf]; omega
        · obtain rfl : k = act.length := by omega
          have hrw := HROW.out
          rw [List.drop_length, grpRow] at hrw
          have hfin := HRUN.out
          rw [show 201 - i0 = (200 - i0) + 1 by have := HI.out; omega, grpRun_some HQ1.out (HRR.out.trans hrw.symm)] at hfin
          have HFIN := Lib.hid hfin
          clear hrw hfin
          go_wp2_with fail
          go_roundw
          case rel => exact ⟨i0 + 1, rowsK, A6, n6, c6, by go_num, rfl, Lib.hid ⟨by omega, hn6⟩, Lib.hid (by rw [show 201 - (i0 + 1) = 200 - i0 by omega]; exact HFIN.out), HLEN, HG, hm⟩
          case measure => simp [intOf]; omega
    · obtain rfl : i0 = n5 := by omega
      have hfin := HRUN.out
      rw [grpRun_end (by rw [rowsD_len, HG.out.len]; exact Nat.le_refl _)] at hfin
      have hlen : R.length = i0 := by rw [← hfin, rowsD_len, HG.out.len]
      have hoss := OSS.mk' HG.out.out (HG.out.rows.wide HG.out.lob (Nat.le_refl _) (Nat.le_refl _)) hfin
      have HL := Lib.hid hlen
      clear hlen hfin
      go_wp2_with fail
      go_ret
      exact ⟨A5, c5, by rw [HL.out]; rfl, hoss.wide hlo1 (Nat.le_refl _) (Nat.le_refl _), hm⟩
end Go.Proofs.YtkdmffjnkciecaaGreat

/- GroupElements, the reference. -/
namespace Go.Proofs.YtkdmffjnkciecaaGreat
set_option linter.unusedVariables false
set_option linter.unusedSimpArgs false
open Go.RowKit

set_option maxHeartbeats 6400000 in
set_option maxRecDepth 100000 in
theorem spec_GroupElements_fin (r n : Nat) (A : Option Addr) (es : List Ed) (c : Nat) (w : World) (lo hi : Nat) (hr : RG w lo hi A es) (hf : IsFin r n es) (R : List (List Int)) (hR : grpI r n es = R) :
    Calls Tryz.prog 10 #[graV r n A es.length c] w fun e w' => ∃ A1 c1, e = .returned (.slice A1 R.length c1) ∧ OSS w' w.heap.size w'.heap.size 38 3 A1 c1 R ∧ Mid 0 0 w w' := by
  have hg := hf.cor.gr
  have hn40 : n ≤ 40 := by have := hg.size; omega
  have hr3 : 1 ≤ r ∧ r ≤ 3 := by have := hg.rank; omega
  have hl := hg.len
  have HF := Lib.hid hf
  have HR := Lib.hid (by rw [← hR]; exact (grpI_yes hf).symm : grpRun (actL n es r) 201 0 [upto n] = R)
  have hal0 := actL_len n es r
  have hasum := actL_sum n es r
  obtain ⟨act, hact⟩ : ∃ act, actL n es r = act := ⟨_, rfl⟩
  have hAC := fun W h => spec_ActionOf_fin r n A es c W lo hi h hf
  rw [hact] at HR hal0 hasum
  simp only [hact] at hAC
  have HAC := Lib.hid hAC
  have hall : Hid (∀ p ∈ act, p.length ≤ 40) := Lib.hid (by
    intro p hp
    rw [← hact] at hp
    simp only [actL, List.mem_map, List.mem_range] at hp
    obtain ⟨i, -, rfl⟩ := hp
    rw [rowL_len]
    exact hn40)
  have hmin : min ((n : Int).toNat) 40 = n := by omega
  have hID := fun W => spec_IdentityPermutation (n : Int) W
  simp only [hmin] at hID
  have HID := Lib.hid hID
  clear hf hg hR hact hAC hID hmin hasum
  have hm0 : Mid 0 0 w (w.alloc (.cells #[.int .i64 r, .int .i64 n, .slice A es.length c] 30)) := Mid.alloc _ _
  have b0 := Box.new w #[.int .i64 r, .int .i64 n, .slice A es.length c] 30
  have hane : ((act.length : Int) == 0) = false := by rw [hal0]; simp only [beq_eq_false_iff_ne]; omega
  go_enter Tryz.func10, Tryz.ntmps10
  go_wp2_with fail
  generalize w.alloc (.cells #[.int .i64 r, .int .i64 n, .slice A es.length c] 30) = w1 at hm0 b0 ⊢
  with_reducible refine (HAC.out _ (hr.mid hm0 (Or.inl (Nat.zero_le _)))).mono ?_
  rintro en w2 ⟨Aa, ca, rfl, hoss, hm2⟩
  have hs1 := hm0.size
  replace b0 := b0.mid hm2 (Or.inr (Nat.zero_le _))
  replace hm0 := hm0.trans hm2
  have hs2 := hm2.size
  have p0 := b0.cell 0 rfl
  have p1 := b0.cell 1 rfl
  have p2 := b0.cell 2 rfl
  go_wp2_with fail
  with_reducible refine (HID.out w2).mono ?_
  rintro en w3 ⟨A3, c3, rfl, hid3, hbe3⟩
  have hm3 : Mid 0 0 w2 w3 := Mid.of_below hbe3
  have hm03 := hm0.trans hm3
  have hs3 := hm3.size
  have hal := Mid.alloc w3 (.cells #[.slice A3 (upto n).length c3] 38)
  have hm04 := hm03.trans hal
  have hG4 : Grp (w3.alloc (.cells #[.slice A3 (upto n).length c3] 38)) w2.heap.size w1.heap.size w2.heap.size (some ⟨w3.heap.size, 0, none⟩) 1 1 [⟨A3, c3, upto n⟩] Aa act := by
    refine ⟨owns_base (owns_lit w3 38 (.slice A3 (upto n).length c3)) hs3, ?_, (hoss.rss.mid hm3 (Or.inl (Nat.zero_le _))).mid hal (Or.inl (Nat.zero_le _)), fun g hg => by injection hg with hg; simp only at hg; omega, Nat.le_refl _⟩
    refine ⟨fun q hq => ?_, by simp⟩
    simp at hq
    subst hq
    have h1 := owns_mid hid3 hal (Or.inl (Nat.zero_le _))
    exact ⟨Nat.le_refl _, h1, fun g hg => (h1.lt g hg).2⟩
  clear p0 p1 p2 hm2 hoss HAC hid3 hbe3 HID
  go_wp2_with fail
  generalize w3.alloc (.cells #[.slice A3 (upto n).length c3] 38) = w4 at hG4 hm04 ⊢
  obtain ⟨lo0, hlo0⟩ : ∃ lo0, w2.heap.size = lo0 := ⟨_, rfl⟩
  have hlo1 : w.heap.size ≤ lo0 := by omega
  rw [hlo0] at hG4
  clear hal hm03 hm3 hm0
  generalize w1.heap.size = Ba at hG4
  obtain ⟨Bb, hBb⟩ : ∃ Bb, lo0 = Bb := ⟨_, rfl⟩

  go_loopw [4, 5] (fun out i wr => ∃ (i0 : Nat) (rows : List Row) (A5 : Option Addr) (n5 c5 : Nat), i = .int .i64 i0 ∧ out = .slice A5 n5 c5 ∧ Hid (i0 ≤ n5 ∧ n5 ≤ 200) ∧ Hid (grpRun act (201 - i0) i0 (rowsD rows) = R) ∧ Hid (∀ x ∈ rowsD rows, x.length ≤ 40) ∧
      Hid (Grp wr lo0 Ba lo0 A5 n5 c5 rows Aa act) ∧ Mid 0 0 w wr) (fun out i _ => 201 - (intOf i).toNat)
  case atStart => exact ⟨0, [⟨A3, c3, upto n⟩], _, 1, _, rfl, rfl, Lib.hid ⟨Nat.zero_le _, by omega⟩, HR, Lib.hid (fun x hx => by simp [rowsD] at hx; rw [hx, upto_len]; exact hn40), Lib.hid hG4, hm04⟩
  case round =>
    clear hG4 hm04 HR
    obtain ⟨wo, hwo⟩ : ∃ wo, wo = wr := ⟨_, rfl⟩
    subst hwo
    obtain ⟨i0, rows, A5, n5, c5, rfl, rfl, HI, HRUN, HLEN, HG, hm⟩ := hrel
    have hi0 := HI.out
    by_cases hlt : i0 < n5
    · have hlt1 : (i0 : Int) < (n5 : Int) := by omega
      obtain ⟨q, hq⟩ : ∃ q, (rowsD rows)[i0]? = some q := ⟨_, List.getElem?_eq_getElem (by rw [rowsD_len, HG.out.len]; exact hlt)⟩
      have HQ := Lib.hid hq
      have HQ1 := Lib.hid hq
      obtain ⟨RR, hRR⟩ : ∃ RR, grpRow q act (rowsD rows) = RR := ⟨_, rfl⟩
      have HRR := Lib.hid hRR
      have hq40 : Hid (q.length ≤ 40) := Lib.hid (HLEN.out q (List.mem_of_getElem? hq))
      clear hq hRR
      go_wp2_with fail
      go_loopw [4, 6] (fun out kv wr => ∃ (k : Nat) (rows : List Row) (A6 : Option Addr) (n6 c6 : Nat), kv = .int .i64 k ∧ out = .slice A6 n6 c6 ∧ Hid (k ≤ act.length ∧ i0 < n6 ∧ n6 ≤ 200) ∧ Hid ((rowsD rows)[i0]? = some q) ∧ Hid (grpRow q (act.drop k) (rowsD rows) = RR) ∧ Hid (∀ x ∈ rowsD rows, x.length ≤ 40) ∧
          Hid (Grp wr lo0 Ba lo0 A6 n6 c6 rows Aa act) ∧ Mid 0 0 w wr) (fun out kv _ => act.length - (intOf kv).toNat)
      case atStart => exact ⟨0, rows, A5, n5, c5, rfl, rfl, Lib.hid ⟨Nat.zero_le _, hlt, hi0.2⟩, HQ, HRR, HLEN, HG, hm⟩
      case round =>
        clear HG HLEN hm HQ
        obtain ⟨wp, hwp⟩ : ∃ wp, wp = wr := ⟨_, rfl⟩
        subst hwp
        obtain ⟨k, rowsK, A6, n6, c6, rfl, rfl, HK, HQ, HROW, HLEN, HG, hm⟩ := hrel
        obtain ⟨hk, hin, hn6⟩ := HK.out
        by_cases hltk : k < act.length
        · have hltk1 : (k : Int) < (act.length : Int) := by omega
          have hk0 : (0 : Int) ≤ (k : Int) := by omega
          obtain ⟨Bo, oo, Aq, cq, q', rfl, hlB, hBo, hq', hcq, hrq⟩ := HG.out.row hin
          have hqq : q' = q := by
            have := HQ.out
            rw [hq'] at this
            injection this
          subst hqq
          obtain ⟨Bt, ot, Ap, cp, p, rfl, -, hBt, hp, hcp, hrp⟩ := HG.out.act.row hltk
          have hBts : Bt < wp.heap.size := by have := HG.out.act.size; omega
          have hp40 := hall.out p (List.mem_of_getElem? hp)
          have hq40' := hq40.out
          have hi1 : (i0 : Int) < (n6 : Int) := by omega
          have hi00 : (0 : Int) ≤ (i0 : Int) := by omega
          have hdr : act.drop k = p :: act.drop (k + 1) := by
            obtain ⟨h1, h2⟩ := List.getElem?_eq_some_iff.1 hp
            rw [← h2, ← List.drop_eq_getElem_cons h1]
          have HDR := Lib.hid hdr
          have HIN := Lib.hid (show i0 < n6 from hin)
          have hCP := fun W (h1 : RV W lo0 wp.heap.size Aq (ints q')) (h2 : RV W Ba lo0 Ap (ints p)) => spec_Compose Aq q' cq _ Ap p cp _ W h1.rs h1.1 h2.rs h2.1 (by omega) (by omega) (cmpX q' p) (cmpX_is q' p)
          obtain ⟨x, hx⟩ : ∃ x, cmpX q' p = x := ⟨_, rfl⟩
          simp only [hx] at hCP
          have hx40 : Hid (x.length ≤ 40) := Lib.hid (by rw [← hx]; exact cmpX_len q' p)
          have Hspec := Lib.hid hx
          have HCP := Lib.hid hCP
          clear hq' hp hdr hx hCP hin

          have e0 := wg_cell hBo hcq
          have e1 := wg_cell hBts hcp
          go_wp2_with fail
          have hmd := Mid.drew1 wp
          have hcq1 := cell_keep hmd hBo (Or.inr (Nat.zero_le _)) hcq
          have hcp1 := cell_keep hmd hBts (Or.inr (Nat.zero_le _)) hcp
          have hrq1 := hrq.mid hmd (Or.inl (Nat.zero_le _))
          have hrp1 := hrp.mid hmd (Or.inl (Nat.zero_le _))
          have HG1 := Lib.hid (HG.out.mid hmd)
          have hms := hmd.size
          clear hcq hcp hrq hrp e0 e1
          refine wp_region_T (S := (fun w' => w'.cell? ⟨Bo, oo + i0, none⟩ = some (.slice Aq q'.length cq) ∧ w'.cell? ⟨Bt, ot + k, none⟩ = some (.slice Ap p.length cp))) 9 (by kernel_rfl) ⟨hcq1, hcp1⟩ ?_
          generalize World.drew wp = wz at hcq1 hcp1 hrq1 hrp1 HG1 hmd hms ⊢
          refine wpAnyT_take (i := 0) (v := ?_) rfl (by kernel_rfl) (by kernel_rfl) (by kernel_rfl) (by kernel_rfl) (fun _ _ _ h => h) (Or.inl ⟨by rfl, ?_⟩) ⟨hcq1, hcp1⟩ ?_
          rotate_left
          focus (intro w hSw; (try dsimp only at hSw); go_simp; try with_reducible rfl)
          try simp only [Act.put, List.setIfInBounds_toArray, List.set_cons_zero, List.set_cons_succ, List.getElem_toArray, List.getElem_cons_zero, List.getElem_cons_succ]
          refine wpAnyT_take (i := 1) (v := ?_) rfl (by kernel_rfl) (by kernel_rfl) (by kernel_rfl) (by kernel_rfl) (fun _ _ _ h => h) (Or.inl ⟨by rfl, ?_⟩) ⟨hcq1, hcp1⟩ ?_
          rotate_left
          focus (intro w hSw; (try dsimp only at hSw); go_simp; try with_reducible rfl)
          try simp only [Act.put, List.setIfInBounds_toArray, List.set_cons_zero, List.set_cons_succ, List.getElem_toArray, List.getElem_cons_zero, List.getElem_cons_succ]
          refine wpAnyT_take (i := 2) (v := ?_) rfl (by kernel_rfl) (by kernel_rfl) (by kernel_rfl) (by kernel_rfl) (fun _ _ _ h => h) (Or.inl ⟨by rfl, ?_⟩) ⟨hcq1, hcp1⟩ ?_
          rotate_left
          focus (intro w hSw; (try dsimp only at hSw); go_simp; try with_reducible rfl)
          try simp only [Act.put, List.setIfInBounds_toArray, List.set_cons_zero, List.set_cons_succ, List.getElem_toArray, List.getElem_cons_zero, List.getElem_cons_succ]
          refine wpAnyT_take (i := 3) (v := ?_) rfl (by kernel_rfl) (by kernel_rfl) (by kernel_rfl) (by kernel_rfl) (fun _ _ _ h => h) (Or.inl ⟨by rfl, ?_⟩) ⟨hcq1, hcp1⟩ ?_
          rotate_left
          focus (intro w hSw; (try dsimp only at hSw); go_simp; try with_reducible rfl)
          try simp only [Act.put, List.setIfInBounds_toArray, List.set_cons_zero, List.set_cons_succ, List.getElem_toArray, List.getElem_cons_zero, List.getElem_cons_succ]
          refine wpAnyT_take (i := 4) (v := ?_) rfl (by kernel_rfl) (by kernel_rfl) (by kernel_rfl) (by kernel_rfl) (fun _ _ _ h => h) (Or.inl ⟨by rfl, ?_⟩) ⟨hcq1, hcp1⟩ ?_
          rotate_left
          focus (intro w hSw; (try dsimp only at hSw); go_simp; try with_reducible rfl)
          try simp only [Act.put, List.setIfInBounds_toArray, List.set_cons_zero, List.set_cons_succ, List.getElem_toArray, List.getElem_cons_zero, List.getElem_cons_succ]
          refine wpAnyT_take (i := 5) (v := ?_) rfl (by kernel_rfl) (by kernel_rfl) (by kernel_rfl) (by kernel_rfl) (fun _ _ _ h => h) (Or.inl ⟨by rfl, ?_⟩) ⟨hcq1, hcp1⟩ ?_
          rotate_left
          focus (intro w hSw; (try dsimp only at hSw); go_simp; try with_reducible rfl)
          try simp only [Act.put, List.setIfInBounds_toArray, List.set_cons_zero, List.set_cons_succ, List.getElem_toArray, List.getElem_cons_zero, List.getElem_cons_succ]
          refine wpAnyT_take (i := 6) (v := ?_) rfl (by kernel_rfl) (by kernel_rfl) (by kernel_rfl) (by kernel_rfl) (fun _ _ _ h => h) (Or.inl ⟨by rfl, ?_⟩) ⟨hcq1, hcp1⟩ ?_
          rotate_left
          focus (intro w hSw; (try dsimp only at hSw); go_simp; try with_reducible rfl)
          try simp only [Act.put, List.setIfInBounds_toArray, List.set_cons_zero, List.set_cons_succ, List.getElem_toArray, List.getElem_cons_zero, List.getElem_cons_succ]
          refine wpAnyT_take (i := 7) (v := ?_) rfl (by kernel_rfl) (by kernel_rfl) (by kernel_rfl) (by kernel_rfl) (fun _ _ _ h => h) (Or.inl ⟨by rfl, ?_⟩) ⟨hcq1, hcp1⟩ ?_
          rotate_left
          focus (intro w hSw; (try dsimp only at hSw); go_simp; try with_reducible rfl)
          try simp only [Act.put, List.setIfInBounds_toArray, List.set_cons_zero, List.set_cons_succ, List.getElem_toArray, List.getElem_cons_zero, List.getElem_cons_succ]
          refine wpAnyT_ready (rs := [8]) (by kernel_rfl) (by simp) (AllReadyT.cons rfl (fun K hK => ?_) AllReadyT.nil)
          (go_simp; refine (HCP.out _ hrq1 hrp1).mono ?_; rintro en w6 ⟨A7, c7, rfl, hown7, hbe7⟩; have hm7' : Mid 0 0 wz w6 := Mid.of_below hbe7; go_wp2_with fail)
          refine hK.out _ _ (Or.inr ⟨cell_keep hm7' (by omega) (Or.inr (Nat.zero_le _)) hcq1, cell_keep hm7' (by omega) (Or.inr (Nat.zero_le _)) hcp1⟩) (fun _ => ?_)
          clear hK K
          try simp only [Act.put, List.setIfInBounds_toArray, List.set_cons_zero, List.set_cons_succ, List.getElem_toArray, List.getElem_cons_zero, List.getElem_cons_succ]
          refine wpAnyT_ready (rs := [9]) (by kernel_rfl) (by simp) (AllReadyT.cons rfl (fun K hK => ?_) AllReadyT.nil)
          go_simp
          refine hK.out _ _ (Or.inl rfl) (fun _ => ?_)
          clear hK K
          try simp only [Act.put, List.setIfInBounds_toArray, List.set_cons_zero, List.set_cons_succ, List.getElem_toArray, List.getElem_cons_zero, List.getElem_cons_succ]
          refine wpAnyT_done (by kernel_rfl) ?_ _
          have hm7 : Mid 0 0 wp w6 := hmd.trans hm7'
          replace hown7 := owns_base hown7 hms
          clear hcq1 hcp1 hrq1 hrp1 HCP hbe7 hm7' hmd

          have HG7 := Lib.hid (HG.out.mid hm7)
          have hm8 := hm.trans hm7
          have hx40' := hx40.out
          have HOW7 := Lib.hid hown7
          clear hown7
          go_wp2_with fail
          go_loopw [8, 9] (fun kn mv wr => ∃ (m : Nat) (b : Bool), mv = .int .i64 m ∧ kn = .bool b ∧ Hid (m ≤ n6) ∧ Hid (b = true ↔ x ∈ (rowsD rowsK).take m) ∧ Mid 0 0 w6 wr) (fun kn mv _ => n6 - (intOf mv).toNat)
          case atStart => exact ⟨0, false, rfl, rfl, Lib.hid (Nat.zero_le _), Lib.hid (by simp), Mid.refl _ _ _⟩
          case round =>
            obtain ⟨wq, hwq⟩ : ∃ wq, wq = wr := ⟨_, rfl⟩
            subst hwq
            obtain ⟨m, b, rfl, rfl, HM, HB, hmm⟩ := hrel
            have hmn := HM.out
            by_cases hltm : m < n6
            · have hltm1 : (m : Int) < (n6 : Int) := by omega
              have hm00 : (0 : Int) ≤ (m : Int) := by omega
              have hG8 := HG7.out.mid hmm
              obtain ⟨By, oy, Ay, cy, y, hAy, -, hBy, hy, hcy, hry⟩ := hG8.row hltm
              injection hAy with hAy
              injection hAy with hA1 hA2
              subst hA1 hA2
              have HY := Lib.hid hy
              have hy40 := HLEN.out y (List.mem_of_getElem? hy)
              have hrx := (owns_rv (owns_mid HOW7.out hmm (Or.inl (Nat.zero_le _))))
              have hrxs : Rs wq wq.heap.size A7 (ints x) := hrx.rs
              cases b with
              | true =>
                have HB2 : Hid (true = true ↔ x ∈ (rowsD rowsK).take (m + 1)) := Lib.hid (by rw [mem_take_succ HY.out]; exact iff_of_true rfl (Or.inl (HB.out.1 rfl)))
                clear hy hry hrx hrxs hG8
                go_wp2_with fail
                go_roundw
                case rel => exact ⟨m + 1, true, by go_num, rfl, Lib.hid hltm, HB2, hmm⟩
                case measure => simp [intOf]; omega
              | false =>
                obtain ⟨v, hv⟩ := bool_of (y = x)
                have HV := Lib.hid hv
                have HB2 : Hid (v = true ↔ x ∈ (rowsD rowsK).take (m + 1)) := Lib.hid (by
                  rw [mem_take_succ HY.out, HV.out]
                  constructor
                  · exact fun h => Or.inr h.symm
                  · rintro (h | h)
                    · have := HB.out.2 h
                      cases this
                    · exact h.symm)
                clear hy hv hrx hG8
                go_wp2_with fail
                with_reducible refine (spec_EqualWords Ay A7 y x cy c7 wq _ _ hry.rs hrxs (by omega) v HV.out).mono ?_
                rintro en w9 ⟨rfl, nd, rfl⟩
                go_wp2_with fail
                go_roundw
                case rel => exact ⟨m + 1, v, by go_num, rfl, Lib.hid hltm, HB2, hmm.trans ((Mid.refl 0 0 wq).drewN nd)⟩
                case measure => simp [intOf]; omega
            · obtain rfl : m = n6 := by omega
              have htk : (rowsD rowsK).take m = rowsD rowsK := List.take_of_length_le (by rw [rowsD_len, HG7.out.len]; exact Nat.le_refl _)
              have HB3 : Hid (b = true ↔ x ∈ rowsD rowsK) := Lib.hid (by rw [← htk]; exact HB.out)
              have hG8 := HG7.out.mid hmm
              have hm9 := hm8.trans hmm
              have hrw := HROW.out
              rw [HDR.out] at hrw
              have hmi := hm7.trans hmm
              clear HB htk
              cases b with
              | true =>
                rw [grpRow_in (by rw [Hspec.out]; exact HB3.out.1 rfl)] at hrw
                have HROW2 := Lib.hid hrw
                clear hrw
                go_wp2_with fail
                go_roundw
                case rel => exact ⟨k + 1, rowsK, _, m, c6, by go_num, rfl, Lib.hid ⟨hltk, HIN.out, hn6⟩, HQ, HROW2, HLEN, Lib.hid hG8, hm9⟩
                case measure => simp [intOf]; omega
              | false =>
                have hnin : cmpX q' p ∉ rowsD rowsK := fun h => by rw [Hspec.out] at h; have := HB3.out.2 h; cases this
                have hlen : (rowsD rowsK).length = m := by rw [rowsD_len, HG7.out.len]
                by_cases h200 : m = 200
                · rw [grpRow_full hnin (by rw [hlen]; exact h200)] at hrw
                  have hfin := HRUN.out
                  rw [show 201 - i0 = (200 - i0) + 1 by have := HI.out; omega, grpRun_none HQ1.out (HRR.out.trans hrw.symm)] at hfin
                  subst h200 hfin
                  clear hrw hnin hlen
                  go_wp2_with fail
                  go_ret
                  refine ⟨some ⟨wq.heap.size, 0, none⟩, 0, rfl, ?_, ?_⟩
                  · have h1 := OSS.mk' (xss := []) (owns_empty wq 38 1) (OwnRows.nil (tI := 3)) rfl
                    exact h1.wide (by have := hm9.size; omega) (Nat.le_refl _) (Nat.le_refl _)
                  · exact hm9.trans (Mid.alloc _ _)
                · rw [grpRow_new hnin (by rw [hlen]; exact h200), Hspec.out] at hrw
                  have d200 : ((m : Int) == 200) = false := by simp only [beq_eq_false_iff_ne]; omega
                  have d200' : decide ((200 : Int) ≤ (m : Int)) = false := by simp; omega
                  have HROW2 := Lib.hid hrw
                  have HOW8 := Lib.hid (owns_mid HOW7.out hmm (Or.inl (Nat.zero_le _)))
                  clear hrw hnin hlen hG8
                  go_wp2_with (at_builtin; refine wpList_pushG rfl _ _ rfl rfl HG.out hmi ⟨A7, c7, x⟩ HOW8.out rfl (by omega) ?_; intro A10 c10 w10 hG10 hm10)
                  go_roundw
                  case rel =>
                    refine ⟨k + 1, rowsK ++ [⟨A7, c7, x⟩], A10, m + 1, c10, by go_num, rfl, Lib.hid ⟨hltk, by have := HIN.out; omega, by omega⟩, Lib.hid ?_, ?_, Lib.hid ?_, Lib.hid hG10, hm9.transNew hm10 (Or.inl hlo1)⟩
                    · rw [rowsD_append]
                      exact prefix_get (List.prefix_append _ _) HQ.out
                    · rw [rowsD_append]
                      exact HROW2
                    · intro z hz
                      rw [rowsD_append] at hz
                      rcases List.mem_append.1 hz with hz | hz
                      · exact HLEN.out z hz
                      · simp [rowsD] at hz
                        rw [hz]
                        exact hx40.out
                  case measure => simp [intOf]; omega
        · obtain rfl : k = act.length := by omega
          have hrw := HROW.out
          rw [List.drop_length, grpRow] at hrw
          have hfin := HRUN.out
          rw [show 201 - i0 = (200 - i0) + 1 by have := HI.out; omega, grpRun_some HQ1.out (HRR.out.trans hrw.symm)] at hfin
          have HFIN := Lib.hid hfin
          clear hrw hfin
          go_wp2_with fail
          go_roundw
          case rel => exact ⟨i0 + 1, rowsK, A6, n6, c6, by go_num, rfl, Lib.hid ⟨by omega, hn6⟩, Lib.hid (by rw [show 201 - (i0 + 1) = 200 - i0 by omega]; exact HFIN.out), HLEN, HG, hm⟩
          case measure => simp [intOf]; omega
    · obtain rfl : i0 = n5 := by omega
      have hfin := HRUN.out
      rw [grpRun_end (by rw [rowsD_len, HG.out.len]; exact Nat.le_refl _)] at hfin
      have hlen : R.length = i0 := by rw [← hfin, rowsD_len, HG.out.len]
      have hoss := OSS.mk' HG.out.out (HG.out.rows.wide HG.out.lob (Nat.le_refl _) (Nat.le_refl _)) hfin
      have HL := Lib.hid hlen
      clear hlen hfin
      go_wp2_with fail
      go_ret
      exact ⟨A5, c5, by rw [HL.out]; rfl, hoss.wide hlo1 (Nat.le_refl _) (Nat.le_refl _), hm⟩
end Go.Proofs.YtkdmffjnkciecaaGreat

/- GroupElements and CoreIndex, both sides; the laws' data. -/
namespace Go.Proofs.YtkdmffjnkciecaaGreat
set_option linter.unusedVariables false
set_option linter.unusedSimpArgs false
open Go.RowKit
def coreIx (r s : Int) (es : List Ed) : Int → Prop := fun res => res = if (grpI r s es).length = 0 then -1 else ((grpI r s es).length : Int)
def GroupElementsIs (r0 s0 : Int) (d0 : List Ed) (res0 : List (List Int)) : Prop := res0 = grpI r0 s0 d0
theorem GroupElementsIs_ex (r0 s0 : Int) (d0 : List Ed) (hl0 : d0.length ≤ 1048576) : ∃ res0, GroupElementsIs r0 s0 d0 res0 := ⟨_, rfl⟩
theorem GroupElementsIs_len {r0 s0 : Int} {d0 : List Ed} {res0 : List (List Int)} (h : GroupElementsIs r0 s0 d0 res0) (hl0 : d0.length ≤ 1048576) : res0.length + sumL res0 ≤ 1048576 := by
  obtain rfl : res0 = _ := h
  have h1 := grpI_len r0 s0 d0
  have h2 := grpI_sum r0 s0 d0
  omega
def CoreIndexIs (r0 s0 : Int) (d0 : List Ed) (res0 : Int) : Prop := coreIx r0 s0 d0 res0
theorem CoreIndexIs_ex (r0 s0 : Int) (d0 : List Ed) (hl0 : d0.length ≤ 1048576) : ∃ res0, CoreIndexIs r0 s0 d0 res0 := ⟨_, rfl⟩

set_option maxHeartbeats 1600000 in
set_option maxRecDepth 20000 in
theorem spec_GroupElements_no (r s : Int) (A : Option Addr) (es : List Ed) (c : Nat) (w : World) (lo hi : Nat) (hr : RG w lo hi A es) (hl : es.length ≤ 1048576) (hf : ¬ IsFin r s es) :
    Calls Tryz.prog 10 #[graV r s A es.length c] w fun e w' => ∃ A1 c1, e = .returned (.slice A1 0 c1) ∧ OSS w' w.heap.size w'.heap.size 38 3 A1 c1 [] ∧ Mid 0 0 w w' := by
  have HF := Lib.hid hf
  clear hf
  have hm0 : Mid 0 0 w (w.alloc (.cells #[.int .i64 r, .int .i64 s, .slice A es.length c] 30)) := Mid.alloc _ _
  go_enter Tryz.func10, Tryz.ntmps10
  go_wp2_with fail
  with_reducible refine (spec_ActionOf_no r s A es c _ _ _ (hr.mid hm0 (Or.inl (Nat.zero_le _))) hl HF.out).mono ?_
  rintro en w1 ⟨A1, c1, rfl, -, hm1⟩
  replace hm0 := hm0.trans hm1
  have hoss := (OSS.mk' (tI := 3) (rows := []) (xss := []) (owns_empty w1 38 1) OwnRows.nil rfl).wide (lo' := w.heap.size) hm0.size (Nat.le_refl _) (Nat.le_refl _)
  go_wp2_with fail
  go_ret
  exact ⟨_, _, rfl, hoss, hm0.trans (Mid.alloc _ _)⟩
theorem spec_GroupElements (r s : Int) (A : Option Addr) (es : List Ed) (c : Nat) (w : World) (lo hi : Nat) (hr : RG w lo hi A es) (hl : es.length ≤ 1048576) (R : List (List Int)) (hR : R = grpI r s es) :
    Calls Tryz.prog 10 #[graV r s A es.length c] w fun e w' => ∃ A1 c1, e = .returned (.slice A1 R.length c1) ∧ OSS w' w.heap.size w'.heap.size 38 3 A1 c1 R ∧ Mid 0 0 w w' := by
  by_cases h : IsFin r s es
  · obtain ⟨k, n, rfl, rfl⟩ := h.cor.gr.nat
    exact spec_GroupElements_fin k n A es c w lo hi hr h R hR.symm
  · rw [grpI_no h] at hR
    subst hR
    exact spec_GroupElements_no r s A es c w lo hi hr hl h
theorem sspec_GroupElements (r0 s0 : Int) (A0 : Option Addr) (d0 : List Ed) (c0 : Nat) (w : World) (lo0 hi0 : Nat) (h0 : OG w lo0 hi0 A0 c0 d0) (hl0 : d0.length ≤ 1048576) (res0 : List (List Int)) (h : GroupElementsIs r0 s0 d0 res0) :
    Calls Tryz.prog 10 #[.agg #[.int .i64 r0, .int .i64 s0, .slice A0 d0.length c0]] w fun e w' => ∃ (A : Option Addr) (c : Nat), e = .returned (.slice A res0.length c) ∧ OSS w' w.heap.size w'.heap.size 38 3 A c res0 ∧ Mid 0 0 w w' :=
  spec_GroupElements r0 s0 A0 d0 c0 w lo0 hi0 h0.rg hl0 res0 h
set_option maxHeartbeats 1600000 in
set_option maxRecDepth 20000 in
theorem sspec_CoreIndex (r0 s0 : Int) (A0 : Option Addr) (d0 : List Ed) (c0 : Nat) (w : World) (lo0 hi0 : Nat) (h0 : OG w lo0 hi0 A0 c0 d0) (hl0 : d0.length ≤ 1048576) (res0 : Int) (h : CoreIndexIs r0 s0 d0 res0) :
    Calls Tryz.prog 18 #[.agg #[.int .i64 r0, .int .i64 s0, .slice A0 d0.length c0]] w fun e w' => e = .returned (.int .i64 res0) ∧ Mid 0 0 w w' := by
  have hm0 : Mid 0 0 w (w.alloc (.cells #[.int .i64 r0, .int .i64 s0, .slice A0 d0.length c0] 30)) := Mid.alloc _ _
  have hP := fun W hh => spec_GroupElements r0 s0 A0 d0 c0 W lo0 hi0 hh hl0 _ rfl
  have hk := grpI_len r0 s0 d0
  have hres : res0 = if (grpI r0 s0 d0).length = 0 then -1 else ((grpI r0 s0 d0).length : Int) := h
  generalize grpI r0 s0 d0 = R at hP hk hres
  have HP := Lib.hid hP
  have h0' := h0.rg
  clear hP h h0
  go_enter Tryz.func18, Tryz.ntmps18
  go_wp2_with fail
  with_reducible refine (HP.out _ (h0'.mid hm0 (Or.inl (Nat.zero_le _)))).mono ?_
  rintro en w1 ⟨A1, c1, rfl, -, hm1⟩
  by_cases hz : R.length = 0
  · rw [if_pos hz] at hres
    subst hres
    have d1 : ((R.length : Int) == 0) = true := by rw [hz]; rfl
    go_wp2_with fail
    go_ret
    exact ⟨rfl, hm0.trans hm1⟩
  · rw [if_neg hz] at hres
    subst hres
    have d1 : ((R.length : Int) == 0) = false := by simp only [beq_eq_false_iff_ne]; omega
    have d2 : 0 < R.length := by omega
    clear hz
    go_wp2_with fail
    go_ret
    exact ⟨rfl, hm0.trans hm1⟩

set_option maxHeartbeats 1600000 in
set_option maxRecDepth 20000 in
theorem impl_GroupElements_no (r s : Int) (A : Option Addr) (es : List Ed) (c : Nat) (w : World) (lo hi : Nat) (hr : RG w lo hi A es) (hl : es.length ≤ 1048576) (hcl : es.length ≤ c) (hf : ¬ IsFin r s es) :
    Calls Tryz.prog 12 #[graV r s A es.length c] w fun e w' => ∃ A1 c1, e = .returned (.slice A1 0 c1) ∧ OSS w' w.heap.size w'.heap.size 38 3 A1 c1 [] ∧ Mid 0 0 w w' := by
  have HF := Lib.hid hf
  clear hf
  have hm0 : Mid 0 0 w ((w.alloc (.cells #[.int .i64 r, .int .i64 s, .slice A es.length c] 30)).alloc (.cells #[] 38)) := (Mid.alloc _ _).trans (Mid.alloc _ _)
  have O0 := owns_empty (w.alloc (.cells #[.int .i64 r, .int .i64 s, .slice A es.length c] 30)) 38 1
  rw [World.size_alloc] at O0
  go_enter Tryz.func12, Tryz.ntmps12
  go_wp2_with fail
  with_reducible refine (impl_IsFiniteIndex r s A es c _ _ _ (hr.mid hm0 (Or.inl (Nat.zero_le _))) hl hcl false (iff_of_false Bool.false_ne_true HF.out)).mono ?_
  rintro en w1 ⟨rfl, hm1⟩
  replace O0 := owns_mid O0 hm1 (Or.inl (Nat.zero_le _))
  replace hm0 := hm0.trans hm1
  have hoss := (OSS.mk' (tI := 3) (rows := []) (xss := []) O0 OwnRows.nil rfl).wide (lo' := w.heap.size) (Nat.le_succ _) (Nat.le_refl _) (Nat.le_refl _)
  go_wp2_with fail
  go_ret
  exact ⟨_, _, rfl, hoss, hm0⟩
theorem impl_GroupElements (r s : Int) (A : Option Addr) (es : List Ed) (c : Nat) (w : World) (lo hi : Nat) (hr : RG w lo hi A es) (hl : es.length ≤ 1048576) (hcl : es.length ≤ c) (R : List (List Int)) (hR : R = grpI r s es) :
    Calls Tryz.prog 12 #[graV r s A es.length c] w fun e w' => ∃ A1 c1, e = .returned (.slice A1 R.length c1) ∧ OSS w' w.heap.size w'.heap.size 38 3 A1 c1 R ∧ Mid 0 0 w w' := by
  by_cases h : IsFin r s es
  · obtain ⟨k, n, rfl, rfl⟩ := h.cor.gr.nat
    exact impl_GroupElements_fin k n A es c w lo hi hr hcl h R hR.symm
  · rw [grpI_no h] at hR
    subst hR
    exact impl_GroupElements_no r s A es c w lo hi hr hl hcl h
theorem simpl_GroupElements (r0 s0 : Int) (A0 : Option Addr) (d0 : List Ed) (c0 : Nat) (w : World) (lo0 hi0 : Nat) (h0 : OG w lo0 hi0 A0 c0 d0) (hl0 : d0.length ≤ 1048576) (res0 : List (List Int)) (h : GroupElementsIs r0 s0 d0 res0) :
    Calls Tryz.prog 12 #[.agg #[.int .i64 r0, .int .i64 s0, .slice A0 d0.length c0]] w fun e w' => ∃ (A : Option Addr) (c : Nat), e = .returned (.slice A res0.length c) ∧ OSS w' w.heap.size w'.heap.size 38 3 A c res0 ∧ Mid 0 0 w w' :=
  impl_GroupElements r0 s0 A0 d0 c0 w lo0 hi0 h0.rg hl0 h0.cnt.1 res0 h
set_option maxHeartbeats 1600000 in
set_option maxRecDepth 20000 in
theorem simpl_CoreIndex (r0 s0 : Int) (A0 : Option Addr) (d0 : List Ed) (c0 : Nat) (w : World) (lo0 hi0 : Nat) (h0 : OG w lo0 hi0 A0 c0 d0) (hl0 : d0.length ≤ 1048576) (res0 : Int) (h : CoreIndexIs r0 s0 d0 res0) :
    Calls Tryz.prog 19 #[.agg #[.int .i64 r0, .int .i64 s0, .slice A0 d0.length c0]] w fun e w' => e = .returned (.int .i64 res0) ∧ Mid 0 0 w w' := by
  have hm0 : Mid 0 0 w (w.alloc (.cells #[.int .i64 r0, .int .i64 s0, .slice A0 d0.length c0] 30)) := Mid.alloc _ _
  have hP := fun W hh => impl_GroupElements r0 s0 A0 d0 c0 W lo0 hi0 hh hl0 h0.cnt.1 _ rfl
  have hk := grpI_len r0 s0 d0
  have hres : res0 = if (grpI r0 s0 d0).length = 0 then -1 else ((grpI r0 s0 d0).length : Int) := h
  generalize grpI r0 s0 d0 = R at hP hk hres
  have HP := Lib.hid hP
  have h0' := h0.rg
  clear hP h h0
  go_enter Tryz.func19, Tryz.ntmps19
  go_wp2_with fail
  with_reducible refine (HP.out _ (h0'.mid hm0 (Or.inl (Nat.zero_le _)))).mono ?_
  rintro en w1 ⟨A1, c1, rfl, -, hm1⟩
  by_cases hz : R.length = 0
  · rw [if_pos hz] at hres
    subst hres
    have d1 : ((R.length : Int) == 0) = true := by rw [hz]; rfl
    go_wp2_with fail
    go_ret
    exact ⟨rfl, hm0.trans hm1⟩
  · rw [if_neg hz] at hres
    subst hres
    have d1 : ((R.length : Int) == 0) = false := by simp only [beq_eq_false_iff_ne]; omega
    have d2 : 0 < R.length := by omega
    clear hz
    go_wp2_with fail
    go_ret
    exact ⟨rfl, hm0.trans hm1⟩

end Go.Proofs.YtkdmffjnkciecaaGreat

/- CycleType of the program. -/
namespace Go.Proofs.YtkdmffjnkciecaaGreat
set_option linter.unusedVariables false
set_option linter.unusedSimpArgs false
open Go.RowKit

theorem sortNc (A : Option Addr) (xs ys : List Int) (n c : Nat) (w : World) (lo : Nat) (ho : w.ownsRow lo 3 1 (.slice A n c) n (ints xs)) (hl : n ≤ 1048576) (hy : (xs.mergeSort fun x y => decide (x ≤ y)) = ys) :
    Calls Tryz.prog 112 #[.slice A n c] w fun e w' => e = .returned (.tuple #[]) ∧ w'.ownsRow lo 3 1 (.slice A n c) n (ints ys) ∧ w.grownBy w' (Value.ownBlock (.slice A n c)) := by
  have hn : xs.length = n := by have := ho.1; rw [ints_len] at this; omega
  subst hn hy
  have h := sortI A xs c w lo ho hl
  unfold Turned at h
  rw [List.length_mergeSort] at h
  exact h
theorem reverseN (A : Option Addr) (xs ys : List Int) (n c : Nat) (w : World) (lo : Nat) (ho : w.ownsRow lo 3 1 (.slice A n c) n (ints xs)) (hl : n ≤ 1048576) (hy : xs.reverse = ys) :
    Calls Tryz.prog 113 #[.slice A n c] w fun e w' => e = .returned (.tuple #[]) ∧ w'.ownsRow lo 3 1 (.slice A n c) n (ints ys) ∧ w.grownBy w' (Value.ownBlock (.slice A n c)) := by
  have hn : xs.length = n := by have := ho.1; rw [ints_len] at this; omega
  subst hn hy
  have h := reverseI A xs c w lo ho hl
  unfold Turned at h
  rw [List.length_reverse] at h
  exact h
def CycIs (p res : List Int) : Prop := (IsPerm p → res = cyc p) ∧ (¬ IsPerm p → res = [])
theorem cyc_len {p : List Int} (h : IsPerm p) : (cyc p).length ≤ p.length := by
  obtain ⟨vis, out, h2⟩ := CycOut.get h.2.1 p.length (Nat.le_refl _)
  unfold cyc
  rw [h2.st, downL_len]
  exact h2.len

set_option maxHeartbeats 3200000 in
theorem impl_CycleType (A : Option Addr) (p : List Int) (c B : Nat) (w : World) (hr : Rs w B A (ints p)) (hB : B ≤ w.heap.size) (hlp : p.length ≤ 1048576) (res : List Int) (hres : CycIs p res) :
    Calls Tryz.prog 82 #[.slice A p.length c] w fun e w' => RetI 3 res w e w' := by
  have HRES := Lib.hid hres
  clear hres
  have hmx : p.length ≤ maxLen := by unfold maxLen; omega
  have hb0 := (Below.refl w.heap.size w).alloc (Nat.le_refl _) (.cells #[] 3)
  have ho0 := owns_empty w 3 1
  by_cases hp : IsPerm p
  · have HP := Lib.hid hp
    clear hp
    go_enter Tryz.func82, Tryz.ntmps82
    go_wp2_with fail
    with_reducible refine (impl_IsPermutation A p c B _ (hr.alloc hB _) (by simp; omega) hlp true (iff_of_true rfl HP.out)).mono ?_
    rintro e w1 ⟨rfl, hbp⟩
    have hb1 := hb0.trans (hbp.mono hb0.size)
    have hs1 := hb1.size
    have hoe1 := owns_belowS ho0 hbp
    go_wp2_with (at_make; refine wpList_mk rfl _ _ 99 rfl 4 (.bool false) 1 undSB infoB rfl .i64 .i64 _ _ p.length rfl rfl rfl rfl (by omega) hmx ?_; intro w2 hown2 hgr2 hsz2)
    have hb2 := hb1.grown hgr2 hs1 (by intro g h; cases h)
    have ho2 := hoe1.kept hgr2 (.inr (by simp [Value.ownBlock]))
    have hs2 := hb2.size
    clear hoe1 hgr2
    go_loopw [3, 5, 6, 7, 18] (fun v _ _ _ i wr => ∃ (k : Nat) (vis out : List Int) (Ao : Option Addr) (co : Nat), k ≤ p.length ∧ i = .int .i64 k ∧ v = .slice Ao out.length co ∧ CycOut p k vis out ∧ wr.ownsRow w.heap.size 3 1 (.slice Ao out.length co) out.length (ints out) ∧ wr.ownsRow w1.heap.size 4 1 (.slice (some ⟨w1.heap.size, 0, none⟩) p.length p.length) p.length (seenOf p.length vis) ∧ Below w.heap.size w wr) (fun _ _ _ _ i _ => p.length - (intOf i).toNat)
    case atStart => exact ⟨0, [], [], _, _, Nat.zero_le _, rfl, rfl, CycOut.zero p, by simpa [ints] using ho2, by rw [seenOf_nil]; exact hown2, hb2⟩
    case round =>
      clear ho2 hown2 hb2 hs2
      obtain ⟨k, vis, out, Ao, co, hk, rfl, rfl, hco, hown, hseen, hb⟩ := hrel
      have HCO := Lib.hid hco
      have hol := hco.len
      clear hco
      have hsz := hb.size
      by_cases hlt : k < p.length
      · have hlt3 : (k : Int) < (p.length : Int) := by omega
        go_wp2_with fail
        go_loopw [6, 7] (fun nv xv wr2 => ∃ (f : Nat) (vis' : List Int) (x n : Nat), nv = .int .i64 n ∧ xv = .int .i64 x ∧ CycAt p vis k f vis' x n ∧ wr2.ownsRow w.heap.size 3 1 (.slice Ao out.length co) out.length (ints out) ∧ wr2.ownsRow w1.heap.size 4 1 (.slice (some ⟨w1.heap.size, 0, none⟩) p.length p.length) p.length (seenOf p.length vis') ∧ Below w.heap.size w wr2) (fun nv _ _ => p.length + 1 - (intOf nv).toNat)
        case atStart => exact ⟨p.length + 1, vis, k, 0, rfl, rfl, CycAt.start HCO.out.hv hlt, hown, hseen, hb⟩
        case round =>
          clear hown hseen hb hsz
          obtain ⟨f, vis', x, n, rfl, rfl, hat, hown, hseen, hb⟩ := hrel
          have HAT := Lib.hid hat
          have hxl := hat.hx
          have hnl : n ≤ p.length := by have := hat.cnt; have := hat.hv.le; omega
          clear hat
          have hsz := hb.size
          have hx0 : (0 : Int) ≤ (x : Int) := by omega
          have hxl3 : (x : Int) < (p.length : Int) := by omega
          have hfz := hseen.frozenAt x
          by_cases hm : (x : Int) ∈ vis'
          · have hcs := (hseen.cellAt x (by omega)).trans (seenOf_get hxl)
            rw [decide_eq_true hm] at hcs
            have HM := Lib.hid hm
            clear hm
            have HN := Lib.hid (HCO.out.succ HAT.out HM.out)
            by_cases hn0 : 0 < n
            · have hn3 : (0 : Int) < (n : Int) := by omega
              have hn4 : ¬ (n : Int) ≤ 0 := by omega
              go_wp2_with (at_builtin; refine wpList_push rfl _ _ 38 rfl w.heap.size 3 (.int .i64 0) 1 8 undSI infoI rfl (by decide) _ _ _ rfl hown 1 [.int .i64 n] rfl rfl (one_of_ints [(n : Int)]) ?c2 ?c3 hsz ?n1)
              case c2 => unfold maxLen; omega
              case c3 => omega
              case n1 =>
                intro v' w3 hown3 hgr3 _
                obtain ⟨A3, c3, rfl, -, -⟩ := owns_shape hown3
                go_wp2_with fail
                go_roundw
                case rel =>
                  have h2 := HN.out
                  rw [if_pos hn0] at h2
                  refine ⟨k + 1, vis', out ++ [(n : Int)], A3, c3, by omega, by go_num, by simp, h2, ?_, ?_, hb.grown hgr3 hsz (fun g hg => (hown.lt g hg).1)⟩
                  · rw [ints_append, List.length_append]; exact hown3
                  · exact hseen.kept hgr3 (owns_ne hseen hown (by decide))
                case measure => simp [intOf]; omega
            · obtain rfl : n = 0 := by omega
              go_wp2_with fail
              go_roundw
              case rel =>
                have h2 := HN.out
                rw [if_neg hn0] at h2
                exact ⟨k + 1, vis', out, Ao, co, by omega, by go_num, rfl, h2, hown, hseen, hb⟩
              case measure => simp [intOf]; omega
          · have hcs := (hseen.cellAt x (by omega)).trans (seenOf_get hxl)
            rw [decide_eq_false hm] at hcs
            obtain ⟨f', rfl, hst⟩ := HAT.out.step HP.out.2.1 hm
            have HST := Lib.hid hst
            have hnl2 : n + 1 ≤ p.length := by have := hst.cnt; have := hst.hv.le; omega
            clear hm hst
            obtain ⟨b, off, y, rfl, hbB, hy, hc⟩ := ((hr.more hB).below hb).int hxl
            have hyr := HP.out.2.1 y (List.mem_of_getElem? hy)
            obtain ⟨m, rfl⟩ : ∃ m : Nat, y = (m : Int) := ⟨y.toNat, by omega⟩
            have hgd : (p.getD x 0).toNat = m := by rw [List.getD_eq_getElem?_getD, hy]; simp
            have HGD := Lib.hid hgd
            have hset := owns_set hseen x (.bool true) (seenOf_set hxl)
            have hbs := hb.setCell hs1 (.bool true) (p := ⟨w1.heap.size, x, none⟩)
            have hos := hown.kept (grown_of_setCell wr w1.heap.size x (.bool true)) (owns_ne hown hseen (by decide))
            have hcp : (wr.setCell ⟨w1.heap.size, x, none⟩ (.bool true)).cell? ⟨b, off + x, none⟩ = some (.int .i64 m) := (World.cell?_setCell_other wr _ _ _ (by intro e; injection e with e; omega)).trans hc
            clear hy hgd
            go_wp2_with fail
            go_roundw
            case rel => exact ⟨f', vis' ++ [(x : Int)], m, n + 1, by go_num, rfl, by rw [← HGD.out]; exact HST.out, hos, hset, hbs⟩
            case measure => simp [intOf]; omega
      · obtain rfl : k = p.length := by omega
        skip
        have hres2 : res = cyc p := HRES.out.1 HP.out
        have hcy : cyc p = (out.mergeSort fun x y => decide (x ≤ y)).reverse := by unfold cyc; rw [HCO.out.st]; rfl
        have HCY := Lib.hid (hres2.trans hcy)
        clear hres2 hcy
        go_wp2_with fail
        with_reducible refine (sortNc Ao out _ out.length co _ _ hown (by omega) rfl).mono ?_
        rintro e w3 ⟨rfl, ho3, hg3⟩
        have hb3 := hb.grown hg3 hsz (fun g hg => (hown.lt g hg).1)
        go_wp2_with fail
        with_reducible refine (reverseN Ao _ _ out.length co _ _ ho3 (by omega) rfl).mono ?_
        rintro e w4 ⟨rfl, ho4, hg4⟩
        have hb4 := hb3.grown hg4 hb3.size (fun g hg => (ho3.lt g hg).1)
        go_wp2_with fail
        go_ret
        rw [← HCY.out] at ho4
        exact RetI.mk (by have := ho4.1; rw [ints_len] at this; omega) ho4 hb4
  · have HN := Lib.hid hp
    obtain rfl : res = [] := HRES.out.2 hp
    clear hp HRES
    go_enter Tryz.func82, Tryz.ntmps82
    go_wp2_with fail
    with_reducible refine (impl_IsPermutation A p c B _ (hr.alloc hB _) (by simp; omega) hlp false (iff_of_false Bool.false_ne_true HN.out)).mono ?_
    rintro e w1 ⟨rfl, hbp⟩
    go_wp2_with fail
    go_ret
    exact RetI.mk rfl (owns_belowS ho0 hbp) (hb0.trans (hbp.mono hb0.size))
end Go.Proofs.YtkdmffjnkciecaaGreat

/- Plain: the exchange sort downwards. -/
namespace Go.Proofs.YtkdmffjnkciecaaGreat
set_option linter.unusedVariables false
set_option linter.unusedSimpArgs false

structure ExAt (out : List Int) (a : Nat) (ys : List Int) : Prop where
  perm : ys.Perm out
  down : ∀ i j x y, i < a → i < j → ys[i]? = some x → ys[j]? = some y → y ≤ x
structure ExIn (out : List Int) (a b : Nat) (ys : List Int) : Prop where
  at' : ExAt out a ys
  top : ∀ j x y, a < j → j < b → ys[a]? = some x → ys[j]? = some y → y ≤ x
theorem ExAt.zero (out : List Int) : ExAt out 0 out := ⟨List.Perm.refl _, fun i j x y h => by omega⟩
theorem ExIn.start {out ys : List Int} {a : Nat} (h : ExAt out a ys) : ExIn out a (a + 1) ys := ⟨h, fun j x y h1 h2 => by omega⟩
theorem ExIn.keep {out ys : List Int} {a b : Nat} {ya yb : Int} (h : ExIn out a b ys) (ha : ys[a]? = some ya) (hb : ys[b]? = some yb) (hle : yb ≤ ya) : ExIn out a (b + 1) ys :=
  ⟨h.at', fun j x y h1 h2 hx hy => by
    by_cases hj : j = b
    · subst hj
      rw [ha] at hx; rw [hb] at hy
      injection hx with hx; injection hy with hy
      omega
    · exact h.top j x y h1 (by omega) hx hy⟩
theorem ExIn.swap {out ys : List Int} {a b : Nat} {ya yb : Int} (h : ExIn out a b ys) (hab : a < b) (ha : ys[a]? = some ya) (hb : ys[b]? = some yb) (hlt : ya < yb) : ExIn out a (b + 1) ((ys.set b ya).set a yb) := by
  obtain ⟨hla, hga⟩ := List.getElem?_eq_some_iff.1 ha
  obtain ⟨hlb, hgb⟩ := List.getElem?_eq_some_iff.1 hb
  have hp : ((ys.set b ya).set a yb).Perm ys := by
    have : ((ys.set b ys[a]).set a ys[b]).Perm ys := List.set_set_perm hlb hla
    rw [hga, hgb] at this
    exact this
  have get : ∀ j z, ((ys.set b ya).set a yb)[j]? = some z → (j = a ∧ z = yb) ∨ (j = b ∧ z = ya ∧ j ≠ a) ∨ (j ≠ a ∧ j ≠ b ∧ ys[j]? = some z) := by
    intro j z hz
    by_cases h1 : j = a
    · subst h1
      rw [List.getElem?_set_self (by simpa using hla)] at hz
      injection hz with hz
      exact .inl ⟨rfl, hz.symm⟩
    · rw [List.getElem?_set_ne (Ne.symm h1)] at hz
      by_cases h2 : j = b
      · subst h2
        rw [List.getElem?_set_self hlb] at hz
        injection hz with hz
        exact .inr (.inl ⟨rfl, hz.symm, h1⟩)
      · rw [List.getElem?_set_ne (Ne.symm h2)] at hz
        exact .inr (.inr ⟨h1, h2, hz⟩)
  refine ⟨⟨hp.trans h.at'.perm, fun i j x y hi hij hx hy => ?_⟩, fun j x y h1 h2 hx hy => ?_⟩
  · rcases get i x hx with ⟨e, _⟩ | ⟨e, _, _⟩ | ⟨_, _, hx'⟩
    · omega
    · omega
    · rcases get j y hy with ⟨e, rfl⟩ | ⟨e, rfl, _⟩ | ⟨_, _, hy'⟩
      · exact h.at'.down i b x y hi (by omega) hx' hb
      · exact h.at'.down i a x y hi hi hx' ha
      · exact h.at'.down i j x y hi hij hx' hy'
  · rcases get a x hx with ⟨_, rfl⟩ | ⟨e, _, hne⟩ | ⟨hne, _⟩
    · rcases get j y hy with ⟨e, _⟩ | ⟨_, rfl, _⟩ | ⟨_, hne, hy'⟩
      · omega
      · omega
      · have := h.top j ya y h1 (by omega) ha hy'
        omega
    · exact absurd rfl hne
    · exact absurd rfl hne
theorem ExIn.done {out ys : List Int} {a : Nat} (h : ExIn out a ys.length ys) : ExAt out (a + 1) ys :=
  ⟨h.at'.perm, fun i j x y hi hij hx hy => by
    have hj := (List.getElem?_eq_some_iff.1 hy).1
    by_cases he : i = a
    · subst he
      exact h.top j x y hij hj hx hy
    · exact h.at'.down i j x y (by omega) hij hx hy⟩
theorem ExAt.done {out ys : List Int} (h : ExAt out ys.length ys) : ys = downL out := by
  refine down_unique h.perm ?_
  rw [List.pairwise_iff_getElem]
  intro i j hi hj hij
  exact h.down i j _ _ hi hij (List.getElem?_eq_getElem hi) (List.getElem?_eq_getElem hj)
theorem ExAt.len {out ys : List Int} {a : Nat} (h : ExAt out a ys) : ys.length = out.length := h.perm.length_eq
end Go.Proofs.YtkdmffjnkciecaaGreat

/- CycleType of the reference. -/
namespace Go.Proofs.YtkdmffjnkciecaaGreat
set_option linter.unusedVariables false
set_option linter.unusedSimpArgs false
open Go.RowKit

set_option maxRecDepth 100000 in
set_option maxHeartbeats 6400000 in
theorem spec_CycleType (A : Option Addr) (p : List Int) (c B : Nat) (w : World) (hr : Rs w B A (ints p)) (hB : B ≤ w.heap.size) (hlp : p.length ≤ 1048576) (res : List Int) (hres : CycIs p res) :
    Calls Tryz.prog 79 #[.slice A p.length c] w fun e w' => RetI 3 res w e w' := by
  have HRES := Lib.hid hres
  clear hres
  have hmx : p.length ≤ maxLen := by unfold maxLen; omega
  have hb0 := (Below.refl w.heap.size w).alloc (Nat.le_refl _) (.cells #[] 3)
  have ho0 := owns_empty w 3 1
  have hsa : w.heap.size < (w.alloc (.cells #[] 3)).heap.size := by simp
  by_cases hp : IsPerm p
  · have HP := Lib.hid hp
    clear hp
    go_enter Tryz.func79, Tryz.ntmps79
    go_wp2_with (at_make; refine wpList_mk rfl _ _ 99 rfl 4 (.bool false) 1 undSB infoB rfl .i64 .i64 _ _ p.length rfl rfl rfl rfl (by omega) hmx ?_; intro w2 hown2 hgr2 hsz2)
    have hb2 := hb0.grown hgr2 hb0.size (by intro g h; cases h)
    have ho2 := ho0.kept hgr2 (.inr (by simp [Value.ownBlock]))
    have hs2 := hb2.size
    obtain ⟨gs, hgs⟩ : ∃ gs, gs = (w.alloc (.cells #[] 3)).heap.size := ⟨_, rfl⟩
    have hgs1 : w.heap.size ≤ gs := by rw [hgs]; simp
    simp only [← hgs] at hown2
    have HG := Lib.hid hgs
    simp only [World.size_alloc] at hgs
    subst hgs
    clear ho0 hgr2 HG hsz2 hsa
    go_loopw [3, 5, 6, 7] (fun v i _ _ wr => ∃ (k : Nat) (vis out : List Int) (Ao : Option Addr) (co : Nat), k ≤ p.length ∧ i = .int .i64 k ∧ v = .slice Ao out.length co ∧ CycOut p k vis out ∧ wr.ownsRow w.heap.size 3 1 (.slice Ao out.length co) out.length (ints out) ∧ wr.ownsRow (w.heap.size + 1) 4 1 (.slice (some ⟨w.heap.size + 1, 0, none⟩) p.length p.length) p.length (seenOf p.length vis) ∧ Below w.heap.size w wr) (fun _ i _ _ _ => p.length - (intOf i).toNat)
    case atStart => exact ⟨0, [], [], _, _, Nat.zero_le _, rfl, rfl, CycOut.zero p, by simpa [ints] using ho2, by rw [seenOf_nil]; exact hown2, hb2⟩
    case round =>
      clear ho2 hown2 hb2 hs2
      obtain ⟨k, vis, out, Ao, co, hk, rfl, rfl, hco, hown, hseen, hb⟩ := hrel
      have HCO := Lib.hid hco
      have hol := hco.len
      clear hco
      have hsz := hb.size
      by_cases hlt : k < p.length
      · have hlt3 : (k : Int) < (p.length : Int) := by omega
        go_wp2_with fail
        with_reducible refine (spec_IsPermutation A p c _ _ ((hr.more hB).below hb) hlp true (iff_of_true rfl HP.out)).mono ?_
        rintro e w' ⟨rfl, nd, rfl⟩
        have hown' := owns_drewN hown nd
        have hseen' := owns_drewN hseen nd
        have hb' := below_drewN hb nd
        go_wp2_with fail
        go_loopw [6, 7] (fun nv xv wr2 => ∃ (f : Nat) (vis' : List Int) (x n : Nat), nv = .int .i64 n ∧ xv = .int .i64 x ∧ CycAt p vis k f vis' x n ∧ wr2.ownsRow w.heap.size 3 1 (.slice Ao out.length co) out.length (ints out) ∧ wr2.ownsRow (w.heap.size + 1) 4 1 (.slice (some ⟨w.heap.size + 1, 0, none⟩) p.length p.length) p.length (seenOf p.length vis') ∧ Below w.heap.size w wr2) (fun nv _ _ => p.length + 1 - (intOf nv).toNat)
        case atStart => exact ⟨p.length + 1, vis, k, 0, rfl, rfl, CycAt.start HCO.out.hv hlt, hown', hseen', hb'⟩
        case round =>
          clear hown hseen hb hsz hown' hseen' hb'
          obtain ⟨f, vis', x, n, rfl, rfl, hat, hown, hseen, hb⟩ := hrel
          have HAT := Lib.hid hat
          have hxl := hat.hx
          have hnl : n ≤ p.length := by have := hat.cnt; have := hat.hv.le; omega
          clear hat
          have hsz := hb.size
          have hx0 : (0 : Int) ≤ (x : Int) := by omega
          have hxl3 : (x : Int) < (p.length : Int) := by omega
          have hfz := hseen.frozenAt x
          by_cases hm : (x : Int) ∈ vis'
          · have hcs := (hseen.cellAt x (by omega)).trans (seenOf_get hxl)
            rw [decide_eq_true hm] at hcs
            have HM := Lib.hid hm
            clear hm
            have HN := Lib.hid (HCO.out.succ HAT.out HM.out)
            by_cases hn0 : 0 < n
            · have hn3 : (0 : Int) < (n : Int) := by omega
              have hn4 : ¬ (n : Int) ≤ 0 := by omega
              go_wp2_with (at_builtin; refine wpList_push rfl _ _ 38 rfl w.heap.size 3 (.int .i64 0) 1 8 undSI infoI rfl (by decide) _ _ _ rfl hown 1 [.int .i64 n] rfl rfl (one_of_ints [(n : Int)]) ?c2 ?c3 hsz ?n1)
              case c2 => unfold maxLen; omega
              case c3 => omega
              case n1 =>
                intro v' w3 hown3 hgr3 _
                obtain ⟨A3, c3, rfl, -, -⟩ := owns_shape hown3
                go_wp2_with fail
                go_roundw
                case rel =>
                  have h2 := HN.out
                  rw [if_pos hn0] at h2
                  refine ⟨k + 1, vis', out ++ [(n : Int)], A3, c3, by omega, by go_num, by simp, h2, ?_, ?_, hb.grown hgr3 hsz (fun g hg => (hown.lt g hg).1)⟩
                  · rw [ints_append, List.length_append]; exact hown3
                  · exact hseen.kept hgr3 (owns_ne hseen hown (by decide))
                case measure => simp [intOf]; omega
            · obtain rfl : n = 0 := by omega
              go_wp2_with fail
              go_roundw
              case rel =>
                have h2 := HN.out
                rw [if_neg hn0] at h2
                exact ⟨k + 1, vis', out, Ao, co, by omega, by go_num, rfl, h2, hown, hseen, hb⟩
              case measure => simp [intOf]; omega
          · have hcs := (hseen.cellAt x (by omega)).trans (seenOf_get hxl)
            rw [decide_eq_false hm] at hcs
            obtain ⟨f', rfl, hst⟩ := HAT.out.step HP.out.2.1 hm
            have HST := Lib.hid hst
            have hnl2 : n + 1 ≤ p.length := by have := hst.cnt; have := hst.hv.le; omega
            clear hm hst
            obtain ⟨b, off, y, rfl, hbB, hy, hc⟩ := ((hr.more hB).below hb).int hxl
            have hyr := HP.out.2.1 y (List.mem_of_getElem? hy)
            obtain ⟨m, rfl⟩ : ∃ m : Nat, y = (m : Int) := ⟨y.toNat, by omega⟩
            have hgd : (p.getD x 0).toNat = m := by rw [List.getD_eq_getElem?_getD, hy]; simp
            have HGD := Lib.hid hgd
            have hset := owns_set hseen x (.bool true) (seenOf_set hxl)
            have hbs := hb.setCell (Nat.le_succ w.heap.size) (.bool true) (p := ⟨w.heap.size + 1, x, none⟩)
            have hos := hown.kept (grown_of_setCell wr (w.heap.size + 1) x (.bool true)) (owns_ne hown hseen (by decide))
            have hcp : (wr.setCell ⟨w.heap.size + 1, x, none⟩ (.bool true)).cell? ⟨b, off + x, none⟩ = some (.int .i64 m) := (World.cell?_setCell_other wr _ _ _ (by intro e; injection e with e; omega)).trans hc
            clear hy hgd
            go_wp2_with fail
            go_roundw
            case rel => exact ⟨f', vis' ++ [(x : Int)], m, n + 1, by go_num, rfl, by rw [← HGD.out]; exact HST.out, hos, hset, hbs⟩
            case measure => simp [intOf]; omega
      · obtain rfl : k = p.length := by omega
        have hres2 : res = cyc p := HRES.out.1 HP.out
        have hcy : cyc p = downL out := by unfold cyc; rw [HCO.out.st]
        have HCY := Lib.hid (hres2.trans hcy)
        have hout : out.length ≤ 1048576 := by omega
        clear hres2 hcy hseen
        go_wp2_with fail
        go_loopw [8, 9, 10] (fun i _ _ wr2 => ∃ (a : Nat) (ys : List Int), a ≤ out.length ∧ i = .int .i64 a ∧ ExAt out a ys ∧ wr2.ownsRow w.heap.size 3 1 (.slice Ao out.length co) out.length (ints ys) ∧ Below w.heap.size w wr2) (fun i _ _ _ => out.length - (intOf i).toNat)
        case atStart => exact ⟨0, out, Nat.zero_le _, rfl, ExAt.zero out, hown, hb⟩
        case round =>
          clear hown hb hsz
          obtain ⟨a, ys, ha, rfl, hex, hown, hb⟩ := hrel
          have HEX := Lib.hid hex
          have hyl := hex.len
          have HYL := Lib.hid hyl
          clear hex hyl
          have hsz := hb.size
          by_cases hla : a < out.length
          · have hla3 : (a : Int) < (out.length : Int) := by omega
            go_wp2_with fail
            go_loopw [9, 10] (fun j _ wr3 => ∃ (b : Nat) (zs : List Int), a < b ∧ b ≤ out.length ∧ j = .int .i64 b ∧ ExIn out a b zs ∧ wr3.ownsRow w.heap.size 3 1 (.slice Ao out.length co) out.length (ints zs) ∧ Below w.heap.size w wr3) (fun j _ _ => out.length - (intOf j).toNat)
            case atStart => exact ⟨a + 1, ys, Nat.lt_succ_self _, hla, by go_num, ExIn.start HEX.out, hown, hb⟩
            case round =>
              clear hown hb hsz
              obtain ⟨b, zs, hab, hbl, rfl, hin, hown, hb⟩ := hrel
              have HIN := Lib.hid hin
              have hzl := hin.at'.len
              have HZL := Lib.hid hzl
              have hsz := hb.size
              by_cases hlb : b < out.length
              · obtain ⟨ya, hya⟩ := get_of_lt zs (show a < zs.length by omega)
                obtain ⟨yb, hyb⟩ := get_of_lt zs (show b < zs.length by omega)
                obtain ⟨g, rfl, hg1, hg2⟩ := owns_addr hown (by omega)
                have hca := (hown.cellAt a (by omega)).trans (by rw [ints_get, hya]; rfl : (ints zs)[a]? = some (.int .i64 ya))
                have hcb := (hown.cellAt b (by omega)).trans (by rw [ints_get, hyb]; rfl : (ints zs)[b]? = some (.int .i64 yb))
                have hfa := hown.frozenAt a
                have hfb := hown.frozenAt b
                have HYA := Lib.hid hya
                have HYB := Lib.hid hyb
                have hlb3 : (b : Int) < (out.length : Int) := by omega
                have ha0 : (0 : Int) ≤ (a : Int) := by omega
                have hb00 : (0 : Int) ≤ (b : Int) := by omega
                clear hin hzl hya hyb
                by_cases hgt : ya < yb
                · have hne : (wr.setCell ⟨g, b, none⟩ (.int .i64 ya)).frozen? ⟨g, a, none⟩ = false := by rw [World.frozen?_setCell]; exact hfa
                  have hs1 := owns_set hown b (.int .i64 ya) rfl
                  have hcu := (hs1.cellAt a (by omega)).trans (by rw [List.getElem?_set_ne (by omega), ints_get, HYA.out]; rfl : ((ints zs).set b (.int .i64 ya))[a]? = some (.int .i64 ya))
                  have hs2 := owns_set hs1 a (.int .i64 yb) (ys := ints ((zs.set b ya).set a yb)) (by simp [ints, List.map_set])
                  have HS2 := Lib.hid hs2
                  clear hs1 hs2
                  go_wp2_with fail
                  go_quiet (fail)
                  go_wp2_with fail
                  go_roundw
                  case rel => exact ⟨b + 1, (zs.set b ya).set a yb, by omega, hlb, by go_num, HIN.out.swap hab HYA.out HYB.out hgt, by first | exact owns_drewN HS2.out _ | exact HS2.out, by first | exact below_drewN ((hb.setCell hg1 _).setCell hg1 _) _ | exact (below_drewN hb _).setCell hg1 _ |>.setCell hg1 _⟩
                  case measure => simp [intOf]; omega
                · go_wp2_with fail
                  go_quiet (fail)
                  go_wp2_with fail
                  go_roundw
                  case rel => exact ⟨b + 1, zs, by omega, hlb, by go_num, HIN.out.keep HYA.out HYB.out (by omega), owns_drewN hown _, below_drewN hb _⟩
                  case measure => simp [intOf]; omega
              · obtain rfl : b = out.length := by omega
                go_wp2_with fail
                go_roundw
                case rel =>
                  have h3 := HIN.out
                  rw [← HZL.out] at h3
                  exact ⟨a + 1, zs, by omega, by go_num, h3.done, hown, hb⟩
                case measure => simp [intOf]; omega
          · obtain rfl : a = out.length := by omega
            go_wp2_with fail
            go_ret
            have h3 := HEX.out
            rw [← HYL.out] at h3
            have h4 := h3.done
            rw [h4, ← HCY.out] at hown
            have hln := hown.1
            rw [ints_len] at hln
            exact RetI.mk (by omega) hown hb
  · have HN := Lib.hid hp
    obtain rfl : res = [] := HRES.out.2 hp
    have hpl : 0 < p.length := by
      rcases Nat.eq_zero_or_pos p.length with h | h
      · have := List.eq_nil_of_length_eq_zero h
        subst this
        exact absurd ⟨by simp, by simp, by simp⟩ hp
      · exact h
    have hpl3 : (0 : Int) < (p.length : Int) := by omega
    clear hp HRES
    go_enter Tryz.func79, Tryz.ntmps79
    go_wp2_with (at_make; refine wpList_mk rfl _ _ 99 rfl 4 (.bool false) 1 undSB infoB rfl .i64 .i64 _ _ p.length rfl rfl rfl rfl (by omega) hmx ?_; intro w2 hown2 hgr2 hsz2)
    have hb2 := hb0.grown hgr2 hb0.size (by intro g h; cases h)
    have ho2 := ho0.kept hgr2 (.inr (by simp [Value.ownBlock]))
    clear hown2 hgr2 hsz2 ho0 hb0
    go_loopw [3, 5, 6, 7] (fun v i _ _ wr => v = .slice (some ⟨w.heap.size, 0, none⟩) 0 0 ∧ i = .int .i64 0 ∧ wr.ownsRow w.heap.size 3 1 (.slice (some ⟨w.heap.size, 0, none⟩) 0 0) 0 [] ∧ Below w.heap.size w wr) (fun _ i _ _ _ => p.length - (intOf i).toNat)
    case atStart => exact ⟨rfl, rfl, ho2, hb2⟩
    case round =>
      clear ho2 hb2
      obtain ⟨rfl, rfl, ho, hb⟩ := hrel
      go_wp2_with fail
      with_reducible refine (spec_IsPermutation A p c _ _ ((hr.more hB).below hb) hlp false (iff_of_false Bool.false_ne_true HN.out)).mono ?_
      rintro e w' ⟨rfl, nd, rfl⟩
      have ho' := owns_drewN ho nd
      have hb' := below_drewN hb nd
      go_wp2_with fail
      go_loopw [8, 9, 10] (fun i _ _ wr2 => i = .int .i64 0 ∧ wr2.ownsRow w.heap.size 3 1 (.slice (some ⟨w.heap.size, 0, none⟩) 0 0) 0 [] ∧ Below w.heap.size w wr2) (fun i _ _ _ => 0)
      case atStart => exact ⟨rfl, ho', hb'⟩
      case round =>
        obtain ⟨rfl, ho2, hb2⟩ := hrel
        go_wp2_with fail
        go_ret
        exact RetI.mk rfl ho2 hb2
end Go.Proofs.YtkdmffjnkciecaaGreat

/- CycleType and SignOf in the laws' words; SignOf, both sides. -/
namespace Go.Proofs.YtkdmffjnkciecaaGreat
set_option linter.unusedVariables false
set_option linter.unusedSimpArgs false
open Go.RowKit

def CycleTypeIs (p res : List Int) : Prop := CycIs p res
theorem CycleTypeIs_ex (p : List Int) (_ : OkI p) (_ : p.length ≤ 1048576) : ∃ res, CycleTypeIs p res := by
  by_cases h : IsPerm p
  · exact ⟨cyc p, fun _ => rfl, fun h' => absurd h h'⟩
  · exact ⟨[], fun h' => absurd h' h, fun _ => rfl⟩
theorem CycIs.len {p res : List Int} (h : CycIs p res) (hl : p.length ≤ 1048576) : res.length ≤ 1048576 := by
  by_cases hp : IsPerm p
  · rw [h.1 hp]
    have := cyc_len hp
    omega
  · rw [h.2 hp]
    simp
theorem CycleTypeIs_len {p res : List Int} (h : CycleTypeIs p res) (_ : OkI p) (hl : p.length ≤ 1048576) : res.length ≤ 1048576 := CycIs.len h hl
theorem sspec_CycleType (A : Option Addr) (p : List Int) (c : Nat) (w : World) (lo hi : Nat) (h : RI w lo hi A p) (_o : OkI p) (hl : p.length ≤ 1048576) (r : List Int) (hr : CycleTypeIs p r) :
    Calls Tryz.prog 79 #[.slice A p.length c] w (StpI r w) := (spec_CycleType A p c _ w h.rs (Nat.le_refl _) hl r hr).mono fun _ _ h => h.stp
theorem simpl_CycleType (A : Option Addr) (p : List Int) (c : Nat) (w : World) (lo hi : Nat) (h : RI w lo hi A p) (_o : OkI p) (hl : p.length ≤ 1048576) (r : List Int) (hr : CycleTypeIs p r) :
    Calls Tryz.prog 82 #[.slice A p.length c] w (StpI r w) := (impl_CycleType A p c _ w h.rs (Nat.le_refl _) hl r hr).mono fun _ _ h => h.stp

def SignOfIs (p : List Int) (res : Int) : Prop := ∃ cy, CycIs p cy ∧ ((IsPerm p → res = if (p.length - cy.length) % 2 = 0 then 1 else -1) ∧ (¬ IsPerm p → res = 0))
theorem SignOfIs_ex (p : List Int) (_ : OkI p) (_ : p.length ≤ 1048576) : ∃ res, SignOfIs p res := by
  by_cases h : IsPerm p
  · exact ⟨_, cyc p, ⟨fun _ => rfl, fun h' => absurd h h'⟩, fun _ => rfl, fun h' => absurd h h'⟩
  · exact ⟨0, [], ⟨fun h' => absurd h' h, fun _ => rfl⟩, fun h' => absurd h' h, fun _ => rfl⟩

end Go.Proofs.YtkdmffjnkciecaaGreat

/- Opening of a morphism that came in. -/
namespace Go.Proofs.YtkdmffjnkciecaaGreat
set_option linter.unusedVariables false
open Go.ChangeShapes Go.WideShapes Go.ChangeAt Go.RowKit
open Go.Joins
theorem cellsSI : Tryz.prog.cellsOf 38 = 1 := by kernel_rfl
set_option maxRecDepth 100000 in
theorem open_morph {H : Type} {enc : TypeId × Value → H} {W : World} {r : Reach} {base : Nat} {v : Value} {d : DataW H} {ps : List MemPlace}
    (hok : Value.okWide Tryz.prog W r base 44 v) (h : DataW.Trod enc Tryz.prog W 0 (fun _ => true) true 44 v d ps) :
    ∃ m A xss c, v = .agg #[.int .i64 m, .slice A (List.length xss) c] ∧ (Lit.int .i64 m).wf = true ∧ RSS W 0 W.heap.size A xss ∧ OkSS xss := by
  obtain ⟨v0, v1, y0, y1, n, rfl, -, -, h0, h1⟩ := open_agg2 Tryz.underlying44 (by kernel_rfl) (by kernel_rfl) hok h
  have h0' : DataW.trod enc Tryz.prog W 0 (fun _ => true) true n 3 [v0] = some y0 := h0
  have h1' : DataW.trod enc Tryz.prog W 0 (fun _ => true) true n 26 [v1] = some y1 := h1
  clear h0 h1
  obtain ⟨m, hm, -, hw⟩ := DataW.trod_int undI h0'
  obtain ⟨A, l, c, hs⟩ := slice_form undSSI h1'
  simp at hm hs
  subst hm hs
  obtain ⟨xss, rfl, ha, hb⟩ := rss_of_cells undSSI undSI undI cellsSI cellsI h1'
  exact ⟨m, A, xss, c, rfl, hw, ha, hb⟩
end Go.Proofs.YtkdmffjnkciecaaGreat

/- Opening of a graph that came in: its edges read as a list. -/
namespace Go.Proofs.YtkdmffjnkciecaaGreat
set_option linter.unusedVariables false
set_option linter.unusedSimpArgs false
open Go.ChangeShapes Go.WideShapes Go.ChangeAt Go.RowKit
open Go.Joins Go.Deep

abbrev tEL : TypeId := 74
theorem cellsEL : Tryz.prog.cellsOf 74 = 3 := by kernel_rfl
theorem undSEL : Tryz.prog.underlying 22 = some (.slice 74) := by kernel_rfl
theorem fields3 {H : Type} {enc : TypeId × Value → H} {P : Program} {w : World} {base : Nat} {spare : Nat → Bool} {held : Bool} {t : TypeId} {fs : Array Field} {fuel : Nat} {cs : List Value} {x : DataW H × List MemPlace}
    (ht : P.underlying t = some (.struct fs)) (hone : oneCellFields P fs = true) (h : DataW.trod enc P w base spare held fuel t cs = some x) (hl : cs.length = fs.size) :
    ∃ n, ∀ (j : Nat) (f : Field), fs[j]? = some f → ∃ v y, cs[j]? = some v ∧ DataW.trod enc P w base spare held n f.type [v] = some y := by
  obtain ⟨ys, n', hn', hy, hlen, hyl, hf⟩ := DataW.trod_struct ht h
  refine ⟨n', fun j f hj => ?_⟩
  obtain ⟨ho, hk⟩ := hone_of hone j f hj
  have hjl : j < fs.size := (Array.getElem?_eq_some_iff.1 hj).1
  have h1 := hf j f hj
  rw [ho, hk] at h1
  have h2 : (cs.drop j).take 1 = [cs[j]] := by
    rw [List.drop_eq_getElem_cons (by omega)]
    rfl
  rw [h2] at h1
  exact ⟨cs[j], ys[j], List.getElem?_eq_getElem (by omega), h1.trans (List.getElem?_eq_getElem (by omega))⟩
set_option maxRecDepth 100000 in
theorem edge_cells {H : Type} {enc : TypeId × Value → H} {W : World} {a : Addr} {n : Nat} {cs : List Value} {x : DataW H × List MemPlace}
    (hc : W.cells? 0 a 3 = some cs) (h : DataW.trod enc Tryz.prog W 0 (fun _ => true) true n 74 cs = some x) :
    ∃ e : Ed, W.cell? a = some (.int .i64 e.a) ∧ W.cell? (a.add 1) = some (.int .i64 e.l) ∧ W.cell? (a.add 2) = some (.int .i64 e.b) ∧ OkI (edI [e]) := by
  obtain ⟨_, hcl, hat⟩ := World.cells?_some hc
  obtain ⟨n', hf⟩ := fields3 Tryz.underlying74 (by kernel_rfl) h (by rw [hcl]; rfl)
  have h0 := hf 0 _ rfl
  have h1 := hf 1 _ rfl
  have h2 := hf 2 _ rfl
  obtain ⟨v0, y0, g0, t0⟩ := h0
  obtain ⟨v1, y1, g1, t1⟩ := h1
  obtain ⟨v2, y2, g2, t2⟩ := h2
  obtain ⟨m0, hm0, -, w0⟩ := DataW.trod_int undI t0
  obtain ⟨m1, hm1, -, w1⟩ := DataW.trod_int undI t1
  obtain ⟨m2, hm2, -, w2⟩ := DataW.trod_int undI t2
  simp at hm0 hm1 hm2
  subst hm0 hm1 hm2
  refine ⟨⟨m0, m1, m2⟩, ?_, ?_, ?_, ?_⟩
  · have := hat 0 (by omega)
    rw [show a.add 0 = a by simp [Addr.add]] at this
    rw [this, g0]
  · rw [hat 1 (by omega), g1]
  · rw [hat 2 (by omega), g2]
  · rw [edI_one]
    intro x hx
    simp at hx
    rcases hx with rfl | rfl | rfl
    · exact wf_bounds w0
    · exact wf_bounds w1
    · exact wf_bounds w2
theorem okI_edI {es : List Ed} (h : ∀ e ∈ es, OkI (edI [e])) : OkI (edI es) := by
  induction es with
  | nil => intro x hx; simp [edI] at hx
  | cons e t ih =>
    intro x hx
    rw [show e :: t = [e] ++ t from rfl, edI_append] at hx
    rcases List.mem_append.1 hx with hx | hx
    · exact h e (by simp) x hx
    · exact ih (fun f hf => h f (by simp [hf])) x hx
theorem edges_of_cells {H : Type} {enc : TypeId × Value → H} {W : World} {fuel : Nat} {A : Option Addr} {len c : Nat} {x : DataW H × List MemPlace}
    (h : DataW.trod enc Tryz.prog W 0 (fun _ => true) true fuel 22 [.slice A len c] = some x) : ∃ es : List Ed, len = es.length ∧ RG W 0 W.heap.size A es ∧ OkI (edI es) ∧ es.length ≤ 9223372036854775807 := by
  rcases open_slice undSEL h with ⟨hcs, _⟩ | ⟨a, len', cap, m, n, D, Pl, hcs, _, hl, hm, hmm, -, hi⟩
  · simp at hcs
    obtain ⟨rfl, rfl, rfl⟩ := hcs
    exact ⟨[], rfl, ⟨Nat.le_refl _, fun hn => absurd rfl hn⟩, fun x hx => by simp [edI] at hx, by simp⟩
  · simp at hcs
    obtain ⟨rfl, rfl, rfl⟩ := hcs
    simp at hmm
    subst hmm
    have hx : ∀ i, ∃ e : Ed, i < len → (W.cell? (a.add (i * 3)) = some (.int .i64 e.a) ∧ W.cell? ((a.add (i * 3)).add 1) = some (.int .i64 e.l) ∧ W.cell? ((a.add (i * 3)).add 2) = some (.int .i64 e.b) ∧ OkI (edI [e])) := by
      intro i
      by_cases hil : i < len
      · obtain ⟨cs', hc, ht'⟩ := hi i (by omega)
        rw [cellsEL] at hc
        obtain ⟨e, he⟩ := edge_cells hc ht'
        exact ⟨e, fun _ => he⟩
      · exact ⟨⟨0, 0, 0⟩, fun h => absurd h hil⟩
    obtain ⟨f, hf⟩ := Classical.axiomOfChoice hx
    refine ⟨(List.range len).map f, by simp, ⟨Nat.le_refl _, fun hne => ?_⟩, ?_, by unfold maxLen at hm; simp; omega⟩
    · have hp : 0 < len := by
        rcases Nat.eq_zero_or_pos len with h0 | h0
        · subst h0
          simp [ints, edI] at hne
        · exact h0
      have h0 := (hf 0 hp).1
      obtain ⟨b, off, spot⟩ := a
      have hspot : spot = none := by simpa [Addr.add] using World.cell?_spot h0
      subst hspot
      refine ⟨b, off, rfl, Nat.zero_le _, ?_, fun j u hu => ?_⟩
      · have := World.block_lt_of_cell? _ _ h0
        simpa [Addr.add] using this
      · have hj : j < len * 3 := by
          have := (List.getElem?_eq_some_iff.1 hu).1
          rw [ints_len, edI_len] at this
          simpa using this
        obtain ⟨k, r, hr, rfl⟩ : ∃ k r, r < 3 ∧ j = k * 3 + r := ⟨j / 3, j % 3, by omega, by omega⟩
        obtain ⟨c0, c1, c2, -⟩ := hf k (by omega)
        have hg : ((List.range len).map f)[k]? = some (f k) := by
          rw [List.getElem?_map, List.getElem?_range (by omega)]
          rfl
        obtain ⟨g0, g1, g2⟩ := edI_at hg
        rw [Addr.add_lit] at c0
        rw [Addr.add_lit, Addr.add_lit] at c1 c2
        rw [ints_get] at hu
        rcases r with _ | _ | _ | r
        · rw [Nat.add_zero, g0] at hu
          rw [Nat.add_zero, c0]
          simpa using hu
        · rw [g1] at hu
          rw [← Nat.add_assoc, c1]
          simpa using hu
        · rw [g2] at hu
          rw [← Nat.add_assoc, c2]
          simpa using hu
        · omega
    · refine okI_edI fun e he => ?_
      obtain ⟨i, hi', rfl⟩ := List.mem_map.1 he
      exact (hf i (by simpa using hi')).2.2.2
set_option maxRecDepth 100000 in
theorem open_graph {H : Type} {enc : TypeId × Value → H} {W : World} {r : Reach} {base : Nat} {v : Value} {d : DataW H} {ps : List MemPlace}
    (hok : Value.okWide Tryz.prog W r base 24 v) (h : DataW.Trod enc Tryz.prog W 0 (fun _ => true) true 24 v d ps) :
    ∃ m s A es c, v = .agg #[.int .i64 m, .int .i64 s, .slice A (List.length es) c] ∧ (Lit.int .i64 m).wf = true ∧ (Lit.int .i64 s).wf = true ∧ RG W 0 W.heap.size A es ∧ OkI (edI es) ∧ es.length ≤ 9223372036854775807 := by
  obtain ⟨v0, v1, v2, y0, y1, y2, n, rfl, -, -, h0, h1, h2⟩ := open_agg3 Tryz.underlying24 (by kernel_rfl) (by kernel_rfl) hok h
  have h0' : DataW.trod enc Tryz.prog W 0 (fun _ => true) true n 3 [v0] = some y0 := h0
  have h1' : DataW.trod enc Tryz.prog W 0 (fun _ => true) true n 3 [v1] = some y1 := h1
  have h2' : DataW.trod enc Tryz.prog W 0 (fun _ => true) true n 22 [v2] = some y2 := h2
  clear h0 h1 h2
  obtain ⟨m, hm, -, hw⟩ := DataW.trod_int undI h0'
  obtain ⟨s, hs, -, hw'⟩ := DataW.trod_int undI h1'
  obtain ⟨A, l, c, hsl⟩ := slice_form undSEL h2'
  simp at hm hs hsl
  subst hm hs hsl
  obtain ⟨es, rfl, ha, hb, hc⟩ := edges_of_cells h2'
  exact ⟨m, s, A, es, c, rfl, hw, hw', ha, hb, hc⟩
end Go.Proofs.YtkdmffjnkciecaaGreat
