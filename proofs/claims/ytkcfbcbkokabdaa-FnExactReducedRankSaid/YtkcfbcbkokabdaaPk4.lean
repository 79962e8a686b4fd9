/- Contracts and lemmas of this seat, many texts in one: see the words ahead of each. No condition beyond those typed in each lemma. -/
import Derived.Test.YtkcfbcbkokabdaaPk3
import Derived.Test.YtkcfbcbkokabdaaPk1
import Derived.Test.YtkcfbcbkokabdaaPk2
import Derived.Deep.Slices
import Derived.Deep.Fields
import Derived.ChangeSame

/- IsCore, IsSubgroup, RankOf. -/
namespace Go.Proofs.Ytkcfbcbkokabdaa
set_option linter.unusedVariables false
set_option linter.unusedSimpArgs false
open Go.RowKit

theorem IsGr.nat {r s : Int} {es : List Ed} (h : IsGr r s es) : ∃ k n : Nat, r = k ∧ s = n := by
  have h1 := h.rank
  have h2 := h.size
  exact ⟨r.toNat, s.toNat, by omega, by omega⟩

set_option maxHeartbeats 3200000 in
set_option maxRecDepth 20000 in
theorem impl_IsCore (r s : Int) (A : Option Addr) (es : List Ed) (c : Nat) (w : World) (lo hi : Nat) (hr : RG w lo hi A es) (hl : es.length ≤ 1048576) (hcl : es.length ≤ c) (b : Bool) (hb : b = true ↔ IsCor r s es) :
    Calls Try.prog 58 #[graV r s A es.length c] w fun e w' => e = .returned (.bool b) ∧ Mid 0 0 w w' := by
  have HB := Lib.hid hb
  clear hb
  have hm0 : Mid 0 0 w (w.alloc (.cells #[.int .i64 r, .int .i64 s, .slice A es.length c] 29)) := Mid.alloc _ _
  have b0 := Box.new w #[.int .i64 r, .int .i64 s, .slice A es.length c] 29
  by_cases hf : IsFol r s es
  · obtain ⟨r, n, rfl, rfl⟩ := hf.gr.nat
    have hn1 : 0 < n := by have := hf.gr.size; omega
    have HF := Lib.hid hf
    obtain ⟨T, hT⟩ : ∃ T, trimA 40 ((n : Int), es) = T := ⟨_, rfl⟩
    have HTS : Hid (T.1 = n ↔ leaf n es = none) := Lib.hid (by rw [← hT]; exact trimA_same (g := ((n : Int), es)) (by omega))
    have hTg : IsGr r T.1 T.2 := by rw [← hT]; exact trimA_gr 40 (g := ((n : Int), es)) hf.gr
    obtain ⟨tr, tn, -, htn⟩ := hTg.nat
    obtain ⟨ts, te⟩ := T
    simp only at htn HTS
    subst htn
    have htl := hTg.len
    have HTR := Lib.hid hT
    clear hf hT hTg
    have hTRIM := fun W h => impl_TrimGraph r n A es c W lo hi h HF.out.gr
    simp only [HTR.out] at hTRIM
    have HTRIM := Lib.hid hTRIM
    clear hTRIM HTR
    go_enter Try.func58, Try.ntmps58
    go_wp2_with fail
    with_reducible refine (impl_IsFolded r n A es c _ _ _ (hr.mid hm0 (Or.inl (Nat.zero_le _))) hl hcl true (iff_of_true rfl HF.out)).mono ?_
    rintro en w1 ⟨rfl, hm1⟩
    replace b0 := b0.mid hm1 (Or.inr (Nat.zero_le _))
    replace hm0 := hm0.trans hm1
    have p0 := b0.cell 0 rfl
    have p1 := b0.cell 1 rfl
    have p2 := b0.cell 2 rfl
    go_wp2_with fail
    with_reducible refine (HTRIM.out _ (hr.mid hm0 (Or.inl (Nat.zero_le _)))).mono ?_
    rintro en w2 ⟨A1, c1, Al, nl, cl, rfl, hog, hm2⟩
    replace b0 := b0.mid hm2 (Or.inr (Nat.zero_le _))
    replace hm0 := hm0.trans hm2
    have hal := Mid.alloc w2 (.cells #[.int .i64 r, .int .i64 tn, .slice A1 te.length c1] 29)
    have bt := Box.new w2 #[.int .i64 r, .int .i64 tn, .slice A1 te.length c1] 29
    replace b0 := b0.mid hal (Or.inr (Nat.zero_le _))
    replace hm0 := hm0.trans hal
    clear p0 p1 p2 HTRIM
    go_wp2_with fail
    generalize w2.alloc (.cells #[.int .i64 r, .int .i64 tn, .slice A1 te.length c1] 29) = w3 at b0 bt hm0 ⊢
    by_cases hts : (tn : Int) = n
    · have hlf := HTS.out.1 hts
      obtain rfl : tn = n := by omega
      obtain ⟨C, hC⟩ : ∃ C, canonG r ((tn : Int), es) = C := ⟨_, rfl⟩
      have hCg : IsGr r C.1 C.2 := by rw [← hC]; exact canonG_gr (g := ((tn : Int), es)) HF.out.gr
      have HB2 : Hid (b = true ↔ (r : Int) = r ∧ C.1 = tn ∧ C.2 = es) := Lib.hid (by
        rw [HB.out]
        constructor
        · intro h
          have h1 := h.canon
          rw [hC] at h1
          exact ⟨rfl, by rw [h1], by rw [h1]⟩
        · rintro ⟨-, h1, h2⟩
          exact ⟨HF.out, hlf, by rw [hC]; exact Prod.ext h1 h2⟩)
      have hcl2 := hCg.len
      have hmd := Mid.drew1 w3
      replace b0 := b0.mid hmd (Or.inr (Nat.zero_le _))
      replace bt := bt.mid hmd (Or.inr (Nat.zero_le _))
      replace hm0 := hm0.trans hmd
      have p0 := b0.cell 0 rfl
      have p1 := b0.cell 1 rfl
      have p2 := b0.cell 2 rfl
      have q1 := bt.cell 1 rfl
      have hCAN := fun W h => impl_CanonicalGraph r tn A es c W lo hi h hcl HF.out.gr
      simp only [hC] at hCAN
      have HCAN := Lib.hid hCAN
      clear hCAN hC hCg HB hlf HTS hts hmd
      refine wp_region_T (S := (fun w' => w'.cell? ⟨w.heap.size, 0, none⟩ = some (.int .i64 r) ∧ w'.cell? ⟨w.heap.size, 1, none⟩ = some (.int .i64 tn) ∧ w'.cell? ⟨w.heap.size, 2, none⟩ = some (.slice A es.length c) ∧ w'.cell? ⟨w2.heap.size, 1, none⟩ = some (.int .i64 tn))) 11 (by kernel_rfl) ⟨p0, p1, p2, q1⟩ ?_
      generalize World.drew w3 = wz at b0 bt hm0 p0 p1 p2 q1 ⊢
      have hS : wz.cell? ⟨w.heap.size, 0, none⟩ = some (.int .i64 r) ∧ wz.cell? ⟨w.heap.size, 1, none⟩ = some (.int .i64 tn) ∧ wz.cell? ⟨w.heap.size, 2, none⟩ = some (.slice A es.length c) ∧ wz.cell? ⟨w2.heap.size, 1, none⟩ = some (.int .i64 tn) := ⟨p0, p1, p2, q1⟩
      refine wpAnyT_take (i := 0) (v := ?_) rfl (by kernel_rfl) (by kernel_rfl) (by kernel_rfl) (by kernel_rfl) (fun _ _ _ h => h) (Or.inl ⟨by rfl, ?_⟩) hS ?_
      rotate_left
      focus (intro w hSw; (try dsimp only at hSw); go_simp; try with_reducible rfl)
      try simp only [Act.put, List.setIfInBounds_toArray, List.set_cons_zero, List.set_cons_succ, List.getElem_toArray, List.getElem_cons_zero, List.getElem_cons_succ]
      refine wpAnyT_take (i := 1) (v := ?_) rfl (by kernel_rfl) (by kernel_rfl) (by kernel_rfl) (by kernel_rfl) (fun _ _ _ h => h) (Or.inl ⟨by rfl, ?_⟩) hS ?_
      rotate_left
      focus (intro w hSw; (try dsimp only at hSw); go_simp; try with_reducible rfl)
      try simp only [Act.put, List.setIfInBounds_toArray, List.set_cons_zero, List.set_cons_succ, List.getElem_toArray, List.getElem_cons_zero, List.getElem_cons_succ]
      refine wpAnyT_take (i := 2) (v := ?_) rfl (by kernel_rfl) (by kernel_rfl) (by kernel_rfl) (by kernel_rfl) (fun _ _ _ h => h) (Or.inl ⟨by rfl, ?_⟩) hS ?_
      rotate_left
      focus (intro w hSw; (try dsimp only at hSw); go_simp; try with_reducible rfl)
      try simp only [Act.put, List.setIfInBounds_toArray, List.set_cons_zero, List.set_cons_succ, List.getElem_toArray, List.getElem_cons_zero, List.getElem_cons_succ]
      refine wpAnyT_take (i := 3) (v := ?_) rfl (by kernel_rfl) (by kernel_rfl) (by kernel_rfl) (by kernel_rfl) (fun _ _ _ h => h) (Or.inl ⟨by rfl, ?_⟩) hS ?_
      rotate_left
      focus (intro w hSw; (try dsimp only at hSw); go_simp; try with_reducible rfl)
      try simp only [Act.put, List.setIfInBounds_toArray, List.set_cons_zero, List.set_cons_succ, List.getElem_toArray, List.getElem_cons_zero, List.getElem_cons_succ]
      refine wpAnyT_take (i := 4) (v := ?_) rfl (by kernel_rfl) (by kernel_rfl) (by kernel_rfl) (by kernel_rfl) (fun _ _ _ h => h) (Or.inl ⟨by rfl, ?_⟩) hS ?_
      rotate_left
      focus (intro w hSw; (try dsimp only at hSw); go_simp; try with_reducible rfl)
      try simp only [Act.put, List.setIfInBounds_toArray, List.set_cons_zero, List.set_cons_succ, List.getElem_toArray, List.getElem_cons_zero, List.getElem_cons_succ]
      refine wpAnyT_take (i := 5) (v := ?_) rfl (by kernel_rfl) (by kernel_rfl) (by kernel_rfl) (by kernel_rfl) (fun _ _ _ h => h) (Or.inl ⟨by rfl, ?_⟩) hS ?_
      rotate_left
      focus (intro w hSw; (try dsimp only at hSw); go_simp; try with_reducible rfl)
      try simp only [Act.put, List.setIfInBounds_toArray, List.set_cons_zero, List.set_cons_succ, List.getElem_toArray, List.getElem_cons_zero, List.getElem_cons_succ]
      refine wpAnyT_take (i := 6) (v := ?_) rfl (by kernel_rfl) (by kernel_rfl) (by kernel_rfl) (by kernel_rfl) (fun _ _ _ h => h) (Or.inl ⟨by rfl, ?_⟩) hS ?_
      rotate_left
      focus (intro w hSw; (try dsimp only at hSw); go_simp; try with_reducible rfl)
      try simp only [Act.put, List.setIfInBounds_toArray, List.set_cons_zero, List.set_cons_succ, List.getElem_toArray, List.getElem_cons_zero, List.getElem_cons_succ]
      refine wpAnyT_take (i := 8) (v := ?_) rfl (by kernel_rfl) (by kernel_rfl) (by kernel_rfl) (by kernel_rfl) (fun _ _ _ h => h) (Or.inl ⟨by rfl, ?_⟩) hS ?_
      rotate_left
      focus (intro w hSw; (try dsimp only at hSw); go_simp; try with_reducible rfl)
      try simp only [Act.put, List.setIfInBounds_toArray, List.set_cons_zero, List.set_cons_succ, List.getElem_toArray, List.getElem_cons_zero, List.getElem_cons_succ]
      refine wpAnyT_ready (rs := [7]) (by kernel_rfl) (by simp) (AllReadyT.cons rfl (fun K hK => ?_) AllReadyT.nil)
      (go_simp; refine (HCAN.out _ (hr.mid hm0 (Or.inl (Nat.zero_le _)))).mono ?_; rintro en w4 ⟨A4, c4, rfl, hog4, hm4⟩; have b0' := b0.mid hm4 (Or.inr (Nat.zero_le _)); have bt' := bt.mid hm4 (Or.inr (Nat.zero_le _)); go_wp2_with fail)
      refine hK.out _ _ (Or.inr ⟨b0'.cell 0 rfl, b0'.cell 1 rfl, b0'.cell 2 rfl, bt'.cell 1 rfl⟩) (fun _ => ?_)
      clear hK K
      try simp only [Act.put, List.setIfInBounds_toArray, List.set_cons_zero, List.set_cons_succ, List.getElem_toArray, List.getElem_cons_zero, List.getElem_cons_succ]
      replace hm0 := hm0.trans hm4
      have hE := impl_EqualGraphs r C.1 A4 C.2 c4 r tn A es c w4 _ _ _ _ hog4.rg (hr.mid hm0 (Or.inl (Nat.zero_le _))) (by omega) hl b (by have h := HB2.out; simpa using h)
      have HE := Lib.hid hE
      clear hS p0 p1 p2 q1 b0 bt HCAN HB2 hE hm4
      refine wpAnyT_ready (rs := [9]) (by kernel_rfl) (by simp) (AllReadyT.cons rfl (fun K hK => ?_) AllReadyT.nil)
      (go_simp; refine HE.out.mono ?_; rintro en w5 ⟨rfl, hm5⟩; have b0 := b0'.mid hm5 (Or.inr (Nat.zero_le _)); have bt := bt'.mid hm5 (Or.inr (Nat.zero_le _)); go_wp2_with fail)
      refine hK.out _ _ (Or.inr ⟨b0.cell 0 rfl, b0.cell 1 rfl, b0.cell 2 rfl, bt.cell 1 rfl⟩) (fun _ => ?_)
      clear hK K
      try simp only [Act.put, List.setIfInBounds_toArray, List.set_cons_zero, List.set_cons_succ, List.getElem_toArray, List.getElem_cons_zero, List.getElem_cons_succ]
      have hS2 : w5.cell? ⟨w.heap.size, 0, none⟩ = some (.int .i64 r) ∧ w5.cell? ⟨w.heap.size, 1, none⟩ = some (.int .i64 tn) ∧ w5.cell? ⟨w.heap.size, 2, none⟩ = some (.slice A es.length c) ∧ w5.cell? ⟨w2.heap.size, 1, none⟩ = some (.int .i64 tn) := ⟨b0.cell 0 rfl, b0.cell 1 rfl, b0.cell 2 rfl, bt.cell 1 rfl⟩
      have hmm := hm0.trans hm5
      clear HE b0' bt'
      refine wpAnyT_take (i := 10) (v := ?_) rfl (by kernel_rfl) (by kernel_rfl) (by kernel_rfl) (by kernel_rfl) (fun _ _ _ h => h) (Or.inl ⟨by rfl, ?_⟩) hS2 ?_
      rotate_left
      focus (intro w hSw; (try dsimp only at hSw); go_simp; try with_reducible rfl)
      try simp only [Act.put, List.setIfInBounds_toArray, List.set_cons_zero, List.set_cons_succ, List.getElem_toArray, List.getElem_cons_zero, List.getElem_cons_succ]
      refine wpAnyT_ready (rs := [11]) (by kernel_rfl) (by simp) (AllReadyT.cons rfl (fun K hK => ?_) AllReadyT.nil)
      (go_simp)
      refine hK.out _ _ (Or.inl rfl) (fun _ => ?_)
      clear hK K
      try simp only [Act.put, List.setIfInBounds_toArray, List.set_cons_zero, List.set_cons_succ, List.getElem_toArray, List.getElem_cons_zero, List.getElem_cons_succ]
      refine wpAnyT_done (by kernel_rfl) ?_ _
      go_wp2_with fail
      go_ret
      exact ⟨rfl, hmm⟩
    · obtain rfl : b = false := bool_no HB.out fun h => hts (HTS.out.2 h.leaf)
      have d1 : ((tn : Int) == (n : Int)) = false := by simpa only [beq_eq_false_iff_ne] using hts
      have d2 : ¬ tn = n := fun h => hts (by rw [h])
      have u0 := wg_cell b0.1 (b0.cell 0 rfl)
      have u1 := wg_cell b0.1 (b0.cell 1 rfl)
      have u2 := wg_cell b0.1 (b0.cell 2 rfl)
      have v1 := wg_cell bt.1 (bt.cell 1 rfl)
      clear HB HTS hts
      refine wp_region_quiet_wg (by kernel_rfl) (by kernel_rfl) ?_
      repeat
        (with_reducible refine wpQuiet_step (fun K hK => ?_))
        go_simp
        first
          | ((with_reducible refine hK _ ?_); clear hK K)
          | (rw [if_neg (by decide)]; (with_reducible refine hK _ ?_); clear hK K)
          | (apply Exists.intro; refine ⟨fun _ => ?_, hK _ ?_⟩; (fail); clear hK K)
      with_reducible refine wpQuiet_nil ?_
      intro _ hw'
      obtain ⟨⟨nq, osq⟩, hw''⟩ := hw'
      subst hw''
      go_wp2_with fail
      go_ret
      exact ⟨rfl, hm0.trans (Mid.ofWg w3 nq osq)⟩
  · obtain rfl : b = false := bool_no HB.out fun h => hf h.fol
    have HF := Lib.hid hf
    clear hf HB
    go_enter Try.func58, Try.ntmps58
    go_wp2_with fail
    with_reducible refine (impl_IsFolded r s A es c _ _ _ (hr.mid hm0 (Or.inl (Nat.zero_le _))) hl hcl false (iff_of_false Bool.false_ne_true HF.out)).mono ?_
    rintro en w1 ⟨rfl, hm1⟩
    go_wp2_with fail
    go_ret
    exact ⟨rfl, hm0.trans hm1⟩

set_option maxHeartbeats 3200000 in
set_option maxRecDepth 20000 in
theorem spec_IsCore (r s : Int) (A : Option Addr) (es : List Ed) (c : Nat) (w : World) (lo hi : Nat) (hr : RG w lo hi A es) (hl : es.length ≤ 1048576) (b : Bool) (hb : b = true ↔ IsCor r s es) :
    Calls Try.prog 73 #[graV r s A es.length c] w fun e w' => e = .returned (.bool b) ∧ Mid 0 0 w w' := by
  have HB := Lib.hid hb
  clear hb
  have hm0 : Mid 0 0 w (w.alloc (.cells #[.int .i64 r, .int .i64 s, .slice A es.length c] 29)) := Mid.alloc _ _
  have b0 := Box.new w #[.int .i64 r, .int .i64 s, .slice A es.length c] 29
  by_cases hf : IsFol r s es
  · obtain ⟨r, n, rfl, rfl⟩ := hf.gr.nat
    have HF := Lib.hid hf
    clear hf
    have hFol := fun W h => spec_IsFolded r n A es c W lo hi h hl true (iff_of_true rfl HF.out)
    have hLeaf := fun W h => spec_l8Leaf r n A es c W lo hi h HF.out.gr
    obtain ⟨lf, hlf⟩ : ∃ lf, leafI n es = lf := ⟨_, rfl⟩
    have HLF := Lib.hid hlf
    simp only [hlf] at hLeaf
    clear hlf
    have HFol := Lib.hid hFol
    have HLeaf := Lib.hid hLeaf
    clear hFol hLeaf
    by_cases hln : leaf n es = none
    · have hlf0 : lf = -1 := by rw [← HLF.out, leafI_none hln]
      subst hlf0
      obtain ⟨C, hC⟩ : ∃ C, canonG r ((n : Int), es) = C := ⟨_, rfl⟩
      have hCg : IsGr r C.1 C.2 := by rw [← hC]; exact canonG_gr (g := ((n : Int), es)) HF.out.gr
      have HB2 : Hid (b = true ↔ (r : Int) = r ∧ C.1 = n ∧ C.2 = es) := Lib.hid (by
        rw [HB.out]
        constructor
        · intro h
          have h1 := h.canon
          rw [hC] at h1
          exact ⟨rfl, by rw [h1], by rw [h1]⟩
        · rintro ⟨-, h1, h2⟩
          exact ⟨HF.out, hln, by rw [hC]; exact Prod.ext h1 h2⟩)
      have hcl2 := hCg.len
      have hCAN := fun W h => spec_CanonicalGraph r n A es c W lo hi h HF.out.gr
      simp only [hC] at hCAN
      have HCAN := Lib.hid hCAN
      clear hCAN hC hCg HB hln HLF
      go_enter Try.func73, Try.ntmps73
      go_wp2_with fail
      generalize w.alloc (.cells #[.int .i64 r, .int .i64 n, .slice A es.length c] 29) = w3 at b0 hm0 ⊢
      have hmd := Mid.drew1 w3
      replace b0 := b0.mid hmd (Or.inr (Nat.zero_le _))
      replace hm0 := hm0.trans hmd
      have p0 := b0.cell 0 rfl
      have p1 := b0.cell 1 rfl
      have p2 := b0.cell 2 rfl
      clear hmd
      refine wp_region_T (S := (fun w' => w'.cell? ⟨w.heap.size, 0, none⟩ = some (.int .i64 r) ∧ w'.cell? ⟨w.heap.size, 1, none⟩ = some (.int .i64 n) ∧ w'.cell? ⟨w.heap.size, 2, none⟩ = some (.slice A es.length c))) 13 (by kernel_rfl) ⟨p0, p1, p2⟩ ?_
      generalize World.drew w3 = wz at b0 hm0 p0 p1 p2 ⊢
      have hS : wz.cell? ⟨w.heap.size, 0, none⟩ = some (.int .i64 r) ∧ wz.cell? ⟨w.heap.size, 1, none⟩ = some (.int .i64 n) ∧ wz.cell? ⟨w.heap.size, 2, none⟩ = some (.slice A es.length c) := ⟨p0, p1, p2⟩
      refine wpAnyT_take (i := 0) (v := ?_) rfl (by kernel_rfl) (by kernel_rfl) (by kernel_rfl) (by kernel_rfl) (fun _ _ _ h => h) (Or.inl ⟨by rfl, ?_⟩) hS ?_
      rotate_left
      focus (intro w hSw; (try dsimp only at hSw); go_simp; try with_reducible rfl)
      try simp only [Act.put, List.setIfInBounds_toArray, List.set_cons_zero, List.set_cons_succ, List.getElem_toArray, List.getElem_cons_zero, List.getElem_cons_succ]
      refine wpAnyT_ready (rs := [1]) (by kernel_rfl) (by simp) (AllReadyT.cons rfl (fun K hK => ?_) AllReadyT.nil)
      (go_simp; refine (HFol.out _ (hr.mid hm0 (Or.inl (Nat.zero_le _)))).mono ?_; rintro en w4 ⟨rfl, hm4⟩; have b1 := b0.mid hm4 (Or.inr (Nat.zero_le _)); go_wp2_with fail)
      refine hK.out _ _ (Or.inr ⟨b1.cell 0 rfl, b1.cell 1 rfl, b1.cell 2 rfl⟩) (fun _ => ?_)
      clear hK K
      try simp only [Act.put, List.setIfInBounds_toArray, List.set_cons_zero, List.set_cons_succ, List.getElem_toArray, List.getElem_cons_zero, List.getElem_cons_succ]
      replace hm0 := hm0.trans hm4
      have hS4 : w4.cell? ⟨w.heap.size, 0, none⟩ = some (.int .i64 r) ∧ w4.cell? ⟨w.heap.size, 1, none⟩ = some (.int .i64 n) ∧ w4.cell? ⟨w.heap.size, 2, none⟩ = some (.slice A es.length c) := ⟨b1.cell 0 rfl, b1.cell 1 rfl, b1.cell 2 rfl⟩
      clear b0 hS p0 p1 p2 hm4 HFol
      refine wpAnyT_take (i := 2) (v := ?_) rfl (by kernel_rfl) (by kernel_rfl) (by kernel_rfl) (by kernel_rfl) (fun _ _ _ h => h) (Or.inl ⟨by rfl, ?_⟩) hS4 ?_
      rotate_left
      focus (intro w hSw; (try dsimp only at hSw); go_simp; try with_reducible rfl)
      try simp only [Act.put, List.setIfInBounds_toArray, List.set_cons_zero, List.set_cons_succ, List.getElem_toArray, List.getElem_cons_zero, List.getElem_cons_succ]
      refine wpAnyT_take (i := 3) (v := ?_) rfl (by kernel_rfl) (by kernel_rfl) (by kernel_rfl) (by kernel_rfl) (fun _ _ _ h => h) (Or.inl ⟨by rfl, ?_⟩) hS4 ?_
      rotate_left
      focus (intro w hSw; (try dsimp only at hSw); go_simp; try with_reducible rfl)
      try simp only [Act.put, List.setIfInBounds_toArray, List.set_cons_zero, List.set_cons_succ, List.getElem_toArray, List.getElem_cons_zero, List.getElem_cons_succ]
      refine wpAnyT_ready (rs := [4]) (by kernel_rfl) (by simp) (AllReadyT.cons rfl (fun K hK => ?_) AllReadyT.nil)
      (go_simp; refine (HLeaf.out _ (hr.mid hm0 (Or.inl (Nat.zero_le _)))).mono ?_; rintro en w5 ⟨rfl, hm5⟩; have b2 := b1.mid hm5 (Or.inr (Nat.zero_le _)); go_wp2_with fail)
      refine hK.out _ _ (Or.inr ⟨b2.cell 0 rfl, b2.cell 1 rfl, b2.cell 2 rfl⟩) (fun _ => ?_)
      clear hK K
      try simp only [Act.put, List.setIfInBounds_toArray, List.set_cons_zero, List.set_cons_succ, List.getElem_toArray, List.getElem_cons_zero, List.getElem_cons_succ]
      replace hm0 := hm0.trans hm5
      have hS5 : w5.cell? ⟨w.heap.size, 0, none⟩ = some (.int .i64 r) ∧ w5.cell? ⟨w.heap.size, 1, none⟩ = some (.int .i64 n) ∧ w5.cell? ⟨w.heap.size, 2, none⟩ = some (.slice A es.length c) := ⟨b2.cell 0 rfl, b2.cell 1 rfl, b2.cell 2 rfl⟩
      clear b1 hS4 hm5 HLeaf
      refine wpAnyT_take (i := 5) (v := ?_) rfl (by kernel_rfl) (by kernel_rfl) (by kernel_rfl) (by kernel_rfl) (fun _ _ _ h => h) (Or.inl ⟨by rfl, ?_⟩) hS5 ?_
      rotate_left
      focus (intro w hSw; (try dsimp only at hSw); go_simp; try with_reducible rfl)
      try simp only [Act.put, List.setIfInBounds_toArray, List.set_cons_zero, List.set_cons_succ, List.getElem_toArray, List.getElem_cons_zero, List.getElem_cons_succ]
      refine wpAnyT_take (i := 6) (v := ?_) rfl (by kernel_rfl) (by kernel_rfl) (by kernel_rfl) (by kernel_rfl) (fun _ _ _ h => h) (Or.inl ⟨by rfl, ?_⟩) hS5 ?_
      rotate_left
      focus (intro w hSw; (try dsimp only at hSw); go_simp; try with_reducible rfl)
      try simp only [Act.put, List.setIfInBounds_toArray, List.set_cons_zero, List.set_cons_succ, List.getElem_toArray, List.getElem_cons_zero, List.getElem_cons_succ]
      refine wpAnyT_take (i := 7) (v := ?_) rfl (by kernel_rfl) (by kernel_rfl) (by kernel_rfl) (by kernel_rfl) (fun _ _ _ h => h) (Or.inl ⟨by rfl, ?_⟩) hS5 ?_
      rotate_left
      focus (intro w hSw; (try dsimp only at hSw); go_simp; try with_reducible rfl)
      try simp only [Act.put, List.setIfInBounds_toArray, List.set_cons_zero, List.set_cons_succ, List.getElem_toArray, List.getElem_cons_zero, List.getElem_cons_succ]
      refine wpAnyT_take (i := 8) (v := ?_) rfl (by kernel_rfl) (by kernel_rfl) (by kernel_rfl) (by kernel_rfl) (fun _ _ _ h => h) (Or.inl ⟨by rfl, ?_⟩) hS5 ?_
      rotate_left
      focus (intro w hSw; (try dsimp only at hSw); go_simp; try with_reducible rfl)
      try simp only [Act.put, List.setIfInBounds_toArray, List.set_cons_zero, List.set_cons_succ, List.getElem_toArray, List.getElem_cons_zero, List.getElem_cons_succ]
      refine wpAnyT_take (i := 10) (v := ?_) rfl (by kernel_rfl) (by kernel_rfl) (by kernel_rfl) (by kernel_rfl) (fun _ _ _ h => h) (Or.inl ⟨by rfl, ?_⟩) hS5 ?_
      rotate_left
      focus (intro w hSw; (try dsimp only at hSw); go_simp; try with_reducible rfl)
      try simp only [Act.put, List.setIfInBounds_toArray, List.set_cons_zero, List.set_cons_succ, List.getElem_toArray, List.getElem_cons_zero, List.getElem_cons_succ]
      refine wpAnyT_ready (rs := [9]) (by kernel_rfl) (by simp) (AllReadyT.cons rfl (fun K hK => ?_) AllReadyT.nil)
      (go_simp; refine (HCAN.out _ (hr.mid hm0 (Or.inl (Nat.zero_le _)))).mono ?_; rintro en w6 ⟨A6, c6, rfl, hog6, hm6⟩; have b3 := b2.mid hm6 (Or.inr (Nat.zero_le _)); go_wp2_with fail)
      refine hK.out _ _ (Or.inr ⟨b3.cell 0 rfl, b3.cell 1 rfl, b3.cell 2 rfl⟩) (fun _ => ?_)
      clear hK K
      try simp only [Act.put, List.setIfInBounds_toArray, List.set_cons_zero, List.set_cons_succ, List.getElem_toArray, List.getElem_cons_zero, List.getElem_cons_succ]
      replace hm0 := hm0.trans hm6
      have hE := spec_EqualGraphs r C.1 A6 C.2 c6 r n A es c w6 _ _ _ _ hog6.rg (hr.mid hm0 (Or.inl (Nat.zero_le _))) (by omega) hl b (by have h := HB2.out; simpa using h)
      have HE := Lib.hid hE
      clear hS5 b2 HCAN HB2 hE hm6
      refine wpAnyT_ready (rs := [11]) (by kernel_rfl) (by simp) (AllReadyT.cons rfl (fun K hK => ?_) AllReadyT.nil)
      (go_simp; refine HE.out.mono ?_; rintro en w7 ⟨rfl, hm7⟩; have b4 := b3.mid hm7 (Or.inr (Nat.zero_le _)); go_wp2_with fail)
      refine hK.out _ _ (Or.inr ⟨b4.cell 0 rfl, b4.cell 1 rfl, b4.cell 2 rfl⟩) (fun _ => ?_)
      clear hK K
      try simp only [Act.put, List.setIfInBounds_toArray, List.set_cons_zero, List.set_cons_succ, List.getElem_toArray, List.getElem_cons_zero, List.getElem_cons_succ]
      have hS7 : w7.cell? ⟨w.heap.size, 0, none⟩ = some (.int .i64 r) ∧ w7.cell? ⟨w.heap.size, 1, none⟩ = some (.int .i64 n) ∧ w7.cell? ⟨w.heap.size, 2, none⟩ = some (.slice A es.length c) := ⟨b4.cell 0 rfl, b4.cell 1 rfl, b4.cell 2 rfl⟩
      have hmm := hm0.trans hm7
      clear HE b3
      refine wpAnyT_take (i := 12) (v := ?_) rfl (by kernel_rfl) (by kernel_rfl) (by kernel_rfl) (by kernel_rfl) (fun _ _ _ h => h) (Or.inl ⟨by rfl, ?_⟩) hS7 ?_
      rotate_left
      focus (intro w hSw; (try dsimp only at hSw); go_simp; try with_reducible rfl)
      try simp only [Act.put, List.setIfInBounds_toArray, List.set_cons_zero, List.set_cons_succ, List.getElem_toArray, List.getElem_cons_zero, List.getElem_cons_succ]
      refine wpAnyT_ready (rs := [13]) (by kernel_rfl) (by simp) (AllReadyT.cons rfl (fun K hK => ?_) AllReadyT.nil)
      (go_simp)
      refine hK.out _ _ (Or.inl rfl) (fun _ => ?_)
      clear hK K
      try simp only [Act.put, List.setIfInBounds_toArray, List.set_cons_zero, List.set_cons_succ, List.getElem_toArray, List.getElem_cons_zero, List.getElem_cons_succ]
      refine wpAnyT_done (by kernel_rfl) ?_ _
      go_wp2_with fail
      go_ret
      exact ⟨rfl, hmm⟩
    · obtain rfl : b = false := bool_no HB.out fun h => hln h.leaf
      obtain ⟨v, hv⟩ : ∃ v : Nat, leaf n es = some v := by
        cases h : leaf n es with
        | none => exact absurd h hln
        | some v => exact ⟨v, rfl⟩
      have hlf0 : lf = v := by rw [← HLF.out, leafI_some hv]
      subst hlf0
      have d1 : decide ((v : Int) < 0) = false := by simp
      clear HB hln hv HLF
      go_enter Try.func73, Try.ntmps73
      go_wp2_with fail
      generalize w.alloc (.cells #[.int .i64 r, .int .i64 n, .slice A es.length c] 29) = w3 at b0 hm0 ⊢
      have u0 := wg_cell b0.1 (b0.cell 0 rfl)
      have u1 := wg_cell b0.1 (b0.cell 1 rfl)
      have u2 := wg_cell b0.1 (b0.cell 2 rfl)
      have hA1 := fun m os => HFol.out (wg w3 m os) (hr.mid (hm0.trans (Mid.ofWg w3 m os)) (Or.inl (Nat.zero_le _)))
      have hA2 := fun m os => HLeaf.out (wg w3 m os) (hr.mid (hm0.trans (Mid.ofWg w3 m os)) (Or.inl (Nat.zero_le _)))
      refine wp_region_quiet_wg (by kernel_rfl) (by kernel_rfl) ?_
      repeat
        (with_reducible refine wpQuiet_step (fun K hK => ?_))
        go_simp
        first
          | ((with_reducible refine hK _ ?_); clear hK K)
          | (rw [if_neg (by decide)]; (with_reducible refine hK _ ?_); clear hK K)
          | (apply Exists.intro; refine ⟨fun _ => ?_, hK _ ?_⟩; ((first | (go_at_call 45; exact Calls.wg_of (hA1 _ _)) | (go_at_call 83; exact Calls.wg_of (hA2 _ _)))); clear hK K)
      with_reducible refine wpQuiet_nil ?_
      intro _ hw'
      obtain ⟨⟨nq, osq⟩, hw''⟩ := hw'
      subst hw''
      go_wp2_with fail
      go_ret
      exact ⟨rfl, hm0.trans (Mid.ofWg w3 nq osq)⟩
  · obtain rfl : b = false := bool_no HB.out fun h => hf h.fol
    have hFol := fun W h => spec_IsFolded r s A es c W lo hi h hl false (iff_of_false Bool.false_ne_true hf)
    have HFol := Lib.hid hFol
    clear hf HB hFol
    go_enter Try.func73, Try.ntmps73
    go_wp2_with fail
    generalize w.alloc (.cells #[.int .i64 r, .int .i64 s, .slice A es.length c] 29) = w3 at b0 hm0 ⊢
    have u0 := wg_cell b0.1 (b0.cell 0 rfl)
    have u1 := wg_cell b0.1 (b0.cell 1 rfl)
    have u2 := wg_cell b0.1 (b0.cell 2 rfl)
    have hA1 := fun m os => HFol.out (wg w3 m os) (hr.mid (hm0.trans (Mid.ofWg w3 m os)) (Or.inl (Nat.zero_le _)))
    refine wp_region_quiet_wg (by kernel_rfl) (by kernel_rfl) ?_
    repeat
      (with_reducible refine wpQuiet_step (fun K hK => ?_))
      go_simp
      first
        | ((with_reducible refine hK _ ?_); clear hK K)
        | (rw [if_neg (by decide)]; (with_reducible refine hK _ ?_); clear hK K)
        | (apply Exists.intro; refine ⟨fun _ => ?_, hK _ ?_⟩; ((go_at_call 45; exact Calls.wg_of (hA1 _ _))); clear hK K)
    with_reducible refine wpQuiet_nil ?_
    intro _ hw'
    obtain ⟨⟨nq, osq⟩, hw''⟩ := hw'
    subst hw''
    go_wp2_with fail
    go_ret
    exact ⟨rfl, hm0.trans (Mid.ofWg w3 nq osq)⟩

set_option maxHeartbeats 1600000 in
theorem spec_IsSubgroup (r s : Int) (A : Option Addr) (es : List Ed) (c : Nat) (w : World) (lo hi : Nat) (hr : RG w lo hi A es) (hl : es.length ≤ 1048576) (b : Bool) (hb : b = true ↔ IsCor r s es) :
    Calls Try.prog 57 #[graV r s A es.length c] w fun e w' => e = .returned (.bool b) ∧ Mid 0 0 w w' := by
  have hm0 : Mid 0 0 w (w.alloc (.cells #[.int .i64 r, .int .i64 s, .slice A es.length c] 29)) := Mid.alloc _ _
  have HB := Lib.hid hb
  clear hb
  go_enter Try.func57, Try.ntmps57
  go_wp2_with fail
  with_reducible refine (spec_IsCore r s A es c _ _ _ (hr.mid hm0 (Or.inl (Nat.zero_le _))) hl b HB.out).mono ?_
  rintro en w1 ⟨rfl, hm1⟩
  go_wp2_with fail
  go_ret
  exact ⟨rfl, hm0.trans hm1⟩

open Classical in
/-- The rank of the subgroup, -1 if it is none. -/
noncomputable def rankI (r s : Int) (es : List Ed) : Int := if IsCor r s es then (es.length : Int) - s + 1 else -1

set_option maxHeartbeats 1600000 in
theorem impl_RankOf (r s : Int) (A : Option Addr) (es : List Ed) (c : Nat) (w : World) (lo hi : Nat) (hr : RG w lo hi A es) (hl : es.length ≤ 1048576) (hcl : es.length ≤ c) :
    Calls Try.prog 56 #[graV r s A es.length c] w fun e w' => e = .returned (.int .i64 (rankI r s es)) ∧ Mid 0 0 w w' := by
  have hm0 : Mid 0 0 w (w.alloc (.cells #[.int .i64 r, .int .i64 s, .slice A es.length c] 29)) := Mid.alloc _ _
  have b0 := Box.new w #[.int .i64 r, .int .i64 s, .slice A es.length c] 29
  by_cases h : IsCor r s es
  · have HR : Hid (rankI r s es = (es.length : Int) - s + 1) := Lib.hid (by rw [rankI, if_pos h])
    have hsz := h.fol.gr.size
    have HC := Lib.hid h
    clear h
    go_enter Try.func56, Try.ntmps56
    go_wp2_with fail
    with_reducible refine (impl_IsCore r s A es c _ _ _ (hr.mid hm0 (Or.inl (Nat.zero_le _))) hl hcl true (iff_of_true rfl HC.out)).mono ?_
    rintro en w1 ⟨rfl, hm1⟩
    replace b0 := b0.mid hm1 (Or.inr (Nat.zero_le _))
    replace hm0 := hm0.trans hm1
    have p0 := b0.cell 0 rfl
    have p1 := b0.cell 1 rfl
    have p2 := b0.cell 2 rfl
    go_wp2_with fail
    go_ret
    exact ⟨by rw [HR.out]; rfl, hm0⟩
  · have HR : Hid (rankI r s es = -1) := Lib.hid (by rw [rankI, if_neg h])
    have HC := Lib.hid h
    clear h
    go_enter Try.func56, Try.ntmps56
    go_wp2_with fail
    with_reducible refine (impl_IsCore r s A es c _ _ _ (hr.mid hm0 (Or.inl (Nat.zero_le _))) hl hcl false (iff_of_false Bool.false_ne_true HC.out)).mono ?_
    rintro en w1 ⟨rfl, hm1⟩
    go_wp2_with fail
    go_ret
    exact ⟨by rw [HR.out]; rfl, hm0.trans hm1⟩

set_option maxHeartbeats 1600000 in
theorem spec_RankOf (r s : Int) (A : Option Addr) (es : List Ed) (c : Nat) (w : World) (lo hi : Nat) (hr : RG w lo hi A es) (hl : es.length ≤ 1048576) :
    Calls Try.prog 55 #[graV r s A es.length c] w fun e w' => e = .returned (.int .i64 (rankI r s es)) ∧ Mid 0 0 w w' := by
  have hm0 : Mid 0 0 w (w.alloc (.cells #[.int .i64 r, .int .i64 s, .slice A es.length c] 29)) := Mid.alloc _ _
  have b0 := Box.new w #[.int .i64 r, .int .i64 s, .slice A es.length c] 29
  by_cases h : IsCor r s es
  · have HR : Hid (rankI r s es = (es.length : Int) - s + 1) := Lib.hid (by rw [rankI, if_pos h])
    have hsz := h.fol.gr.size
    have HC := Lib.hid h
    clear h
    go_enter Try.func55, Try.ntmps55
    go_wp2_with fail
    with_reducible refine (spec_IsSubgroup r s A es c _ _ _ (hr.mid hm0 (Or.inl (Nat.zero_le _))) hl true (iff_of_true rfl HC.out)).mono ?_
    rintro en w1 ⟨rfl, hm1⟩
    replace b0 := b0.mid hm1 (Or.inr (Nat.zero_le _))
    replace hm0 := hm0.trans hm1
    have p0 := b0.cell 0 rfl
    have p1 := b0.cell 1 rfl
    have p2 := b0.cell 2 rfl
    go_wp2_with fail
    go_ret
    exact ⟨by rw [HR.out]; rfl, hm0⟩
  · have HR : Hid (rankI r s es = -1) := Lib.hid (by rw [rankI, if_neg h])
    have HC := Lib.hid h
    clear h
    go_enter Try.func55, Try.ntmps55
    go_wp2_with fail
    with_reducible refine (spec_IsSubgroup r s A es c _ _ _ (hr.mid hm0 (Or.inl (Nat.zero_le _))) hl false (iff_of_false Bool.false_ne_true HC.out)).mono ?_
    rintro en w1 ⟨rfl, hm1⟩
    go_wp2_with fail
    go_ret
    exact ⟨by rw [HR.out]; rfl, hm0.trans hm1⟩
end Go.Proofs.Ytkcfbcbkokabdaa

/- ReducedRank, of both, and the law's data. -/
namespace Go.Proofs.Ytkcfbcbkokabdaa
set_option linter.unusedVariables false
set_option linter.unusedSimpArgs false
open Go.RowKit

theorem rankI_bnd {r s : Int} {es : List Ed} (hl : es.length ≤ 1048576) : -1 ≤ rankI r s es + 40 ∧ rankI r s es ≤ 1048577 := by
  unfold rankI
  split
  · rename_i h
    have h1 := h.fol.gr.size
    have h2 := h.fol.gr.len
    omega
  · omega

set_option maxHeartbeats 1600000 in
theorem impl_ReducedRank (r s : Int) (A : Option Addr) (es : List Ed) (c : Nat) (w : World) (lo hi : Nat) (hr : RG w lo hi A es) (hl : es.length ≤ 1048576) (hcl : es.length ≤ c) :
    Calls Try.prog 24 #[graV r s A es.length c] w fun e w' => e = .returned (.int .i64 (max 0 (rankI r s es - 1))) ∧ Mid 0 0 w w' := by
  have hm0 : Mid 0 0 w (w.alloc (.cells #[.int .i64 r, .int .i64 s, .slice A es.length c] 29)) := Mid.alloc _ _
  have hR := fun W h => impl_RankOf r s A es c W lo hi h hl hcl
  obtain ⟨k1, k2⟩ := rankI_bnd (r := r) (s := s) hl
  generalize rankI r s es = k at hR k1 k2 ⊢
  go_enter Try.func24, Try.ntmps24
  go_wp2_with fail
  with_reducible refine (hR _ (hr.mid hm0 (Or.inl (Nat.zero_le _)))).mono ?_
  rintro en w1 ⟨rfl, hm1⟩
  go_wp2_with fail
  go_ret
  exact ⟨by first | rfl | (congr 1), hm0.trans hm1⟩

set_option maxHeartbeats 1600000 in
theorem spec_ReducedRank (r s : Int) (A : Option Addr) (es : List Ed) (c : Nat) (w : World) (lo hi : Nat) (hr : RG w lo hi A es) (hl : es.length ≤ 1048576) :
    Calls Try.prog 23 #[graV r s A es.length c] w fun e w' => e = .returned (.int .i64 (max 0 (rankI r s es - 1))) ∧ Mid 0 0 w w' := by
  have hm0 : Mid 0 0 w (w.alloc (.cells #[.int .i64 r, .int .i64 s, .slice A es.length c] 29)) := Mid.alloc _ _
  have hR := fun W h => spec_RankOf r s A es c W lo hi h hl
  obtain ⟨k1, k2⟩ := rankI_bnd (r := r) (s := s) hl
  generalize rankI r s es = k at hR k1 k2 ⊢
  go_enter Try.func23, Try.ntmps23
  go_wp2_with fail
  with_reducible refine (hR _ (hr.mid hm0 (Or.inl (Nat.zero_le _)))).mono ?_
  rintro en w1 ⟨rfl, hm1⟩
  go_wp2_with fail
  go_ret
  exact ⟨by first | rfl | (congr 1), hm0.trans hm1⟩

def ReducedRankIs (r0 s0 : Int) (d0 : List Ed) (res0 : Int) : Prop := res0 = max 0 (rankI r0 s0 d0 - 1)
theorem ReducedRankIs_ex (r0 s0 : Int) (d0 : List Ed) (hl0 : d0.length ≤ 1048576) : ∃ res0, ReducedRankIs r0 s0 d0 res0 := ⟨_, rfl⟩
theorem sspec_ReducedRank (r0 s0 : Int) (A0 : Option Addr) (d0 : List Ed) (c0 : Nat) (w : World) (lo0 hi0 : Nat) (h0 : OG w lo0 hi0 A0 c0 d0) (hl0 : d0.length ≤ 1048576) (res0 : Int) (h : ReducedRankIs r0 s0 d0 res0) :
    Calls Try.prog 23 #[.agg #[.int .i64 r0, .int .i64 s0, .slice A0 d0.length c0]] w fun e w' => e = .returned (.int .i64 res0) ∧ Mid 0 0 w w' := by
  obtain rfl : res0 = _ := h
  exact spec_ReducedRank r0 s0 A0 d0 c0 w lo0 hi0 h0.rg hl0
theorem simpl_ReducedRank (r0 s0 : Int) (A0 : Option Addr) (d0 : List Ed) (c0 : Nat) (w : World) (lo0 hi0 : Nat) (h0 : OG w lo0 hi0 A0 c0 d0) (hl0 : d0.length ≤ 1048576) (res0 : Int) (h : ReducedRankIs r0 s0 d0 res0) :
    Calls Try.prog 24 #[.agg #[.int .i64 r0, .int .i64 s0, .slice A0 d0.length c0]] w fun e w' => e = .returned (.int .i64 res0) ∧ Mid 0 0 w w' := by
  obtain rfl : res0 = _ := h
  exact impl_ReducedRank r0 s0 A0 d0 c0 w lo0 hi0 h0.rg hl0 h0.cnt.1
end Go.Proofs.Ytkcfbcbkokabdaa

/- Opening of a morphism that came in. -/
namespace Go.Proofs.Ytkcfbcbkokabdaa
set_option linter.unusedVariables false
open Go.ChangeShapes Go.WideShapes Go.ChangeAt Go.RowKit
open Go.Joins
theorem cellsSI : Try.prog.cellsOf 41 = 1 := by kernel_rfl
end Go.Proofs.Ytkcfbcbkokabdaa

/- Opening of a graph that came in: its edges read as a list. -/
namespace Go.Proofs.Ytkcfbcbkokabdaa
set_option linter.unusedVariables false
set_option linter.unusedSimpArgs false
open Go.ChangeShapes Go.WideShapes Go.ChangeAt Go.RowKit
open Go.Joins Go.Deep

abbrev tEL : TypeId := 78
theorem cellsEL : Try.prog.cellsOf 78 = 3 := by kernel_rfl
theorem undSEL : Try.prog.underlying 22 = some (.slice 78) := by kernel_rfl
theorem fields3 {H : Type} {enc : TypeId × Value → H} {P : Program} {w : World} {base : Nat} {spare : Nat → Bool} {held : Bool} {t : TypeId} {fs : Array Field} {fuel : Nat} {cs : List Value} {x : DataW H × List MemPlace}
    (ht : P.underlying t = some (.struct fs)) (hone : oneCellFields P fs = true) (h : DataW.trod enc P w base spare held fuel t cs = some x) (hl : cs.length = fs.size) :
    ∃ n, ∀ (j : Nat) (f : Field), fs[j]? = some f → ∃ v y, cs[j]? = some v ∧ DataW.trod enc P w base spare held n f.type [v] = some y := by
  obtain ⟨ys, n', hn', hy, hlen, hyl, hf⟩ := DataW.trod_struct ht h
  refine ⟨n', fun j f hj => ?_⟩
  obtain ⟨ho, hk⟩ := hone_of hone j f hj
  have hjl : j < fs.size := (Array.getElem?_eq_some_iff.1 hj).1
  have h1 := hf j f hj
  rw [ho, hk] at h1
  have h2 : (cs.drop j).take 1 = [cs[j]] := by
    rw [List.drop_eq_getElem_cons (by omega)]
    rfl
  rw [h2] at h1
  exact ⟨cs[j], ys[j], List.getElem?_eq_getElem (by omega), h1.trans (List.getElem?_eq_getElem (by omega))⟩
set_option maxRecDepth 100000 in
theorem edge_cells {H : Type} {enc : TypeId × Value → H} {W : World} {a : Addr} {n : Nat} {cs : List Value} {x : DataW H × List MemPlace}
    (hc : W.cells? 0 a 3 = some cs) (h : DataW.trod enc Try.prog W 0 (fun _ => true) true n 78 cs = some x) :
    ∃ e : Ed, W.cell? a = some (.int .i64 e.a) ∧ W.cell? (a.add 1) = some (.int .i64 e.l) ∧ W.cell? (a.add 2) = some (.int .i64 e.b) ∧ OkI (edI [e]) := by
  obtain ⟨_, hcl, hat⟩ := World.cells?_some hc
  obtain ⟨n', hf⟩ := fields3 Try.underlying78 (by kernel_rfl) h (by rw [hcl]; rfl)
  have h0 := hf 0 _ rfl
  have h1 := hf 1 _ rfl
  have h2 := hf 2 _ rfl
  obtain ⟨v0, y0, g0, t0⟩ := h0
  obtain ⟨v1, y1, g1, t1⟩ := h1
  obtain ⟨v2, y2, g2, t2⟩ := h2
  obtain ⟨m0, hm0, -, w0⟩ := DataW.trod_int undI t0
  obtain ⟨m1, hm1, -, w1⟩ := DataW.trod_int undI t1
  obtain ⟨m2, hm2, -, w2⟩ := DataW.trod_int undI t2
  simp at hm0 hm1 hm2
  subst hm0 hm1 hm2
  refine ⟨⟨m0, m1, m2⟩, ?_, ?_, ?_, ?_⟩
  · have := hat 0 (by omega)
    rw [show a.add 0 = a by simp [Addr.add]] at this
    rw [this, g0]
  · rw [hat 1 (by omega), g1]
  · rw [hat 2 (by omega), g2]
  · rw [edI_one]
    intro x hx
    simp at hx
    rcases hx with rfl | rfl | rfl
    · exact wf_bounds w0
    · exact wf_bounds w1
    · exact wf_bounds w2
theorem okI_edI {es : List Ed} (h : ∀ e ∈ es, OkI (edI [e])) : OkI (edI es) := by
  induction es with
  | nil => intro x hx; simp [edI] at hx
  | cons e t ih =>
    intro x hx
    rw [show e :: t = [e] ++ t from rfl, edI_append] at hx
    rcases List.mem_append.1 hx with hx | hx
    · exact h e (by simp) x hx
    · exact ih (fun f hf => h f (by simp [hf])) x hx
theorem edges_of_cells {H : Type} {enc : TypeId × Value → H} {W : World} {fuel : Nat} {A : Option Addr} {len c : Nat} {x : DataW H × List MemPlace}
    (h : DataW.trod enc Try.prog W 0 (fun _ => true) true fuel 22 [.slice A len c] = some x) : ∃ es : List Ed, len = es.length ∧ RG W 0 W.heap.size A es ∧ OkI (edI es) ∧ es.length ≤ 9223372036854775807 := by
  rcases open_slice undSEL h with ⟨hcs, _⟩ | ⟨a, len', cap, m, n, D, Pl, hcs, _, hl, hm, hmm, -, hi⟩
  · simp at hcs
    obtain ⟨rfl, rfl, rfl⟩ := hcs
    exact ⟨[], rfl, ⟨Nat.le_refl _, fun hn => absurd rfl hn⟩, fun x hx => by simp [edI] at hx, by simp⟩
  · simp at hcs
    obtain ⟨rfl, rfl, rfl⟩ := hcs
    simp at hmm
    subst hmm
    have hx : ∀ i, ∃ e : Ed, i < len → (W.cell? (a.add (i * 3)) = some (.int .i64 e.a) ∧ W.cell? ((a.add (i * 3)).add 1) = some (.int .i64 e.l) ∧ W.cell? ((a.add (i * 3)).add 2) = some (.int .i64 e.b) ∧ OkI (edI [e])) := by
      intro i
      by_cases hil : i < len
      · obtain ⟨cs', hc, ht'⟩ := hi i (by omega)
        rw [cellsEL] at hc
        obtain ⟨e, he⟩ := edge_cells hc ht'
        exact ⟨e, fun _ => he⟩
      · exact ⟨⟨0, 0, 0⟩, fun h => absurd h hil⟩
    obtain ⟨f, hf⟩ := Classical.axiomOfChoice hx
    refine ⟨(List.range len).map f, by simp, ⟨Nat.le_refl _, fun hne => ?_⟩, ?_, by unfold maxLen at hm; simp; omega⟩
    · have hp : 0 < len := by
        rcases Nat.eq_zero_or_pos len with h0 | h0
        · subst h0
          simp [ints, edI] at hne
        · exact h0
      have h0 := (hf 0 hp).1
      obtain ⟨b, off, spot⟩ := a
      have hspot : spot = none := by simpa [Addr.add] using World.cell?_spot h0
      subst hspot
      refine ⟨b, off, rfl, Nat.zero_le _, ?_, fun j u hu => ?_⟩
      · have := World.block_lt_of_cell? _ _ h0
        simpa [Addr.add] using this
      · have hj : j < len * 3 := by
          have := (List.getElem?_eq_some_iff.1 hu).1
          rw [ints_len, edI_len] at this
          simpa using this
        obtain ⟨k, r, hr, rfl⟩ : ∃ k r, r < 3 ∧ j = k * 3 + r := ⟨j / 3, j % 3, by omega, by omega⟩
        obtain ⟨c0, c1, c2, -⟩ := hf k (by omega)
        have hg : ((List.range len).map f)[k]? = some (f k) := by
          rw [List.getElem?_map, List.getElem?_range (by omega)]
          rfl
        obtain ⟨g0, g1, g2⟩ := edI_at hg
        rw [Addr.add_lit] at c0
        rw [Addr.add_lit, Addr.add_lit] at c1 c2
        rw [ints_get] at hu
        rcases r with _ | _ | _ | r
        · rw [Nat.add_zero, g0] at hu
          rw [Nat.add_zero, c0]
          simpa using hu
        · rw [g1] at hu
          rw [← Nat.add_assoc, c1]
          simpa using hu
        · rw [g2] at hu
          rw [← Nat.add_assoc, c2]
          simpa using hu
        · omega
    · refine okI_edI fun e he => ?_
      obtain ⟨i, hi', rfl⟩ := List.mem_map.1 he
      exact (hf i (by simpa using hi')).2.2.2
set_option maxRecDepth 100000 in
theorem open_graph {H : Type} {enc : TypeId × Value → H} {W : World} {r : Reach} {base : Nat} {v : Value} {d : DataW H} {ps : List MemPlace}
    (hok : Value.okWide Try.prog W r base 24 v) (h : DataW.Trod enc Try.prog W 0 (fun _ => true) true 24 v d ps) :
    ∃ m s A es c, v = .agg #[.int .i64 m, .int .i64 s, .slice A (List.length es) c] ∧ (Lit.int .i64 m).wf = true ∧ (Lit.int .i64 s).wf = true ∧ RG W 0 W.heap.size A es ∧ OkI (edI es) ∧ es.length ≤ 9223372036854775807 := by
  obtain ⟨v0, v1, v2, y0, y1, y2, n, rfl, -, -, h0, h1, h2⟩ := open_agg3 Try.underlying24 (by kernel_rfl) (by kernel_rfl) hok h
  have h0' : DataW.trod enc Try.prog W 0 (fun _ => true) true n 3 [v0] = some y0 := h0
  have h1' : DataW.trod enc Try.prog W 0 (fun _ => true) true n 3 [v1] = some y1 := h1
  have h2' : DataW.trod enc Try.prog W 0 (fun _ => true) true n 22 [v2] = some y2 := h2
  clear h0 h1 h2
  obtain ⟨m, hm, -, hw⟩ := DataW.trod_int undI h0'
  obtain ⟨s, hs, -, hw'⟩ := DataW.trod_int undI h1'
  obtain ⟨A, l, c, hsl⟩ := slice_form undSEL h2'
  simp at hm hs hsl
  subst hm hs hsl
  obtain ⟨es, rfl, ha, hb, hc⟩ := edges_of_cells h2'
  exact ⟨m, s, A, es, c, rfl, hw, hw', ha, hb, hc⟩
end Go.Proofs.Ytkcfbcbkokabdaa
