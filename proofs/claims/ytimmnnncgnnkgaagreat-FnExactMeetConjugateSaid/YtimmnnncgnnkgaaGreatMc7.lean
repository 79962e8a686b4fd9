/- Contracts and lemmas of this seat, many texts in one: see the words ahead of each. No condition beyond those typed in each lemma. -/
import Derived.Test.YtimmnnncgnnkgaaGreatMc6
import Derived.Test.YtimmnnncgnnkgaaGreatMc1
import Derived.Test.YtimmnnncgnnkgaaGreatMc2
import Derived.Deep.Slices
import Derived.Deep.Fields
import Derived.ChangeSame

/- extend and ConjugateSubgroup, the program. -/
namespace Go.Proofs.YtimmnnncgnnkgaaGreat
set_option linter.unusedVariables false
set_option linter.unusedSimpArgs false
open Go.RowKit

theorem RG_nil {w : World} : RG w 0 w.heap.size none [] := ⟨Nat.le_refl _, fun h => absurd rfl h⟩
theorem ExtIs.full {r s : Int} {es : List Ed} {w : List Int} {b : Bool} {s2 : Int} {es2 : List Ed} {x : Int} (h : ExtIs r s es w b s2 es2 x) (hk : (rdA es 0 w).2 = w.length) : b = true ∧ s2 = s ∧ es2 = es ∧ x = (rdA es 0 w).1 := by
  rcases h with ⟨h1, -, h2⟩ | ⟨-, h1, -⟩ | ⟨-, h1, -⟩
  · exact ⟨h1, h2⟩
  · omega
  · omega
theorem ExtIs.more {r s : Int} {es : List Ed} {w : List Int} {b : Bool} {s2 : Int} {es2 : List Ed} {x : Int} (h : ExtIs r s es w b s2 es2 x) (hk : (rdA es 0 w).2 < w.length) (hp : s < 40 ∧ PathOk r (s + 1) es (rdA es 0 w).1 (w.drop (rdA es 0 w).2) s) :
    b = true ∧ s2 = s + 1 + ((w.drop (rdA es 0 w).2).length : Int) - 1 ∧ es2 = canon (es ++ pathE (rdA es 0 w).1 (s + 1) (w.drop (rdA es 0 w).2) s (w.drop (rdA es 0 w).2).length) ∧ x = s := by
  rcases h with ⟨-, h1, -⟩ | ⟨h1, -, -, -, h2⟩ | ⟨-, -, h1, -⟩
  · omega
  · exact ⟨h1, h2⟩
  · exact absurd hp h1
theorem ExtIs.not {r s : Int} {es : List Ed} {w : List Int} {b : Bool} {s2 : Int} {es2 : List Ed} {x : Int} (h : ExtIs r s es w b s2 es2 x) (hk : (rdA es 0 w).2 < w.length) (hp : ¬ (s < 40 ∧ PathOk r (s + 1) es (rdA es 0 w).1 (w.drop (rdA es 0 w).2) s)) :
    b = false ∧ s2 = 0 ∧ es2 = [] ∧ x = 0 := by
  rcases h with ⟨-, h1, -⟩ | ⟨-, -, h1, h2, -⟩ | ⟨h1, -, -, h2⟩
  · omega
  · exact absurd ⟨h1, h2⟩ hp
  · exact ⟨h1, h2⟩

set_option maxHeartbeats 3200000 in
set_option maxRecDepth 20000 in
theorem impl_extend (r n : Nat) (A : Option Addr) (es : List Ed) (c : Nat) (Aw : Option Addr) (wd : List Int) (cw : Nat) (w : World) (lo hi lo' hi' : Nat) (hr : RG w lo hi A es) (hw : RV w lo' hi' Aw (ints wd)) (hcl : es.length ≤ c) (hcw : wd.length ≤ cw) (hg : IsGr r n es) (hwl : wd.length ≤ 1048576) (hok : OkI wd)
    (b : Bool) (s2 : Int) (es2 : List Ed) (x : Int) (hres : ExtIs r n es wd b s2 es2 x) :
    Calls Tryz.prog 61 #[graV r n A es.length c, .slice Aw wd.length cw] w fun e w' => ∃ (A1 : Option Addr) (c1 : Nat) (rr : Int), e = .returned (.tuple #[graV rr s2 A1 es2.length c1, .int .i64 x, .bool b]) ∧ rr = (if b = true then (r : Int) else 0) ∧ RG w' 0 w'.heap.size A1 es2 ∧ es2.length ≤ c1 ∧ Mid 0 0 w w' := by
  have hm0 : Mid 0 0 w ((w.alloc (.cells #[.int .i64 r, .int .i64 n, .slice A es.length c] 29)).alloc (.cells #[.int .i64 0, .int .i64 0, .slice none 0 0] 29)) := (Mid.alloc _ _).trans (Mid.alloc _ _)
  have b0 := (Box.new w #[.int .i64 r, .int .i64 n, .slice A es.length c] 29).mid (Mid.alloc _ (.cells #[.int .i64 0, .int .i64 0, .slice none 0 0] 29)) (Or.inr (Nat.zero_le _))
  have b2 := Box.new (w.alloc (.cells #[.int .i64 r, .int .i64 n, .slice A es.length c] 29)) #[.int .i64 0, .int .i64 0, .slice none 0 0] 29
  simp only [World.size_alloc] at b2
  have hl := hg.len
  have hn40 : 1 ≤ n ∧ n ≤ 40 := by have := hg.size; omega
  have HG := Lib.hid hg
  have HOK := Lib.hid hok
  have HR := Lib.hid hres
  clear hg hok hres
  go_enter Tryz.func61, Tryz.ntmps61
  go_wp2_with fail
  generalize ((w.alloc (.cells #[.int .i64 r, .int .i64 n, .slice A es.length c] 29)).alloc (.cells #[.int .i64 0, .int .i64 0, .slice none 0 0] 29)) = w1 at hm0 b0 b2 ⊢
  have hs1 : w.heap.size + 1 < w1.heap.size := b2.1
  with_reducible refine (impl_read r n A es c 0 Aw wd cw w1 _ _ _ _ (hr.mid hm0 (Or.inl (Nat.zero_le _))) (hw.mid hm0 (Or.inl (Nat.zero_le _))) HG.out hwl HOK.out).mono ?_
  rintro en w2 ⟨u, k, rfl, hk, hgo, hend, hm2⟩
  have hrd : rdA es 0 wd = (u, k) := rdA_is hgo hk hend
  have hk2 : (rdA es 0 wd).2 = k := by rw [hrd]
  have hk1 : (rdA es 0 wd).1 = u := by rw [hrd]
  have hu := rdA_in HG.out.all wd (v := 0) (by omega)
  rw [hk1] at hu
  have HK1 := Lib.hid hk1
  have HK2 := Lib.hid hk2
  clear hgo hend hrd hk1 hk2
  replace b0 := b0.mid hm2 (Or.inr (Nat.zero_le _))
  replace b2 := b2.mid hm2 (Or.inr (Nat.zero_le _))
  replace hm0 := hm0.trans hm2
  have hs2 := hm2.size
  clear hm2
  rcases Nat.lt_or_ge k wd.length with hlt | hge
  · have dk : ((k : Int) == (wd.length : Int)) = false := by simp only [beq_eq_false_iff_ne]; omega
    have hdl : (wd.drop k).length = wd.length - k := List.length_drop
    have hcase : Hid ((n < 40 ∧ PathOk r ((n : Int) + 1) es u (wd.drop k) n) ∨ ¬ (n < 40 ∧ PathOk r ((n : Int) + 1) es u (wd.drop k) n)) := Lib.hid (Classical.em _)
    have p0 := b0.cell 0 rfl
    have p1 := b0.cell 1 rfl
    have p2 := b0.cell 2 rfl
    go_wp2_with fail
    by_cases h40 : n < 40
    · have hav : AvIs r n es ((n : Int) + 1) true := .inl ⟨rfl, ⟨HG.out, by omega⟩, rfl⟩
      with_reducible refine (impl_AddVertex r n A es c w2 _ _ (hr.mid hm0 (Or.inl (Nat.zero_le _))) (by omega) ((n : Int) + 1) true hav).mono ?_
      rintro en w4 ⟨A4, c4, rfl, ho4, hm4⟩
      have hs4 := hm4.size
      have ha4 := Mid.alloc w4 (.cells #[.int .i64 r, .int .i64 ((n : Int) + 1), .slice A4 es.length c4] 29)
      have Y4 := Box.new w4 #[.int .i64 r, .int .i64 ((n : Int) + 1), .slice A4 es.length c4] 29
      replace b0 := b0.mid hm4 (Or.inr (Nat.zero_le _))
      replace b2 := b2.mid hm4 (Or.inr (Nat.zero_le _))
      replace hm0 := hm0.trans hm4
      have hb4 : w.heap.size + 1 < w4.heap.size := b2.1
      replace b0 := b0.mid ha4 (Or.inr (Nat.zero_le _))
      replace b2 := b2.mid ha4 (Or.inr (Nat.zero_le _))
      replace ho4 := ho4.mid ha4 (Or.inl (Nat.zero_le _))
      replace hm0 := hm0.trans ha4
      have hsa := ha4.size
      clear p0 p1 p2 ha4 hav
      have p0 := b0.cell 0 rfl
      have p1 := b0.cell 1 rfl
      have p2 := b0.cell 2 rfl
      go_wp2_with fail
      generalize w4.alloc (.cells #[.int .i64 r, .int .i64 ((n : Int) + 1), .slice A4 es.length c4] 29) = w5 at b0 b2 Y4 ho4 hm0 hsa p0 p1 p2 ⊢
      have hG5 : w4.heap.size < w5.heap.size := Y4.1
      obtain ⟨rs2, res2, bb, hPI⟩ := PathIs_ex (r : Int) ((n : Int) + 1) es u (wd.drop k) n
      have HPI := Lib.hid hPI
      clear hPI
      obtain ⟨Bw, ow, rfl⟩ : ∃ Bw ow, Aw = some ⟨Bw, ow, none⟩ := by
        obtain ⟨B, off, y, h1, -⟩ := hw.at hlt
        exact ⟨B, off, h1⟩
      have hmd := Mid.drew1 w5
      have hsd := hmd.size
      replace b0 := b0.mid hmd (Or.inr (Nat.zero_le _))
      replace b2 := b2.mid hmd (Or.inr (Nat.zero_le _))
      replace Y4 := Y4.mid hmd (Or.inr (Nat.zero_le _))
      replace ho4 := ho4.mid hmd (Or.inl (Nat.zero_le _))
      replace hm0 := hm0.trans hmd
      clear p0 p1 p2
      have y0 := Y4.cell 0 rfl
      have y1 := Y4.cell 1 rfl
      have y2 := Y4.cell 2 rfl
      have hdo : OkI (wd.drop k) := fun q hq => HOK.out q (List.mem_of_mem_drop hq)
      have hkc : k ≤ cw := by omega
      have hck : ¬ cw = k := by omega
      have hP := fun W (h1 : RG W w2.heap.size w4.heap.size A4 es) (h2 : RV W lo' hi' (some ⟨Bw, ow + k, none⟩) (ints (wd.drop k))) => impl_AddPath r ((n : Int) + 1) A4 es c4 u (some ⟨Bw, ow + k, none⟩) (wd.drop k) (cw - k) n W _ _ _ _ h1 h2 (by omega) (by omega) hdo rs2 res2 bb HPI.out
      rw [hdl] at hP
      have HP := Lib.hid hP
      have HDO := Lib.hid hdo
      have HDL := Lib.hid hdl
      clear hP hdo hdl
      refine wp_region_Z (S := (fun w' => w'.cell? ⟨w4.heap.size, 0, none⟩ = some (.int .i64 r) ∧ w'.cell? ⟨w4.heap.size, 1, none⟩ = some (.int .i64 ((n : Int) + 1)) ∧ w'.cell? ⟨w4.heap.size, 2, none⟩ = some (.slice A4 es.length c4))) [9, 10, 11] (by kernel_rfl) ⟨y0, y1, y2⟩ ?_
      generalize World.drew w5 = wz at b0 b2 Y4 ho4 hm0 y0 y1 y2 hsd ⊢
      have hS : wz.cell? ⟨w4.heap.size, 0, none⟩ = some (.int .i64 r) ∧ wz.cell? ⟨w4.heap.size, 1, none⟩ = some (.int .i64 ((n : Int) + 1)) ∧ wz.cell? ⟨w4.heap.size, 2, none⟩ = some (.slice A4 es.length c4) := ⟨y0, y1, y2⟩
      refine wpAnyZ_takeC [6, 7, 8, 9, 10, 11] (i := 0) (v := ?_) rfl (by kernel_rfl) (by kernel_rfl) (by kernel_rfl) (by kernel_rfl) (fun _ _ _ h => h) (Or.inl ⟨by rfl, ?_⟩) hS ?_
      rotate_left
      focus (intro w hSw; (try dsimp only at hSw); go_simp; try with_reducible rfl)
      try simp only [Act.put, List.setIfInBounds_toArray, List.set_cons_zero, List.set_cons_succ, List.getElem_toArray, List.getElem_cons_zero, List.getElem_cons_succ]
      refine wpAnyZ_takeC [6, 7, 8, 9, 10, 11] (i := 1) (v := ?_) rfl (by kernel_rfl) (by kernel_rfl) (by kernel_rfl) (by kernel_rfl) (fun _ _ _ h => h) (Or.inl ⟨by rfl, ?_⟩) hS ?_
      rotate_left
      focus (intro w hSw; (try dsimp only at hSw); go_simp; try with_reducible rfl)
      try simp only [Act.put, List.setIfInBounds_toArray, List.set_cons_zero, List.set_cons_succ, List.getElem_toArray, List.getElem_cons_zero, List.getElem_cons_succ]
      refine wpAnyZ_takeC [4, 6, 7, 8, 9, 10, 11] (i := 2) (v := ?_) rfl (by kernel_rfl) (by kernel_rfl) (by kernel_rfl) (by kernel_rfl) (fun _ _ _ h => h) (Or.inl ⟨by rfl, ?_⟩) hS ?_
      rotate_left
      focus (intro w hSw; (try dsimp only at hSw); go_simp; try with_reducible rfl)
      try simp only [Act.put, List.setIfInBounds_toArray, List.set_cons_zero, List.set_cons_succ, List.getElem_toArray, List.getElem_cons_zero, List.getElem_cons_succ]
      refine wpAnyZ_takeC [4, 6, 7, 8, 9, 10, 11] (i := 3) (v := ?_) rfl (by kernel_rfl) (by kernel_rfl) (by kernel_rfl) (by kernel_rfl) (fun _ _ _ h => h) (Or.inl ⟨by rfl, ?_⟩) hS ?_
      rotate_left
      focus (intro w hSw; (try dsimp only at hSw); go_simp; try with_reducible rfl)
      try simp only [Act.put, List.setIfInBounds_toArray, List.set_cons_zero, List.set_cons_succ, List.getElem_toArray, List.getElem_cons_zero, List.getElem_cons_succ]
      refine wpAnyZ_takeC [6, 7, 8, 9, 10, 11] (i := 4) (v := ?_) rfl (by kernel_rfl) (by kernel_rfl) (by kernel_rfl) (by kernel_rfl) (fun _ _ _ h => h) (Or.inl ⟨by rfl, ?_⟩) hS ?_
      rotate_left
      focus (intro w hSw; (try dsimp only at hSw); go_simp; try with_reducible rfl)
      try simp only [Act.put, List.setIfInBounds_toArray, List.set_cons_zero, List.set_cons_succ, List.getElem_toArray, List.getElem_cons_zero, List.getElem_cons_succ]
      refine wpAnyZ_takeC [6, 7, 8, 9, 10, 11] (i := 5) (v := ?_) rfl (by kernel_rfl) (by kernel_rfl) (by kernel_rfl) (by kernel_rfl) (fun _ _ _ h => h) (Or.inl ⟨by rfl, ?_⟩) hS ?_
      rotate_left
      focus (intro w hSw; (try dsimp only at hSw); go_simp; try with_reducible rfl)
      try simp only [Act.put, List.setIfInBounds_toArray, List.set_cons_zero, List.set_cons_succ, List.getElem_toArray, List.getElem_cons_zero, List.getElem_cons_succ]
      refine wpAnyZ_ready (rs := [6]) (by kernel_rfl) (by simp) (AllReadyZ.cons rfl (fun K hK => ?_) AllReadyZ.nil)
      (go_simp; (with_reducible refine (HP.out _ ho4.rg ((hw.mid hm0 (Or.inl (Nat.zero_le _))).dropI k)).mono ?_); rintro en w6 ⟨A6, c6, rfl, ho6, hm6⟩; have Y6 := Y4.mid hm6 (Or.inr (Nat.zero_le _)); go_wp2_with fail)
      refine hK.out _ _ (Or.inr ⟨Y6.cell 0 rfl, Y6.cell 1 rfl, Y6.cell 2 rfl⟩) (fun _ => ?_)
      clear hK K
      try simp only [Act.put, List.setIfInBounds_toArray, List.set_cons_zero, List.set_cons_succ, List.getElem_toArray, List.getElem_cons_zero, List.getElem_cons_succ]
      replace b0 := b0.mid hm6 (Or.inr (Nat.zero_le _))
      replace b2 := b2.mid hm6 (Or.inr (Nat.zero_le _))
      replace hm0 := hm0.trans hm6
      have hs6 := hm6.size
      have hS6 := And.intro (Y6.cell 0 rfl) (And.intro (Y6.cell 1 rfl) (Y6.cell 2 rfl))
      clear Y4 hS y0 y1 y2 ho4 hm6 HP
      have yf := Y6.2.2
      have y0 := Y6.cell 0 rfl
      have y1 := Y6.cell 1 rfl
      have y2 := Y6.cell 2 rfl
      refine wpAnyZ_takeC [8, 9, 10, 11] (i := 7) (v := ?_) rfl (by kernel_rfl) (by kernel_rfl) (by kernel_rfl) (by kernel_rfl) (fun _ _ _ h => h) (Or.inl ⟨by rfl, ?_⟩) hS6 ?_
      rotate_left
      focus (intro w hSw; (try dsimp only at hSw); go_simp; try with_reducible rfl)
      try simp only [Act.put, List.setIfInBounds_toArray, List.set_cons_zero, List.set_cons_succ, List.getElem_toArray, List.getElem_cons_zero, List.getElem_cons_succ]
      refine wpAnyZ_ready (rs := [8,9]) (by kernel_rfl) (by simp) (AllReadyZ.cons rfl (fun K hK => ?_) (AllReadyZ.cons rfl (fun K hK => ?_) AllReadyZ.nil))
      · go_simp
        refine hK.out _ _ (Or.inr hS6) (fun _ => ?_)
        clear hK K
        try simp only [Act.put, List.setIfInBounds_toArray, List.set_cons_zero, List.set_cons_succ, List.getElem_toArray, List.getElem_cons_zero, List.getElem_cons_succ]
        refine wpAnyZ_ready (rs := [9,10]) (by kernel_rfl) (by simp) (AllReadyZ.cons rfl (fun K hK => ?_) (AllReadyZ.cons rfl (fun K hK => ?_) AllReadyZ.nil))
        · go_simp
          refine hK.out _ _ (Or.inl (by simp)) (fun _ => ?_)
          clear hK K
          try simp only [Act.put, List.setIfInBounds_toArray, List.set_cons_zero, List.set_cons_succ, List.getElem_toArray, List.getElem_cons_zero, List.getElem_cons_succ]
          refine wpAnyZ_ready (rs := [10]) (by kernel_rfl) (by simp) (AllReadyZ.cons rfl (fun K hK => ?_) AllReadyZ.nil)
          go_simp
          refine hK.out _ _ (Or.inl (by simp)) (fun _ => ?_)
          clear hK K
          try simp only [Act.put, List.setIfInBounds_toArray, List.set_cons_zero, List.set_cons_succ, List.getElem_toArray, List.getElem_cons_zero, List.getElem_cons_succ]
          refine wpAnyZ_ready (rs := [11]) (by kernel_rfl) (by simp) (AllReadyZ.cons rfl (fun K hK => ?_) AllReadyZ.nil)
          go_simp
          refine hK.out _ _ (Or.inl (by simp)) (fun _ => ?_)
          clear hK K
          try simp only [Act.put, List.setIfInBounds_toArray, List.set_cons_zero, List.set_cons_succ, List.getElem_toArray, List.getElem_cons_zero, List.getElem_cons_succ]
          refine wpAnyZ_done (by kernel_rfl) ?_ _
          have hst := ((Mid.setCell w6 (lo := w4.heap.size) (hi := w4.heap.size + 1) (p := ⟨w4.heap.size, 0, none⟩) (.int .i64 r) (Nat.le_refl _) (Nat.lt_succ_self _)).trans (Mid.setCell _ (lo := w4.heap.size) (hi := w4.heap.size + 1) (p := ⟨w4.heap.size, 1, none⟩) (.int .i64 rs2) (Nat.le_refl _) (Nat.lt_succ_self _))).trans (Mid.setCell _ (lo := w4.heap.size) (hi := w4.heap.size + 1) (p := ⟨w4.heap.size, 2, none⟩) (.slice A6 res2.length c6) (Nat.le_refl _) (Nat.lt_succ_self _))
          have V2 := b2.mid hst (Or.inl (by omega))
          have Y7 := ((Y6.set 0 (.int .i64 r) (by simp) rfl).set 1 (.int .i64 rs2) (by simp) rfl).set 2 (.slice A6 res2.length c6) (by simp) rfl
          simp only [List.set_cons_succ, List.set_cons_zero] at Y7
          have ho7 := ho6.mid hst (Or.inl (by omega))
          have hm7 := ((hm0.storeNew (p := ⟨w4.heap.size, 0, none⟩) (by show w.heap.size ≤ w4.heap.size; omega) (.int .i64 r)).storeNew (p := ⟨w4.heap.size, 1, none⟩) (by show w.heap.size ≤ w4.heap.size; omega) (.int .i64 rs2)).storeNew (p := ⟨w4.heap.size, 2, none⟩) (by show w.heap.size ≤ w4.heap.size; omega) (.slice A6 res2.length c6)
          have hc6 := ho6.cnt.1
          clear Y6 yf y0 y1 y2 hS6 b0 b2 hm0 ho6 hst
          generalize ((w6.setCell ⟨w4.heap.size, 0, none⟩ (.int .i64 r)).setCell ⟨w4.heap.size, 1, none⟩ (.int .i64 rs2)).setCell ⟨w4.heap.size, 2, none⟩ (.slice A6 res2.length c6) = w7 at V2 Y7 ho7 hm7 ⊢
          have z0 := V2.cell 0 rfl
          have z1 := V2.cell 1 rfl
          have z2 := V2.cell 2 rfl
          have zf := V2.2.2
          have hpi := HPI.out
          cases bb with
          | true =>
            rcases hpi with ⟨-, hok, hrs, hre⟩ | ⟨h, -⟩
            · obtain ⟨rfl, h2, h3, rfl⟩ := HR.out.more (by rw [HK2.out]; exact hlt) (by rw [HK1.out, HK2.out]; exact ⟨by omega, hok⟩)
              rw [HK2.out] at h2
              rw [HK1.out, HK2.out] at h3
              have hse : s2 = rs2 := h2.trans hrs.symm
              have hee : es2 = res2 := h3.trans hre.symm
              clear h2 h3 hrs hre hok HR HPI
              subst hse
              subst res2
              have y0 := Y7.cell 0 rfl
              have y1 := Y7.cell 1 rfl
              have y2 := Y7.cell 2 rfl
              go_wp2_with fail
              have hcl : (w.heap.size + 1 == w4.heap.size) = false := by simp; omega
              refine bodyPost_ret (v := .tuple #[.agg #[.int .i64 r, .int .i64 s2, .slice A6 es2.length c6], .int .i64 n, .bool true]) (by simp [results, Tryz.results61, go_sem, z0, z1, z2, zf, y0, y1, y2]) rfl ⟨A6, c6, r, rfl, rfl, ?_, hc6, ?_⟩
              · refine RG.wide (RG.mid ho7.rg (a := w.heap.size) (b := w.heap.size + 2) ?_ (Or.inl (by omega))) (Nat.zero_le _) (by have := ho7.size; simp at this ⊢; omega) (Nat.le_refl _)
                repeat (first | exact Mid.refl _ _ _ | refine Mid.stored ?_ _ (by simp; try omega) (by simp; try omega))
              · repeat (first | exact hm7 | refine Mid.storeNew ?_ (by simp; try omega) _)
            · cases h
          | false =>
            rcases hpi with ⟨h, -⟩ | ⟨-, hno, -, -⟩
            · cases h
            · obtain ⟨rfl, rfl, rfl, rfl⟩ := HR.out.not (by rw [HK2.out]; exact hlt) (by rw [HK1.out, HK2.out]; exact fun h => hno h.2)
              clear hno HR HPI
              go_wp2_with fail
              refine bodyPost_ret (v := .tuple #[.agg #[.int .i64 0, .int .i64 0, .slice none 0 0], .int .i64 0, .bool false]) (by simp [results, Tryz.results61, go_sem, z0, z1, z2, zf]) rfl ⟨none, 0, 0, rfl, rfl, RG_nil, ?_⟩
              repeat (first | exact hm7 | refine Mid.trans ?_ (Mid.alloc _ _) | refine Mid.storeNew ?_ (by simp; try omega) _)
        · go_simp
          refine hK.out _ _ (Or.inl (by simp)) (fun _ => ?_)
          clear hK K
          try simp only [Act.put, List.setIfInBounds_toArray, List.set_cons_zero, List.set_cons_succ, List.getElem_toArray, List.getElem_cons_zero, List.getElem_cons_succ]
          refine wpAnyZ_ready (rs := [9]) (by kernel_rfl) (by simp) (AllReadyZ.cons rfl (fun K hK => ?_) AllReadyZ.nil)
          go_simp
          refine hK.out _ _ (Or.inl (by simp)) (fun _ => ?_)
          clear hK K
          try simp only [Act.put, List.setIfInBounds_toArray, List.set_cons_zero, List.set_cons_succ, List.getElem_toArray, List.getElem_cons_zero, List.getElem_cons_succ]
          refine wpAnyZ_ready (rs := [11]) (by kernel_rfl) (by simp) (AllReadyZ.cons rfl (fun K hK => ?_) AllReadyZ.nil)
          go_simp
          refine hK.out _ _ (Or.inl (by simp)) (fun _ => ?_)
          clear hK K
          try simp only [Act.put, List.setIfInBounds_toArray, List.set_cons_zero, List.set_cons_succ, List.getElem_toArray, List.getElem_cons_zero, List.getElem_cons_succ]
          refine wpAnyZ_done (by kernel_rfl) ?_ _
          have hst := ((Mid.setCell w6 (lo := w4.heap.size) (hi := w4.heap.size + 1) (p := ⟨w4.heap.size, 0, none⟩) (.int .i64 r) (Nat.le_refl _) (Nat.lt_succ_self _)).trans (Mid.setCell _ (lo := w4.heap.size) (hi := w4.heap.size + 1) (p := ⟨w4.heap.size, 1, none⟩) (.int .i64 rs2) (Nat.le_refl _) (Nat.lt_succ_self _))).trans (Mid.setCell _ (lo := w4.heap.size) (hi := w4.heap.size + 1) (p := ⟨w4.heap.size, 2, none⟩) (.slice A6 res2.length c6) (Nat.le_refl _) (Nat.lt_succ_self _))
          have V2 := b2.mid hst (Or.inl (by omega))
          have Y7 := ((Y6.set 0 (.int .i64 r) (by simp) rfl).set 1 (.int .i64 rs2) (by simp) rfl).set 2 (.slice A6 res2.length c6) (by simp) rfl
          simp only [List.set_cons_succ, List.set_cons_zero] at Y7
          have ho7 := ho6.mid hst (Or.inl (by omega))
          have hm7 := ((hm0.storeNew (p := ⟨w4.heap.size, 0, none⟩) (by show w.heap.size ≤ w4.heap.size; omega) (.int .i64 r)).storeNew (p := ⟨w4.heap.size, 1, none⟩) (by show w.heap.size ≤ w4.heap.size; omega) (.int .i64 rs2)).storeNew (p := ⟨w4.heap.size, 2, none⟩) (by show w.heap.size ≤ w4.heap.size; omega) (.slice A6 res2.length c6)
          have hc6 := ho6.cnt.1
          clear Y6 yf y0 y1 y2 hS6 b0 b2 hm0 ho6 hst
          generalize ((w6.setCell ⟨w4.heap.size, 0, none⟩ (.int .i64 r)).setCell ⟨w4.heap.size, 1, none⟩ (.int .i64 rs2)).setCell ⟨w4.heap.size, 2, none⟩ (.slice A6 res2.length c6) = w7 at V2 Y7 ho7 hm7 ⊢
          have z0 := V2.cell 0 rfl
          have z1 := V2.cell 1 rfl
          have z2 := V2.cell 2 rfl
          have zf := V2.2.2
          have hpi := HPI.out
          cases bb with
          | true =>
            rcases hpi with ⟨-, hok, hrs, hre⟩ | ⟨h, -⟩
            · obtain ⟨rfl, h2, h3, rfl⟩ := HR.out.more (by rw [HK2.out]; exact hlt) (by rw [HK1.out, HK2.out]; exact ⟨by omega, hok⟩)
              rw [HK2.out] at h2
              rw [HK1.out, HK2.out] at h3
              have hse : s2 = rs2 := h2.trans hrs.symm
              have hee : es2 = res2 := h3.trans hre.symm
              clear h2 h3 hrs hre hok HR HPI
              subst hse
              subst res2
              have y0 := Y7.cell 0 rfl
              have y1 := Y7.cell 1 rfl
              have y2 := Y7.cell 2 rfl
              go_wp2_with fail
              have hcl : (w.heap.size + 1 == w4.heap.size) = false := by simp; omega
              refine bodyPost_ret (v := .tuple #[.agg #[.int .i64 r, .int .i64 s2, .slice A6 es2.length c6], .int .i64 n, .bool true]) (by simp [results, Tryz.results61, go_sem, z0, z1, z2, zf, y0, y1, y2]) rfl ⟨A6, c6, r, rfl, rfl, ?_, hc6, ?_⟩
              · refine RG.wide (RG.mid ho7.rg (a := w.heap.size) (b := w.heap.size + 2) ?_ (Or.inl (by omega))) (Nat.zero_le _) (by have := ho7.size; simp at this ⊢; omega) (Nat.le_refl _)
                repeat (first | exact Mid.refl _ _ _ | refine Mid.stored ?_ _ (by simp; try omega) (by simp; try omega))
              · repeat (first | exact hm7 | refine Mid.storeNew ?_ (by simp; try omega) _)
            · cases h
          | false =>
            rcases hpi with ⟨h, -⟩ | ⟨-, hno, -, -⟩
            · cases h
            · obtain ⟨rfl, rfl, rfl, rfl⟩ := HR.out.not (by rw [HK2.out]; exact hlt) (by rw [HK1.out, HK2.out]; exact fun h => hno h.2)
              clear hno HR HPI
              go_wp2_with fail
              refine bodyPost_ret (v := .tuple #[.agg #[.int .i64 0, .int .i64 0, .slice none 0 0], .int .i64 0, .bool false]) (by simp [results, Tryz.results61, go_sem, z0, z1, z2, zf]) rfl ⟨none, 0, 0, rfl, rfl, RG_nil, ?_⟩
              repeat (first | exact hm7 | refine Mid.trans ?_ (Mid.alloc _ _) | refine Mid.storeNew ?_ (by simp; try omega) _)
      · go_simp
        refine hK.out _ _ (Or.inl (by simp)) (fun _ => ?_)
        clear hK K
        try simp only [Act.put, List.setIfInBounds_toArray, List.set_cons_zero, List.set_cons_succ, List.getElem_toArray, List.getElem_cons_zero, List.getElem_cons_succ]
        refine wpAnyZ_ready (rs := [8]) (by kernel_rfl) (by simp) (AllReadyZ.cons rfl (fun K hK => ?_) AllReadyZ.nil)
        go_simp
        refine hK.out _ _ (Or.inr hS6) (fun _ => ?_)
        clear hK K
        try simp only [Act.put, List.setIfInBounds_toArray, List.set_cons_zero, List.set_cons_succ, List.getElem_toArray, List.getElem_cons_zero, List.getElem_cons_succ]
        refine wpAnyZ_ready (rs := [10]) (by kernel_rfl) (by simp) (AllReadyZ.cons rfl (fun K hK => ?_) AllReadyZ.nil)
        go_simp
        refine hK.out _ _ (Or.inl (by simp)) (fun _ => ?_)
        clear hK K
        try simp only [Act.put, List.setIfInBounds_toArray, List.set_cons_zero, List.set_cons_succ, List.getElem_toArray, List.getElem_cons_zero, List.getElem_cons_succ]
        refine wpAnyZ_ready (rs := [11]) (by kernel_rfl) (by simp) (AllReadyZ.cons rfl (fun K hK => ?_) AllReadyZ.nil)
        go_simp
        refine hK.out _ _ (Or.inl (by simp)) (fun _ => ?_)
        clear hK K
        try simp only [Act.put, List.setIfInBounds_toArray, List.set_cons_zero, List.set_cons_succ, List.getElem_toArray, List.getElem_cons_zero, List.getElem_cons_succ]
        refine wpAnyZ_done (by kernel_rfl) ?_ _
        have hst := ((Mid.setCell w6 (lo := w4.heap.size) (hi := w4.heap.size + 1) (p := ⟨w4.heap.size, 0, none⟩) (.int .i64 r) (Nat.le_refl _) (Nat.lt_succ_self _)).trans (Mid.setCell _ (lo := w4.heap.size) (hi := w4.heap.size + 1) (p := ⟨w4.heap.size, 1, none⟩) (.int .i64 rs2) (Nat.le_refl _) (Nat.lt_succ_self _))).trans (Mid.setCell _ (lo := w4.heap.size) (hi := w4.heap.size + 1) (p := ⟨w4.heap.size, 2, none⟩) (.slice A6 res2.length c6) (Nat.le_refl _) (Nat.lt_succ_self _))
        have V2 := b2.mid hst (Or.inl (by omega))
        have Y7 := ((Y6.set 0 (.int .i64 r) (by simp) rfl).set 1 (.int .i64 rs2) (by simp) rfl).set 2 (.slice A6 res2.length c6) (by simp) rfl
        simp only [List.set_cons_succ, List.set_cons_zero] at Y7
        have ho7 := ho6.mid hst (Or.inl (by omega))
        have hm7 := ((hm0.storeNew (p := ⟨w4.heap.size, 0, none⟩) (by show w.heap.size ≤ w4.heap.size; omega) (.int .i64 r)).storeNew (p := ⟨w4.heap.size, 1, none⟩) (by show w.heap.size ≤ w4.heap.size; omega) (.int .i64 rs2)).storeNew (p := ⟨w4.heap.size, 2, none⟩) (by show w.heap.size ≤ w4.heap.size; omega) (.slice A6 res2.length c6)
        have hc6 := ho6.cnt.1
        clear Y6 yf y0 y1 y2 hS6 b0 b2 hm0 ho6 hst
        generalize ((w6.setCell ⟨w4.heap.size, 0, none⟩ (.int .i64 r)).setCell ⟨w4.heap.size, 1, none⟩ (.int .i64 rs2)).setCell ⟨w4.heap.size, 2, none⟩ (.slice A6 res2.length c6) = w7 at V2 Y7 ho7 hm7 ⊢
        have z0 := V2.cell 0 rfl
        have z1 := V2.cell 1 rfl
        have z2 := V2.cell 2 rfl
        have zf := V2.2.2
        have hpi := HPI.out
        cases bb with
        | true =>
          rcases hpi with ⟨-, hok, hrs, hre⟩ | ⟨h, -⟩
          · obtain ⟨rfl, h2, h3, rfl⟩ := HR.out.more (by rw [HK2.out]; exact hlt) (by rw [HK1.out, HK2.out]; exact ⟨by omega, hok⟩)
            rw [HK2.out] at h2
            rw [HK1.out, HK2.out] at h3
            have hse : s2 = rs2 := h2.trans hrs.symm
            have hee : es2 = res2 := h3.trans hre.symm
            clear h2 h3 hrs hre hok HR HPI
            subst hse
            subst res2
            have y0 := Y7.cell 0 rfl
            have y1 := Y7.cell 1 rfl
            have y2 := Y7.cell 2 rfl
            go_wp2_with fail
            have hcl : (w.heap.size + 1 == w4.heap.size) = false := by simp; omega
            refine bodyPost_ret (v := .tuple #[.agg #[.int .i64 r, .int .i64 s2, .slice A6 es2.length c6], .int .i64 n, .bool true]) (by simp [results, Tryz.results61, go_sem, z0, z1, z2, zf, y0, y1, y2]) rfl ⟨A6, c6, r, rfl, rfl, ?_, hc6, ?_⟩
            · refine RG.wide (RG.mid ho7.rg (a := w.heap.size) (b := w.heap.size + 2) ?_ (Or.inl (by omega))) (Nat.zero_le _) (by have := ho7.size; simp at this ⊢; omega) (Nat.le_refl _)
              repeat (first | exact Mid.refl _ _ _ | refine Mid.stored ?_ _ (by simp; try omega) (by simp; try omega))
            · repeat (first | exact hm7 | refine Mid.storeNew ?_ (by simp; try omega) _)
          · cases h
        | false =>
          rcases hpi with ⟨h, -⟩ | ⟨-, hno, -, -⟩
          · cases h
          · obtain ⟨rfl, rfl, rfl, rfl⟩ := HR.out.not (by rw [HK2.out]; exact hlt) (by rw [HK1.out, HK2.out]; exact fun h => hno h.2)
            clear hno HR HPI
            go_wp2_with fail
            refine bodyPost_ret (v := .tuple #[.agg #[.int .i64 0, .int .i64 0, .slice none 0 0], .int .i64 0, .bool false]) (by simp [results, Tryz.results61, go_sem, z0, z1, z2, zf]) rfl ⟨none, 0, 0, rfl, rfl, RG_nil, ?_⟩
            repeat (first | exact hm7 | refine Mid.trans ?_ (Mid.alloc _ _) | refine Mid.storeNew ?_ (by simp; try omega) _)
    · obtain rfl : n = 40 := by omega
      have hav : AvIs r ((40 : Nat) : Int) es ((40 : Nat) : Int) false := .inr ⟨rfl, fun h => by have := h.2; omega, rfl⟩
      obtain ⟨rfl, rfl, rfl, rfl⟩ := HR.out.not (by rw [HK2.out]; exact hlt) (fun h => by have := h.1; omega)
      with_reducible refine (impl_AddVertex r ((40 : Nat) : Int) A es c w2 _ _ (hr.mid hm0 (Or.inl (Nat.zero_le _))) (by omega) ((40 : Nat) : Int) false hav).mono ?_
      rintro en w4 ⟨A4, c4, rfl, ho4, hm4⟩
      replace b2 := b2.mid hm4 (Or.inr (Nat.zero_le _))
      replace hm0 := hm0.trans hm4
      have hb23 : w.heap.size + 1 < w4.heap.size := b2.1
      have hb22 : w.heap.size < w4.heap.size := by omega
      have z0 := b2.cell 0 rfl
      have z1 := b2.cell 1 rfl
      have z2 := b2.cell 2 rfl
      have zf := b2.2.2
      clear p0 p1 p2 hav HR
      go_wp2_with fail
      refine bodyPost_ret (v := .tuple #[.agg #[.int .i64 0, .int .i64 0, .slice none 0 0], .int .i64 0, .bool false]) (by simp [results, Tryz.results61, go_sem, z0, z1, z2, zf, hb22, hb23, World.cell?_alloc_lt]) rfl ⟨none, 0, 0, rfl, rfl, RG_nil, ?_⟩
      repeat (first | exact hm0 | refine Mid.trans ?_ (Mid.alloc _ _) | refine Mid.storeNew ?_ (by simp; try omega) _)
  · obtain rfl : k = wd.length := by omega
    obtain ⟨rfl, rfl, rfl, hxu⟩ := HR.out.full HK2.out
    rw [HK1.out] at hxu
    subst hxu
    have hr2 := hr.mid hm0 (Or.inl (Nat.zero_le _))
    have p0 := b0.cell 0 rfl
    have p1 := b0.cell 1 rfl
    have p2 := b0.cell 2 rfl
    have z0 := b2.cell 0 rfl
    have z1 := b2.cell 1 rfl
    have z2 := b2.cell 2 rfl
    have zf := b2.2.2
    clear HR
    go_wp2_with fail
    refine bodyPost_ret (v := .tuple #[.agg #[.int .i64 r, .int .i64 n, .slice A es2.length c], .int .i64 x, .bool true]) (by simp [results, Tryz.results61, go_sem, z0, z1, z2, zf, p0, p1, p2]) rfl ⟨A, c, r, rfl, rfl, ?_, hcl, ?_⟩
    · refine RG.wide (RG.mid hr2 (a := w.heap.size + 1) (b := w.heap.size + 2) ?_ (Or.inr (by have := hr.size; omega))) (Nat.zero_le _) (by have := hr2.size; simp at this ⊢; omega) (Nat.le_refl _)
      repeat (first | exact Mid.refl _ _ _ | refine Mid.stored ?_ _ (by simp; try omega) (by simp; try omega))
    · repeat (first | exact hm0 | refine Mid.storeNew ?_ (by simp; try omega) _)
end Go.Proofs.YtimmnnncgnnkgaaGreat

/- ConjugateSubgroup, the program. -/
namespace Go.Proofs.YtimmnnncgnnkgaaGreat
set_option linter.unusedVariables false
set_option linter.unusedSimpArgs false
open Go.RowKit

/-- What ConjugateSubgroup gives. -/
def CjIs (r s : Int) (es : List Ed) (wd : List Int) (rr rs : Int) (res : List Ed) (b : Bool) : Prop :=
  (¬ (IsCor r s es ∧ IsW r wd) ∧ b = false ∧ rr = 0 ∧ rs = 0 ∧ res = []) ∨
  ((IsCor r s es ∧ IsW r wd) ∧ ∃ b1 s2 es2 x, ExtIs r s es wd b1 s2 es2 x ∧ ((b1 = false ∧ b = false ∧ rr = 0 ∧ rs = 0 ∧ res = []) ∨ (b1 = true ∧ rr = r ∧ MoveIs r s2 es2 x rs res b)))
theorem CjIs_ex (r s : Int) (es : List Ed) (wd : List Int) : ∃ rr rs res b, CjIs r s es wd rr rs res b := by
  by_cases h : IsCor r s es ∧ IsW r wd
  · obtain ⟨b1, s2, es2, x, he⟩ := ext_ex r s es wd
    cases b1 with
    | false => exact ⟨_, _, _, _, .inr ⟨h, _, _, _, _, he, .inl ⟨rfl, rfl, rfl, rfl, rfl⟩⟩⟩
    | true =>
      obtain ⟨rs, res, b, hm⟩ := MoveIs_ex r s2 es2 x
      exact ⟨_, _, _, _, .inr ⟨h, _, _, _, _, he, .inr ⟨rfl, rfl, hm⟩⟩⟩
  · exact ⟨_, _, _, _, .inl ⟨h, rfl, rfl, rfl, rfl⟩⟩
theorem CjIs.lens {r s : Int} {es : List Ed} {wd : List Int} {rr rs : Int} {res : List Ed} {b : Bool} (h : CjIs r s es wd rr rs res b) : res.length ≤ 120 := by
  rcases h with ⟨-, -, -, -, rfl⟩ | ⟨hc, b1, s2, es2, x, he, ⟨-, -, -, -, rfl⟩ | ⟨rfl, -, hm⟩⟩
  · simp
  · simp
  · have hg := he.gr hc.1.gr
    rcases hm with ⟨-, hf, -, rfl⟩ | ⟨-, -, -, rfl⟩
    · exact (moveA_gr hg.1 hg.2).len
    · exact hg.1.len
theorem CjIs.no {r s : Int} {es : List Ed} {wd : List Int} {rr rs : Int} {res : List Ed} {b : Bool} (h : CjIs r s es wd rr rs res b) (hn : ¬ (IsCor r s es ∧ IsW r wd)) : b = false ∧ rr = 0 ∧ rs = 0 ∧ res = [] := by
  rcases h with ⟨-, h⟩ | ⟨h, -⟩
  · exact h
  · exact absurd h hn
theorem CjIs.yes {r s : Int} {es : List Ed} {wd : List Int} {rr rs : Int} {res : List Ed} {b : Bool} (h : CjIs r s es wd rr rs res b) (hn : IsCor r s es ∧ IsW r wd) :
    ∃ b1 s2 es2 x, ExtIs r s es wd b1 s2 es2 x ∧ ((b1 = false ∧ b = false ∧ rr = 0 ∧ rs = 0 ∧ res = []) ∨ (b1 = true ∧ rr = r ∧ MoveIs r s2 es2 x rs res b)) := by
  rcases h with ⟨h, -⟩ | ⟨-, h⟩
  · exact absurd hn h
  · exact h

set_option maxHeartbeats 3200000 in
set_option maxRecDepth 20000 in
theorem impl_ConjugateSubgroup (r s : Int) (A : Option Addr) (es : List Ed) (c : Nat) (Aw : Option Addr) (wd : List Int) (cw : Nat) (w : World) (lo hi lo' hi' : Nat) (hr : RG w lo hi A es) (hw : RV w lo' hi' Aw (ints wd)) (hl : es.length ≤ 1048576) (hcl : es.length ≤ c) (hcw : wd.length ≤ cw) (hwl : wd.length ≤ 1048576) (hok : OkI wd) (rr rs : Int) (res : List Ed) (b : Bool) (hres : CjIs r s es wd rr rs res b) :
    Calls Tryz.prog 65 #[graV r s A es.length c, .slice Aw wd.length cw] w fun e w' => ∃ A1 c1, e = .returned (.tuple #[graV rr rs A1 res.length c1, .bool b]) ∧ OG w' w.heap.size w'.heap.size A1 c1 res ∧ Mid 0 0 w w' := by
  have hm0 : Mid 0 0 w ((w.alloc (.cells #[.int .i64 r, .int .i64 s, .slice A es.length c] 29)).alloc (.cells #[.int .i64 0, .int .i64 0, .slice none 0 0] 29)) := (Mid.alloc _ _).trans (Mid.alloc _ _)
  have b0 := (Box.new w #[.int .i64 r, .int .i64 s, .slice A es.length c] 29).mid (Mid.alloc _ (.cells #[.int .i64 0, .int .i64 0, .slice none 0 0] 29)) (Or.inr (Nat.zero_le _))
  have b2 := Box.new (w.alloc (.cells #[.int .i64 r, .int .i64 s, .slice A es.length c] 29)) #[.int .i64 0, .int .i64 0, .slice none 0 0] 29
  simp only [World.size_alloc] at b2
  have HR := Lib.hid hres
  have HOK := Lib.hid hok
  clear hres hok
  by_cases hc : IsCor r s es ∧ IsW r wd
  · obtain ⟨r, n, rfl, rfl⟩ := hc.1.gr.nat
    obtain ⟨b1, s2, es2, x, he, hcase⟩ := HR.out.yes hc
    have HC := Lib.hid hc.1
    have HW := Lib.hid hc.2
    have HE := Lib.hid he
    have HCASE := Lib.hid hcase
    have hsz := hc.1.gr.size
    clear hc he hcase HR
    go_enter Tryz.func65, Tryz.ntmps65
    go_wp2_with fail
    generalize ((w.alloc (.cells #[.int .i64 r, .int .i64 n, .slice A es.length c] 29)).alloc (.cells #[.int .i64 0, .int .i64 0, .slice none 0 0] 29)) = w1 at hm0 b0 b2 ⊢
    have hs1 : w.heap.size + 1 < w1.heap.size := b2.1
    with_reducible refine (impl_IsCore r n A es c _ _ _ (hr.mid hm0 (Or.inl (Nat.zero_le _))) hl hcl true (iff_of_true rfl HC.out)).mono ?_
    rintro en w2 ⟨rfl, hm2⟩
    replace b0 := b0.mid hm2 (Or.inr (Nat.zero_le _))
    replace b2 := b2.mid hm2 (Or.inr (Nat.zero_le _))
    replace hm0 := hm0.trans hm2
    have hs2 := hm2.size
    have p0 := b0.cell 0 rfl
    have p1 := b0.cell 1 rfl
    have p2 := b0.cell 2 rfl
    go_wp2_with fail
    with_reducible refine (impl_IsWord r Aw wd cw _ _ ((hw.mid hm0 (Or.inl (Nat.zero_le _))).rs) HOK.out (by omega) true (iff_of_true rfl HW.out)).mono ?_
    rintro en w3 ⟨rfl, rfl⟩
    go_wp2_with fail
    with_reducible refine (impl_extend r n A es c Aw wd cw _ _ _ _ _ (hr.mid hm0 (Or.inl (Nat.zero_le _))) (hw.mid hm0 (Or.inl (Nat.zero_le _))) hcl hcw HC.out.gr hwl HOK.out b1 s2 es2 x HE.out).mono ?_
    rintro en w4 ⟨A4, c4, r4, rfl, hr4, hrg4, hc4, hm4⟩
    have hs4 := hm4.size
    replace b2 := b2.mid hm4 (Or.inr (Nat.zero_le _))
    replace hm0 := hm0.trans hm4
    have hb23 : w.heap.size + 1 < w4.heap.size := b2.1
    have hb22 : w.heap.size < w4.heap.size := by omega
    clear p0 p1 p2
    cases b1 with
    | false =>
      rcases HCASE.out with ⟨-, rfl, rfl, rfl, rfl⟩ | ⟨h, -⟩
      · have z0 := b2.cell 0 rfl
        have z1 := b2.cell 1 rfl
        have z2 := b2.cell 2 rfl
        have zf := b2.2.2
        clear HCASE
        go_wp2_with fail
        refine bodyPost_ret (v := .tuple #[.agg #[.int .i64 0, .int .i64 0, .slice none 0 0], .bool false]) (by simp [results, Tryz.results65, go_sem, z0, z1, z2, zf, hb22, hb23, World.cell?_alloc_lt]) rfl ⟨none, 0, rfl, ?_, ?_⟩
        · exact ⟨Nat.le_refl _, ⟨rfl, .inl ⟨rfl, rfl⟩⟩, fun g hg => by simp [Value.ownBlock] at hg⟩
        · repeat (first | exact hm0 | refine Mid.trans ?_ (Mid.alloc _ _) | refine Mid.storeNew ?_ (by simp; try omega) _)
      · cases h
    | true =>
      rcases HCASE.out with ⟨h, -⟩ | ⟨-, rfl, hmv⟩
      · cases h
      · obtain rfl : r4 = (r : Int) := hr4
        have hgx := HE.out.gr HC.out.gr
        have HMV := Lib.hid hmv
        have HGX := Lib.hid hgx
        have hlen2 := hgx.1.len
        have hxx := hgx.1.size
        have hx2 := hgx.2
        have ha4 := Mid.alloc w4 (.cells #[.int .i64 r, .int .i64 s2, .slice A4 es2.length c4] 29)
        have Y4 := Box.new w4 #[.int .i64 r, .int .i64 s2, .slice A4 es2.length c4] 29
        have hrg5 := hrg4.mid ha4 (Or.inl (Nat.zero_le _))
        replace b2 := b2.mid ha4 (Or.inr (Nat.zero_le _))
        replace hm0 := hm0.trans ha4
        have y0 := Y4.cell 0 rfl
        have y1 := Y4.cell 1 rfl
        have y2 := Y4.cell 2 rfl
        clear HCASE hmv hgx
        go_wp2_with fail
        with_reducible refine (impl_MoveBase r s2 A4 es2 c4 x _ _ _ hrg5 (by omega) hc4 (by omega) rs res b HMV.out).mono ?_
        rintro en w6 ⟨A6, c6, rfl, ho6, hm6⟩
        replace b2 := b2.mid hm6 (Or.inr (Nat.zero_le _))
        replace hm0 := hm0.trans hm6
        have hb6 := b2.1
        have z0 := b2.cell 0 rfl
        have z1 := b2.cell 1 rfl
        have z2 := b2.cell 2 rfl
        have zf := b2.2.2
        clear y0 y1 y2
        go_wp2_with fail
        refine bodyPost_ret (v := .tuple #[.agg #[.int .i64 r, .int .i64 rs, .slice A6 res.length c6], .bool b]) (by simp [results, Tryz.results65, go_sem, z0, z1, z2, zf]) rfl ⟨A6, c6, rfl, ?_, ?_⟩
        · refine OG.wide (OG.mid ho6 (a := w.heap.size + 1) (b := w.heap.size + 2) ?_ (Or.inl (by simp; omega))) (by simp; omega) (by simp) (Nat.le_refl _)
          repeat (first | exact Mid.refl _ _ _ | refine Mid.stored ?_ _ (by simp; try omega) (by simp; try omega))
        · repeat (first | exact hm0 | refine Mid.storeNew ?_ (by simp; try omega) _)
  · obtain ⟨rfl, rfl, rfl, rfl⟩ := HR.out.no hc
    have hcase : ¬ IsCor r s es ∨ (IsCor r s es ∧ ¬ IsW r wd) := by
      by_cases h : IsCor r s es
      · exact .inr ⟨h, fun h2 => hc ⟨h, h2⟩⟩
      · exact .inl h
    have HCASE := Lib.hid hcase
    clear hc hcase HR
    go_enter Tryz.func65, Tryz.ntmps65
    go_wp2_with fail
    generalize ((w.alloc (.cells #[.int .i64 r, .int .i64 s, .slice A es.length c] 29)).alloc (.cells #[.int .i64 0, .int .i64 0, .slice none 0 0] 29)) = w1 at hm0 b0 b2 ⊢
    rcases HCASE.out with hc | ⟨hc, hwd⟩
    · have HC := Lib.hid hc
      clear hc HCASE
      with_reducible refine (impl_IsCore r s A es c _ _ _ (hr.mid hm0 (Or.inl (Nat.zero_le _))) hl hcl false (iff_of_false Bool.false_ne_true HC.out)).mono ?_
      rintro en w2 ⟨rfl, hm2⟩
      replace b2 := b2.mid hm2 (Or.inr (Nat.zero_le _))
      replace hm0 := hm0.trans hm2
      have z0 := b2.cell 0 rfl
      have z1 := b2.cell 1 rfl
      have z2 := b2.cell 2 rfl
      have zf := b2.2.2
      go_wp2_with fail
      refine bodyPost_ret (v := .tuple #[.agg #[.int .i64 0, .int .i64 0, .slice none 0 0], .bool false]) (by simp [results, Tryz.results65, go_sem, z0, z1, z2, zf]) rfl ⟨none, 0, rfl, ?_, ?_⟩
      · exact ⟨Nat.le_refl _, ⟨rfl, .inl ⟨rfl, rfl⟩⟩, fun g hg => by simp [Value.ownBlock] at hg⟩
      · repeat (first | exact hm0 | refine Mid.trans ?_ (Mid.alloc _ _) | refine Mid.storeNew ?_ (by simp; try omega) _)
    · have HC := Lib.hid hc
      have HW := Lib.hid hwd
      clear hc hwd HCASE
      with_reducible refine (impl_IsCore r s A es c _ _ _ (hr.mid hm0 (Or.inl (Nat.zero_le _))) hl hcl true (iff_of_true rfl HC.out)).mono ?_
      rintro en w2 ⟨rfl, hm2⟩
      replace b0 := b0.mid hm2 (Or.inr (Nat.zero_le _))
      replace b2 := b2.mid hm2 (Or.inr (Nat.zero_le _))
      replace hm0 := hm0.trans hm2
      have p0 := b0.cell 0 rfl
      have p1 := b0.cell 1 rfl
      have p2 := b0.cell 2 rfl
      go_wp2_with fail
      with_reducible refine (impl_IsWord r Aw wd cw _ _ ((hw.mid hm0 (Or.inl (Nat.zero_le _))).rs) HOK.out (by omega) false (iff_of_false Bool.false_ne_true HW.out)).mono ?_
      rintro en w3 ⟨rfl, rfl⟩
      have z0 := b2.cell 0 rfl
      have z1 := b2.cell 1 rfl
      have z2 := b2.cell 2 rfl
      have zf := b2.2.2
      clear p0 p1 p2
      go_wp2_with fail
      refine bodyPost_ret (v := .tuple #[.agg #[.int .i64 0, .int .i64 0, .slice none 0 0], .bool false]) (by simp [results, Tryz.results65, go_sem, z0, z1, z2, zf]) rfl ⟨none, 0, rfl, ?_, ?_⟩
      · exact ⟨Nat.le_refl _, ⟨rfl, .inl ⟨rfl, rfl⟩⟩, fun g hg => by simp [Value.ownBlock] at hg⟩
      · repeat (first | exact hm0 | refine Mid.trans ?_ (Mid.alloc _ _) | refine Mid.storeNew ?_ (by simp; try omega) _)
end Go.Proofs.YtimmnnncgnnkgaaGreat

/- ConjugateSubgroup, the reference. -/
namespace Go.Proofs.YtimmnnncgnnkgaaGreat
set_option linter.unusedVariables false
set_option linter.unusedSimpArgs false
open Go.RowKit

theorem RV.takeI {w : World} {lo hi : Nat} {A : Option Addr} {xs : List Int} (h : RV w lo hi A (ints xs)) (k : Nat) : RV w lo hi A (ints (xs.take k)) := by
  refine ⟨h.1, fun hn => ?_⟩
  obtain ⟨b, off, hA, h1, h2, h3⟩ := h.2 (by intro h0; apply hn; simp [ints] at h0 ⊢; right; exact h0)
  refine ⟨b, off, hA, h1, h2, fun j u hu => h3 j u ?_⟩
  simp only [ints, List.getElem?_map, List.getElem?_take] at hu ⊢
  split at hu
  · exact hu
  · cases hu

set_option maxHeartbeats 3200000 in
set_option maxRecDepth 20000 in
theorem spec_ConjugateSubgroup (r s : Int) (A : Option Addr) (es : List Ed) (c : Nat) (Aw : Option Addr) (wd : List Int) (cw : Nat) (w : World) (lo hi lo' hi' : Nat) (hr : RG w lo hi A es) (hw : RV w lo' hi' Aw (ints wd)) (hl : es.length ≤ 1048576) (hcl : es.length ≤ c) (hcw : wd.length ≤ cw) (hwl : wd.length ≤ 1048576) (hok : OkI wd) (rr rs : Int) (res : List Ed) (b : Bool) (hres : CjIs r s es wd rr rs res b) :
    Calls Tryz.prog 64 #[graV r s A es.length c, .slice Aw wd.length cw] w fun e w' => ∃ A1 c1, e = .returned (.tuple #[graV rr rs A1 res.length c1, .bool b]) ∧ OG w' w.heap.size w'.heap.size A1 c1 res ∧ Mid 0 0 w w' := by
  have hm0 : Mid 0 0 w ((w.alloc (.cells #[.int .i64 r, .int .i64 s, .slice A es.length c] 29)).alloc (.cells #[.int .i64 0, .int .i64 0, .slice none 0 0] 29)) := (Mid.alloc _ _).trans (Mid.alloc _ _)
  have b0 := (Box.new w #[.int .i64 r, .int .i64 s, .slice A es.length c] 29).mid (Mid.alloc _ (.cells #[.int .i64 0, .int .i64 0, .slice none 0 0] 29)) (Or.inr (Nat.zero_le _))
  have b2 := Box.new (w.alloc (.cells #[.int .i64 r, .int .i64 s, .slice A es.length c] 29)) #[.int .i64 0, .int .i64 0, .slice none 0 0] 29
  simp only [World.size_alloc] at b2
  have HR := Lib.hid hres
  have HOK := Lib.hid hok
  clear hres hok
  by_cases hc : IsCor r s es ∧ IsW r wd
  · obtain ⟨r, n, rfl, rfl⟩ := hc.1.gr.nat
    obtain ⟨b1, s2, es2, x, he, hcase⟩ := HR.out.yes hc
    have HC := Lib.hid hc.1
    have HW := Lib.hid hc.2
    have HE := Lib.hid he
    have HCASE := Lib.hid hcase
    have hsz := hc.1.gr.size
    clear hc he hcase HR
    go_enter Tryz.func64, Tryz.ntmps64
    go_wp2_with fail
    generalize ((w.alloc (.cells #[.int .i64 r, .int .i64 n, .slice A es.length c] 29)).alloc (.cells #[.int .i64 0, .int .i64 0, .slice none 0 0] 29)) = w1 at hm0 b0 b2 ⊢
    have hs1 : w.heap.size + 1 < w1.heap.size := b2.1
    with_reducible refine (spec_IsSubgroup r n A es c _ _ _ (hr.mid hm0 (Or.inl (Nat.zero_le _))) hl true (iff_of_true rfl HC.out)).mono ?_
    rintro en w2 ⟨rfl, hm2⟩
    replace b0 := b0.mid hm2 (Or.inr (Nat.zero_le _))
    replace b2 := b2.mid hm2 (Or.inr (Nat.zero_le _))
    replace hm0 := hm0.trans hm2
    have hs2 := hm2.size
    have p0 := b0.cell 0 rfl
    have p1 := b0.cell 1 rfl
    have p2 := b0.cell 2 rfl
    go_wp2_with fail
    with_reducible refine (spec_IsWord r Aw wd cw _ _ ((hw.mid hm0 (Or.inl (Nat.zero_le _))).rs) HOK.out (by omega) true (iff_of_true rfl HW.out)).mono ?_
    rintro en w3 ⟨rfl, nd, hw3⟩
    have hm3 : Mid 0 0 w2 w3 := by rw [hw3]; exact (Mid.refl 0 0 w2).drewN nd
    replace b0 := b0.mid hm3 (Or.inr (Nat.zero_le _))
    replace b2 := b2.mid hm3 (Or.inr (Nat.zero_le _))
    replace hm0 := hm0.trans hm3
    have hs3 := hm3.size
    clear p0 p1 p2 hw3 hm3
    have p0 := b0.cell 0 rfl
    have p1 := b0.cell 1 rfl
    have p2 := b0.cell 2 rfl
    go_wp2_with fail
    have hn1 : 1 ≤ n ∧ n ≤ 40 := by omega
    have hz0 : ((0 : Nat) : Int) = 0 := rfl
    have hRL := fun W h1 h2 => spec_ReadLength r n 0 A es c Aw wd cw W lo hi lo' hi' h1 h2 HC.out.fol (by omega) hwl HOK.out
    simp only [hz0] at hRL
    obtain ⟨u, k, hrd⟩ : ∃ u k, rdA es 0 wd = (u, k) := ⟨_, _, rfl⟩
    have hk2 : (rdA es 0 wd).2 = k := by rw [hrd]
    have hk1 : (rdA es 0 wd).1 = u := by rw [hrd]
    have hgo := goV_rdA (es := es) wd 0
    have hkl := rdA_le es wd 0
    have hu := rdA_in HC.out.gr.all wd (v := 0) (by omega)
    rw [hk2, hk1] at hgo
    rw [hk2] at hkl
    rw [hk1] at hu
    simp only [hk2] at hRL
    have HK1 := Lib.hid hk1
    have HK2 := Lib.hid hk2
    have HRL := Lib.hid hRL
    have htl : (wd.take k).length = k := by rw [List.length_take]; omega
    have hWW : ∀ W, RG W lo hi A es → RV W lo' hi' Aw (ints wd) → Calls Tryz.prog 79 #[graV r n A es.length c, .int .i64 0, .slice Aw k cw] W fun e w' => e = .returned (.tuple #[.int .i64 u, .bool true]) ∧ Mid 0 0 W w' := by
      intro W h1 h2
      have h3 := spec_WalkWord r n 0 A es c Aw (wd.take k) cw W lo hi lo' hi' h1 (h2.takeI k) HC.out.fol (by omega) (by omega) (fun q hq => HOK.out q (List.mem_of_mem_take hq))
      rw [htl] at h3
      refine h3.mono ?_
      rintro e w' ⟨u', b', rfl, h4, h5, h6⟩
      have hz : goV es ((0 : Nat) : Int) (wd.take k) = some u := hgo
      cases b' with
      | true =>
        have := h4 rfl
        rw [hz] at this
        injection this with this
        subst this
        exact ⟨rfl, h6⟩
      | false =>
        have := h5 rfl
        rw [hz] at this
        cases this
    have HWW := Lib.hid hWW
    clear hrd hk2 hk1 hgo hz0 hRL htl hWW
    with_reducible refine (HRL.out _ (hr.mid hm0 (Or.inl (Nat.zero_le _))) (hw.mid hm0 (Or.inl (Nat.zero_le _)))).mono ?_
    rintro en w4 ⟨rfl, hm4⟩
    replace b0 := b0.mid hm4 (Or.inr (Nat.zero_le _))
    replace b2 := b2.mid hm4 (Or.inr (Nat.zero_le _))
    replace hm0 := hm0.trans hm4
    have hs4 := hm4.size
    clear hm4 HRL p0 p1 p2
    have hkc : k ≤ cw := by omega
    have hkw : (k : Int) ≤ (wd.length : Int) := by omega
    have v0 := wg_cell b0.1 (b0.cell 0 rfl)
    have v1 := wg_cell b0.1 (b0.cell 1 rfl)
    have v2 := wg_cell b0.1 (b0.cell 2 rfl)
    have hA : ∀ (m : Nat) (os : Array Obj), Calls Tryz.prog 79 #[graV r n A es.length c, .int .i64 0, .slice Aw k cw] (wg w4 m os) fun e w'' => e = .returned (.tuple #[.int .i64 u, .bool true]) ∧ ∃ q : GB, w'' = wg w4 q.n q.os := fun m os =>
      Calls.wg_of (HWW.out (wg w4 m os) (hr.mid (hm0.trans (Mid.ofWg w4 m os)) (Or.inl (Nat.zero_le _))) (hw.mid (hm0.trans (Mid.ofWg w4 m os)) (Or.inl (Nat.zero_le _))))
    go_wp2_with fail
    refine wp_region_quiet_wg (by kernel_rfl) (by kernel_rfl) ?_
    repeat
      (with_reducible refine wpQuiet_step (fun K hK => ?_))
      go_simp
      first
        | ((with_reducible refine hK _ ?_); clear hK K)
        | (rw [if_neg (by decide)]; (with_reducible refine hK _ ?_); clear hK K)
        | (apply Exists.intro; refine ⟨fun _ => ?_, hK _ ?_⟩; ((go_at_call 79; with_reducible exact hA _ _)); clear hK K)
    with_reducible refine wpQuiet_nil ?_
    intro _ hw'
    obtain ⟨⟨nq, osq⟩, hw''⟩ := hw'
    subst hw''
    have hwg := Mid.ofWg w4 nq osq
    have hs5 := hwg.size
    generalize wg w4 nq osq = w5 at hwg hs5 ⊢
    replace b0 := b0.mid hwg (Or.inr (Nat.zero_le _))
    replace b2 := b2.mid hwg (Or.inr (Nat.zero_le _))
    replace hm0 := hm0.trans hwg
    clear v0 v1 v2 hA HWW hwg
    have p0 := b0.cell 0 rfl
    have p1 := b0.cell 1 rfl
    have p2 := b0.cell 2 rfl
    go_wp2_with fail
    with_reducible refine (spec_l4Copy r n A es c _ _ _ (hr.mid hm0 (Or.inl (Nat.zero_le _))) (by omega)).mono ?_
    rintro en w6 ⟨A6, c6, rfl, ho6, hm6⟩
    have hs6 := hm6.size
    have ha6 := Mid.alloc w6 (.cells #[.int .i64 r, .int .i64 n, .slice A6 es.length c6] 29)
    have Y6 := Box.new w6 #[.int .i64 r, .int .i64 n, .slice A6 es.length c6] 29
    replace b0 := b0.mid hm6 (Or.inr (Nat.zero_le _))
    replace b2 := b2.mid hm6 (Or.inr (Nat.zero_le _))
    replace hm0 := hm0.trans hm6
    replace b0 := b0.mid ha6 (Or.inr (Nat.zero_le _))
    replace b2 := b2.mid ha6 (Or.inr (Nat.zero_le _))
    replace ho6 := ho6.mid ha6 (Or.inl (Nat.zero_le _))
    replace hm0 := hm0.trans ha6
    have hsa := ha6.size
    clear p0 p1 p2 ha6 hm6
    have p0 := b0.cell 0 rfl
    have p1 := b0.cell 1 rfl
    have p2 := b0.cell 2 rfl
    rcases Nat.lt_or_ge k wd.length with hlt | hge
    · have dk : decide ((k : Int) < (wd.length : Int)) = true := by simp; omega
      have hdl : (wd.drop k).length = wd.length - k := List.length_drop
      go_wp2_with fail
      generalize w6.alloc (.cells #[.int .i64 r, .int .i64 n, .slice A6 es.length c6] 29) = w7 at b0 b2 Y6 ho6 hm0 hsa p0 p1 p2 ⊢
      have hb6 : w6.heap.size < w7.heap.size := Y6.1
      by_cases h40 : n < 40
      · have hav : AvIs r n es ((n : Int) + 1) true := .inl ⟨rfl, ⟨HC.out.gr, by omega⟩, rfl⟩
        with_reducible refine (spec_AddVertex r n A es c w7 _ _ (hr.mid hm0 (Or.inl (Nat.zero_le _))) (by omega) ((n : Int) + 1) true hav).mono ?_
        rintro en w8 ⟨A8, c8, rfl, ho8, hm8⟩
        have hs8 := hm8.size
        have ha8 := Mid.alloc w8 (.cells #[.int .i64 r, .int .i64 ((n : Int) + 1), .slice A8 es.length c8] 29)
        have Y8 := Box.new w8 #[.int .i64 r, .int .i64 ((n : Int) + 1), .slice A8 es.length c8] 29
        replace b0 := b0.mid hm8 (Or.inr (Nat.zero_le _))
        replace b2 := b2.mid hm8 (Or.inr (Nat.zero_le _))
        replace Y6 := Y6.mid hm8 (Or.inr (Nat.zero_le _))
        replace hm0 := hm0.trans hm8
        replace b0 := b0.mid ha8 (Or.inr (Nat.zero_le _))
        replace b2 := b2.mid ha8 (Or.inr (Nat.zero_le _))
        replace Y6 := Y6.mid ha8 (Or.inr (Nat.zero_le _))
        replace ho8 := ho8.mid ha8 (Or.inl (Nat.zero_le _))
        replace hm0 := hm0.trans ha8
        have hsb := ha8.size
        clear p0 p1 p2 ha8 hm8 hav ho6
        have p0 := b0.cell 0 rfl
        have p1 := b0.cell 1 rfl
        have p2 := b0.cell 2 rfl
        go_wp2_with fail
        generalize w8.alloc (.cells #[.int .i64 r, .int .i64 ((n : Int) + 1), .slice A8 es.length c8] 29) = w9 at b0 b2 Y6 Y8 ho8 hm0 hsb p0 p1 p2 ⊢
        have hb8 : w8.heap.size < w9.heap.size := Y8.1
        obtain ⟨rs2, res2, bb, hPI⟩ := PathIs_ex (r : Int) ((n : Int) + 1) es u (wd.drop k) n
        have HPI := Lib.hid hPI
        clear hPI
        obtain ⟨Bw, ow, rfl⟩ : ∃ Bw ow, Aw = some ⟨Bw, ow, none⟩ := by
          obtain ⟨B, off, y, h1, -⟩ := hw.at hlt
          exact ⟨B, off, h1⟩
        have hmd := Mid.drew1 w9
        have hsd := hmd.size
        replace b0 := b0.mid hmd (Or.inr (Nat.zero_le _))
        replace b2 := b2.mid hmd (Or.inr (Nat.zero_le _))
        replace Y6 := Y6.mid hmd (Or.inr (Nat.zero_le _))
        replace Y8 := Y8.mid hmd (Or.inr (Nat.zero_le _))
        replace ho8 := ho8.mid hmd (Or.inl (Nat.zero_le _))
        replace hm0 := hm0.trans hmd
        clear p0 p1 p2
        have p0 := b0.cell 0 rfl
        have p1 := b0.cell 1 rfl
        have p2 := b0.cell 2 rfl
        have y0 := Y8.cell 0 rfl
        have y1 := Y8.cell 1 rfl
        have y2 := Y8.cell 2 rfl
        have hdo : OkI (wd.drop k) := fun q hq => HOK.out q (List.mem_of_mem_drop hq)
        have hck : ¬ cw = k := by omega
        have hP := fun W (h1 : RG W w7.heap.size w8.heap.size A8 es) (h2 : RV W lo' hi' (some ⟨Bw, ow + k, none⟩) (ints (wd.drop k))) => spec_AddPath r ((n : Int) + 1) A8 es c8 u (some ⟨Bw, ow + k, none⟩) (wd.drop k) (cw - k) n W _ _ _ _ h1 h2 (by omega) (by omega) hdo rs2 res2 bb HPI.out
        rw [hdl] at hP
        have HP := Lib.hid hP
        clear hP hdo hdl
        refine wp_region_Z (S := (fun w' => (w'.cell? ⟨w8.heap.size, 0, none⟩ = some (.int .i64 r) ∧ w'.cell? ⟨w8.heap.size, 1, none⟩ = some (.int .i64 ((n : Int) + 1)) ∧ w'.cell? ⟨w8.heap.size, 2, none⟩ = some (.slice A8 es.length c8)) ∧ w'.cell? ⟨w.heap.size, 1, none⟩ = some (.int .i64 n))) [] (by kernel_rfl) ⟨⟨y0, y1, y2⟩, p1⟩ ?_
        generalize World.drew w9 = wz at b0 b2 Y6 Y8 ho8 hm0 p0 p1 p2 y0 y1 y2 hsd ⊢
        have hS : (wz.cell? ⟨w8.heap.size, 0, none⟩ = some (.int .i64 r) ∧ wz.cell? ⟨w8.heap.size, 1, none⟩ = some (.int .i64 ((n : Int) + 1)) ∧ wz.cell? ⟨w8.heap.size, 2, none⟩ = some (.slice A8 es.length c8)) ∧ wz.cell? ⟨w.heap.size, 1, none⟩ = some (.int .i64 n) := ⟨⟨y0, y1, y2⟩, p1⟩
        refine wpAnyZ_takeC [] (i := 0) (v := ?_) rfl (by kernel_rfl) (by kernel_rfl) (by kernel_rfl) (by kernel_rfl) (fun _ _ _ h => h) (Or.inl ⟨by rfl, ?_⟩) hS ?_
        rotate_left
        focus (intro w hSw; (try dsimp only at hSw); go_simp; try with_reducible rfl)
        try simp only [Act.put, List.setIfInBounds_toArray, List.set_cons_zero, List.set_cons_succ, List.getElem_toArray, List.getElem_cons_zero, List.getElem_cons_succ]
        refine wpAnyZ_takeC [] (i := 1) (v := ?_) rfl (by kernel_rfl) (by kernel_rfl) (by kernel_rfl) (by kernel_rfl) (fun _ _ _ h => h) (Or.inl ⟨by rfl, ?_⟩) hS ?_
        rotate_left
        focus (intro w hSw; (try dsimp only at hSw); go_simp; try with_reducible rfl)
        try simp only [Act.put, List.setIfInBounds_toArray, List.set_cons_zero, List.set_cons_succ, List.getElem_toArray, List.getElem_cons_zero, List.getElem_cons_succ]
        refine wpAnyZ_takeC [] (i := 2) (v := ?_) rfl (by kernel_rfl) (by kernel_rfl) (by kernel_rfl) (by kernel_rfl) (fun _ _ _ h => h) (Or.inl ⟨by rfl, ?_⟩) hS ?_
        rotate_left
        focus (intro w hSw; (try dsimp only at hSw); go_simp; try with_reducible rfl)
        try simp only [Act.put, List.setIfInBounds_toArray, List.set_cons_zero, List.set_cons_succ, List.getElem_toArray, List.getElem_cons_zero, List.getElem_cons_succ]
        refine wpAnyZ_takeC [] (i := 3) (v := ?_) rfl (by kernel_rfl) (by kernel_rfl) (by kernel_rfl) (by kernel_rfl) (fun _ _ _ h => h) (Or.inl ⟨by rfl, ?_⟩) hS ?_
        rotate_left
        focus (intro w hSw; (try dsimp only at hSw); go_simp; try with_reducible rfl)
        try simp only [Act.put, List.setIfInBounds_toArray, List.set_cons_zero, List.set_cons_succ, List.getElem_toArray, List.getElem_cons_zero, List.getElem_cons_succ]
        refine wpAnyZ_takeC [] (i := 4) (v := ?_) rfl (by kernel_rfl) (by kernel_rfl) (by kernel_rfl) (by kernel_rfl) (fun _ _ _ h => h) (Or.inl ⟨by rfl, ?_⟩) hS ?_
        rotate_left
        focus (intro w hSw; (try dsimp only at hSw); go_simp; try with_reducible rfl)
        try simp only [Act.put, List.setIfInBounds_toArray, List.set_cons_zero, List.set_cons_succ, List.getElem_toArray, List.getElem_cons_zero, List.getElem_cons_succ]
        refine wpAnyZ_takeC [] (i := 5) (v := ?_) rfl (by kernel_rfl) (by kernel_rfl) (by kernel_rfl) (by kernel_rfl) (fun _ _ _ h => h) (Or.inl ⟨by rfl, ?_⟩) hS ?_
        rotate_left
        focus (intro w hSw; (try dsimp only at hSw); go_simp; try with_reducible rfl)
        try simp only [Act.put, List.setIfInBounds_toArray, List.set_cons_zero, List.set_cons_succ, List.getElem_toArray, List.getElem_cons_zero, List.getElem_cons_succ]
        refine wpAnyZ_takeC [] (i := 6) (v := ?_) rfl (by kernel_rfl) (by kernel_rfl) (by kernel_rfl) (by kernel_rfl) (fun _ _ _ h => h) (Or.inl ⟨by rfl, ?_⟩) hS ?_
        rotate_left
        focus (intro w hSw; (try dsimp only at hSw); go_simp; try with_reducible rfl)
        try simp only [Act.put, List.setIfInBounds_toArray, List.set_cons_zero, List.set_cons_succ, List.getElem_toArray, List.getElem_cons_zero, List.getElem_cons_succ]
        refine wpAnyZ_ready (rs := [7,11]) (by kernel_rfl) (by simp) (AllReadyZ.cons rfl (fun K hK => ?_) (AllReadyZ.cons rfl (fun K hK => ?_) AllReadyZ.nil))
        · (go_simp; (with_reducible refine (HP.out _ ho8.rg ((hw.mid hm0 (Or.inl (Nat.zero_le _))).dropI k)).mono ?_); rintro en w10 ⟨A10, c10, rfl, ho10, hm10⟩; have Y80 := Y8.mid hm10 (Or.inr (Nat.zero_le _)); have b00 := b0.mid hm10 (Or.inr (Nat.zero_le _)); go_wp2_with fail)
          refine hK.out _ _ (Or.inr ⟨⟨Y80.cell 0 rfl, Y80.cell 1 rfl, Y80.cell 2 rfl⟩, b00.cell 1 rfl⟩) (fun _ => ?_)
          clear hK K
          try simp only [Act.put, List.setIfInBounds_toArray, List.set_cons_zero, List.set_cons_succ, List.getElem_toArray, List.getElem_cons_zero, List.getElem_cons_succ]
          replace b2 := b2.mid hm10 (Or.inr (Nat.zero_le _))
          replace Y6 := Y6.mid hm10 (Or.inr (Nat.zero_le _))
          replace hm0 := hm0.trans hm10
          have hs10 := hm10.size
          have hS10 := And.intro (And.intro (Y80.cell 0 rfl) (And.intro (Y80.cell 1 rfl) (Y80.cell 2 rfl))) (b00.cell 1 rfl)
          clear Y8 hS y0 y1 y2 p0 p1 p2 ho8 b0 HP
          refine wpAnyZ_takeC [] (i := 8) (v := ?_) rfl (by kernel_rfl) (by kernel_rfl) (by kernel_rfl) (by kernel_rfl) (fun _ _ _ h => h) (Or.inl ⟨by rfl, ?_⟩) hS10 ?_
          rotate_left
          focus (intro w hSw; (try dsimp only at hSw); go_simp; try with_reducible rfl)
          try simp only [Act.put, List.setIfInBounds_toArray, List.set_cons_zero, List.set_cons_succ, List.getElem_toArray, List.getElem_cons_zero, List.getElem_cons_succ]
          refine wpAnyZ_takeC [] (i := 9) (v := ?_) rfl (by kernel_rfl) (by kernel_rfl) (by kernel_rfl) (by kernel_rfl) (fun _ _ _ h => h) (Or.inl ⟨by rfl, ?_⟩) hS10 ?_
          rotate_left
          focus (intro w hSw; (try dsimp only at hSw); go_simp; try with_reducible rfl)
          try simp only [Act.put, List.setIfInBounds_toArray, List.set_cons_zero, List.set_cons_succ, List.getElem_toArray, List.getElem_cons_zero, List.getElem_cons_succ]
          refine wpAnyZ_takeC [] (i := 10) (v := ?_) rfl (by kernel_rfl) (by kernel_rfl) (by kernel_rfl) (by kernel_rfl) (fun _ _ _ h => h) (Or.inl ⟨by rfl, ?_⟩) hS10 ?_
          rotate_left
          focus (intro w hSw; (try dsimp only at hSw); go_simp; try with_reducible rfl)
          try simp only [Act.put, List.setIfInBounds_toArray, List.set_cons_zero, List.set_cons_succ, List.getElem_toArray, List.getElem_cons_zero, List.getElem_cons_succ]
          have hal := Mid.alloc w10 (.cells #[.int .i64 0, .int .i64 0, .slice none 0 0] 29)
          have Y81 := Y80.mid hal (Or.inr (Nat.zero_le _))
          have b01 := b00.mid hal (Or.inr (Nat.zero_le _))
          refine wpAnyZ_ready (rs := [11]) (by kernel_rfl) (by simp) (AllReadyZ.cons rfl (fun K hK => ?_) AllReadyZ.nil)
          go_simp
          refine hK.out _ _ (Or.inr ⟨⟨Y81.cell 0 rfl, Y81.cell 1 rfl, Y81.cell 2 rfl⟩, b01.cell 1 rfl⟩) (fun _ => ?_)
          clear hK K
          try simp only [Act.put, List.setIfInBounds_toArray, List.set_cons_zero, List.set_cons_succ, List.getElem_toArray, List.getElem_cons_zero, List.getElem_cons_succ]
          clear hal Y81 b01
          have hal := Mid.alloc w10 (.cells #[.int .i64 r, .int .i64 rs2, .slice A10 res2.length c10] 29)
          have Y81 := Y80.mid hal (Or.inr (Nat.zero_le _))
          have b01 := b00.mid hal (Or.inr (Nat.zero_le _))
          refine wpAnyZ_ready (rs := [12]) (by kernel_rfl) (by simp) (AllReadyZ.cons rfl (fun K hK => ?_) AllReadyZ.nil)
          go_simp
          refine hK.out _ _ (Or.inr ⟨⟨Y81.cell 0 rfl, Y81.cell 1 rfl, Y81.cell 2 rfl⟩, b01.cell 1 rfl⟩) (fun _ => ?_)
          clear hK K
          try simp only [Act.put, List.setIfInBounds_toArray, List.set_cons_zero, List.set_cons_succ, List.getElem_toArray, List.getElem_cons_zero, List.getElem_cons_succ]
          refine wpAnyZ_ready (rs := [13]) (by kernel_rfl) (by simp) (AllReadyZ.cons rfl (fun K hK => ?_) AllReadyZ.nil)
          go_simp
          refine hK.out _ _ (Or.inr ⟨⟨Y81.cell 0 rfl, Y81.cell 1 rfl, Y81.cell 2 rfl⟩, b01.cell 1 rfl⟩) (fun _ => ?_)
          clear hK K
          try simp only [Act.put, List.setIfInBounds_toArray, List.set_cons_zero, List.set_cons_succ, List.getElem_toArray, List.getElem_cons_zero, List.getElem_cons_succ]
          refine wpAnyZ_done (by kernel_rfl) ?_ _
          have Zb := Box.new w10 #[.int .i64 r, .int .i64 rs2, .slice A10 res2.length c10] 29
          have ho11 := ho10.mid hal (Or.inl (Nat.zero_le _))
          replace b2 := b2.mid hal (Or.inr (Nat.zero_le _))
          replace Y6 := Y6.mid hal (Or.inr (Nat.zero_le _))
          replace hm0 := hm0.trans hal
          have hlo11 : w6.heap.size + 1 ≤ wz.heap.size := by omega
          have hgz : w6.heap.size + 1 ≤ w10.heap.size := by omega
          have hc10 := ho10.cnt.1
          clear Y80 Y81 b00 hS10 hal ho10 hm10
          generalize w10.alloc (.cells #[.int .i64 r, .int .i64 rs2, .slice A10 res2.length c10] 29) = w11 at b2 Y6 Zb ho11 hm0 b01 ⊢
          generalize w10.heap.size = Gz at Zb hgz ho11 ⊢
          have hpi := HPI.out
          cases bb with
          | false =>
            rcases hpi with ⟨h, -⟩ | ⟨-, hno, -, -⟩
            · cases h
            · obtain ⟨rfl, -, -, -⟩ := HE.out.not (by rw [HK2.out]; exact hlt) (by rw [HK1.out, HK2.out]; exact fun h => hno h.2)
              rcases HCASE.out with ⟨-, rfl, rfl, rfl, rfl⟩ | ⟨h, -⟩
              · have hb11 := b2.1
                have z0 := b2.cell 0 rfl
                have z1 := b2.cell 1 rfl
                have z2 := b2.cell 2 rfl
                have zf := b2.2.2
                clear hno HPI HCASE HE
                go_wp2_with fail
                refine bodyPost_ret (v := .tuple #[.agg #[.int .i64 0, .int .i64 0, .slice none 0 0], .bool false]) (by simp [results, Tryz.results64, go_sem, z0, z1, z2, zf]) rfl ⟨none, 0, rfl, ?_, ?_⟩
                · exact ⟨Nat.le_refl _, ⟨rfl, .inl ⟨rfl, rfl⟩⟩, fun g hg => by simp [Value.ownBlock] at hg⟩
                · repeat (first | exact hm0 | refine Mid.trans ?_ (Mid.alloc _ _) | refine Mid.storeNew ?_ (by simp; try omega) _)
              · cases h
          | true =>
            rcases hpi with ⟨-, hok, hrs, hre⟩ | ⟨h, -⟩
            · obtain ⟨rfl, h2, h3, hxn⟩ := HE.out.more (by rw [HK2.out]; exact hlt) (by rw [HK1.out, HK2.out]; exact ⟨by omega, hok⟩)
              rw [HK2.out] at h2
              rw [HK1.out, HK2.out] at h3
              have hse : s2 = rs2 := h2.trans hrs.symm
              have hee : es2 = res2 := h3.trans hre.symm
              rcases HCASE.out with ⟨h, -⟩ | ⟨-, rfl, hmv⟩
              · cases h
              · rw [hse, hee, hxn] at hmv
                have HMV := Lib.hid hmv
                have hgx := HE.out.gr HC.out.gr
                rw [hse, hee] at hgx
                have hlen2 := hgx.1.len
                have hb11 := b2.1
                have hy6 := Y6.1
                clear h2 h3 hrs hre hok HPI HCASE HE hmv hse hee hxn
                have q0 := Zb.cell 0 rfl
                have q1 := Zb.cell 1 rfl
                have q2 := Zb.cell 2 rfl
                have yf := Y6.2.2
                have y0 := Y6.cell 0 rfl
                have y1 := Y6.cell 1 rfl
                have y2 := Y6.cell 2 rfl
                have p1 := b01.cell 1 rfl
                have hst := ((Mid.setCell w11 (lo := w6.heap.size) (hi := w6.heap.size + 1) (p := ⟨w6.heap.size, 0, none⟩) (.int .i64 r) (Nat.le_refl _) (Nat.lt_succ_self _)).trans (Mid.setCell _ (lo := w6.heap.size) (hi := w6.heap.size + 1) (p := ⟨w6.heap.size, 1, none⟩) (.int .i64 rs2) (Nat.le_refl _) (Nat.lt_succ_self _))).trans (Mid.setCell _ (lo := w6.heap.size) (hi := w6.heap.size + 1) (p := ⟨w6.heap.size, 2, none⟩) (.slice A10 res2.length c10) (Nat.le_refl _) (Nat.lt_succ_self _))
                have ho12 := ho11.mid hst (Or.inl (by omega))
                have b22 := b2.mid hst (Or.inl (by omega))
                have hm12 := ((hm0.storeNew (p := ⟨w6.heap.size, 0, none⟩) (by show w.heap.size ≤ w6.heap.size; omega) (.int .i64 r)).storeNew (p := ⟨w6.heap.size, 1, none⟩) (by show w.heap.size ≤ w6.heap.size; omega) (.int .i64 rs2)).storeNew (p := ⟨w6.heap.size, 2, none⟩) (by show w.heap.size ≤ w6.heap.size; omega) (.slice A10 res2.length c10)
                have hne6 : (w.heap.size == w6.heap.size) = false := by simp; omega
                go_wp2_with fail
                generalize ((w11.setCell ⟨w6.heap.size, 0, none⟩ (.int .i64 r)).setCell ⟨w6.heap.size, 1, none⟩ (.int .i64 rs2)).setCell ⟨w6.heap.size, 2, none⟩ (.slice A10 res2.length c10) = w12 at ho12 b22 hm12 ⊢
                with_reducible refine (spec_MoveBase r rs2 A10 res2 c10 n w12 _ _ ho12.rg (by omega) (by omega) rs res b HMV.out).mono ?_
                rintro en w20 ⟨A20, c20, rfl, ho20, hm20⟩
                have hs20 := hm20.size
                have hb12 := b22.1
                replace b22 := b22.mid hm20 (Or.inr (Nat.zero_le _))
                replace hm12 := hm12.trans hm20
                have hb20 : w.heap.size + 1 < w20.heap.size := b22.1
                have hb21 : w.heap.size < w20.heap.size := by omega
                have Y20 := Box.new w20 #[.int .i64 r, .int .i64 rs, .slice A20 res.length c20] 29
                clear y0 y1 y2 q0 q1 q2 p1 yf
                have z0 := b22.cell 0 rfl
                have z1 := b22.cell 1 rfl
                have z2 := b22.cell 2 rfl
                have q0 := Y20.cell 0 rfl
                have q1 := Y20.cell 1 rfl
                have q2 := Y20.cell 2 rfl
                have zf := b22.2.2
                go_wp2_with fail
                refine bodyPost_ret (v := .tuple #[.agg #[.int .i64 r, .int .i64 rs, .slice A20 res.length c20], .bool b]) (by simp [results, Tryz.results64, go_sem, z0, z1, z2, zf, q0, q1, q2, hb20, hb21, World.cell?_alloc_lt]) rfl ⟨A20, c20, rfl, ?_, ?_⟩
                · refine OG.wide (OG.mid ho20 (a := w.heap.size + 1) (b := w.heap.size + 2) ?_ (Or.inl (by omega))) (by omega) (by simp; try omega) (Nat.le_refl _)
                  repeat (first | exact Mid.refl _ _ _ | refine Mid.trans ?_ (Mid.zero (Mid.alloc _ _)) | refine Mid.stored ?_ _ (by simp; try omega) (by simp; try omega))
                · repeat (first | exact hm12 | refine Mid.trans ?_ (Mid.alloc _ _) | refine Mid.storeNew ?_ (by simp; try omega) _)
            · cases h
        · have hal := Mid.alloc wz (.cells #[.int .i64 0, .int .i64 0, .slice none 0 0] 29)
          have Y81 := Y8.mid hal (Or.inr (Nat.zero_le _))
          have b01 := b0.mid hal (Or.inr (Nat.zero_le _))
          have Zb := Box.new wz #[.int .i64 0, .int .i64 0, .slice none 0 0] 29
          have ho81 := ho8.mid hal (Or.inl (Nat.zero_le _))
          have hsl := hal.size
          go_simp
          refine hK.out _ _ (Or.inr ⟨⟨Y81.cell 0 rfl, Y81.cell 1 rfl, Y81.cell 2 rfl⟩, b01.cell 1 rfl⟩) (fun _ => ?_)
          clear hK K
          try simp only [Act.put, List.setIfInBounds_toArray, List.set_cons_zero, List.set_cons_succ, List.getElem_toArray, List.getElem_cons_zero, List.getElem_cons_succ]
          replace b2 := b2.mid hal (Or.inr (Nat.zero_le _))
          replace Y6 := Y6.mid hal (Or.inr (Nat.zero_le _))
          replace hm0 := hm0.trans hal
          clear Y8 hS y0 y1 y2 p0 p1 p2 ho8 b0 hal
          have hzb : wz.heap.size < (wz.alloc (.cells #[.int .i64 0, .int .i64 0, .slice none 0 0] 29)).heap.size := Zb.1
          generalize wz.alloc (.cells #[.int .i64 0, .int .i64 0, .slice none 0 0] 29) = wy at Y81 b01 Zb ho81 b2 Y6 hm0 hsl hzb ⊢
          refine wpAnyZ_ready (rs := [7]) (by kernel_rfl) (by simp) (AllReadyZ.cons rfl (fun K hK => ?_) AllReadyZ.nil)
          (go_simp; (with_reducible refine (HP.out _ ho81.rg ((hw.mid hm0 (Or.inl (Nat.zero_le _))).dropI k)).mono ?_); rintro en w10 ⟨A10, c10, rfl, ho10, hm10⟩; have Y80 := Y81.mid hm10 (Or.inr (Nat.zero_le _)); have b00 := b01.mid hm10 (Or.inr (Nat.zero_le _)); go_wp2_with fail)
          refine hK.out _ _ (Or.inr ⟨⟨Y80.cell 0 rfl, Y80.cell 1 rfl, Y80.cell 2 rfl⟩, b00.cell 1 rfl⟩) (fun _ => ?_)
          clear hK K
          try simp only [Act.put, List.setIfInBounds_toArray, List.set_cons_zero, List.set_cons_succ, List.getElem_toArray, List.getElem_cons_zero, List.getElem_cons_succ]
          replace b2 := b2.mid hm10 (Or.inr (Nat.zero_le _))
          replace Y6 := Y6.mid hm10 (Or.inr (Nat.zero_le _))
          replace Zb := Zb.mid hm10 (Or.inr (Nat.zero_le _))
          replace hm0 := hm0.trans hm10
          have hs10 := hm10.size
          have hS10 := And.intro (And.intro (Y80.cell 0 rfl) (And.intro (Y80.cell 1 rfl) (Y80.cell 2 rfl))) (b00.cell 1 rfl)
          clear Y81 b01 ho81 HP
          refine wpAnyZ_takeC [] (i := 8) (v := ?_) rfl (by kernel_rfl) (by kernel_rfl) (by kernel_rfl) (by kernel_rfl) (fun _ _ _ h => h) (Or.inl ⟨by rfl, ?_⟩) hS10 ?_
          rotate_left
          focus (intro w hSw; (try dsimp only at hSw); go_simp; try with_reducible rfl)
          try simp only [Act.put, List.setIfInBounds_toArray, List.set_cons_zero, List.set_cons_succ, List.getElem_toArray, List.getElem_cons_zero, List.getElem_cons_succ]
          refine wpAnyZ_takeC [] (i := 9) (v := ?_) rfl (by kernel_rfl) (by kernel_rfl) (by kernel_rfl) (by kernel_rfl) (fun _ _ _ h => h) (Or.inl ⟨by rfl, ?_⟩) hS10 ?_
          rotate_left
          focus (intro w hSw; (try dsimp only at hSw); go_simp; try with_reducible rfl)
          try simp only [Act.put, List.setIfInBounds_toArray, List.set_cons_zero, List.set_cons_succ, List.getElem_toArray, List.getElem_cons_zero, List.getElem_cons_succ]
          refine wpAnyZ_takeC [] (i := 10) (v := ?_) rfl (by kernel_rfl) (by kernel_rfl) (by kernel_rfl) (by kernel_rfl) (fun _ _ _ h => h) (Or.inl ⟨by rfl, ?_⟩) hS10 ?_
          rotate_left
          focus (intro w hSw; (try dsimp only at hSw); go_simp; try with_reducible rfl)
          try simp only [Act.put, List.setIfInBounds_toArray, List.set_cons_zero, List.set_cons_succ, List.getElem_toArray, List.getElem_cons_zero, List.getElem_cons_succ]
          have zzf := Zb.2.2
          have zz0 := Zb.cell 0 rfl
          have zz1 := Zb.cell 1 rfl
          have zz2 := Zb.cell 2 rfl
          have hst := ((Mid.setCell w10 (lo := wz.heap.size) (hi := wz.heap.size + 1) (p := ⟨wz.heap.size, 0, none⟩) (.int .i64 r) (Nat.le_refl _) (Nat.lt_succ_self _)).trans (Mid.setCell _ (lo := wz.heap.size) (hi := wz.heap.size + 1) (p := ⟨wz.heap.size, 1, none⟩) (.int .i64 rs2) (Nat.le_refl _) (Nat.lt_succ_self _))).trans (Mid.setCell _ (lo := wz.heap.size) (hi := wz.heap.size + 1) (p := ⟨wz.heap.size, 2, none⟩) (.slice A10 res2.length c10) (Nat.le_refl _) (Nat.lt_succ_self _))
          have Y82 := Y80.mid hst (Or.inl (by omega))
          have b02 := b00.mid hst (Or.inl (by omega))
          refine wpAnyZ_ready (rs := [12]) (by kernel_rfl) (by simp) (AllReadyZ.cons rfl (fun K hK => ?_) AllReadyZ.nil)
          go_simp
          refine hK.out _ _ (Or.inr ⟨⟨Y82.cell 0 rfl, Y82.cell 1 rfl, Y82.cell 2 rfl⟩, b02.cell 1 rfl⟩) (fun _ => ?_)
          clear hK K
          try simp only [Act.put, List.setIfInBounds_toArray, List.set_cons_zero, List.set_cons_succ, List.getElem_toArray, List.getElem_cons_zero, List.getElem_cons_succ]
          refine wpAnyZ_ready (rs := [13]) (by kernel_rfl) (by simp) (AllReadyZ.cons rfl (fun K hK => ?_) AllReadyZ.nil)
          go_simp
          refine hK.out _ _ (Or.inr ⟨⟨Y82.cell 0 rfl, Y82.cell 1 rfl, Y82.cell 2 rfl⟩, b02.cell 1 rfl⟩) (fun _ => ?_)
          clear hK K
          try simp only [Act.put, List.setIfInBounds_toArray, List.set_cons_zero, List.set_cons_succ, List.getElem_toArray, List.getElem_cons_zero, List.getElem_cons_succ]
          refine wpAnyZ_done (by kernel_rfl) ?_ _
          have ho11 := ho10.mid hst (Or.inl (by omega))
          replace b2 := b2.mid hst (Or.inl (by omega))
          replace Y6 := Y6.mid hst (Or.inl (by omega))
          replace Zb := ((Zb.set 0 (.int .i64 r) (by simp) rfl).set 1 (.int .i64 rs2) (by simp) rfl).set 2 (.slice A10 res2.length c10) (by simp) rfl
          simp only [List.set_cons_succ, List.set_cons_zero] at Zb
          replace hm0 := ((hm0.storeNew (p := ⟨wz.heap.size, 0, none⟩) (by show w.heap.size ≤ wz.heap.size; omega) (.int .i64 r)).storeNew (p := ⟨wz.heap.size, 1, none⟩) (by show w.heap.size ≤ wz.heap.size; omega) (.int .i64 rs2)).storeNew (p := ⟨wz.heap.size, 2, none⟩) (by show w.heap.size ≤ wz.heap.size; omega) (.slice A10 res2.length c10)
          have hlo11 : w6.heap.size + 1 ≤ wy.heap.size := by omega
          have hgz : w6.heap.size + 1 ≤ wz.heap.size := by omega
          have hc10 := ho10.cnt.1
          have b01 := b02
          clear Y80 Y82 b00 b02 hS10 hst ho10 hm10 zz0 zz1 zz2 zzf
          generalize ((w10.setCell ⟨wz.heap.size, 0, none⟩ (.int .i64 r)).setCell ⟨wz.heap.size, 1, none⟩ (.int .i64 rs2)).setCell ⟨wz.heap.size, 2, none⟩ (.slice A10 res2.length c10) = w11 at b2 Y6 Zb ho11 hm0 b01 ⊢
          generalize wz.heap.size = Gz at Zb hgz ⊢
          have hpi := HPI.out
          cases bb with
          | false =>
            rcases hpi with ⟨h, -⟩ | ⟨-, hno, -, -⟩
            · cases h
            · obtain ⟨rfl, -, -, -⟩ := HE.out.not (by rw [HK2.out]; exact hlt) (by rw [HK1.out, HK2.out]; exact fun h => hno h.2)
              rcases HCASE.out with ⟨-, rfl, rfl, rfl, rfl⟩ | ⟨h, -⟩
              · have hb11 := b2.1
                have z0 := b2.cell 0 rfl
                have z1 := b2.cell 1 rfl
                have z2 := b2.cell 2 rfl
                have zf := b2.2.2
                clear hno HPI HCASE HE
                go_wp2_with fail
                refine bodyPost_ret (v := .tuple #[.agg #[.int .i64 0, .int .i64 0, .slice none 0 0], .bool false]) (by simp [results, Tryz.results64, go_sem, z0, z1, z2, zf]) rfl ⟨none, 0, rfl, ?_, ?_⟩
                · exact ⟨Nat.le_refl _, ⟨rfl, .inl ⟨rfl, rfl⟩⟩, fun g hg => by simp [Value.ownBlock] at hg⟩
                · repeat (first | exact hm0 | refine Mid.trans ?_ (Mid.alloc _ _) | refine Mid.storeNew ?_ (by simp; try omega) _)
              · cases h
          | true =>
            rcases hpi with ⟨-, hok, hrs, hre⟩ | ⟨h, -⟩
            · obtain ⟨rfl, h2, h3, hxn⟩ := HE.out.more (by rw [HK2.out]; exact hlt) (by rw [HK1.out, HK2.out]; exact ⟨by omega, hok⟩)
              rw [HK2.out] at h2
              rw [HK1.out, HK2.out] at h3
              have hse : s2 = rs2 := h2.trans hrs.symm
              have hee : es2 = res2 := h3.trans hre.symm
              rcases HCASE.out with ⟨h, -⟩ | ⟨-, rfl, hmv⟩
              · cases h
              · rw [hse, hee, hxn] at hmv
                have HMV := Lib.hid hmv
                have hgx := HE.out.gr HC.out.gr
                rw [hse, hee] at hgx
                have hlen2 := hgx.1.len
                have hb11 := b2.1
                have hy6 := Y6.1
                clear h2 h3 hrs hre hok HPI HCASE HE hmv hse hee hxn
                have q0 := Zb.cell 0 rfl
                have q1 := Zb.cell 1 rfl
                have q2 := Zb.cell 2 rfl
                have yf := Y6.2.2
                have y0 := Y6.cell 0 rfl
                have y1 := Y6.cell 1 rfl
                have y2 := Y6.cell 2 rfl
                have p1 := b01.cell 1 rfl
                have hst := ((Mid.setCell w11 (lo := w6.heap.size) (hi := w6.heap.size + 1) (p := ⟨w6.heap.size, 0, none⟩) (.int .i64 r) (Nat.le_refl _) (Nat.lt_succ_self _)).trans (Mid.setCell _ (lo := w6.heap.size) (hi := w6.heap.size + 1) (p := ⟨w6.heap.size, 1, none⟩) (.int .i64 rs2) (Nat.le_refl _) (Nat.lt_succ_self _))).trans (Mid.setCell _ (lo := w6.heap.size) (hi := w6.heap.size + 1) (p := ⟨w6.heap.size, 2, none⟩) (.slice A10 res2.length c10) (Nat.le_refl _) (Nat.lt_succ_self _))
                have ho12 := ho11.mid hst (Or.inl (by omega))
                have b22 := b2.mid hst (Or.inl (by omega))
                have hm12 := ((hm0.storeNew (p := ⟨w6.heap.size, 0, none⟩) (by show w.heap.size ≤ w6.heap.size; omega) (.int .i64 r)).storeNew (p := ⟨w6.heap.size, 1, none⟩) (by show w.heap.size ≤ w6.heap.size; omega) (.int .i64 rs2)).storeNew (p := ⟨w6.heap.size, 2, none⟩) (by show w.heap.size ≤ w6.heap.size; omega) (.slice A10 res2.length c10)
                have hne6 : (w.heap.size == w6.heap.size) = false := by simp; omega
                go_wp2_with fail
                generalize ((w11.setCell ⟨w6.heap.size, 0, none⟩ (.int .i64 r)).setCell ⟨w6.heap.size, 1, none⟩ (.int .i64 rs2)).setCell ⟨w6.heap.size, 2, none⟩ (.slice A10 res2.length c10) = w12 at ho12 b22 hm12 ⊢
                with_reducible refine (spec_MoveBase r rs2 A10 res2 c10 n w12 _ _ ho12.rg (by omega) (by omega) rs res b HMV.out).mono ?_
                rintro en w20 ⟨A20, c20, rfl, ho20, hm20⟩
                have hs20 := hm20.size
                have hb12 := b22.1
                replace b22 := b22.mid hm20 (Or.inr (Nat.zero_le _))
                replace hm12 := hm12.trans hm20
                have hb20 : w.heap.size + 1 < w20.heap.size := b22.1
                have hb21 : w.heap.size < w20.heap.size := by omega
                have Y20 := Box.new w20 #[.int .i64 r, .int .i64 rs, .slice A20 res.length c20] 29
                clear y0 y1 y2 q0 q1 q2 p1 yf
                have z0 := b22.cell 0 rfl
                have z1 := b22.cell 1 rfl
                have z2 := b22.cell 2 rfl
                have q0 := Y20.cell 0 rfl
                have q1 := Y20.cell 1 rfl
                have q2 := Y20.cell 2 rfl
                have zf := b22.2.2
                go_wp2_with fail
                refine bodyPost_ret (v := .tuple #[.agg #[.int .i64 r, .int .i64 rs, .slice A20 res.length c20], .bool b]) (by simp [results, Tryz.results64, go_sem, z0, z1, z2, zf, q0, q1, q2, hb20, hb21, World.cell?_alloc_lt]) rfl ⟨A20, c20, rfl, ?_, ?_⟩
                · refine OG.wide (OG.mid ho20 (a := w.heap.size + 1) (b := w.heap.size + 2) ?_ (Or.inl (by omega))) (by omega) (by simp; try omega) (Nat.le_refl _)
                  repeat (first | exact Mid.refl _ _ _ | refine Mid.trans ?_ (Mid.zero (Mid.alloc _ _)) | refine Mid.stored ?_ _ (by simp; try omega) (by simp; try omega))
                · repeat (first | exact hm12 | refine Mid.trans ?_ (Mid.alloc _ _) | refine Mid.storeNew ?_ (by simp; try omega) _)
            · cases h
      · obtain rfl : n = 40 := by omega
        have hav : AvIs r ((40 : Nat) : Int) es ((40 : Nat) : Int) false := .inr ⟨rfl, fun h => by have := h.2; omega, rfl⟩
        obtain ⟨rfl, -, -, -⟩ := HE.out.not (by rw [HK2.out]; exact hlt) (fun h => by have := h.1; omega)
        rcases HCASE.out with ⟨-, rfl, rfl, rfl, rfl⟩ | ⟨h, -⟩
        · with_reducible refine (spec_AddVertex r ((40 : Nat) : Int) A es c w7 _ _ (hr.mid hm0 (Or.inl (Nat.zero_le _))) (by omega) ((40 : Nat) : Int) false hav).mono ?_
          rintro en w8 ⟨A8, c8, rfl, ho8, hm8⟩
          replace b2 := b2.mid hm8 (Or.inr (Nat.zero_le _))
          replace hm0 := hm0.trans hm8
          have hb23 : w.heap.size + 1 < w8.heap.size := b2.1
          have hb22 : w.heap.size < w8.heap.size := by omega
          have z0 := b2.cell 0 rfl
          have z1 := b2.cell 1 rfl
          have z2 := b2.cell 2 rfl
          have zf := b2.2.2
          clear p0 p1 p2 hav HCASE HE
          go_wp2_with fail
          refine bodyPost_ret (v := .tuple #[.agg #[.int .i64 0, .int .i64 0, .slice none 0 0], .bool false]) (by simp [results, Tryz.results64, go_sem, z0, z1, z2, zf, hb22, hb23, World.cell?_alloc_lt]) rfl ⟨none, 0, rfl, ?_, ?_⟩
          · exact ⟨Nat.le_refl _, ⟨rfl, .inl ⟨rfl, rfl⟩⟩, fun g hg => by simp [Value.ownBlock] at hg⟩
          · repeat (first | exact hm0 | refine Mid.trans ?_ (Mid.alloc _ _) | refine Mid.storeNew ?_ (by simp; try omega) _)
        · cases h
    · obtain rfl : k = wd.length := by omega
      obtain ⟨rfl, rfl, rfl, hxu⟩ := HE.out.full HK2.out
      rw [HK1.out] at hxu
      subst hxu
      rcases HCASE.out with ⟨h, -⟩ | ⟨-, rfl, hmv⟩
      · cases h
      · have HMV := Lib.hid hmv
        have hrg6 := ho6.rg
        obtain ⟨A9, hA9⟩ : ∃ A9, A6 = A9 := ⟨_, rfl⟩
        subst hA9
        obtain ⟨c9, hc9⟩ : ∃ c9, c6 = c9 := ⟨_, rfl⟩
        subst hc9
        have y0 := Y6.cell 0 rfl
        have y1 := Y6.cell 1 rfl
        have y2 := Y6.cell 2 rfl
        clear hmv HCASE HE
        go_wp2_with fail
        with_reducible refine (spec_MoveBase r n A6 es2 c6 x _ _ _ hrg6 (by omega) (by omega) rs res b HMV.out).mono ?_
        rintro en w20 ⟨A20, c20, rfl, ho20, hm20⟩
        have hs20 := hm20.size
        replace b2 := b2.mid hm20 (Or.inr (Nat.zero_le _))
        replace hm0 := hm0.trans hm20
        have hb20 : w.heap.size + 1 < w20.heap.size := b2.1
        have hb21 : w.heap.size < w20.heap.size := by omega
        have Y20 := Box.new w20 #[.int .i64 r, .int .i64 rs, .slice A20 res.length c20] 29
        clear y0 y1 y2
        have z0 := b2.cell 0 rfl
        have z1 := b2.cell 1 rfl
        have z2 := b2.cell 2 rfl
        have q0 := Y20.cell 0 rfl
        have q1 := Y20.cell 1 rfl
        have q2 := Y20.cell 2 rfl
        have zf := b2.2.2
        clear p0 p1 p2
        go_wp2_with fail
        refine bodyPost_ret (v := .tuple #[.agg #[.int .i64 r, .int .i64 rs, .slice A20 res.length c20], .bool b]) (by simp [results, Tryz.results64, go_sem, z0, z1, z2, zf, q0, q1, q2, hb20, hb21, World.cell?_alloc_lt]) rfl ⟨A20, c20, rfl, ?_, ?_⟩
        · refine OG.wide (OG.mid ho20 (a := w.heap.size + 1) (b := w.heap.size + 2) ?_ (Or.inl (by simp; omega))) (by simp; omega) (by simp; try omega) (Nat.le_refl _)
          repeat (first | exact Mid.refl _ _ _ | refine Mid.trans ?_ (Mid.zero (Mid.alloc _ _)) | refine Mid.stored ?_ _ (by simp; try omega) (by simp; try omega))
        · repeat (first | exact hm0 | refine Mid.trans ?_ (Mid.alloc _ _) | refine Mid.storeNew ?_ (by simp; try omega) _)
  · obtain ⟨rfl, rfl, rfl, rfl⟩ := HR.out.no hc
    have hcase : ¬ IsCor r s es ∨ (IsCor r s es ∧ ¬ IsW r wd) := by
      by_cases h : IsCor r s es
      · exact .inr ⟨h, fun h2 => hc ⟨h, h2⟩⟩
      · exact .inl h
    have HCASE := Lib.hid hcase
    clear hc hcase HR
    go_enter Tryz.func64, Tryz.ntmps64
    go_wp2_with fail
    generalize ((w.alloc (.cells #[.int .i64 r, .int .i64 s, .slice A es.length c] 29)).alloc (.cells #[.int .i64 0, .int .i64 0, .slice none 0 0] 29)) = w1 at hm0 b0 b2 ⊢
    rcases HCASE.out with hc | ⟨hc, hwd⟩
    · have HC := Lib.hid hc
      clear hc HCASE
      with_reducible refine (spec_IsSubgroup r s A es c _ _ _ (hr.mid hm0 (Or.inl (Nat.zero_le _))) hl false (iff_of_false Bool.false_ne_true HC.out)).mono ?_
      rintro en w2 ⟨rfl, hm2⟩
      replace b2 := b2.mid hm2 (Or.inr (Nat.zero_le _))
      replace hm0 := hm0.trans hm2
      have z0 := b2.cell 0 rfl
      have z1 := b2.cell 1 rfl
      have z2 := b2.cell 2 rfl
      have zf := b2.2.2
      go_wp2_with fail
      refine bodyPost_ret (v := .tuple #[.agg #[.int .i64 0, .int .i64 0, .slice none 0 0], .bool false]) (by simp [results, Tryz.results64, go_sem, z0, z1, z2, zf]) rfl ⟨none, 0, rfl, ?_, ?_⟩
      · exact ⟨Nat.le_refl _, ⟨rfl, .inl ⟨rfl, rfl⟩⟩, fun g hg => by simp [Value.ownBlock] at hg⟩
      · repeat (first | exact hm0 | refine Mid.trans ?_ (Mid.alloc _ _) | refine Mid.storeNew ?_ (by simp; try omega) _)
    · have HC := Lib.hid hc
      have HW := Lib.hid hwd
      clear hc hwd HCASE
      with_reducible refine (spec_IsSubgroup r s A es c _ _ _ (hr.mid hm0 (Or.inl (Nat.zero_le _))) hl true (iff_of_true rfl HC.out)).mono ?_
      rintro en w2 ⟨rfl, hm2⟩
      replace b0 := b0.mid hm2 (Or.inr (Nat.zero_le _))
      replace b2 := b2.mid hm2 (Or.inr (Nat.zero_le _))
      replace hm0 := hm0.trans hm2
      have p0 := b0.cell 0 rfl
      have p1 := b0.cell 1 rfl
      have p2 := b0.cell 2 rfl
      go_wp2_with fail
      with_reducible refine (spec_IsWord r Aw wd cw _ _ ((hw.mid hm0 (Or.inl (Nat.zero_le _))).rs) HOK.out (by omega) false (iff_of_false Bool.false_ne_true HW.out)).mono ?_
      rintro en w3 ⟨rfl, nd, hw3⟩
      have hm3 : Mid 0 0 w2 w3 := by rw [hw3]; exact (Mid.refl 0 0 w2).drewN nd
      replace b0 := b0.mid hm3 (Or.inr (Nat.zero_le _))
      replace b2 := b2.mid hm3 (Or.inr (Nat.zero_le _))
      replace hm0 := hm0.trans hm3
      have hs3 := hm3.size
      clear p0 p1 p2 hw3 hm3
      have p0 := b0.cell 0 rfl
      have p1 := b0.cell 1 rfl
      have p2 := b0.cell 2 rfl
      have z0 := b2.cell 0 rfl
      have z1 := b2.cell 1 rfl
      have z2 := b2.cell 2 rfl
      have zf := b2.2.2
      clear p0 p1 p2
      go_wp2_with fail
      refine bodyPost_ret (v := .tuple #[.agg #[.int .i64 0, .int .i64 0, .slice none 0 0], .bool false]) (by simp [results, Tryz.results64, go_sem, z0, z1, z2, zf]) rfl ⟨none, 0, rfl, ?_, ?_⟩
      · exact ⟨Nat.le_refl _, ⟨rfl, .inl ⟨rfl, rfl⟩⟩, fun g hg => by simp [Value.ownBlock] at hg⟩
      · repeat (first | exact hm0 | refine Mid.trans ?_ (Mid.alloc _ _) | refine Mid.storeNew ?_ (by simp; try omega) _)
end Go.Proofs.YtimmnnncgnnkgaaGreat

/- MeetConjugate, both sides. -/
namespace Go.Proofs.YtimmnnncgnnkgaaGreat
set_option linter.unusedVariables false
set_option linter.unusedSimpArgs false
open Go.RowKit

def MeetIs (r s : Int) (es : List Ed) (r' s' : Int) (es' : List Ed) (wd : List Int) (rr rs : Int) (res : List Ed) (b : Bool) : Prop :=
  ∃ r1 s1 es1 b1, CjIs r' s' es' wd r1 s1 es1 b1 ∧ ((b1 = false ∧ b = false ∧ rr = 0 ∧ rs = 0 ∧ res = []) ∨ (b1 = true ∧ IntIs r s es r1 s1 es1 rr rs res b))
theorem MeetIs_ex (r s : Int) (es : List Ed) (r' s' : Int) (es' : List Ed) (wd : List Int) : ∃ rr rs res b, MeetIs r s es r' s' es' wd rr rs res b := by
  obtain ⟨r1, s1, es1, b1, h⟩ := CjIs_ex r' s' es' wd
  cases b1 with
  | false => exact ⟨_, _, _, _, r1, s1, es1, false, h, .inl ⟨rfl, rfl, rfl, rfl, rfl⟩⟩
  | true =>
    obtain ⟨rr, rs, res, b, h2⟩ := IntIs_ex r s es r1 s1 es1
    exact ⟨rr, rs, res, b, r1, s1, es1, true, h, .inr ⟨rfl, h2⟩⟩
theorem MeetIs.lens {r s : Int} {es : List Ed} {r' s' : Int} {es' : List Ed} {wd : List Int} {rr rs : Int} {res : List Ed} {b : Bool} (h : MeetIs r s es r' s' es' wd rr rs res b) : res.length ≤ 120 := by
  obtain ⟨r1, s1, es1, b1, h1, ⟨-, -, -, -, rfl⟩ | ⟨-, h2⟩⟩ := h
  · simp
  · exact h2.lens

set_option maxHeartbeats 3200000 in
set_option maxRecDepth 20000 in
theorem spec_MeetConjugate (r s : Int) (A : Option Addr) (es : List Ed) (c : Nat) (r' s' : Int) (B : Option Addr) (es' : List Ed) (d : Nat) (Aw : Option Addr) (wd : List Int) (cw : Nat) (w : World) (lo hi lo2 hi2 lo' hi' : Nat) (hr : RG w lo hi A es) (hr2 : RG w lo2 hi2 B es') (hl : es.length ≤ 1048576) (hl2 : es'.length ≤ 1048576) (hcl : es.length ≤ c) (hcl2 : es'.length ≤ d) (hw : RV w lo' hi' Aw (ints wd)) (hcw : wd.length ≤ cw) (hwl : wd.length ≤ 1048576) (hok : OkI wd) (rr rs : Int) (res : List Ed) (b : Bool) (hres : MeetIs r s es r' s' es' wd rr rs res b) :
    Calls Tryz.prog 31 #[graV r s A es.length c, graV r' s' B es'.length d, .slice Aw wd.length cw] w fun e w' => ∃ A1 c1, e = .returned (.tuple #[graV rr rs A1 res.length c1, .bool b]) ∧ OG w' w.heap.size w'.heap.size A1 c1 res ∧ Mid 0 0 w w' := by
  have hm0 : Mid 0 0 w (((w.alloc (.cells #[.int .i64 r, .int .i64 s, .slice A es.length c] 29)).alloc (.cells #[.int .i64 r', .int .i64 s', .slice B es'.length d] 29)).alloc (.cells #[.int .i64 0, .int .i64 0, .slice none 0 0] 29)) := ((Mid.alloc _ _).trans (Mid.alloc _ _)).trans (Mid.alloc _ _)
  have B0 := ((Box.new w #[.int .i64 r, .int .i64 s, .slice A es.length c] 29).mid (Mid.alloc _ (.cells #[.int .i64 r', .int .i64 s', .slice B es'.length d] 29)) (Or.inr (Nat.zero_le _))).mid (Mid.alloc _ (.cells #[.int .i64 0, .int .i64 0, .slice none 0 0] 29)) (Or.inr (Nat.zero_le _))
  have B1 := (Box.new (w.alloc (.cells #[.int .i64 r, .int .i64 s, .slice A es.length c] 29)) #[.int .i64 r', .int .i64 s', .slice B es'.length d] 29).mid (Mid.alloc _ (.cells #[.int .i64 0, .int .i64 0, .slice none 0 0] 29)) (Or.inr (Nat.zero_le _))
  have B2 := Box.new ((w.alloc (.cells #[.int .i64 r, .int .i64 s, .slice A es.length c] 29)).alloc (.cells #[.int .i64 r', .int .i64 s', .slice B es'.length d] 29)) #[.int .i64 0, .int .i64 0, .slice none 0 0] 29
  simp only [World.size_alloc] at B1 B2
  obtain ⟨r1, s1, es1, b1, hcj, hcase⟩ := hres
  have HCJ := Lib.hid hcj
  have HCASE := Lib.hid hcase
  have HOK := Lib.hid hok
  have hl1 := hcj.lens
  clear hcj hcase hok
  go_enter Tryz.func31, Tryz.ntmps31
  go_wp2_with fail
  generalize ((w.alloc (.cells #[.int .i64 r, .int .i64 s, .slice A es.length c] 29)).alloc (.cells #[.int .i64 r', .int .i64 s', .slice B es'.length d] 29)).alloc (.cells #[.int .i64 0, .int .i64 0, .slice none 0 0] 29) = w1 at hm0 B0 B1 B2 ⊢
  have hs1 : w.heap.size + 1 + 1 < w1.heap.size := B2.1
  with_reducible refine (spec_ConjugateSubgroup r' s' B es' d Aw wd cw _ _ _ _ _ (hr2.mid hm0 (Or.inl (Nat.zero_le _))) (hw.mid hm0 (Or.inl (Nat.zero_le _))) hl2 hcl2 hcw hwl HOK.out r1 s1 es1 b1 HCJ.out).mono ?_
  rintro en w2 ⟨A2, c2, rfl, ho2, hm2⟩
  have hs2 := hm2.size
  have hc2 := ho2.cnt.1
  have ha2 := Mid.alloc w2 (.cells #[.int .i64 r1, .int .i64 s1, .slice A2 es1.length c2] 29)
  have Y2 := Box.new w2 #[.int .i64 r1, .int .i64 s1, .slice A2 es1.length c2] 29
  replace B0 := B0.mid hm2 (Or.inr (Nat.zero_le _))
  replace B2 := B2.mid hm2 (Or.inr (Nat.zero_le _))
  replace hm0 := hm0.trans hm2
  have hb22 : w.heap.size + 1 + 1 < w2.heap.size := B2.1
  cases b1 with
  | false =>
    rcases HCASE.out with ⟨-, rfl, rfl, rfl, rfl⟩ | ⟨h, -⟩
    · have z0 := B2.cell 0 rfl
      have z1 := B2.cell 1 rfl
      have z2 := B2.cell 2 rfl
      have zf := B2.2.2
      go_wp2_with fail
      refine bodyPost_ret (v := .tuple #[.agg #[.int .i64 0, .int .i64 0, .slice none 0 0], .bool false]) (by simp [results, Tryz.results31, go_sem, z0, z1, z2, zf, hb22, World.cell?_alloc_lt]) rfl ⟨none, 0, rfl, OG.nil, ?_⟩
      repeat (first | exact hm0 | refine Mid.trans ?_ (Mid.alloc _ _) | refine Mid.storeNew ?_ (by simp; try omega) _)
    · cases h
  | true =>
  rcases HCASE.out with ⟨h, -⟩ | ⟨-, hint⟩
  · cases h
  · have HI := Lib.hid hint
    clear hint HCASE HCJ
    replace B0 := B0.mid ha2 (Or.inr (Nat.zero_le _))
    replace B2 := B2.mid ha2 (Or.inr (Nat.zero_le _))
    replace ho2 := ho2.mid ha2 (Or.inl (Nat.zero_le _))
    replace hm0 := hm0.trans ha2
    have hs3 := ha2.size
    have p0 := B0.cell 0 rfl
    have p1 := B0.cell 1 rfl
    have p2 := B0.cell 2 rfl
    have y0 := Y2.cell 0 rfl
    have y1 := Y2.cell 1 rfl
    have y2 := Y2.cell 2 rfl
    go_wp2_with fail
    generalize w2.alloc (.cells #[.int .i64 r1, .int .i64 s1, .slice A2 es1.length c2] 29) = w3 at hm0 B0 B2 ho2 Y2 hs3 p0 p1 p2 y0 y1 y2 ⊢
    with_reducible refine (spec_IntersectionOf r s A es c r1 s1 A2 es1 c2 w3 _ _ _ _ (hr.mid hm0 (Or.inl (Nat.zero_le _))) ho2.rg hl (by omega) rr rs res b HI.out).mono ?_
    rintro en w5 ⟨A5, c5, rfl, ho5, hm5⟩
    have hs5 := hm5.size
    replace B2 := B2.mid hm5 (Or.inr (Nat.zero_le _))
    replace hm0 := hm0.trans hm5
    have hb5 : w.heap.size + 1 + 1 < w5.heap.size := B2.1
    have Y5 := Box.new w5 #[.int .i64 rr, .int .i64 rs, .slice A5 res.length c5] 29
    have z0 := B2.cell 0 rfl
    have z1 := B2.cell 1 rfl
    have z2 := B2.cell 2 rfl
    have q0 := Y5.cell 0 rfl
    have q1 := Y5.cell 1 rfl
    have q2 := Y5.cell 2 rfl
    have zf := B2.2.2
    clear p0 p1 p2 y0 y1 y2
    go_wp2_with fail
    refine bodyPost_ret (v := .tuple #[.agg #[.int .i64 rr, .int .i64 rs, .slice A5 res.length c5], .bool b]) (by simp [results, Tryz.results31, go_sem, z0, z1, z2, zf, q0, q1, q2, hb5, World.cell?_alloc_lt]) rfl ⟨A5, c5, rfl, ?_, ?_⟩
    · refine OG.wide (OG.mid ho5 (a := w.heap.size + 2) (b := w.heap.size + 3) ?_ (Or.inl (by omega))) (by omega) (by simp; try omega) (Nat.le_refl _)
      repeat (first | exact Mid.refl _ _ _ | refine Mid.trans ?_ (Mid.zero (Mid.alloc _ _)) | refine Mid.stored ?_ _ (by simp; try omega) (by simp; try omega))
    · repeat (first | exact hm0 | refine Mid.trans ?_ (Mid.alloc _ _) | refine Mid.storeNew ?_ (by simp; try omega) _)

set_option maxHeartbeats 3200000 in
set_option maxRecDepth 20000 in
theorem impl_MeetConjugate (r s : Int) (A : Option Addr) (es : List Ed) (c : Nat) (r' s' : Int) (B : Option Addr) (es' : List Ed) (d : Nat) (Aw : Option Addr) (wd : List Int) (cw : Nat) (w : World) (lo hi lo2 hi2 lo' hi' : Nat) (hr : RG w lo hi A es) (hr2 : RG w lo2 hi2 B es') (hl : es.length ≤ 1048576) (hl2 : es'.length ≤ 1048576) (hcl : es.length ≤ c) (hcl2 : es'.length ≤ d) (hw : RV w lo' hi' Aw (ints wd)) (hcw : wd.length ≤ cw) (hwl : wd.length ≤ 1048576) (hok : OkI wd) (rr rs : Int) (res : List Ed) (b : Bool) (hres : MeetIs r s es r' s' es' wd rr rs res b) :
    Calls Tryz.prog 32 #[graV r s A es.length c, graV r' s' B es'.length d, .slice Aw wd.length cw] w fun e w' => ∃ A1 c1, e = .returned (.tuple #[graV rr rs A1 res.length c1, .bool b]) ∧ OG w' w.heap.size w'.heap.size A1 c1 res ∧ Mid 0 0 w w' := by
  have hm0 : Mid 0 0 w (((w.alloc (.cells #[.int .i64 r, .int .i64 s, .slice A es.length c] 29)).alloc (.cells #[.int .i64 r', .int .i64 s', .slice B es'.length d] 29)).alloc (.cells #[.int .i64 0, .int .i64 0, .slice none 0 0] 29)) := ((Mid.alloc _ _).trans (Mid.alloc _ _)).trans (Mid.alloc _ _)
  have B0 := ((Box.new w #[.int .i64 r, .int .i64 s, .slice A es.length c] 29).mid (Mid.alloc _ (.cells #[.int .i64 r', .int .i64 s', .slice B es'.length d] 29)) (Or.inr (Nat.zero_le _))).mid (Mid.alloc _ (.cells #[.int .i64 0, .int .i64 0, .slice none 0 0] 29)) (Or.inr (Nat.zero_le _))
  have B1 := (Box.new (w.alloc (.cells #[.int .i64 r, .int .i64 s, .slice A es.length c] 29)) #[.int .i64 r', .int .i64 s', .slice B es'.length d] 29).mid (Mid.alloc _ (.cells #[.int .i64 0, .int .i64 0, .slice none 0 0] 29)) (Or.inr (Nat.zero_le _))
  have B2 := Box.new ((w.alloc (.cells #[.int .i64 r, .int .i64 s, .slice A es.length c] 29)).alloc (.cells #[.int .i64 r', .int .i64 s', .slice B es'.length d] 29)) #[.int .i64 0, .int .i64 0, .slice none 0 0] 29
  simp only [World.size_alloc] at B1 B2
  obtain ⟨r1, s1, es1, b1, hcj, hcase⟩ := hres
  have HCJ := Lib.hid hcj
  have HCASE := Lib.hid hcase
  have HOK := Lib.hid hok
  have hl1 := hcj.lens
  clear hcj hcase hok
  go_enter Tryz.func32, Tryz.ntmps32
  go_wp2_with fail
  generalize ((w.alloc (.cells #[.int .i64 r, .int .i64 s, .slice A es.length c] 29)).alloc (.cells #[.int .i64 r', .int .i64 s', .slice B es'.length d] 29)).alloc (.cells #[.int .i64 0, .int .i64 0, .slice none 0 0] 29) = w1 at hm0 B0 B1 B2 ⊢
  have hs1 : w.heap.size + 1 + 1 < w1.heap.size := B2.1
  with_reducible refine (impl_ConjugateSubgroup r' s' B es' d Aw wd cw _ _ _ _ _ (hr2.mid hm0 (Or.inl (Nat.zero_le _))) (hw.mid hm0 (Or.inl (Nat.zero_le _))) hl2 hcl2 hcw hwl HOK.out r1 s1 es1 b1 HCJ.out).mono ?_
  rintro en w2 ⟨A2, c2, rfl, ho2, hm2⟩
  have hs2 := hm2.size
  have hc2 := ho2.cnt.1
  have ha2 := Mid.alloc w2 (.cells #[.int .i64 r1, .int .i64 s1, .slice A2 es1.length c2] 29)
  have Y2 := Box.new w2 #[.int .i64 r1, .int .i64 s1, .slice A2 es1.length c2] 29
  replace B0 := B0.mid hm2 (Or.inr (Nat.zero_le _))
  replace B2 := B2.mid hm2 (Or.inr (Nat.zero_le _))
  replace hm0 := hm0.trans hm2
  have hb22 : w.heap.size + 1 + 1 < w2.heap.size := B2.1
  cases b1 with
  | false =>
    rcases HCASE.out with ⟨-, rfl, rfl, rfl, rfl⟩ | ⟨h, -⟩
    · have z0 := B2.cell 0 rfl
      have z1 := B2.cell 1 rfl
      have z2 := B2.cell 2 rfl
      have zf := B2.2.2
      go_wp2_with fail
      refine bodyPost_ret (v := .tuple #[.agg #[.int .i64 0, .int .i64 0, .slice none 0 0], .bool false]) (by simp [results, Tryz.results32, go_sem, z0, z1, z2, zf, hb22, World.cell?_alloc_lt]) rfl ⟨none, 0, rfl, OG.nil, ?_⟩
      repeat (first | exact hm0 | refine Mid.trans ?_ (Mid.alloc _ _) | refine Mid.storeNew ?_ (by simp; try omega) _)
    · cases h
  | true =>
  rcases HCASE.out with ⟨h, -⟩ | ⟨-, hint⟩
  · cases h
  · have HI := Lib.hid hint
    clear hint HCASE HCJ
    replace B0 := B0.mid ha2 (Or.inr (Nat.zero_le _))
    replace B2 := B2.mid ha2 (Or.inr (Nat.zero_le _))
    replace ho2 := ho2.mid ha2 (Or.inl (Nat.zero_le _))
    replace hm0 := hm0.trans ha2
    have hs3 := ha2.size
    have p0 := B0.cell 0 rfl
    have p1 := B0.cell 1 rfl
    have p2 := B0.cell 2 rfl
    have y0 := Y2.cell 0 rfl
    have y1 := Y2.cell 1 rfl
    have y2 := Y2.cell 2 rfl
    go_wp2_with fail
    generalize w2.alloc (.cells #[.int .i64 r1, .int .i64 s1, .slice A2 es1.length c2] 29) = w3 at hm0 B0 B2 ho2 Y2 hs3 p0 p1 p2 y0 y1 y2 ⊢
    with_reducible refine (impl_IntersectionOf r s A es c r1 s1 A2 es1 c2 w3 _ _ _ _ (hr.mid hm0 (Or.inl (Nat.zero_le _))) ho2.rg hl (by omega) hcl hc2 rr rs res b HI.out).mono ?_
    rintro en w5 ⟨A5, c5, rfl, ho5, hm5⟩
    have hs5 := hm5.size
    replace B2 := B2.mid hm5 (Or.inr (Nat.zero_le _))
    replace hm0 := hm0.trans hm5
    have hb5 : w.heap.size + 1 + 1 < w5.heap.size := B2.1
    have z0 := B2.cell 0 rfl
    have z1 := B2.cell 1 rfl
    have z2 := B2.cell 2 rfl
    have zf := B2.2.2
    clear p0 p1 p2 y0 y1 y2
    go_wp2_with fail
    refine bodyPost_ret (v := .tuple #[.agg #[.int .i64 rr, .int .i64 rs, .slice A5 res.length c5], .bool b]) (by simp [results, Tryz.results32, go_sem, z0, z1, z2, zf]) rfl ⟨A5, c5, rfl, ?_, ?_⟩
    · refine OG.wide (OG.mid ho5 (a := w.heap.size + 2) (b := w.heap.size + 3) ?_ (Or.inl (by omega))) (by omega) (by simp) (Nat.le_refl _)
      repeat (first | exact Mid.refl _ _ _ | refine Mid.stored ?_ _ (by simp; try omega) (by simp; try omega))
    · repeat (first | exact hm0 | refine Mid.storeNew ?_ (by simp; try omega) _)
end Go.Proofs.YtimmnnncgnnkgaaGreat

/- The law on ConjugateSubgroup: its data. -/
namespace Go.Proofs.YtimmnnncgnnkgaaGreat
set_option linter.unusedVariables false
open Go.RowKit
theorem OI.capC {w : World} {lo hi : Nat} {A : Option Addr} {c : Nat} {xs : List Int} (h : OI w lo hi A c xs) : xs.length ≤ c := by
  obtain ⟨A', c', he, hn, -⟩ := owns_shape h.2.1
  injection he with _ _ hc
  omega
def ConjugateSubgroupIs (r0 s0 : Int) (d0 : List Ed) (d1 : List Int) (rr0 rs0 : Int) (res0 : List Ed) (res1 : Bool) : Prop := CjIs r0 s0 d0 d1 rr0 rs0 res0 res1
end Go.Proofs.YtimmnnncgnnkgaaGreat

/- The law on MeetConjugate: its data. -/
namespace Go.Proofs.YtimmnnncgnnkgaaGreat
set_option linter.unusedVariables false
open Go.RowKit
def MeetConjugateIs (r0 s0 : Int) (d0 : List Ed) (r1 s1 : Int) (d1 : List Ed) (d2 : List Int) (rr0 rs0 : Int) (res0 : List Ed) (res1 : Bool) : Prop := MeetIs r0 s0 d0 r1 s1 d1 d2 rr0 rs0 res0 res1
theorem MeetConjugateIs_ex (r0 s0 : Int) (d0 : List Ed) (r1 s1 : Int) (d1 : List Ed) (d2 : List Int) (hl0 : d0.length ≤ 1048576) (hl1 : d1.length ≤ 1048576) (o2 : OkI d2) (hl2 : d2.length ≤ 1048576) : ∃ rr0 rs0 res0 res1, MeetConjugateIs r0 s0 d0 r1 s1 d1 d2 rr0 rs0 res0 res1 := MeetIs_ex r0 s0 d0 r1 s1 d1 d2
theorem MeetConjugateIs_len {r0 s0 : Int} {d0 : List Ed} {r1 s1 : Int} {d1 : List Ed} {d2 : List Int} {rr0 rs0 : Int} {res0 : List Ed} {res1 : Bool} (h : MeetConjugateIs r0 s0 d0 r1 s1 d1 d2 rr0 rs0 res0 res1) (hl0 : d0.length ≤ 1048576) (hl1 : d1.length ≤ 1048576) (o2 : OkI d2) (hl2 : d2.length ≤ 1048576) : res0.length ≤ 1048576 := by
  have := MeetIs.lens h
  omega
theorem sspec_MeetConjugate (r0 s0 : Int) (A0 : Option Addr) (d0 : List Ed) (c0 : Nat) (r1 s1 : Int) (A1 : Option Addr) (d1 : List Ed) (c1 : Nat) (A2 : Option Addr) (d2 : List Int) (c2 : Nat) (w : World) (lo0 hi0 : Nat) (h0 : OG w lo0 hi0 A0 c0 d0) (hl0 : d0.length ≤ 1048576) (lo1 hi1 : Nat) (h1 : OG w lo1 hi1 A1 c1 d1) (hl1 : d1.length ≤ 1048576) (lo2 hi2 : Nat) (h2 : OI w lo2 hi2 A2 c2 d2) (o2 : OkI d2) (hl2 : d2.length ≤ 1048576) (rr0 rs0 : Int) (res0 : List Ed) (res1 : Bool) (h : MeetConjugateIs r0 s0 d0 r1 s1 d1 d2 rr0 rs0 res0 res1) :
    Calls Tryz.prog 31 #[.agg #[.int .i64 r0, .int .i64 s0, .slice A0 d0.length c0], .agg #[.int .i64 r1, .int .i64 s1, .slice A1 d1.length c1], .slice A2 d2.length c2] w fun e w' => ∃ (A : Option Addr) (c : Nat), e = .returned (.tuple #[.agg #[.int .i64 rr0, .int .i64 rs0, .slice A res0.length c], .bool res1]) ∧ OG w' w.heap.size w'.heap.size A c res0 ∧ Mid 0 0 w w' :=
  spec_MeetConjugate r0 s0 A0 d0 c0 r1 s1 A1 d1 c1 A2 d2 c2 w lo0 hi0 lo1 hi1 lo2 hi2 h0.rg h1.rg hl0 hl1 h0.cnt.1 h1.cnt.1 h2.ri h2.capC hl2 o2 rr0 rs0 res0 res1 h
theorem simpl_MeetConjugate (r0 s0 : Int) (A0 : Option Addr) (d0 : List Ed) (c0 : Nat) (r1 s1 : Int) (A1 : Option Addr) (d1 : List Ed) (c1 : Nat) (A2 : Option Addr) (d2 : List Int) (c2 : Nat) (w : World) (lo0 hi0 : Nat) (h0 : OG w lo0 hi0 A0 c0 d0) (hl0 : d0.length ≤ 1048576) (lo1 hi1 : Nat) (h1 : OG w lo1 hi1 A1 c1 d1) (hl1 : d1.length ≤ 1048576) (lo2 hi2 : Nat) (h2 : OI w lo2 hi2 A2 c2 d2) (o2 : OkI d2) (hl2 : d2.length ≤ 1048576) (rr0 rs0 : Int) (res0 : List Ed) (res1 : Bool) (h : MeetConjugateIs r0 s0 d0 r1 s1 d1 d2 rr0 rs0 res0 res1) :
    Calls Tryz.prog 32 #[.agg #[.int .i64 r0, .int .i64 s0, .slice A0 d0.length c0], .agg #[.int .i64 r1, .int .i64 s1, .slice A1 d1.length c1], .slice A2 d2.length c2] w fun e w' => ∃ (A : Option Addr) (c : Nat), e = .returned (.tuple #[.agg #[.int .i64 rr0, .int .i64 rs0, .slice A res0.length c], .bool res1]) ∧ OG w' w.heap.size w'.heap.size A c res0 ∧ Mid 0 0 w w' :=
  impl_MeetConjugate r0 s0 A0 d0 c0 r1 s1 A1 d1 c1 A2 d2 c2 w lo0 hi0 lo1 hi1 lo2 hi2 h0.rg h1.rg hl0 hl1 h0.cnt.1 h1.cnt.1 h2.ri h2.capC hl2 o2 rr0 rs0 res0 res1 h
end Go.Proofs.YtimmnnncgnnkgaaGreat

/- Opening of a morphism that came in. -/
namespace Go.Proofs.YtimmnnncgnnkgaaGreat
set_option linter.unusedVariables false
open Go.ChangeShapes Go.WideShapes Go.ChangeAt Go.RowKit
open Go.Joins
end Go.Proofs.YtimmnnncgnnkgaaGreat

/- Opening of a graph that came in: its edges read as a list. -/
namespace Go.Proofs.YtimmnnncgnnkgaaGreat
set_option linter.unusedVariables false
set_option linter.unusedSimpArgs false
open Go.ChangeShapes Go.WideShapes Go.ChangeAt Go.RowKit
open Go.Joins Go.Deep

abbrev tEL : TypeId := 80
theorem cellsEL : Tryz.prog.cellsOf 80 = 3 := by kernel_rfl
theorem undSEL : Tryz.prog.underlying 22 = some (.slice 80) := by kernel_rfl
theorem fields3 {H : Type} {enc : TypeId × Value → H} {P : Program} {w : World} {base : Nat} {spare : Nat → Bool} {held : Bool} {t : TypeId} {fs : Array Field} {fuel : Nat} {cs : List Value} {x : DataW H × List MemPlace}
    (ht : P.underlying t = some (.struct fs)) (hone : oneCellFields P fs = true) (h : DataW.trod enc P w base spare held fuel t cs = some x) (hl : cs.length = fs.size) :
    ∃ n, ∀ (j : Nat) (f : Field), fs[j]? = some f → ∃ v y, cs[j]? = some v ∧ DataW.trod enc P w base spare held n f.type [v] = some y := by
  obtain ⟨ys, n', hn', hy, hlen, hyl, hf⟩ := DataW.trod_struct ht h
  refine ⟨n', fun j f hj => ?_⟩
  obtain ⟨ho, hk⟩ := hone_of hone j f hj
  have hjl : j < fs.size := (Array.getElem?_eq_some_iff.1 hj).1
  have h1 := hf j f hj
  rw [ho, hk] at h1
  have h2 : (cs.drop j).take 1 = [cs[j]] := by
    rw [List.drop_eq_getElem_cons (by omega)]
    rfl
  rw [h2] at h1
  exact ⟨cs[j], ys[j], List.getElem?_eq_getElem (by omega), h1.trans (List.getElem?_eq_getElem (by omega))⟩
set_option maxRecDepth 100000 in
theorem edge_cells {H : Type} {enc : TypeId × Value → H} {W : World} {a : Addr} {n : Nat} {cs : List Value} {x : DataW H × List MemPlace}
    (hc : W.cells? 0 a 3 = some cs) (h : DataW.trod enc Tryz.prog W 0 (fun _ => true) true n 80 cs = some x) :
    ∃ e : Ed, W.cell? a = some (.int .i64 e.a) ∧ W.cell? (a.add 1) = some (.int .i64 e.l) ∧ W.cell? (a.add 2) = some (.int .i64 e.b) ∧ OkI (edI [e]) := by
  obtain ⟨_, hcl, hat⟩ := World.cells?_some hc
  obtain ⟨n', hf⟩ := fields3 Tryz.underlying80 (by kernel_rfl) h (by rw [hcl]; rfl)
  have h0 := hf 0 _ rfl
  have h1 := hf 1 _ rfl
  have h2 := hf 2 _ rfl
  obtain ⟨v0, y0, g0, t0⟩ := h0
  obtain ⟨v1, y1, g1, t1⟩ := h1
  obtain ⟨v2, y2, g2, t2⟩ := h2
  obtain ⟨m0, hm0, -, w0⟩ := DataW.trod_int undI t0
  obtain ⟨m1, hm1, -, w1⟩ := DataW.trod_int undI t1
  obtain ⟨m2, hm2, -, w2⟩ := DataW.trod_int undI t2
  simp at hm0 hm1 hm2
  subst hm0 hm1 hm2
  refine ⟨⟨m0, m1, m2⟩, ?_, ?_, ?_, ?_⟩
  · have := hat 0 (by omega)
    rw [show a.add 0 = a by simp [Addr.add]] at this
    rw [this, g0]
  · rw [hat 1 (by omega), g1]
  · rw [hat 2 (by omega), g2]
  · rw [edI_one]
    intro x hx
    simp at hx
    rcases hx with rfl | rfl | rfl
    · exact wf_bounds w0
    · exact wf_bounds w1
    · exact wf_bounds w2
theorem okI_edI {es : List Ed} (h : ∀ e ∈ es, OkI (edI [e])) : OkI (edI es) := by
  induction es with
  | nil => intro x hx; simp [edI] at hx
  | cons e t ih =>
    intro x hx
    rw [show e :: t = [e] ++ t from rfl, edI_append] at hx
    rcases List.mem_append.1 hx with hx | hx
    · exact h e (by simp) x hx
    · exact ih (fun f hf => h f (by simp [hf])) x hx
theorem edges_of_cells {H : Type} {enc : TypeId × Value → H} {W : World} {fuel : Nat} {A : Option Addr} {len c : Nat} {x : DataW H × List MemPlace}
    (h : DataW.trod enc Tryz.prog W 0 (fun _ => true) true fuel 22 [.slice A len c] = some x) : ∃ es : List Ed, len = es.length ∧ RG W 0 W.heap.size A es ∧ OkI (edI es) ∧ es.length ≤ 9223372036854775807 := by
  rcases open_slice undSEL h with ⟨hcs, _⟩ | ⟨a, len', cap, m, n, D, Pl, hcs, _, hl, hm, hmm, -, hi⟩
  · simp at hcs
    obtain ⟨rfl, rfl, rfl⟩ := hcs
    exact ⟨[], rfl, ⟨Nat.le_refl _, fun hn => absurd rfl hn⟩, fun x hx => by simp [edI] at hx, by simp⟩
  · simp at hcs
    obtain ⟨rfl, rfl, rfl⟩ := hcs
    simp at hmm
    subst hmm
    have hx : ∀ i, ∃ e : Ed, i < len → (W.cell? (a.add (i * 3)) = some (.int .i64 e.a) ∧ W.cell? ((a.add (i * 3)).add 1) = some (.int .i64 e.l) ∧ W.cell? ((a.add (i * 3)).add 2) = some (.int .i64 e.b) ∧ OkI (edI [e])) := by
      intro i
      by_cases hil : i < len
      · obtain ⟨cs', hc, ht'⟩ := hi i (by omega)
        rw [cellsEL] at hc
        obtain ⟨e, he⟩ := edge_cells hc ht'
        exact ⟨e, fun _ => he⟩
      · exact ⟨⟨0, 0, 0⟩, fun h => absurd h hil⟩
    obtain ⟨f, hf⟩ := Classical.axiomOfChoice hx
    refine ⟨(List.range len).map f, by simp, ⟨Nat.le_refl _, fun hne => ?_⟩, ?_, by unfold maxLen at hm; simp; omega⟩
    · have hp : 0 < len := by
        rcases Nat.eq_zero_or_pos len with h0 | h0
        · subst h0
          simp [ints, edI] at hne
        · exact h0
      have h0 := (hf 0 hp).1
      obtain ⟨b, off, spot⟩ := a
      have hspot : spot = none := by simpa [Addr.add] using World.cell?_spot h0
      subst hspot
      refine ⟨b, off, rfl, Nat.zero_le _, ?_, fun j u hu => ?_⟩
      · have := World.block_lt_of_cell? _ _ h0
        simpa [Addr.add] using this
      · have hj : j < len * 3 := by
          have := (List.getElem?_eq_some_iff.1 hu).1
          rw [ints_len, edI_len] at this
          simpa using this
        obtain ⟨k, r, hr, rfl⟩ : ∃ k r, r < 3 ∧ j = k * 3 + r := ⟨j / 3, j % 3, by omega, by omega⟩
        obtain ⟨c0, c1, c2, -⟩ := hf k (by omega)
        have hg : ((List.range len).map f)[k]? = some (f k) := by
          rw [List.getElem?_map, List.getElem?_range (by omega)]
          rfl
        obtain ⟨g0, g1, g2⟩ := edI_at hg
        rw [Addr.add_lit] at c0
        rw [Addr.add_lit, Addr.add_lit] at c1 c2
        rw [ints_get] at hu
        rcases r with _ | _ | _ | r
        · rw [Nat.add_zero, g0] at hu
          rw [Nat.add_zero, c0]
          simpa using hu
        · rw [g1] at hu
          rw [← Nat.add_assoc, c1]
          simpa using hu
        · rw [g2] at hu
          rw [← Nat.add_assoc, c2]
          simpa using hu
        · omega
    · refine okI_edI fun e he => ?_
      obtain ⟨i, hi', rfl⟩ := List.mem_map.1 he
      exact (hf i (by simpa using hi')).2.2.2
set_option maxRecDepth 100000 in
theorem open_graph {H : Type} {enc : TypeId × Value → H} {W : World} {r : Reach} {base : Nat} {v : Value} {d : DataW H} {ps : List MemPlace}
    (hok : Value.okWide Tryz.prog W r base 24 v) (h : DataW.Trod enc Tryz.prog W 0 (fun _ => true) true 24 v d ps) :
    ∃ m s A es c, v = .agg #[.int .i64 m, .int .i64 s, .slice A (List.length es) c] ∧ (Lit.int .i64 m).wf = true ∧ (Lit.int .i64 s).wf = true ∧ RG W 0 W.heap.size A es ∧ OkI (edI es) ∧ es.length ≤ 9223372036854775807 := by
  obtain ⟨v0, v1, v2, y0, y1, y2, n, rfl, -, -, h0, h1, h2⟩ := open_agg3 Tryz.underlying24 (by kernel_rfl) (by kernel_rfl) hok h
  have h0' : DataW.trod enc Tryz.prog W 0 (fun _ => true) true n 3 [v0] = some y0 := h0
  have h1' : DataW.trod enc Tryz.prog W 0 (fun _ => true) true n 3 [v1] = some y1 := h1
  have h2' : DataW.trod enc Tryz.prog W 0 (fun _ => true) true n 22 [v2] = some y2 := h2
  clear h0 h1 h2
  obtain ⟨m, hm, -, hw⟩ := DataW.trod_int undI h0'
  obtain ⟨s, hs, -, hw'⟩ := DataW.trod_int undI h1'
  obtain ⟨A, l, c, hsl⟩ := slice_form undSEL h2'
  simp at hm hs hsl
  subst hm hs hsl
  obtain ⟨es, rfl, ha, hb, hc⟩ := edges_of_cells h2'
  exact ⟨m, s, A, es, c, rfl, hw, hw', ha, hb, hc⟩
end Go.Proofs.YtimmnnncgnnkgaaGreat
