/- Contracts and lemmas of this seat, many texts in one: see the words ahead of each. No condition beyond those typed in each lemma. -/
import Derived.Test.YtimmnnncgnnkgaaGreatPk5
import Derived.Test.YtimmnnncgnnkgaaGreatPk4
import Derived.Test.YtimmnnncgnnkgaaGreatPk2
import Derived.Test.YtimmnnncgnnkgaaGreatPk1
import Derived.Deep.Slices
import Derived.Deep.Fields
import Derived.ChangeSame

/- TrimGraph, the reference. -/
namespace Go.Proofs.YtimmnnncgnnkgaaGreat
set_option linter.unusedVariables false
set_option linter.unusedSimpArgs false
open Go.RowKit

set_option maxHeartbeats 6400000 in
set_option maxRecDepth 100000 in
theorem spec_TrimGraph (r : Int) (n : Nat) (A : Option Addr) (es : List Ed) (c : Nat) (w : World) (lo hi : Nat) (hr : RG w lo hi A es) (hg : IsGr r n es) :
    Calls Tryz.prog 95 #[graV r n A es.length c] w fun e w' => ∃ A1 c1 Al nl cl, e = .returned (.tuple #[graV r (trimA 40 ((n : Int), es)).1 A1 (trimA 40 ((n : Int), es)).2.length c1, .slice Al nl cl]) ∧ OG w' w.heap.size w'.heap.size A1 c1 (trimA 40 ((n : Int), es)).2 ∧ Mid 0 0 w w' := by
  have hn40 : n ≤ 40 := by have := hg.size; omega
  have hl := hg.len
  have hm0 : Mid 0 0 w ((w.alloc (.cells #[.int .i64 r, .int .i64 n, .slice A es.length c] 29)).alloc (.cells #[.int .i64 0, .int .i64 0, .slice none 0 0] 29)) := (Mid.alloc _ _).trans (Mid.alloc _ _)
  have b0 := (Box.new w #[.int .i64 r, .int .i64 n, .slice A es.length c] 29).mid (Mid.alloc _ (.cells #[.int .i64 0, .int .i64 0, .slice none 0 0] 29)) (Or.inr (Nat.zero_le _))
  have b2 := Box.new (w.alloc (.cells #[.int .i64 r, .int .i64 n, .slice A es.length c] 29)) #[.int .i64 0, .int .i64 0, .slice none 0 0] 29
  simp only [World.size_alloc] at b2
  have HG := Lib.hid hg
  obtain ⟨T, hT⟩ : ∃ T, trimA 40 ((n : Int), es) = T := ⟨_, rfl⟩
  rw [hT]
  have HT := Lib.hid hT
  clear hg hT
  go_enter Tryz.func95, Tryz.ntmps95
  go_wp2_with fail
  generalize hw1 : ((w.alloc (.cells #[.int .i64 r, .int .i64 n, .slice A es.length c] 29)).alloc (.cells #[.int .i64 0, .int .i64 0, .slice none 0 0] 29)) = w1 at hm0 b0 b2 ⊢
  clear hw1
  with_reducible refine (spec_l4Copy r n A es c _ _ _ (hr.mid hm0 (Or.inl (Nat.zero_le _))) (by omega)).mono ?_
  rintro en w2 ⟨A1, c1, rfl, ho, hm2⟩
  have hsz12 := hm0.size
  have hs2 : w.heap.size + 1 < w1.heap.size := b2.1
  replace b0 := b0.mid hm2 (Or.inr (Nat.zero_le _))
  replace b2 := b2.mid hm2 (Or.inr (Nat.zero_le _))
  replace hm0 := hm0.trans hm2
  have hsz2 := hm2.size
  have hown0 := owns_base (base' := w.heap.size + 2) ho.ov.2.1 hs2
  have hbk0 : Value.ownBlock (.slice A1 es.length c1) ≠ some w2.heap.size := fun h => by have := ho.ov.2.2 _ h; omega
  have hal := (Mid.alloc w2 (.cells #[.int .i64 r, .int .i64 n, .slice A1 es.length c1] 29)).trans (Mid.alloc (w2.alloc (.cells #[.int .i64 r, .int .i64 n, .slice A1 es.length c1] 29)) (.cells #[] 3))
  have Y3 := (Box.new w2 #[.int .i64 r, .int .i64 n, .slice A1 es.length c1] 29).mid (Mid.alloc (w2.alloc (.cells #[.int .i64 r, .int .i64 n, .slice A1 es.length c1] 29)) (.cells #[] 3)) (Or.inr (Nat.zero_le _))
  have O0 := owns_empty (w2.alloc (.cells #[.int .i64 r, .int .i64 n, .slice A1 es.length c1] 29)) 3 1
  rw [World.size_alloc] at O0
  have hbs0 := b0.1
  have p0 := b0.cell 0 rfl
  have p1 := b0.cell 1 rfl
  have p2 := b0.cell 2 rfl
  replace b0 := b0.mid hal (Or.inr (Nat.zero_le _))
  replace b2 := b2.mid hal (Or.inr (Nat.zero_le _))
  replace hown0 := owns_mid hown0 hal (Or.inl (Nat.zero_le _))
  replace hm0 := hm0.trans hal
  go_wp2_with fail
  clear p0 p1 p2
  have hsA : ((w2.alloc (.cells #[.int .i64 r, .int .i64 n, .slice A1 es.length c1] 29)).alloc (.cells #[] 3)).heap.size = w2.heap.size + 2 := by simp
  generalize hw3 : (w2.alloc (.cells #[.int .i64 r, .int .i64 n, .slice A1 es.length c1] 29)).alloc (.cells #[] 3) = w3 at Y3 O0 b0 b2 hown0 hm0 hsA ⊢
  obtain ⟨G, hG⟩ : ∃ G, w2.heap.size = G := ⟨_, rfl⟩
  rw [hG] at Y3 O0 hbk0 hsA hsz2 hbs0 ⊢
  clear hw3 hal hm2 ho hG
  have hGw : w.heap.size + 2 ≤ G := by omega
  clear hsA hsz2 hs2 hsz12 hbs0
  go_loopw [5, 6] (fun l i wr => ∃ (k : Nat) (Al : Option Addr) (nl cl : Nat), k ≤ n ∧ i = .int .i64 k ∧ l = .slice Al nl cl ∧ Hid ((upto k).length = nl) ∧ wr.ownsRow (G + 1) 3 1 (.slice Al nl cl) nl (ints (upto k)) ∧
      Hid (wr.ownsRow (w.heap.size + 2) 78 3 (.slice A1 es.length c1) es.length (ints (edI es))) ∧ Box wr w.heap.size [.int .i64 r, .int .i64 n, .slice A es.length c] ∧ Box wr (w.heap.size + 1) [.int .i64 0, .int .i64 0, .slice none 0 0] ∧ Box wr G [.int .i64 r, .int .i64 n, .slice A1 es.length c1] ∧ Mid 0 0 w wr) (fun _ i _ => n - (intOf i).toNat)
  case atStart => exact ⟨0, _, 0, 0, Nat.zero_le _, rfl, rfl, Lib.hid rfl, O0, Lib.hid hown0, b0, b2, Y3, hm0⟩
  case round =>
    clear O0 hown0 b0 b2 Y3 hm0
    obtain ⟨wo, hwo⟩ : ∃ wo, wo = wr := ⟨_, rfl⟩
    subst hwo
    obtain ⟨k, Al, nl, cl, hk, rfl, rfl, HN, hleft, HE, b0, b2, Y3, hm⟩ := hrel
    obtain rfl : k = nl := by rw [← HN.out, upto_len]
    have p0 := b0.cell 0 rfl
    have p1 := b0.cell 1 rfl
    have p2 := b0.cell 2 rfl
    by_cases hlt : k < n
    · have hk1 : (k : Int) < (n : Int) := by omega
      go_wp2_with fail
      with_reducible refine (spec_IsGraph r n A es c _ _ _ (hr.mid hm (Or.inl (Nat.zero_le _))).rv (by omega) true (iff_of_true rfl HG.out)).mono ?_
      rintro en w4 ⟨rfl, hm4⟩
      have hE4 := owns_mid HE.out hm4 (Or.inl (Nat.zero_le _))
      replace b0 := b0.mid hm4 (Or.inr (Nat.zero_le _))
      replace b2 := b2.mid hm4 (Or.inr (Nat.zero_le _))
      replace Y3 := Y3.mid hm4 (Or.inr (Nat.zero_le _))
      replace hleft := owns_mid hleft hm4 (Or.inl (Nat.zero_le _))
      replace hm := hm.trans hm4
      have hGo : G + 1 ≤ w4.heap.size := Y3.1
      have HL := Lib.hid hleft
      clear hleft HE
      go_wp2_with (at_builtin; refine wpList_pushI2 rfl _ _ rfl (G + 1) Al k cl (upto k) rfl HL.out k rfl (by omega) hGo ?_; intro A9 c9 w9 hl9 hgr9 hat9)
      clear hat9
      have hm9 := Mid.of_grownRow HL.out hgr9
      have hE9 := hE4.kept hgr9 (owns_ne hE4 HL.out (by decide))
      go_roundw
      case rel => exact ⟨k + 1, A9, k + 1, c9, by omega, by go_num, rfl, Lib.hid (by rw [upto_len]), by rw [upto_succ]; exact hl9, Lib.hid hE9, b0.mid hm9 (Or.inl (by omega)), b2.mid hm9 (Or.inl (by omega)), Y3.mid hm9 (Or.inl (by omega)), hm.transNew hm9 (Or.inl (by omega))⟩
      case measure => simp [intOf]; omega
    · obtain rfl : k = n := by omega
      go_wp2_with fail
      clear p0 p1 p2
      have hGo := Y3.1
      go_loopw [5, 7] (fun l iv wr => ∃ (i m s : Nat) (es1 : List Ed) (A2 : Option Addr) (c2 : Nat) (Al : Option Addr) (cl : Nat) (xs : List Int), l = .slice Al s cl ∧ iv = .int .i64 i ∧ i + m = 40 ∧ Hid (trimA m ((s : Int), es1) = T) ∧ s ≤ m ∧ Hid (IsGr r s es1) ∧ wr.ownsRow (G + 1) 3 1 (.slice Al s cl) s (ints xs) ∧
          Hid (wr.ownsRow (w.heap.size + 2) 78 3 (.slice A2 es1.length c2) es1.length (ints (edI es1))) ∧ Hid (Value.ownBlock (.slice A2 es1.length c2) ≠ some G) ∧ Box wr w.heap.size [.int .i64 r, .int .i64 k, .slice A es.length c] ∧ Box wr (w.heap.size + 1) [.int .i64 0, .int .i64 0, .slice none 0 0] ∧ Box wr G [.int .i64 r, .int .i64 s, .slice A2 es1.length c2] ∧ Mid 0 0 w wr) (fun _ iv _ => 40 - (intOf iv).toNat)
      case atStart => exact ⟨0, 40, k, es, A1, c1, Al, cl, upto k, rfl, rfl, by omega, HT, hn40, HG, hleft, HE, Lib.hid hbk0, b0, b2, Y3, hm⟩
      case round =>
        clear hleft HE b0 b2 Y3 hm HN hGo
        obtain ⟨wj, hwj⟩ : ∃ wj, wj = wr := ⟨_, rfl⟩
        subst hwj
        obtain ⟨i, m, s, es1, A2, c2, Al, cl, xs, rfl, rfl, him, HTm, hsm, HGs, hleft, HE, HBK, b0, b2, Y3, hm⟩ := hrel
        have hs1 : 1 ≤ s := by have := HGs.out.size; omega
        have hs40 : s ≤ 40 := by have := HGs.out.size; omega
        have hl1 := HGs.out.len
        have hi40 : (i : Int) < 40 := by omega
        have p0 := b0.cell 0 rfl
        have p1 := b0.cell 1 rfl
        have p2 := b0.cell 2 rfl
        go_wp2_with fail
        with_reducible refine (spec_IsGraph r k A es c _ _ _ (hr.mid hm (Or.inl (Nat.zero_le _))).rv (by omega) true (iff_of_true rfl HG.out)).mono ?_
        rintro en w4 ⟨rfl, hm4⟩
        have hE4 := owns_mid HE.out hm4 (Or.inl (Nat.zero_le _))
        replace HE := Lib.hid hE4
        replace b0 := b0.mid hm4 (Or.inr (Nat.zero_le _))
        replace b2 := b2.mid hm4 (Or.inr (Nat.zero_le _))
        replace Y3 := Y3.mid hm4 (Or.inr (Nat.zero_le _))
        replace hleft := owns_mid hleft hm4 (Or.inl (Nat.zero_le _))
        replace hm := hm.trans hm4
        clear p0 p1 p2 hE4 hm4
        have y0 := Y3.cell 0 rfl
        have y1 := Y3.cell 1 rfl
        have y2 := Y3.cell 2 rfl
        go_wp2_with fail
        with_reducible refine (spec_l8Leaf r s A2 es1 c2 _ _ _ (owns_rv HE.out).rg HGs.out).mono ?_
        rintro en w5 ⟨rfl, hm5⟩
        have hE5 := owns_mid HE.out hm5 (Or.inl (Nat.zero_le _))
        replace HE := Lib.hid hE5
        replace b0 := b0.mid hm5 (Or.inr (Nat.zero_le _))
        replace b2 := b2.mid hm5 (Or.inr (Nat.zero_le _))
        replace Y3 := Y3.mid hm5 (Or.inr (Nat.zero_le _))
        replace hleft := owns_mid hleft hm5 (Or.inl (Nat.zero_le _))
        replace hm := hm.trans hm5
        clear y0 y1 y2 hE5 hm5
        have y0 := Y3.cell 0 rfl
        have y1 := Y3.cell 1 rfl
        have y2 := Y3.cell 2 rfl
        cases hlf : leaf s es1 with
        | none =>
          have hTT := HTm.out
          rw [trimA_none hlf] at hTT
          have HTT := Lib.hid hTT
          rw [leafI_none hlf]
          have z0 := b2.cell 0 rfl
          have z1 := b2.cell 1 rfl
          have z2 := b2.cell 2 rfl
          have zf := b2.2.2
          have hbs := b2.1
          clear hTT hlf
          go_wp2_with fail
          have hcl : (w.heap.size + 1 == G) = false := by simp; omega
          refine bodyPost_ret (v := .tuple #[.agg #[.int .i64 r, .int .i64 s, .slice A2 es1.length c2], .slice Al s cl]) (by simp [results, Tryz.results95, go_sem, z0, z1, z2, zf, y0, y1, y2]) rfl ⟨A2, c2, Al, s, cl, by rw [← HTT.out], ?_, ?_⟩
          · rw [← HTT.out]
            have h0 : OG w5 (w.heap.size + 2) w5.heap.size A2 c2 es1 := ⟨Nat.le_refl _, HE.out, fun g hg => (HE.out.lt g hg).2⟩
            refine OG.wide (OG.mid h0 (a := w.heap.size + 1) (b := w.heap.size + 2) ?_ (Or.inl (Nat.le_refl _))) (by omega) (by simp) (Nat.le_refl _)
            repeat (first | exact Mid.refl _ _ _ | refine Mid.stored ?_ _ (by simp; try omega) (by simp; try omega))
          · repeat (first | exact hm | refine Mid.storeNew ?_ (by simp; try omega) _)
        | some g =>
          obtain ⟨hg1, hgs', -⟩ := leaf_spec hlf
          have hgs : g < s := by omega
          obtain ⟨m', rfl⟩ : ∃ m', m = m' + 1 := ⟨m - 1, by omega⟩
          have hTT := HTm.out
          rw [trimA_some hlf] at hTT
          have HTT := Lib.hid hTT
          have HCG := Lib.hid (cutV_gr (g := ((s : Int), es1)) HGs.out hg1 hgs')
          rw [leafI_some hlf]
          have dg0 : decide ((g : Int) < 0) = false := by simp
          clear hTT hlf hgs'
          obtain ⟨wk, hwk⟩ : ∃ wk, wk = w5 := ⟨_, rfl⟩
          subst hwk
          go_wp2_with fail
          have hal := (Mid.alloc wk (.cells #[] 3)).trans (Mid.alloc (wk.alloc (.cells #[] 3)) (.cells #[] 3))
          have T0 : TwoI ((wk.alloc (.cells #[] 3)).alloc (.cells #[] 3)) wk.heap.size (.slice (some ⟨wk.heap.size, 0, none⟩) 0 0) (.slice (some ⟨wk.heap.size + 1, 0, none⟩) 0 0) 0 0 [] [] := by
            refine ⟨(owns_empty wk 3 1).alloc _, ?_, ?_⟩
            · have h := owns_empty (wk.alloc (.cells #[] 3)) 3 1
              rw [World.size_alloc] at h
              exact owns_base h (Nat.le_succ _)
            · simp [Value.ownBlock]
          clear y0 y1 y2
          go_loopw [9, 10, 11] (fun o rs kv wr => ∃ (kk : Nat) (Ao : Option Addr) (co : Nat) (Ar : Option Addr) (cr no : Nat) (ys : List Int), kk ≤ s ∧ kv = .int .i64 kk ∧ o = .slice Ao no co ∧ rs = .slice Ar no cr ∧ Hid ((but g kk).length = no) ∧ Hid (TwoI wr wk.heap.size (.slice Ao no co) (.slice Ar no cr) no no (but g kk) ys) ∧ Mid 0 0 wk wr) (fun _ _ kv _ => s - (intOf kv).toNat)
          case atStart => exact ⟨0, _, 0, _, 0, 0, [], Nat.zero_le _, rfl, rfl, rfl, Lib.hid rfl, Lib.hid T0, hal⟩
          case round =>
            clear T0 hal
            obtain ⟨kk, Ao, co, Ar, cr, no, ys, hkk, rfl, rfl, rfl, HNo, HT2, hmy⟩ := hrel
            have hno : no ≤ 40 := by
              have h1 : (but g kk).length ≤ kk := by unfold but; rw [List.length_map]; exact Nat.le_trans (List.length_filter_le _ _) (by simp)
              have h2 := HNo.out
              omega
            have Y4 := Y3.mid hmy (Or.inr (Nat.zero_le _))
            have y0 := Y4.cell 0 rfl
            have y1 := Y4.cell 1 rfl
            have y2 := Y4.cell 2 rfl
            by_cases hlt : kk < s
            · have hbs := but_succ g kk
              have hk3 : (kk : Int) < (s : Int) := by omega
              have hk0 : (0 : Int) ≤ (kk : Int) := by omega
              by_cases hkg : kk = g
              · have d3 : ((kk : Int) != (g : Int)) = false := by simp; omega
                rw [if_pos hkg] at hbs
                have HBS := Lib.hid hbs
                clear hbs hkg
                go_wp2_with fail
                go_roundw
                case rel => exact ⟨kk + 1, Ao, co, Ar, cr, no, ys, by omega, by go_num, rfl, rfl, by rw [HBS.out]; exact HNo, by rw [HBS.out]; exact HT2, hmy⟩
                case measure => simp [intOf]; omega
              · have d3 : ((kk : Int) != (g : Int)) = true := by simp; omega
                rw [if_neg hkg] at hbs
                have HBS := Lib.hid hbs
                have hsz := hmy.size
                obtain ⟨gl, rfl, hgl1, hgl2⟩ := owns_addr hleft (show 0 < s by omega)
                obtain ⟨y, hy⟩ := get_of_lt xs (show kk < xs.length by have h := hleft.1; simp [ints] at h; omega)
                have hyc : ∀ W : World, Mid wk.heap.size W.heap.size wk W → True := fun _ _ => trivial
                have HLF := Lib.hid hleft
                have HY := Lib.hid hy
                clear hbs hkg hy hyc
                go_wp2_with (first | (at_builtin; refine wpList_push2 rfl _ _ rfl wk.heap.size Ao no co (but g kk) _ _ _ rfl HT2.out kk rfl (by omega) hsz ?_; intro A7 c7 w7 ht7 hm7; have hmw := hmy.transNew hm7 (Or.inl (Nat.le_refl _)); have hcx := ((owns_mid HLF.out hmw (Or.inl (Nat.zero_le _))).cellAt kk (by omega)).trans (show (ints xs)[kk]? = some (.int .i64 y) by simp [ints, HY.out]); have hsz7 := hmw.size; have HT7 := Lib.hid ht7.swap; clear ht7) | (at_builtin; refine wpList_push2 rfl _ _ rfl wk.heap.size Ar no cr ys _ _ _ rfl HT7.out y rfl (by omega) hsz7 ?_; intro A9 c9 w9 ht9 hm9))
                go_roundw
                case rel => exact ⟨kk + 1, A7, c7, A9, c9, no + 1, ys ++ [y], by omega, by go_num, rfl, rfl, Lib.hid (by rw [HBS.out, List.length_append, HNo.out]; rfl), Lib.hid (by rw [HBS.out]; exact ht9.swap), hmw.transNew hm9 (Or.inl (Nat.le_refl _))⟩
                case measure => simp [intOf]; omega
            · obtain rfl : kk = s := by omega
              have hln : (but g kk).length = no := HNo.out
              have hn1 : no = kk - 1 := by rw [← hln, but_len g hgs]
              obtain ⟨es2, hes2⟩ : ∃ es2, partE (but g kk) es1 = es2 := ⟨_, rfl⟩
              have hcv : cutV ((kk : Int), es1) g = ((no : Int), es2) := by unfold cutV; simp only [Int.toNat_natCast]; rw [hln, hes2]
              have hE6 := owns_mid HE.out hmy (Or.inl (Nat.zero_le _))
              have hP := spec_RenumberGraph r kk A2 es1 c2 Ao (but g kk) co wr _ _ _ _ (owns_rv hE6).rg (owns_rv HT2.out.f) HGs.out (but_nodup g kk) (fun x hx => but_range hx) (by omega)
              have HN1 := Lib.hid hn1
              rw [hln, hes2] at hP
              have HP := Lib.hid hP
              have hTT2 := HTT.out
              rw [hcv] at hTT2
              have hgr2 := HCG.out
              rw [hcv] at hgr2
              have HTT2 := Lib.hid hTT2
              have HG2 := Lib.hid hgr2
              have hwks : G + 1 ≤ wk.heap.size := Y3.1
              have hto := HT2.out.t
              clear hP hTT2 hgr2 hcv hes2 hln HTT HCG HE hE6 hn1
              go_wp2_with fail
              with_reducible refine HP.out.mono ?_
              rintro en w8 ⟨A3, c3, rfl, hog, hm8⟩
              clear HP
              have hogw : wk.heap.size ≤ wr.heap.size := hmy.size
              replace hto := owns_mid hto hm8 (Or.inl (Nat.zero_le _))
              have hm28 := hmy.trans hm8
              clear Y4 y0 y1 y2
              replace b0 := b0.mid hm28 (Or.inr (Nat.zero_le _))
              replace b2 := b2.mid hm28 (Or.inr (Nat.zero_le _))
              replace Y3 := Y3.mid hm28 (Or.inr (Nat.zero_le _))
              replace hm := hm.trans hm28
              clear hmy hm8 hm28
              have y0 := Y3.cell 0 rfl
              have y1 := Y3.cell 1 rfl
              have y2 := Y3.cell 2 rfl
              have yf := Y3.2.2
              go_wp2_with fail
              have hst := (Mid.setAt w8 G 0 (.int .i64 r)).trans ((Mid.setAt (w8.setCell ⟨G, 0, none⟩ (.int .i64 r)) G 1 (.int .i64 no)).trans (Mid.setAt ((w8.setCell ⟨G, 0, none⟩ (.int .i64 r)).setCell ⟨G, 1, none⟩ (.int .i64 no)) G 2 (.slice A3 es2.length c3)))
              have Y5 := ((Y3.set 0 (.int .i64 r) (by simp) rfl).set 1 (.int .i64 no) (by simp) rfl).set 2 (.slice A3 es2.length c3) (by simp) rfl
              have hm5 := ((hm.storeNew (p := ⟨G, 0, none⟩) (by show w.heap.size ≤ G; omega) (.int .i64 r)).storeNew (p := ⟨G, 1, none⟩) (by show w.heap.size ≤ G; omega) (.int .i64 no)).storeNew (p := ⟨G, 2, none⟩) (by show w.heap.size ≤ G; omega) (.slice A3 es2.length c3)
              replace b0 := b0.mid hst (Or.inl (by omega))
              replace b2 := b2.mid hst (Or.inl (by omega))
              replace hto := owns_base (owns_mid hto hst (Or.inl hwks)) hwks
              have hoe := (OG.mid hog hst (Or.inl (by omega))).ov.2.1
              have hbk9 : Value.ownBlock (.slice A3 es2.length c3) ≠ some G := fun h => by have := (hoe.lt _ h).1; omega
              go_roundw
              case rel => exact ⟨i + 1, m', no, es2, A3, c3, Ar, cr, ys, rfl, by go_num, by omega, HTT2, by have := HN1.out; omega, HG2, hto, Lib.hid (owns_base hoe (by omega)), Lib.hid hbk9, b0, b2, Y5, hm5⟩
              case measure => simp [intOf]; omega
end Go.Proofs.YtimmnnncgnnkgaaGreat

/- CoreGraph, both sides. -/
namespace Go.Proofs.YtimmnnncgnnkgaaGreat
set_option linter.unusedVariables false
set_option linter.unusedSimpArgs false
open Go.RowKit

theorem nat_gr {r : Int} {g : Int × List Ed} (h : IsGr r g.1 g.2) : ∃ (n : Nat) (es : List Ed), g = ((n : Int), es) ∧ IsGr r n es := by
  obtain ⟨s, es⟩ := g
  have h1 : 1 ≤ s := h.size.1
  obtain ⟨n, rfl⟩ : ∃ n : Nat, s = n := ⟨s.toNat, by omega⟩
  exact ⟨n, es, rfl, h⟩
theorem hcl_of {w : World} {lo hi : Nat} {A : Option Addr} {c : Nat} {es : List Ed} (h : OG w lo hi A c es) : es.length ≤ c := by
  obtain ⟨A', c', hv0, hsc, hcm⟩ := owns_shape h.ov.2.1
  injection hv0 with _ _ hv0
  omega

set_option maxHeartbeats 1600000 in
set_option maxRecDepth 20000 in
theorem spec_CoreGraph (r n : Nat) (A : Option Addr) (es : List Ed) (c : Nat) (w : World) (lo hi : Nat) (hr : RG w lo hi A es) (hg : IsGr r n es) :
    Calls Tryz.prog 57 #[graV r n A es.length c] w fun e w' => ∃ A1 c1, e = .returned (graV r (coreA r ((n : Int), es)).1 A1 (coreA r ((n : Int), es)).2.length c1) ∧ OG w' w.heap.size w'.heap.size A1 c1 (coreA r ((n : Int), es)).2 ∧ Mid 0 0 w w' := by
  obtain ⟨f, fs, hF, hgf⟩ := nat_gr (foldA_gr 40 (g := ((n : Int), es)) hg)
  obtain ⟨t, ts, hT, hgt⟩ := nat_gr (trimA_gr 40 (g := ((f : Int), fs)) hgf)
  obtain ⟨q, qs, hQ, -⟩ := nat_gr (canonG_gr (g := ((t : Int), ts)) hgt)
  have hcore : coreA r ((n : Int), es) = ((q : Int), qs) := by rw [coreA, hF, hT, hQ]
  rw [hcore]
  have hm0 : Mid 0 0 w ((w.alloc (.cells #[.int .i64 r, .int .i64 n, .slice A es.length c] 29)).alloc (.cells #[.int .i64 0, .int .i64 0, .slice none 0 0] 29)) := (Mid.alloc _ _).trans (Mid.alloc _ _)
  have b2 := Box.new (w.alloc (.cells #[.int .i64 r, .int .i64 n, .slice A es.length c] 29)) #[.int .i64 0, .int .i64 0, .slice none 0 0] 29
  simp only [World.size_alloc] at b2
  have HG := Lib.hid hg
  have HGF := Lib.hid hgf
  have HGT := Lib.hid hgt
  have HF := Lib.hid hF
  have HT := Lib.hid hT
  have HQ := Lib.hid hQ
  clear hg hgf hgt hF hT hQ hcore
  go_enter Tryz.func57, Tryz.ntmps57
  go_wp2_with fail
  generalize ((w.alloc (.cells #[.int .i64 r, .int .i64 n, .slice A es.length c] 29)).alloc (.cells #[.int .i64 0, .int .i64 0, .slice none 0 0] 29)) = w1 at hm0 b2 ⊢
  have hP1 := spec_FoldAll r n A es c w1 _ _ (hr.mid hm0 (Or.inl (Nat.zero_le _))) HG.out
  rw [HF.out] at hP1
  with_reducible refine hP1.mono ?_
  rintro en w2 ⟨A1, c1, Al, nl, cl, rfl, ho1, hm2⟩
  clear hP1
  have hs1 : w.heap.size + 1 < w1.heap.size := b2.1
  have hs2 := hm2.size
  have ha2 := Mid.alloc w2 (.cells #[.int .i64 r, .int .i64 f, .slice A1 fs.length c1] 29)
  have Y1 := Box.new w2 #[.int .i64 r, .int .i64 f, .slice A1 fs.length c1] 29
  replace b2 := b2.mid hm2 (Or.inr (Nat.zero_le _))
  replace hm0 := hm0.trans hm2
  replace b2 := b2.mid ha2 (Or.inr (Nat.zero_le _))
  replace ho1 := ho1.mid ha2 (Or.inl (Nat.zero_le _))
  replace hm0 := hm0.trans ha2
  dsimp only
  go_wp2_with fail
  generalize w2.alloc (.cells #[.int .i64 r, .int .i64 f, .slice A1 fs.length c1] 29) = w3 at hm0 b2 ho1 Y1 ha2 ⊢
  have hP2 := spec_TrimGraph r f A1 fs c1 w3 _ _ (OG.rg ho1) HGF.out
  rw [HT.out] at hP2
  with_reducible refine hP2.mono ?_
  rintro en w4 ⟨A3, c3, Al3, nl3, cl3, rfl, ho3, hm4⟩
  clear hP2
  have hs3 := ha2.size
  have hs4 := hm4.size
  have ha4 := Mid.alloc w4 (.cells #[.int .i64 r, .int .i64 t, .slice A3 ts.length c3] 29)
  replace b2 := b2.mid hm4 (Or.inr (Nat.zero_le _))
  replace hm0 := hm0.trans hm4
  replace b2 := b2.mid ha4 (Or.inr (Nat.zero_le _))
  replace ho3 := ho3.mid ha4 (Or.inl (Nat.zero_le _))
  replace hm0 := hm0.trans ha4
  dsimp only
  go_wp2_with fail
  generalize w4.alloc (.cells #[.int .i64 r, .int .i64 t, .slice A3 ts.length c3] 29) = w5 at hm0 b2 ho3 ha4 ⊢
  have hP3 := spec_CanonicalGraph r t A3 ts c3 w5 _ _ (OG.rg ho3) HGT.out
  rw [HQ.out] at hP3
  with_reducible refine hP3.mono ?_
  rintro en w6 ⟨A5, c5, rfl, ho5, hm6⟩
  clear hP3
  have hs5 := ha4.size
  replace b2 := b2.mid hm6 (Or.inr (Nat.zero_le _))
  replace hm0 := hm0.trans hm6
  have z0 := b2.cell 0 rfl
  have z1 := b2.cell 1 rfl
  have z2 := b2.cell 2 rfl
  have zf := b2.2.2
  dsimp only at ho5
  dsimp only
  go_wp2_with fail
  refine bodyPost_ret (v := .agg #[.int .i64 r, .int .i64 q, .slice A5 qs.length c5]) (by simp [results, Tryz.results57, go_sem, z0, z1, z2, zf]) rfl ⟨A5, c5, rfl, ?_, ?_⟩
  · refine OG.wide (OG.mid ho5 (a := w.heap.size + 1) (b := w.heap.size + 2) ?_ (Or.inl (by omega))) (by omega) (by simp) (Nat.le_refl _)
    repeat (first | exact Mid.refl _ _ _ | refine Mid.stored ?_ _ (by simp; try omega) (by simp; try omega))
  · repeat (first | exact hm0 | refine Mid.storeNew ?_ (by simp; try omega) _)

set_option maxHeartbeats 1600000 in
set_option maxRecDepth 20000 in
theorem impl_CoreGraph (r n : Nat) (A : Option Addr) (es : List Ed) (c : Nat) (w : World) (lo hi : Nat) (hr : RG w lo hi A es) (hg : IsGr r n es) :
    Calls Tryz.prog 63 #[graV r n A es.length c] w fun e w' => ∃ A1 c1, e = .returned (graV r (coreA r ((n : Int), es)).1 A1 (coreA r ((n : Int), es)).2.length c1) ∧ OG w' w.heap.size w'.heap.size A1 c1 (coreA r ((n : Int), es)).2 ∧ Mid 0 0 w w' := by
  obtain ⟨f, fs, hF, hgf⟩ := nat_gr (foldA_gr 40 (g := ((n : Int), es)) hg)
  obtain ⟨t, ts, hT, hgt⟩ := nat_gr (trimA_gr 40 (g := ((f : Int), fs)) hgf)
  obtain ⟨q, qs, hQ, -⟩ := nat_gr (canonG_gr (g := ((t : Int), ts)) hgt)
  have hcore : coreA r ((n : Int), es) = ((q : Int), qs) := by rw [coreA, hF, hT, hQ]
  rw [hcore]
  have hm0 : Mid 0 0 w ((w.alloc (.cells #[.int .i64 r, .int .i64 n, .slice A es.length c] 29)).alloc (.cells #[.int .i64 0, .int .i64 0, .slice none 0 0] 29)) := (Mid.alloc _ _).trans (Mid.alloc _ _)
  have b2 := Box.new (w.alloc (.cells #[.int .i64 r, .int .i64 n, .slice A es.length c] 29)) #[.int .i64 0, .int .i64 0, .slice none 0 0] 29
  simp only [World.size_alloc] at b2
  have HG := Lib.hid hg
  have HGF := Lib.hid hgf
  have HGT := Lib.hid hgt
  have HF := Lib.hid hF
  have HT := Lib.hid hT
  have HQ := Lib.hid hQ
  clear hg hgf hgt hF hT hQ hcore
  go_enter Tryz.func63, Tryz.ntmps63
  go_wp2_with fail
  generalize ((w.alloc (.cells #[.int .i64 r, .int .i64 n, .slice A es.length c] 29)).alloc (.cells #[.int .i64 0, .int .i64 0, .slice none 0 0] 29)) = w1 at hm0 b2 ⊢
  have hP1 := impl_FoldAll r n A es c w1 _ _ (hr.mid hm0 (Or.inl (Nat.zero_le _))) HG.out
  rw [HF.out] at hP1
  with_reducible refine hP1.mono ?_
  rintro en w2 ⟨A1, c1, Al, nl, cl, rfl, ho1, hm2⟩
  clear hP1
  have hs1 : w.heap.size + 1 < w1.heap.size := b2.1
  have hs2 := hm2.size
  have ha2 := Mid.alloc w2 (.cells #[.int .i64 r, .int .i64 f, .slice A1 fs.length c1] 29)
  have Y1 := Box.new w2 #[.int .i64 r, .int .i64 f, .slice A1 fs.length c1] 29
  replace b2 := b2.mid hm2 (Or.inr (Nat.zero_le _))
  replace hm0 := hm0.trans hm2
  replace b2 := b2.mid ha2 (Or.inr (Nat.zero_le _))
  replace ho1 := ho1.mid ha2 (Or.inl (Nat.zero_le _))
  replace hm0 := hm0.trans ha2
  dsimp only
  go_wp2_with fail
  generalize w2.alloc (.cells #[.int .i64 r, .int .i64 f, .slice A1 fs.length c1] 29) = w3 at hm0 b2 ho1 Y1 ha2 ⊢
  have hP2 := impl_TrimGraph r f A1 fs c1 w3 _ _ (OG.rg ho1) HGF.out
  rw [HT.out] at hP2
  with_reducible refine hP2.mono ?_
  rintro en w4 ⟨A3, c3, Al3, nl3, cl3, rfl, ho3, hm4⟩
  clear hP2
  have hs3 := ha2.size
  have hs4 := hm4.size
  have ha4 := Mid.alloc w4 (.cells #[.int .i64 r, .int .i64 t, .slice A3 ts.length c3] 29)
  replace b2 := b2.mid hm4 (Or.inr (Nat.zero_le _))
  replace hm0 := hm0.trans hm4
  replace b2 := b2.mid ha4 (Or.inr (Nat.zero_le _))
  replace ho3 := ho3.mid ha4 (Or.inl (Nat.zero_le _))
  replace hm0 := hm0.trans ha4
  dsimp only
  go_wp2_with fail
  generalize w4.alloc (.cells #[.int .i64 r, .int .i64 t, .slice A3 ts.length c3] 29) = w5 at hm0 b2 ho3 ha4 ⊢
  have hP3 := impl_CanonicalGraph r t A3 ts c3 w5 _ _ (OG.rg ho3) (hcl_of ho3) HGT.out
  rw [HQ.out] at hP3
  with_reducible refine hP3.mono ?_
  rintro en w6 ⟨A5, c5, rfl, ho5, hm6⟩
  clear hP3
  have hs5 := ha4.size
  replace b2 := b2.mid hm6 (Or.inr (Nat.zero_le _))
  replace hm0 := hm0.trans hm6
  have z0 := b2.cell 0 rfl
  have z1 := b2.cell 1 rfl
  have z2 := b2.cell 2 rfl
  have zf := b2.2.2
  dsimp only at ho5
  dsimp only
  go_wp2_with fail
  refine bodyPost_ret (v := .agg #[.int .i64 r, .int .i64 q, .slice A5 qs.length c5]) (by simp [results, Tryz.results63, go_sem, z0, z1, z2, zf]) rfl ⟨A5, c5, rfl, ?_, ?_⟩
  · refine OG.wide (OG.mid ho5 (a := w.heap.size + 1) (b := w.heap.size + 2) ?_ (Or.inl (by omega))) (by omega) (by simp) (Nat.le_refl _)
    repeat (first | exact Mid.refl _ _ _ | refine Mid.stored ?_ _ (by simp; try omega) (by simp; try omega))
  · repeat (first | exact hm0 | refine Mid.storeNew ?_ (by simp; try omega) _)
end Go.Proofs.YtimmnnncgnnkgaaGreat

/- IntersectionOf, both sides. -/
namespace Go.Proofs.YtimmnnncgnnkgaaGreat
set_option linter.unusedVariables false
set_option linter.unusedSimpArgs false
open Go.RowKit

def IntOk (r s : Int) (es : List Ed) (r' s' : Int) (es' : List Ed) : Prop := IsCor r s es ∧ IsCor r' s' es' ∧ PullOk r s es r' s' es' 0 0
def pullG (r : Int) (es es' : List Ed) : Int × List Ed := (((pairsOf es es' (lets r.toNat) (0, 0)).length : Int), pullE r es es' 0 0)
def IntIs (r s : Int) (es : List Ed) (r' s' : Int) (es' : List Ed) (rr rs : Int) (res : List Ed) (b : Bool) : Prop :=
  (b = true ∧ IntOk r s es r' s' es' ∧ rr = r ∧ rs = (coreA r (pullG r es es')).1 ∧ res = (coreA r (pullG r es es')).2) ∨ (b = false ∧ ¬ IntOk r s es r' s' es' ∧ rr = 0 ∧ rs = 0 ∧ res = [])
theorem IntIs_ex (r s : Int) (es : List Ed) (r' s' : Int) (es' : List Ed) : ∃ rr rs res b, IntIs r s es r' s' es' rr rs res b := by
  by_cases h : IntOk r s es r' s' es'
  · exact ⟨_, _, _, _, .inl ⟨rfl, h, rfl, rfl, rfl⟩⟩
  · exact ⟨_, _, _, _, .inr ⟨rfl, h, rfl, rfl, rfl⟩⟩
theorem IntIs.no {r s : Int} {es : List Ed} {r' s' : Int} {es' : List Ed} {rr rs : Int} {res : List Ed} {b : Bool} (h : IntIs r s es r' s' es' rr rs res b) (hn : ¬ IntOk r s es r' s' es') : b = false ∧ rr = 0 ∧ rs = 0 ∧ res = [] := by
  rcases h with ⟨-, h, -⟩ | ⟨h1, -, h2⟩
  · exact absurd h hn
  · exact ⟨h1, h2⟩
theorem IntIs.yes {r s : Int} {es : List Ed} {r' s' : Int} {es' : List Ed} {rr rs : Int} {res : List Ed} {b : Bool} (h : IntIs r s es r' s' es' rr rs res b) (hn : IntOk r s es r' s' es') : b = true ∧ r = rr ∧ rs = (coreA r (pullG r es es')).1 ∧ res = (coreA r (pullG r es es')).2 := by
  rcases h with ⟨h1, -, h2, h3⟩ | ⟨-, h, -⟩
  · exact ⟨h1, h2.symm, h3⟩
  · exact absurd hn h
theorem pullG_gr {r s : Int} {es : List Ed} {r' s' : Int} {es' : List Ed} (h : PullOk r s es r' s' es' 0 0) : IsGr r (pullG r es es').1 (pullG r es es').2 := by
  unfold pullG
  dsimp only
  exact pull_gr h
theorem IntIs.lens {r s : Int} {es : List Ed} {r' s' : Int} {es' : List Ed} {rr rs : Int} {res : List Ed} {b : Bool} (h : IntIs r s es r' s' es' rr rs res b) : res.length ≤ 120 := by
  rcases h with ⟨-, h, -, -, e⟩ | ⟨-, -, -, -, e⟩
  · rw [e]
    exact (coreA_gr (pullG_gr h.2.2)).len
  · rw [e]
    simp

set_option maxHeartbeats 3200000 in
set_option maxRecDepth 20000 in
theorem spec_IntersectionOf (r s : Int) (A : Option Addr) (es : List Ed) (c : Nat) (r' s' : Int) (B : Option Addr) (es' : List Ed) (d : Nat) (w : World) (lo hi lo2 hi2 : Nat) (hr : RG w lo hi A es) (hr2 : RG w lo2 hi2 B es') (hl : es.length ≤ 1048576) (hl2 : es'.length ≤ 1048576) (rr rs : Int) (res : List Ed) (b : Bool) (hres : IntIs r s es r' s' es' rr rs res b) :
    Calls Tryz.prog 35 #[graV r s A es.length c, graV r' s' B es'.length d] w fun e w' => ∃ A1 c1, e = .returned (.tuple #[graV rr rs A1 res.length c1, .bool b]) ∧ OG w' w.heap.size w'.heap.size A1 c1 res ∧ Mid 0 0 w w' := by
  have hm0 : Mid 0 0 w (((w.alloc (.cells #[.int .i64 r, .int .i64 s, .slice A es.length c] 29)).alloc (.cells #[.int .i64 r', .int .i64 s', .slice B es'.length d] 29)).alloc (.cells #[.int .i64 0, .int .i64 0, .slice none 0 0] 29)) := ((Mid.alloc _ _).trans (Mid.alloc _ _)).trans (Mid.alloc _ _)
  have B0 := ((Box.new w #[.int .i64 r, .int .i64 s, .slice A es.length c] 29).mid (Mid.alloc _ (.cells #[.int .i64 r', .int .i64 s', .slice B es'.length d] 29)) (Or.inr (Nat.zero_le _))).mid (Mid.alloc _ (.cells #[.int .i64 0, .int .i64 0, .slice none 0 0] 29)) (Or.inr (Nat.zero_le _))
  have B1 := (Box.new (w.alloc (.cells #[.int .i64 r, .int .i64 s, .slice A es.length c] 29)) #[.int .i64 r', .int .i64 s', .slice B es'.length d] 29).mid (Mid.alloc _ (.cells #[.int .i64 0, .int .i64 0, .slice none 0 0] 29)) (Or.inr (Nat.zero_le _))
  have B2 := Box.new ((w.alloc (.cells #[.int .i64 r, .int .i64 s, .slice A es.length c] 29)).alloc (.cells #[.int .i64 r', .int .i64 s', .slice B es'.length d] 29)) #[.int .i64 0, .int .i64 0, .slice none 0 0] 29
  simp only [World.size_alloc] at B1 B2
  have HR := Lib.hid hres
  clear hres
  go_enter Tryz.func35, Tryz.ntmps35
  go_wp2_with fail
  generalize ((w.alloc (.cells #[.int .i64 r, .int .i64 s, .slice A es.length c] 29)).alloc (.cells #[.int .i64 r', .int .i64 s', .slice B es'.length d] 29)).alloc (.cells #[.int .i64 0, .int .i64 0, .slice none 0 0] 29) = w1 at hm0 B0 B1 B2 ⊢
  have hs1 : w.heap.size + 1 + 1 < w1.heap.size := B2.1
  obtain ⟨b1, hb1⟩ := bool_of (IsCor r s es)
  have H1 := Lib.hid hb1
  obtain ⟨b2, hb2⟩ := bool_of (IsCor r' s' es')
  have H2 := Lib.hid hb2
  clear hb1 hb2
  with_reducible refine (spec_IsSubgroup r s A es c _ _ _ (hr.mid hm0 (Or.inl (Nat.zero_le _))) hl b1 H1.out).mono ?_
  rintro en w2 ⟨rfl, hm2⟩
  replace B0 := B0.mid hm2 (Or.inr (Nat.zero_le _))
  replace B1 := B1.mid hm2 (Or.inr (Nat.zero_le _))
  replace B2 := B2.mid hm2 (Or.inr (Nat.zero_le _))
  replace hm0 := hm0.trans hm2
  have hs2 := hm2.size
  have p0 := B0.cell 0 rfl
  have p1 := B0.cell 1 rfl
  have p2 := B0.cell 2 rfl
  have k0 := B1.cell 0 rfl
  have k1 := B1.cell 1 rfl
  have k2 := B1.cell 2 rfl
  cases b1 with
  | false =>
    have hno : ¬ IntOk r s es r' s' es' := fun h => by have := H1.out.2 h.1; cases this
    obtain ⟨rfl, rfl, rfl, rfl⟩ := HR.out.no hno
    have z0 := B2.cell 0 rfl
    have z1 := B2.cell 1 rfl
    have z2 := B2.cell 2 rfl
    have zf := B2.2.2
    clear p0 p1 p2 k0 k1 k2
    go_wp2_with fail
    refine bodyPost_ret (v := .tuple #[.agg #[.int .i64 0, .int .i64 0, .slice none 0 0], .bool false]) (by simp [results, Tryz.results35, go_sem, z0, z1, z2, zf]) rfl ⟨none, 0, rfl, OG.nil, ?_⟩
    repeat (first | exact hm0 | refine Mid.trans ?_ (Mid.alloc _ _) | refine Mid.storeNew ?_ (by simp; try omega) _)
  | true =>
  have C1 := Lib.hid (H1.out.1 rfl)
  clear H1
  go_wp2_with fail
  with_reducible refine (spec_IsSubgroup r' s' B es' d _ _ _ (hr2.mid hm0 (Or.inl (Nat.zero_le _))) hl2 b2 H2.out).mono ?_
  rintro en w3 ⟨rfl, hm3⟩
  replace B0 := B0.mid hm3 (Or.inr (Nat.zero_le _))
  replace B1 := B1.mid hm3 (Or.inr (Nat.zero_le _))
  replace B2 := B2.mid hm3 (Or.inr (Nat.zero_le _))
  replace hm0 := hm0.trans hm3
  have hs3 := hm3.size
  clear p0 p1 p2 k0 k1 k2
  have p0 := B0.cell 0 rfl
  have p1 := B0.cell 1 rfl
  have p2 := B0.cell 2 rfl
  have k0 := B1.cell 0 rfl
  have k1 := B1.cell 1 rfl
  have k2 := B1.cell 2 rfl
  cases b2 with
  | false =>
    have hno : ¬ IntOk r s es r' s' es' := fun h => by have := H2.out.2 h.2.1; cases this
    obtain ⟨rfl, rfl, rfl, rfl⟩ := HR.out.no hno
    have z0 := B2.cell 0 rfl
    have z1 := B2.cell 1 rfl
    have z2 := B2.cell 2 rfl
    have zf := B2.2.2
    clear p0 p1 p2 k0 k1 k2
    go_wp2_with fail
    refine bodyPost_ret (v := .tuple #[.agg #[.int .i64 0, .int .i64 0, .slice none 0 0], .bool false]) (by simp [results, Tryz.results35, go_sem, z0, z1, z2, zf]) rfl ⟨none, 0, rfl, OG.nil, ?_⟩
    repeat (first | exact hm0 | refine Mid.trans ?_ (Mid.alloc _ _) | refine Mid.storeNew ?_ (by simp; try omega) _)
  | true =>
  have C2 := Lib.hid (H2.out.1 rfl)
  clear H2
  by_cases hp : PullOk r s es r' s' es' 0 0
  · obtain ⟨hb, hrr, hrs, hre⟩ := HR.out.yes ⟨C1.out, C2.out, hp⟩
    have hgp := pull_gr hp
    have hPI : PullIs r s es r' s' es' 0 0 r ((pairsOf es es' (lets r.toNat) (0, 0)).length : Int) (pullE r es es' 0 0) true := .inl ⟨rfl, hp, rfl, rfl, rfl⟩
    unfold pullG at hrs hre
    obtain ⟨n, hn⟩ : ∃ n : Nat, (pairsOf es es' (lets r.toNat) (0, 0)).length = n := ⟨_, rfl⟩
    obtain ⟨ms, hms⟩ : ∃ ms, pullE r es es' 0 0 = ms := ⟨_, rfl⟩
    rw [hn, hms] at hgp hPI hrs hre
    have HPI := Lib.hid hPI
    have HGP := Lib.hid hgp
    obtain ⟨rn, rfl⟩ : ∃ rn : Nat, r = rn := ⟨r.toNat, by have := hgp.rank; omega⟩
    obtain ⟨q, qs, hQ, -⟩ := nat_gr (coreA_gr (g := ((n : Int), ms)) hgp)
    have hP := fun W lo hi A c h => spec_CoreGraph rn n A ms c W lo hi h HGP.out
    have hml := hgp.len
    rw [hQ] at hP hrs hre
    dsimp only at hP hrs hre
    have HP := Lib.hid hP
    have HALL := Lib.hid (And.intro hb (And.intro hrr (And.intro hrs hre)))
    clear hP hQ hb hrr hrs hre hp hgp hn hms hPI HR
    go_wp2_with fail
    with_reducible refine (spec_PullbackAt rn s A es c r' s' B es' d 0 0 _ _ _ _ _ (hr.mid hm0 (Or.inl (Nat.zero_le _))) (hr2.mid hm0 (Or.inl (Nat.zero_le _))) hl hl2 rn n ms true HPI.out).mono ?_
    rintro en w4 ⟨A4, c4, rfl, ho4, hm4⟩
    have hs4 := hm4.size
    have ha4 := Mid.alloc w4 (.cells #[.int .i64 rn, .int .i64 n, .slice A4 ms.length c4] 29)
    have Y4 := Box.new w4 #[.int .i64 rn, .int .i64 n, .slice A4 ms.length c4] 29
    replace B2 := B2.mid hm4 (Or.inr (Nat.zero_le _))
    replace hm0 := hm0.trans hm4
    replace B2 := B2.mid ha4 (Or.inr (Nat.zero_le _))
    replace ho4 := ho4.mid ha4 (Or.inl (Nat.zero_le _))
    replace hm0 := hm0.trans ha4
    clear p0 p1 p2 k0 k1 k2
    have y0 := Y4.cell 0 rfl
    have y1 := Y4.cell 1 rfl
    have y2 := Y4.cell 2 rfl
    go_wp2_with fail
    with_reducible refine (HP.out _ _ _ _ _ (OG.rg ho4)).mono ?_
    rintro en w5 ⟨A5, c5, rfl, ho5, hm5⟩
    clear HP y0 y1 y2
    have hs5 := hm5.size
    replace B2 := B2.mid hm5 (Or.inr (Nat.zero_le _))
    replace hm0 := hm0.trans hm5
    have hb5 := B2.1
    have z0 := B2.cell 0 rfl
    have z1 := B2.cell 1 rfl
    have z2 := B2.cell 2 rfl
    have zf := B2.2.2
    go_wp2_with fail
    refine bodyPost_ret (v := .tuple #[.agg #[.int .i64 rn, .int .i64 q, .slice A5 qs.length c5], .bool true]) (by simp [results, Tryz.results35, go_sem, z0, z1, z2, zf]) rfl ⟨A5, c5, by rw [HALL.out.1, ← HALL.out.2.1, HALL.out.2.2.1, HALL.out.2.2.2], ?_, ?_⟩
    · rw [HALL.out.2.2.2]
      refine OG.wide (OG.mid ho5 (a := w.heap.size + 2) (b := w.heap.size + 3) ?_ (Or.inl (by simp; omega))) (by simp; omega) (by simp) (Nat.le_refl _)
      repeat (first | exact Mid.refl _ _ _ | refine Mid.stored ?_ _ (by simp; try omega) (by simp; try omega))
    · repeat (first | exact hm0 | refine Mid.storeNew ?_ (by simp; try omega) _)
  · have hno : ¬ IntOk r s es r' s' es' := fun h => hp h.2.2
    obtain ⟨rfl, rfl, rfl, rfl⟩ := HR.out.no hno
    have HPI : Hid (PullIs r s es r' s' es' 0 0 0 0 [] false) := Lib.hid (.inr ⟨rfl, hp, rfl, rfl, rfl⟩)
    clear hno hp HR
    go_wp2_with fail
    with_reducible refine (spec_PullbackAt r s A es c r' s' B es' d 0 0 _ _ _ _ _ (hr.mid hm0 (Or.inl (Nat.zero_le _))) (hr2.mid hm0 (Or.inl (Nat.zero_le _))) hl hl2 0 0 [] false HPI.out).mono ?_
    rintro en w4 ⟨A4, c4, rfl, ho4, hm4⟩
    replace B2 := B2.mid hm4 (Or.inr (Nat.zero_le _))
    replace hm0 := hm0.trans hm4
    have hb22 : w.heap.size + 1 + 1 < w4.heap.size := B2.1
    have z0 := B2.cell 0 rfl
    have z1 := B2.cell 1 rfl
    have z2 := B2.cell 2 rfl
    have zf := B2.2.2
    clear p0 p1 p2 k0 k1 k2
    go_wp2_with fail
    refine bodyPost_ret (v := .tuple #[.agg #[.int .i64 0, .int .i64 0, .slice none 0 0], .bool false]) (by simp [results, Tryz.results35, go_sem, z0, z1, z2, zf, hb22, World.cell?_alloc_lt]) rfl ⟨none, 0, rfl, OG.nil, ?_⟩
    repeat (first | exact hm0 | refine Mid.trans ?_ (Mid.alloc _ _) | refine Mid.storeNew ?_ (by simp; try omega) _)

set_option maxHeartbeats 3200000 in
set_option maxRecDepth 20000 in
theorem impl_IntersectionOf (r s : Int) (A : Option Addr) (es : List Ed) (c : Nat) (r' s' : Int) (B : Option Addr) (es' : List Ed) (d : Nat) (w : World) (lo hi lo2 hi2 : Nat) (hr : RG w lo hi A es) (hr2 : RG w lo2 hi2 B es') (hl : es.length ≤ 1048576) (hl2 : es'.length ≤ 1048576) (hcl : es.length ≤ c) (hcl2 : es'.length ≤ d) (rr rs : Int) (res : List Ed) (b : Bool) (hres : IntIs r s es r' s' es' rr rs res b) :
    Calls Tryz.prog 36 #[graV r s A es.length c, graV r' s' B es'.length d] w fun e w' => ∃ A1 c1, e = .returned (.tuple #[graV rr rs A1 res.length c1, .bool b]) ∧ OG w' w.heap.size w'.heap.size A1 c1 res ∧ Mid 0 0 w w' := by
  have hm0 : Mid 0 0 w (((w.alloc (.cells #[.int .i64 r, .int .i64 s, .slice A es.length c] 29)).alloc (.cells #[.int .i64 r', .int .i64 s', .slice B es'.length d] 29)).alloc (.cells #[.int .i64 0, .int .i64 0, .slice none 0 0] 29)) := ((Mid.alloc _ _).trans (Mid.alloc _ _)).trans (Mid.alloc _ _)
  have B0 := ((Box.new w #[.int .i64 r, .int .i64 s, .slice A es.length c] 29).mid (Mid.alloc _ (.cells #[.int .i64 r', .int .i64 s', .slice B es'.length d] 29)) (Or.inr (Nat.zero_le _))).mid (Mid.alloc _ (.cells #[.int .i64 0, .int .i64 0, .slice none 0 0] 29)) (Or.inr (Nat.zero_le _))
  have B1 := (Box.new (w.alloc (.cells #[.int .i64 r, .int .i64 s, .slice A es.length c] 29)) #[.int .i64 r', .int .i64 s', .slice B es'.length d] 29).mid (Mid.alloc _ (.cells #[.int .i64 0, .int .i64 0, .slice none 0 0] 29)) (Or.inr (Nat.zero_le _))
  have B2 := Box.new ((w.alloc (.cells #[.int .i64 r, .int .i64 s, .slice A es.length c] 29)).alloc (.cells #[.int .i64 r', .int .i64 s', .slice B es'.length d] 29)) #[.int .i64 0, .int .i64 0, .slice none 0 0] 29
  simp only [World.size_alloc] at B1 B2
  have HR := Lib.hid hres
  clear hres
  go_enter Tryz.func36, Tryz.ntmps36
  go_wp2_with fail
  generalize ((w.alloc (.cells #[.int .i64 r, .int .i64 s, .slice A es.length c] 29)).alloc (.cells #[.int .i64 r', .int .i64 s', .slice B es'.length d] 29)).alloc (.cells #[.int .i64 0, .int .i64 0, .slice none 0 0] 29) = w1 at hm0 B0 B1 B2 ⊢
  have hs1 : w.heap.size + 1 + 1 < w1.heap.size := B2.1
  obtain ⟨b1, hb1⟩ := bool_of (IsCor r s es)
  have H1 := Lib.hid hb1
  obtain ⟨b2, hb2⟩ := bool_of (IsCor r' s' es')
  have H2 := Lib.hid hb2
  clear hb1 hb2
  with_reducible refine (impl_IsCore r s A es c _ _ _ (hr.mid hm0 (Or.inl (Nat.zero_le _))) hl hcl b1 H1.out).mono ?_
  rintro en w2 ⟨rfl, hm2⟩
  replace B0 := B0.mid hm2 (Or.inr (Nat.zero_le _))
  replace B1 := B1.mid hm2 (Or.inr (Nat.zero_le _))
  replace B2 := B2.mid hm2 (Or.inr (Nat.zero_le _))
  replace hm0 := hm0.trans hm2
  have hs2 := hm2.size
  have p0 := B0.cell 0 rfl
  have p1 := B0.cell 1 rfl
  have p2 := B0.cell 2 rfl
  have k0 := B1.cell 0 rfl
  have k1 := B1.cell 1 rfl
  have k2 := B1.cell 2 rfl
  cases b1 with
  | false =>
    have hno : ¬ IntOk r s es r' s' es' := fun h => by have := H1.out.2 h.1; cases this
    obtain ⟨rfl, rfl, rfl, rfl⟩ := HR.out.no hno
    have z0 := B2.cell 0 rfl
    have z1 := B2.cell 1 rfl
    have z2 := B2.cell 2 rfl
    have zf := B2.2.2
    clear p0 p1 p2 k0 k1 k2
    go_wp2_with fail
    refine bodyPost_ret (v := .tuple #[.agg #[.int .i64 0, .int .i64 0, .slice none 0 0], .bool false]) (by simp [results, Tryz.results36, go_sem, z0, z1, z2, zf]) rfl ⟨none, 0, rfl, OG.nil, ?_⟩
    repeat (first | exact hm0 | refine Mid.trans ?_ (Mid.alloc _ _) | refine Mid.storeNew ?_ (by simp; try omega) _)
  | true =>
  have C1 := Lib.hid (H1.out.1 rfl)
  clear H1
  go_wp2_with fail
  with_reducible refine (impl_IsCore r' s' B es' d _ _ _ (hr2.mid hm0 (Or.inl (Nat.zero_le _))) hl2 hcl2 b2 H2.out).mono ?_
  rintro en w3 ⟨rfl, hm3⟩
  replace B0 := B0.mid hm3 (Or.inr (Nat.zero_le _))
  replace B1 := B1.mid hm3 (Or.inr (Nat.zero_le _))
  replace B2 := B2.mid hm3 (Or.inr (Nat.zero_le _))
  replace hm0 := hm0.trans hm3
  have hs3 := hm3.size
  clear p0 p1 p2 k0 k1 k2
  have p0 := B0.cell 0 rfl
  have p1 := B0.cell 1 rfl
  have p2 := B0.cell 2 rfl
  have k0 := B1.cell 0 rfl
  have k1 := B1.cell 1 rfl
  have k2 := B1.cell 2 rfl
  cases b2 with
  | false =>
    have hno : ¬ IntOk r s es r' s' es' := fun h => by have := H2.out.2 h.2.1; cases this
    obtain ⟨rfl, rfl, rfl, rfl⟩ := HR.out.no hno
    have z0 := B2.cell 0 rfl
    have z1 := B2.cell 1 rfl
    have z2 := B2.cell 2 rfl
    have zf := B2.2.2
    clear p0 p1 p2 k0 k1 k2
    go_wp2_with fail
    refine bodyPost_ret (v := .tuple #[.agg #[.int .i64 0, .int .i64 0, .slice none 0 0], .bool false]) (by simp [results, Tryz.results36, go_sem, z0, z1, z2, zf]) rfl ⟨none, 0, rfl, OG.nil, ?_⟩
    repeat (first | exact hm0 | refine Mid.trans ?_ (Mid.alloc _ _) | refine Mid.storeNew ?_ (by simp; try omega) _)
  | true =>
  have C2 := Lib.hid (H2.out.1 rfl)
  clear H2
  by_cases hp : PullOk r s es r' s' es' 0 0
  · obtain ⟨hb, hrr, hrs, hre⟩ := HR.out.yes ⟨C1.out, C2.out, hp⟩
    have hgp := pull_gr hp
    have hPI : PullIs r s es r' s' es' 0 0 r ((pairsOf es es' (lets r.toNat) (0, 0)).length : Int) (pullE r es es' 0 0) true := .inl ⟨rfl, hp, rfl, rfl, rfl⟩
    unfold pullG at hrs hre
    obtain ⟨n, hn⟩ : ∃ n : Nat, (pairsOf es es' (lets r.toNat) (0, 0)).length = n := ⟨_, rfl⟩
    obtain ⟨ms, hms⟩ : ∃ ms, pullE r es es' 0 0 = ms := ⟨_, rfl⟩
    rw [hn, hms] at hgp hPI hrs hre
    have HPI := Lib.hid hPI
    have HGP := Lib.hid hgp
    obtain ⟨rn, rfl⟩ : ∃ rn : Nat, r = rn := ⟨r.toNat, by have := hgp.rank; omega⟩
    obtain ⟨q, qs, hQ, -⟩ := nat_gr (coreA_gr (g := ((n : Int), ms)) hgp)
    have hP := fun W lo hi A c h => impl_CoreGraph rn n A ms c W lo hi h HGP.out
    have hml := hgp.len
    rw [hQ] at hP hrs hre
    dsimp only at hP hrs hre
    have HP := Lib.hid hP
    have HALL := Lib.hid (And.intro hb (And.intro hrr (And.intro hrs hre)))
    clear hP hQ hb hrr hrs hre hp hgp hn hms hPI HR
    go_wp2_with fail
    with_reducible refine (impl_PullbackAt rn s A es c r' s' B es' d 0 0 _ _ _ _ _ (hr.mid hm0 (Or.inl (Nat.zero_le _))) (hr2.mid hm0 (Or.inl (Nat.zero_le _))) hl hl2 hcl hcl2 rn n ms true HPI.out).mono ?_
    rintro en w4 ⟨A4, c4, rfl, ho4, hm4⟩
    have hs4 := hm4.size
    have ha4 := Mid.alloc w4 (.cells #[.int .i64 rn, .int .i64 n, .slice A4 ms.length c4] 29)
    have Y4 := Box.new w4 #[.int .i64 rn, .int .i64 n, .slice A4 ms.length c4] 29
    replace B2 := B2.mid hm4 (Or.inr (Nat.zero_le _))
    replace hm0 := hm0.trans hm4
    replace B2 := B2.mid ha4 (Or.inr (Nat.zero_le _))
    replace ho4 := ho4.mid ha4 (Or.inl (Nat.zero_le _))
    replace hm0 := hm0.trans ha4
    clear p0 p1 p2 k0 k1 k2
    have y0 := Y4.cell 0 rfl
    have y1 := Y4.cell 1 rfl
    have y2 := Y4.cell 2 rfl
    go_wp2_with fail
    with_reducible refine (HP.out _ _ _ _ _ (OG.rg ho4)).mono ?_
    rintro en w5 ⟨A5, c5, rfl, ho5, hm5⟩
    clear HP y0 y1 y2
    have hs5 := hm5.size
    replace B2 := B2.mid hm5 (Or.inr (Nat.zero_le _))
    replace hm0 := hm0.trans hm5
    have hb5 := B2.1
    have z0 := B2.cell 0 rfl
    have z1 := B2.cell 1 rfl
    have z2 := B2.cell 2 rfl
    have zf := B2.2.2
    go_wp2_with fail
    refine bodyPost_ret (v := .tuple #[.agg #[.int .i64 rn, .int .i64 q, .slice A5 qs.length c5], .bool true]) (by simp [results, Tryz.results36, go_sem, z0, z1, z2, zf]) rfl ⟨A5, c5, by rw [HALL.out.1, ← HALL.out.2.1, HALL.out.2.2.1, HALL.out.2.2.2], ?_, ?_⟩
    · rw [HALL.out.2.2.2]
      refine OG.wide (OG.mid ho5 (a := w.heap.size + 2) (b := w.heap.size + 3) ?_ (Or.inl (by simp; omega))) (by simp; omega) (by simp) (Nat.le_refl _)
      repeat (first | exact Mid.refl _ _ _ | refine Mid.stored ?_ _ (by simp; try omega) (by simp; try omega))
    · repeat (first | exact hm0 | refine Mid.storeNew ?_ (by simp; try omega) _)
  · have hno : ¬ IntOk r s es r' s' es' := fun h => hp h.2.2
    obtain ⟨rfl, rfl, rfl, rfl⟩ := HR.out.no hno
    have HPI : Hid (PullIs r s es r' s' es' 0 0 0 0 [] false) := Lib.hid (.inr ⟨rfl, hp, rfl, rfl, rfl⟩)
    clear hno hp HR
    go_wp2_with fail
    with_reducible refine (impl_PullbackAt r s A es c r' s' B es' d 0 0 _ _ _ _ _ (hr.mid hm0 (Or.inl (Nat.zero_le _))) (hr2.mid hm0 (Or.inl (Nat.zero_le _))) hl hl2 hcl hcl2 0 0 [] false HPI.out).mono ?_
    rintro en w4 ⟨A4, c4, rfl, ho4, hm4⟩
    replace B2 := B2.mid hm4 (Or.inr (Nat.zero_le _))
    replace hm0 := hm0.trans hm4
    have hb22 : w.heap.size + 1 + 1 < w4.heap.size := B2.1
    have z0 := B2.cell 0 rfl
    have z1 := B2.cell 1 rfl
    have z2 := B2.cell 2 rfl
    have zf := B2.2.2
    clear p0 p1 p2 k0 k1 k2
    go_wp2_with fail
    refine bodyPost_ret (v := .tuple #[.agg #[.int .i64 0, .int .i64 0, .slice none 0 0], .bool false]) (by simp [results, Tryz.results36, go_sem, z0, z1, z2, zf, hb22, World.cell?_alloc_lt]) rfl ⟨none, 0, rfl, OG.nil, ?_⟩
    repeat (first | exact hm0 | refine Mid.trans ?_ (Mid.alloc _ _) | refine Mid.storeNew ?_ (by simp; try omega) _)
end Go.Proofs.YtimmnnncgnnkgaaGreat

/- The law on IntersectionOf: its data. -/
namespace Go.Proofs.YtimmnnncgnnkgaaGreat
set_option linter.unusedVariables false
open Go.RowKit
def IntersectionOfIs (r0 s0 : Int) (d0 : List Ed) (r1 s1 : Int) (d1 : List Ed) (rr0 rs0 : Int) (res0 : List Ed) (res1 : Bool) : Prop := IntIs r0 s0 d0 r1 s1 d1 rr0 rs0 res0 res1
theorem IntersectionOfIs_ex (r0 s0 : Int) (d0 : List Ed) (r1 s1 : Int) (d1 : List Ed) (hl0 : d0.length ≤ 1048576) (hl1 : d1.length ≤ 1048576) : ∃ rr0 rs0 res0 res1, IntersectionOfIs r0 s0 d0 r1 s1 d1 rr0 rs0 res0 res1 := IntIs_ex r0 s0 d0 r1 s1 d1
theorem IntersectionOfIs_len {r0 s0 : Int} {d0 : List Ed} {r1 s1 : Int} {d1 : List Ed} {rr0 rs0 : Int} {res0 : List Ed} {res1 : Bool} (h : IntersectionOfIs r0 s0 d0 r1 s1 d1 rr0 rs0 res0 res1) (hl0 : d0.length ≤ 1048576) (hl1 : d1.length ≤ 1048576) : res0.length ≤ 1048576 := by
  have := IntIs.lens h
  omega
theorem sspec_IntersectionOf (r0 s0 : Int) (A0 : Option Addr) (d0 : List Ed) (c0 : Nat) (r1 s1 : Int) (A1 : Option Addr) (d1 : List Ed) (c1 : Nat) (w : World) (lo0 hi0 : Nat) (h0 : OG w lo0 hi0 A0 c0 d0) (hl0 : d0.length ≤ 1048576) (lo1 hi1 : Nat) (h1 : OG w lo1 hi1 A1 c1 d1) (hl1 : d1.length ≤ 1048576) (rr0 rs0 : Int) (res0 : List Ed) (res1 : Bool) (h : IntersectionOfIs r0 s0 d0 r1 s1 d1 rr0 rs0 res0 res1) :
    Calls Tryz.prog 35 #[.agg #[.int .i64 r0, .int .i64 s0, .slice A0 d0.length c0], .agg #[.int .i64 r1, .int .i64 s1, .slice A1 d1.length c1]] w fun e w' => ∃ (A : Option Addr) (c : Nat), e = .returned (.tuple #[.agg #[.int .i64 rr0, .int .i64 rs0, .slice A res0.length c], .bool res1]) ∧ OG w' w.heap.size w'.heap.size A c res0 ∧ Mid 0 0 w w' :=
  spec_IntersectionOf r0 s0 A0 d0 c0 r1 s1 A1 d1 c1 w lo0 hi0 lo1 hi1 h0.rg h1.rg hl0 hl1 rr0 rs0 res0 res1 h
theorem simpl_IntersectionOf (r0 s0 : Int) (A0 : Option Addr) (d0 : List Ed) (c0 : Nat) (r1 s1 : Int) (A1 : Option Addr) (d1 : List Ed) (c1 : Nat) (w : World) (lo0 hi0 : Nat) (h0 : OG w lo0 hi0 A0 c0 d0) (hl0 : d0.length ≤ 1048576) (lo1 hi1 : Nat) (h1 : OG w lo1 hi1 A1 c1 d1) (hl1 : d1.length ≤ 1048576) (rr0 rs0 : Int) (res0 : List Ed) (res1 : Bool) (h : IntersectionOfIs r0 s0 d0 r1 s1 d1 rr0 rs0 res0 res1) :
    Calls Tryz.prog 36 #[.agg #[.int .i64 r0, .int .i64 s0, .slice A0 d0.length c0], .agg #[.int .i64 r1, .int .i64 s1, .slice A1 d1.length c1]] w fun e w' => ∃ (A : Option Addr) (c : Nat), e = .returned (.tuple #[.agg #[.int .i64 rr0, .int .i64 rs0, .slice A res0.length c], .bool res1]) ∧ OG w' w.heap.size w'.heap.size A c res0 ∧ Mid 0 0 w w' :=
  impl_IntersectionOf r0 s0 A0 d0 c0 r1 s1 A1 d1 c1 w lo0 hi0 lo1 hi1 h0.rg h1.rg hl0 hl1 h0.cnt.1 h1.cnt.1 rr0 rs0 res0 res1 h
end Go.Proofs.YtimmnnncgnnkgaaGreat

/- Opening of a morphism that came in. -/
namespace Go.Proofs.YtimmnnncgnnkgaaGreat
set_option linter.unusedVariables false
open Go.ChangeShapes Go.WideShapes Go.ChangeAt Go.RowKit
open Go.Joins
theorem cellsSI : Tryz.prog.cellsOf 25 = 1 := by kernel_rfl
set_option maxRecDepth 100000 in
theorem open_morph {H : Type} {enc : TypeId × Value → H} {W : World} {r : Reach} {base : Nat} {v : Value} {d : DataW H} {ps : List MemPlace}
    (hok : Value.okWide Tryz.prog W r base 41 v) (h : DataW.Trod enc Tryz.prog W 0 (fun _ => true) true 41 v d ps) :
    ∃ m A xss c, v = .agg #[.int .i64 m, .slice A (List.length xss) c] ∧ (Lit.int .i64 m).wf = true ∧ RSS W 0 W.heap.size A xss ∧ OkSS xss := by
  obtain ⟨v0, v1, y0, y1, n, rfl, -, -, h0, h1⟩ := open_agg2 Tryz.underlying41 (by kernel_rfl) (by kernel_rfl) hok h
  have h0' : DataW.trod enc Tryz.prog W 0 (fun _ => true) true n 3 [v0] = some y0 := h0
  have h1' : DataW.trod enc Tryz.prog W 0 (fun _ => true) true n 39 [v1] = some y1 := h1
  clear h0 h1
  obtain ⟨m, hm, -, hw⟩ := DataW.trod_int undI h0'
  obtain ⟨A, l, c, hs⟩ := slice_form undSSI h1'
  simp at hm hs
  subst hm hs
  obtain ⟨xss, rfl, ha, hb⟩ := rss_of_cells undSSI undSI undI cellsSI cellsI h1'
  exact ⟨m, A, xss, c, rfl, hw, ha, hb⟩
end Go.Proofs.YtimmnnncgnnkgaaGreat

/- Opening of a graph that came in: its edges read as a list. -/
namespace Go.Proofs.YtimmnnncgnnkgaaGreat
set_option linter.unusedVariables false
set_option linter.unusedSimpArgs false
open Go.ChangeShapes Go.WideShapes Go.ChangeAt Go.RowKit
open Go.Joins Go.Deep

abbrev tEL : TypeId := 80
theorem cellsEL : Tryz.prog.cellsOf 80 = 3 := by kernel_rfl
theorem undSEL : Tryz.prog.underlying 22 = some (.slice 80) := by kernel_rfl
theorem fields3 {H : Type} {enc : TypeId × Value → H} {P : Program} {w : World} {base : Nat} {spare : Nat → Bool} {held : Bool} {t : TypeId} {fs : Array Field} {fuel : Nat} {cs : List Value} {x : DataW H × List MemPlace}
    (ht : P.underlying t = some (.struct fs)) (hone : oneCellFields P fs = true) (h : DataW.trod enc P w base spare held fuel t cs = some x) (hl : cs.length = fs.size) :
    ∃ n, ∀ (j : Nat) (f : Field), fs[j]? = some f → ∃ v y, cs[j]? = some v ∧ DataW.trod enc P w base spare held n f.type [v] = some y := by
  obtain ⟨ys, n', hn', hy, hlen, hyl, hf⟩ := DataW.trod_struct ht h
  refine ⟨n', fun j f hj => ?_⟩
  obtain ⟨ho, hk⟩ := hone_of hone j f hj
  have hjl : j < fs.size := (Array.getElem?_eq_some_iff.1 hj).1
  have h1 := hf j f hj
  rw [ho, hk] at h1
  have h2 : (cs.drop j).take 1 = [cs[j]] := by
    rw [List.drop_eq_getElem_cons (by omega)]
    rfl
  rw [h2] at h1
  exact ⟨cs[j], ys[j], List.getElem?_eq_getElem (by omega), h1.trans (List.getElem?_eq_getElem (by omega))⟩
set_option maxRecDepth 100000 in
theorem edge_cells {H : Type} {enc : TypeId × Value → H} {W : World} {a : Addr} {n : Nat} {cs : List Value} {x : DataW H × List MemPlace}
    (hc : W.cells? 0 a 3 = some cs) (h : DataW.trod enc Tryz.prog W 0 (fun _ => true) true n 80 cs = some x) :
    ∃ e : Ed, W.cell? a = some (.int .i64 e.a) ∧ W.cell? (a.add 1) = some (.int .i64 e.l) ∧ W.cell? (a.add 2) = some (.int .i64 e.b) ∧ OkI (edI [e]) := by
  obtain ⟨_, hcl, hat⟩ := World.cells?_some hc
  obtain ⟨n', hf⟩ := fields3 Tryz.underlying80 (by kernel_rfl) h (by rw [hcl]; rfl)
  have h0 := hf 0 _ rfl
  have h1 := hf 1 _ rfl
  have h2 := hf 2 _ rfl
  obtain ⟨v0, y0, g0, t0⟩ := h0
  obtain ⟨v1, y1, g1, t1⟩ := h1
  obtain ⟨v2, y2, g2, t2⟩ := h2
  obtain ⟨m0, hm0, -, w0⟩ := DataW.trod_int undI t0
  obtain ⟨m1, hm1, -, w1⟩ := DataW.trod_int undI t1
  obtain ⟨m2, hm2, -, w2⟩ := DataW.trod_int undI t2
  simp at hm0 hm1 hm2
  subst hm0 hm1 hm2
  refine ⟨⟨m0, m1, m2⟩, ?_, ?_, ?_, ?_⟩
  · have := hat 0 (by omega)
    rw [show a.add 0 = a by simp [Addr.add]] at this
    rw [this, g0]
  · rw [hat 1 (by omega), g1]
  · rw [hat 2 (by omega), g2]
  · rw [edI_one]
    intro x hx
    simp at hx
    rcases hx with rfl | rfl | rfl
    · exact wf_bounds w0
    · exact wf_bounds w1
    · exact wf_bounds w2
theorem okI_edI {es : List Ed} (h : ∀ e ∈ es, OkI (edI [e])) : OkI (edI es) := by
  induction es with
  | nil => intro x hx; simp [edI] at hx
  | cons e t ih =>
    intro x hx
    rw [show e :: t = [e] ++ t from rfl, edI_append] at hx
    rcases List.mem_append.1 hx with hx | hx
    · exact h e (by simp) x hx
    · exact ih (fun f hf => h f (by simp [hf])) x hx
theorem edges_of_cells {H : Type} {enc : TypeId × Value → H} {W : World} {fuel : Nat} {A : Option Addr} {len c : Nat} {x : DataW H × List MemPlace}
    (h : DataW.trod enc Tryz.prog W 0 (fun _ => true) true fuel 22 [.slice A len c] = some x) : ∃ es : List Ed, len = es.length ∧ RG W 0 W.heap.size A es ∧ OkI (edI es) ∧ es.length ≤ 9223372036854775807 := by
  rcases open_slice undSEL h with ⟨hcs, _⟩ | ⟨a, len', cap, m, n, D, Pl, hcs, _, hl, hm, hmm, -, hi⟩
  · simp at hcs
    obtain ⟨rfl, rfl, rfl⟩ := hcs
    exact ⟨[], rfl, ⟨Nat.le_refl _, fun hn => absurd rfl hn⟩, fun x hx => by simp [edI] at hx, by simp⟩
  · simp at hcs
    obtain ⟨rfl, rfl, rfl⟩ := hcs
    simp at hmm
    subst hmm
    have hx : ∀ i, ∃ e : Ed, i < len → (W.cell? (a.add (i * 3)) = some (.int .i64 e.a) ∧ W.cell? ((a.add (i * 3)).add 1) = some (.int .i64 e.l) ∧ W.cell? ((a.add (i * 3)).add 2) = some (.int .i64 e.b) ∧ OkI (edI [e])) := by
      intro i
      by_cases hil : i < len
      · obtain ⟨cs', hc, ht'⟩ := hi i (by omega)
        rw [cellsEL] at hc
        obtain ⟨e, he⟩ := edge_cells hc ht'
        exact ⟨e, fun _ => he⟩
      · exact ⟨⟨0, 0, 0⟩, fun h => absurd h hil⟩
    obtain ⟨f, hf⟩ := Classical.axiomOfChoice hx
    refine ⟨(List.range len).map f, by simp, ⟨Nat.le_refl _, fun hne => ?_⟩, ?_, by unfold maxLen at hm; simp; omega⟩
    · have hp : 0 < len := by
        rcases Nat.eq_zero_or_pos len with h0 | h0
        · subst h0
          simp [ints, edI] at hne
        · exact h0
      have h0 := (hf 0 hp).1
      obtain ⟨b, off, spot⟩ := a
      have hspot : spot = none := by simpa [Addr.add] using World.cell?_spot h0
      subst hspot
      refine ⟨b, off, rfl, Nat.zero_le _, ?_, fun j u hu => ?_⟩
      · have := World.block_lt_of_cell? _ _ h0
        simpa [Addr.add] using this
      · have hj : j < len * 3 := by
          have := (List.getElem?_eq_some_iff.1 hu).1
          rw [ints_len, edI_len] at this
          simpa using this
        obtain ⟨k, r, hr, rfl⟩ : ∃ k r, r < 3 ∧ j = k * 3 + r := ⟨j / 3, j % 3, by omega, by omega⟩
        obtain ⟨c0, c1, c2, -⟩ := hf k (by omega)
        have hg : ((List.range len).map f)[k]? = some (f k) := by
          rw [List.getElem?_map, List.getElem?_range (by omega)]
          rfl
        obtain ⟨g0, g1, g2⟩ := edI_at hg
        rw [Addr.add_lit] at c0
        rw [Addr.add_lit, Addr.add_lit] at c1 c2
        rw [ints_get] at hu
        rcases r with _ | _ | _ | r
        · rw [Nat.add_zero, g0] at hu
          rw [Nat.add_zero, c0]
          simpa using hu
        · rw [g1] at hu
          rw [← Nat.add_assoc, c1]
          simpa using hu
        · rw [g2] at hu
          rw [← Nat.add_assoc, c2]
          simpa using hu
        · omega
    · refine okI_edI fun e he => ?_
      obtain ⟨i, hi', rfl⟩ := List.mem_map.1 he
      exact (hf i (by simpa using hi')).2.2.2
set_option maxRecDepth 100000 in
theorem open_graph {H : Type} {enc : TypeId × Value → H} {W : World} {r : Reach} {base : Nat} {v : Value} {d : DataW H} {ps : List MemPlace}
    (hok : Value.okWide Tryz.prog W r base 24 v) (h : DataW.Trod enc Tryz.prog W 0 (fun _ => true) true 24 v d ps) :
    ∃ m s A es c, v = .agg #[.int .i64 m, .int .i64 s, .slice A (List.length es) c] ∧ (Lit.int .i64 m).wf = true ∧ (Lit.int .i64 s).wf = true ∧ RG W 0 W.heap.size A es ∧ OkI (edI es) ∧ es.length ≤ 9223372036854775807 := by
  obtain ⟨v0, v1, v2, y0, y1, y2, n, rfl, -, -, h0, h1, h2⟩ := open_agg3 Tryz.underlying24 (by kernel_rfl) (by kernel_rfl) hok h
  have h0' : DataW.trod enc Tryz.prog W 0 (fun _ => true) true n 3 [v0] = some y0 := h0
  have h1' : DataW.trod enc Tryz.prog W 0 (fun _ => true) true n 3 [v1] = some y1 := h1
  have h2' : DataW.trod enc Tryz.prog W 0 (fun _ => true) true n 22 [v2] = some y2 := h2
  clear h0 h1 h2
  obtain ⟨m, hm, -, hw⟩ := DataW.trod_int undI h0'
  obtain ⟨s, hs, -, hw'⟩ := DataW.trod_int undI h1'
  obtain ⟨A, l, c, hsl⟩ := slice_form undSEL h2'
  simp at hm hs hsl
  subst hm hs hsl
  obtain ⟨es, rfl, ha, hb, hc⟩ := edges_of_cells h2'
  exact ⟨m, s, A, es, c, rfl, hw, hw', ha, hb, hc⟩
end Go.Proofs.YtimmnnncgnnkgaaGreat
