/- Contracts and lemmas of this seat, many texts in one: see the words ahead of each. No condition beyond those typed in each lemma. -/
import Derived.Test.YtgpljoplnecioaaGreatPk4
import Derived.Test.YtgpljoplnecioaaGreatPk3
import Derived.Test.YtgpljoplnecioaaGreatPk2
import Derived.Test.YtgpljoplnecioaaGreatPk1
import Derived.Deep.Slices
import Derived.Deep.Fields
import Derived.ChangeSame

/- TrimGraph, the reference. -/
namespace Go.Proofs.YtgpljoplnecioaaGreat
set_option linter.unusedVariables false
set_option linter.unusedSimpArgs false
open Go.RowKit

set_option maxHeartbeats 6400000 in
set_option maxRecDepth 100000 in
theorem spec_TrimGraph (r : Int) (n : Nat) (A : Option Addr) (es : List Ed) (c : Nat) (w : World) (lo hi : Nat) (hr : RG w lo hi A es) (hg : IsGr r n es) :
    Calls Tryz.prog 76 #[graV r n A es.length c] w fun e w' => ∃ A1 c1 Al nl cl, e = .returned (.tuple #[graV r (trimA 40 ((n : Int), es)).1 A1 (trimA 40 ((n : Int), es)).2.length c1, .slice Al nl cl]) ∧ OG w' w.heap.size w'.heap.size A1 c1 (trimA 40 ((n : Int), es)).2 ∧ Mid 0 0 w w' := by
  have hn40 : n ≤ 40 := by have := hg.size; omega
  have hl := hg.len
  have hm0 : Mid 0 0 w ((w.alloc (.cells #[.int .i64 r, .int .i64 n, .slice A es.length c] 29)).alloc (.cells #[.int .i64 0, .int .i64 0, .slice none 0 0] 29)) := (Mid.alloc _ _).trans (Mid.alloc _ _)
  have b0 := (Box.new w #[.int .i64 r, .int .i64 n, .slice A es.length c] 29).mid (Mid.alloc _ (.cells #[.int .i64 0, .int .i64 0, .slice none 0 0] 29)) (Or.inr (Nat.zero_le _))
  have b2 := Box.new (w.alloc (.cells #[.int .i64 r, .int .i64 n, .slice A es.length c] 29)) #[.int .i64 0, .int .i64 0, .slice none 0 0] 29
  simp only [World.size_alloc] at b2
  have HG := Lib.hid hg
  obtain ⟨T, hT⟩ : ∃ T, trimA 40 ((n : Int), es) = T := ⟨_, rfl⟩
  rw [hT]
  have HT := Lib.hid hT
  clear hg hT
  go_enter Tryz.func76, Tryz.ntmps76
  go_wp2_with fail
  generalize hw1 : ((w.alloc (.cells #[.int .i64 r, .int .i64 n, .slice A es.length c] 29)).alloc (.cells #[.int .i64 0, .int .i64 0, .slice none 0 0] 29)) = w1 at hm0 b0 b2 ⊢
  clear hw1
  with_reducible refine (spec_l4Copy r n A es c _ _ _ (hr.mid hm0 (Or.inl (Nat.zero_le _))) (by omega)).mono ?_
  rintro en w2 ⟨A1, c1, rfl, ho, hm2⟩
  have hsz12 := hm0.size
  have hs2 : w.heap.size + 1 < w1.heap.size := b2.1
  replace b0 := b0.mid hm2 (Or.inr (Nat.zero_le _))
  replace b2 := b2.mid hm2 (Or.inr (Nat.zero_le _))
  replace hm0 := hm0.trans hm2
  have hsz2 := hm2.size
  have hown0 := owns_base (base' := w.heap.size + 2) ho.ov.2.1 hs2
  have hbk0 : Value.ownBlock (.slice A1 es.length c1) ≠ some w2.heap.size := fun h => by have := ho.ov.2.2 _ h; omega
  have hal := (Mid.alloc w2 (.cells #[.int .i64 r, .int .i64 n, .slice A1 es.length c1] 29)).trans (Mid.alloc (w2.alloc (.cells #[.int .i64 r, .int .i64 n, .slice A1 es.length c1] 29)) (.cells #[] 3))
  have Y3 := (Box.new w2 #[.int .i64 r, .int .i64 n, .slice A1 es.length c1] 29).mid (Mid.alloc (w2.alloc (.cells #[.int .i64 r, .int .i64 n, .slice A1 es.length c1] 29)) (.cells #[] 3)) (Or.inr (Nat.zero_le _))
  have O0 := owns_empty (w2.alloc (.cells #[.int .i64 r, .int .i64 n, .slice A1 es.length c1] 29)) 3 1
  rw [World.size_alloc] at O0
  have hbs0 := b0.1
  have p0 := b0.cell 0 rfl
  have p1 := b0.cell 1 rfl
  have p2 := b0.cell 2 rfl
  replace b0 := b0.mid hal (Or.inr (Nat.zero_le _))
  replace b2 := b2.mid hal (Or.inr (Nat.zero_le _))
  replace hown0 := owns_mid hown0 hal (Or.inl (Nat.zero_le _))
  replace hm0 := hm0.trans hal
  go_wp2_with fail
  clear p0 p1 p2
  have hsA : ((w2.alloc (.cells #[.int .i64 r, .int .i64 n, .slice A1 es.length c1] 29)).alloc (.cells #[] 3)).heap.size = w2.heap.size + 2 := by simp
  generalize hw3 : (w2.alloc (.cells #[.int .i64 r, .int .i64 n, .slice A1 es.length c1] 29)).alloc (.cells #[] 3) = w3 at Y3 O0 b0 b2 hown0 hm0 hsA ⊢
  obtain ⟨G, hG⟩ : ∃ G, w2.heap.size = G := ⟨_, rfl⟩
  rw [hG] at Y3 O0 hbk0 hsA hsz2 hbs0 ⊢
  clear hw3 hal hm2 ho hG
  have hGw : w.heap.size + 2 ≤ G := by omega
  clear hsA hsz2 hs2 hsz12 hbs0
  go_loopw [5, 6] (fun l i wr => ∃ (k : Nat) (Al : Option Addr) (nl cl : Nat), k ≤ n ∧ i = .int .i64 k ∧ l = .slice Al nl cl ∧ Hid ((upto k).length = nl) ∧ wr.ownsRow (G + 1) 3 1 (.slice Al nl cl) nl (ints (upto k)) ∧
      Hid (wr.ownsRow (w.heap.size + 2) 64 3 (.slice A1 es.length c1) es.length (ints (edI es))) ∧ Box wr w.heap.size [.int .i64 r, .int .i64 n, .slice A es.length c] ∧ Box wr (w.heap.size + 1) [.int .i64 0, .int .i64 0, .slice none 0 0] ∧ Box wr G [.int .i64 r, .int .i64 n, .slice A1 es.length c1] ∧ Mid 0 0 w wr) (fun _ i _ => n - (intOf i).toNat)
  case atStart => exact ⟨0, _, 0, 0, Nat.zero_le _, rfl, rfl, Lib.hid rfl, O0, Lib.hid hown0, b0, b2, Y3, hm0⟩
  case round =>
    clear O0 hown0 b0 b2 Y3 hm0
    obtain ⟨wo, hwo⟩ : ∃ wo, wo = wr := ⟨_, rfl⟩
    subst hwo
    obtain ⟨k, Al, nl, cl, hk, rfl, rfl, HN, hleft, HE, b0, b2, Y3, hm⟩ := hrel
    obtain rfl : k = nl := by rw [← HN.out, upto_len]
    have p0 := b0.cell 0 rfl
    have p1 := b0.cell 1 rfl
    have p2 := b0.cell 2 rfl
    by_cases hlt : k < n
    · have hk1 : (k : Int) < (n : Int) := by omega
      go_wp2_with fail
      with_reducible refine (spec_IsGraph r n A es c _ _ _ (hr.mid hm (Or.inl (Nat.zero_le _))).rv (by omega) true (iff_of_true rfl HG.out)).mono ?_
      rintro en w4 ⟨rfl, hm4⟩
      have hE4 := owns_mid HE.out hm4 (Or.inl (Nat.zero_le _))
      replace b0 := b0.mid hm4 (Or.inr (Nat.zero_le _))
      replace b2 := b2.mid hm4 (Or.inr (Nat.zero_le _))
      replace Y3 := Y3.mid hm4 (Or.inr (Nat.zero_le _))
      replace hleft := owns_mid hleft hm4 (Or.inl (Nat.zero_le _))
      replace hm := hm.trans hm4
      have hGo : G + 1 ≤ w4.heap.size := Y3.1
      have HL := Lib.hid hleft
      clear hleft HE
      go_wp2_with (at_builtin; refine wpList_pushI2 rfl _ _ rfl (G + 1) Al k cl (upto k) rfl HL.out k rfl (by omega) hGo ?_; intro A9 c9 w9 hl9 hgr9 hat9)
      clear hat9
      have hm9 := Mid.of_grownRow HL.out hgr9
      have hE9 := hE4.kept hgr9 (owns_ne hE4 HL.out (by decide))
      go_roundw
      case rel => exact ⟨k + 1, A9, k + 1, c9, by omega, by go_num, rfl, Lib.hid (by rw [upto_len]), by rw [upto_succ]; exact hl9, Lib.hid hE9, b0.mid hm9 (Or.inl (by omega)), b2.mid hm9 (Or.inl (by omega)), Y3.mid hm9 (Or.inl (by omega)), hm.transNew hm9 (Or.inl (by omega))⟩
      case measure => simp [intOf]; omega
    · obtain rfl : k = n := by omega
      go_wp2_with fail
      clear p0 p1 p2
      have hGo := Y3.1
      go_loopw [5, 7] (fun l iv wr => ∃ (i m s : Nat) (es1 : List Ed) (A2 : Option Addr) (c2 : Nat) (Al : Option Addr) (cl : Nat) (xs : List Int), l = .slice Al s cl ∧ iv = .int .i64 i ∧ i + m = 40 ∧ Hid (trimA m ((s : Int), es1) = T) ∧ s ≤ m ∧ Hid (IsGr r s es1) ∧ wr.ownsRow (G + 1) 3 1 (.slice Al s cl) s (ints xs) ∧
          Hid (wr.ownsRow (w.heap.size + 2) 64 3 (.slice A2 es1.length c2) es1.length (ints (edI es1))) ∧ Hid (Value.ownBlock (.slice A2 es1.length c2) ≠ some G) ∧ Box wr w.heap.size [.int .i64 r, .int .i64 k, .slice A es.length c] ∧ Box wr (w.heap.size + 1) [.int .i64 0, .int .i64 0, .slice none 0 0] ∧ Box wr G [.int .i64 r, .int .i64 s, .slice A2 es1.length c2] ∧ Mid 0 0 w wr) (fun _ iv _ => 40 - (intOf iv).toNat)
      case atStart => exact ⟨0, 40, k, es, A1, c1, Al, cl, upto k, rfl, rfl, by omega, HT, hn40, HG, hleft, HE, Lib.hid hbk0, b0, b2, Y3, hm⟩
      case round =>
        clear hleft HE b0 b2 Y3 hm HN hGo
        obtain ⟨wj, hwj⟩ : ∃ wj, wj = wr := ⟨_, rfl⟩
        subst hwj
        obtain ⟨i, m, s, es1, A2, c2, Al, cl, xs, rfl, rfl, him, HTm, hsm, HGs, hleft, HE, HBK, b0, b2, Y3, hm⟩ := hrel
        have hs1 : 1 ≤ s := by have := HGs.out.size; omega
        have hs40 : s ≤ 40 := by have := HGs.out.size; omega
        have hl1 := HGs.out.len
        have hi40 : (i : Int) < 40 := by omega
        have p0 := b0.cell 0 rfl
        have p1 := b0.cell 1 rfl
        have p2 := b0.cell 2 rfl
        go_wp2_with fail
        with_reducible refine (spec_IsGraph r k A es c _ _ _ (hr.mid hm (Or.inl (Nat.zero_le _))).rv (by omega) true (iff_of_true rfl HG.out)).mono ?_
        rintro en w4 ⟨rfl, hm4⟩
        have hE4 := owns_mid HE.out hm4 (Or.inl (Nat.zero_le _))
        replace HE := Lib.hid hE4
        replace b0 := b0.mid hm4 (Or.inr (Nat.zero_le _))
        replace b2 := b2.mid hm4 (Or.inr (Nat.zero_le _))
        replace Y3 := Y3.mid hm4 (Or.inr (Nat.zero_le _))
        replace hleft := owns_mid hleft hm4 (Or.inl (Nat.zero_le _))
        replace hm := hm.trans hm4
        clear p0 p1 p2 hE4 hm4
        have y0 := Y3.cell 0 rfl
        have y1 := Y3.cell 1 rfl
        have y2 := Y3.cell 2 rfl
        go_wp2_with fail
        with_reducible refine (spec_l8Leaf r s A2 es1 c2 _ _ _ (owns_rv HE.out).rg HGs.out).mono ?_
        rintro en w5 ⟨rfl, hm5⟩
        have hE5 := owns_mid HE.out hm5 (Or.inl (Nat.zero_le _))
        replace HE := Lib.hid hE5
        replace b0 := b0.mid hm5 (Or.inr (Nat.zero_le _))
        replace b2 := b2.mid hm5 (Or.inr (Nat.zero_le _))
        replace Y3 := Y3.mid hm5 (Or.inr (Nat.zero_le _))
        replace hleft := owns_mid hleft hm5 (Or.inl (Nat.zero_le _))
        replace hm := hm.trans hm5
        clear y0 y1 y2 hE5 hm5
        have y0 := Y3.cell 0 rfl
        have y1 := Y3.cell 1 rfl
        have y2 := Y3.cell 2 rfl
        cases hlf : leaf s es1 with
        | none =>
          have hTT := HTm.out
          rw [trimA_none hlf] at hTT
          have HTT := Lib.hid hTT
          rw [leafI_none hlf]
          have z0 := b2.cell 0 rfl
          have z1 := b2.cell 1 rfl
          have z2 := b2.cell 2 rfl
          have zf := b2.2.2
          have hbs := b2.1
          clear hTT hlf
          go_wp2_with fail
          have hcl : (w.heap.size + 1 == G) = false := by simp; omega
          refine bodyPost_ret (v := .tuple #[.agg #[.int .i64 r, .int .i64 s, .slice A2 es1.length c2], .slice Al s cl]) (by simp [results, Tryz.results76, go_sem, z0, z1, z2, zf, y0, y1, y2]) rfl ⟨A2, c2, Al, s, cl, by rw [← HTT.out], ?_, ?_⟩
          · rw [← HTT.out]
            have h0 : OG w5 (w.heap.size + 2) w5.heap.size A2 c2 es1 := ⟨Nat.le_refl _, HE.out, fun g hg => (HE.out.lt g hg).2⟩
            refine OG.wide (OG.mid h0 (a := w.heap.size + 1) (b := w.heap.size + 2) ?_ (Or.inl (Nat.le_refl _))) (by omega) (by simp) (Nat.le_refl _)
            repeat (first | exact Mid.refl _ _ _ | refine Mid.stored ?_ _ (by simp; try omega) (by simp; try omega))
          · repeat (first | exact hm | refine Mid.storeNew ?_ (by simp; try omega) _)
        | some g =>
          obtain ⟨hg1, hgs', -⟩ := leaf_spec hlf
          have hgs : g < s := by omega
          obtain ⟨m', rfl⟩ : ∃ m', m = m' + 1 := ⟨m - 1, by omega⟩
          have hTT := HTm.out
          rw [trimA_some hlf] at hTT
          have HTT := Lib.hid hTT
          have HCG := Lib.hid (cutV_gr (g := ((s : Int), es1)) HGs.out hg1 hgs')
          rw [leafI_some hlf]
          have dg0 : decide ((g : Int) < 0) = false := by simp
          clear hTT hlf hgs'
          obtain ⟨wk, hwk⟩ : ∃ wk, wk = w5 := ⟨_, rfl⟩
          subst hwk
          go_wp2_with fail
          have hal := (Mid.alloc wk (.cells #[] 3)).trans (Mid.alloc (wk.alloc (.cells #[] 3)) (.cells #[] 3))
          have T0 : TwoI ((wk.alloc (.cells #[] 3)).alloc (.cells #[] 3)) wk.heap.size (.slice (some ⟨wk.heap.size, 0, none⟩) 0 0) (.slice (some ⟨wk.heap.size + 1, 0, none⟩) 0 0) 0 0 [] [] := by
            refine ⟨(owns_empty wk 3 1).alloc _, ?_, ?_⟩
            · have h := owns_empty (wk.alloc (.cells #[] 3)) 3 1
              rw [World.size_alloc] at h
              exact owns_base h (Nat.le_succ _)
            · simp [Value.ownBlock]
          clear y0 y1 y2
          go_loopw [9, 10, 11] (fun o rs kv wr => ∃ (kk : Nat) (Ao : Option Addr) (co : Nat) (Ar : Option Addr) (cr no : Nat) (ys : List Int), kk ≤ s ∧ kv = .int .i64 kk ∧ o = .slice Ao no co ∧ rs = .slice Ar no cr ∧ Hid ((but g kk).length = no) ∧ Hid (TwoI wr wk.heap.size (.slice Ao no co) (.slice Ar no cr) no no (but g kk) ys) ∧ Mid 0 0 wk wr) (fun _ _ kv _ => s - (intOf kv).toNat)
          case atStart => exact ⟨0, _, 0, _, 0, 0, [], Nat.zero_le _, rfl, rfl, rfl, Lib.hid rfl, Lib.hid T0, hal⟩
          case round =>
            clear T0 hal
            obtain ⟨kk, Ao, co, Ar, cr, no, ys, hkk, rfl, rfl, rfl, HNo, HT2, hmy⟩ := hrel
            have hno : no ≤ 40 := by
              have h1 : (but g kk).length ≤ kk := by unfold but; rw [List.length_map]; exact Nat.le_trans (List.length_filter_le _ _) (by simp)
              have h2 := HNo.out
              omega
            have Y4 := Y3.mid hmy (Or.inr (Nat.zero_le _))
            have y0 := Y4.cell 0 rfl
            have y1 := Y4.cell 1 rfl
            have y2 := Y4.cell 2 rfl
            by_cases hlt : kk < s
            · have hbs := but_succ g kk
              have hk3 : (kk : Int) < (s : Int) := by omega
              have hk0 : (0 : Int) ≤ (kk : Int) := by omega
              by_cases hkg : kk = g
              · have d3 : ((kk : Int) != (g : Int)) = false := by simp; omega
                rw [if_pos hkg] at hbs
                have HBS := Lib.hid hbs
                clear hbs hkg
                go_wp2_with fail
                go_roundw
                case rel => exact ⟨kk + 1, Ao, co, Ar, cr, no, ys, by omega, by go_num, rfl, rfl, by rw [HBS.out]; exact HNo, by rw [HBS.out]; exact HT2, hmy⟩
                case measure => simp [intOf]; omega
              · have d3 : ((kk : Int) != (g : Int)) = true := by simp; omega
                rw [if_neg hkg] at hbs
                have HBS := Lib.hid hbs
                have hsz := hmy.size
                obtain ⟨gl, rfl, hgl1, hgl2⟩ := owns_addr hleft (show 0 < s by omega)
                obtain ⟨y, hy⟩ := get_of_lt xs (show kk < xs.length by have h := hleft.1; simp [ints] at h; omega)
                have hyc : ∀ W : World, Mid wk.heap.size W.heap.size wk W → True := fun _ _ => trivial
                have HLF := Lib.hid hleft
                have HY := Lib.hid hy
                clear hbs hkg hy hyc
                go_wp2_with (first | (at_builtin; refine wpList_push2 rfl _ _ rfl wk.heap.size Ao no co (but g kk) _ _ _ rfl HT2.out kk rfl (by omega) hsz ?_; intro A7 c7 w7 ht7 hm7; have hmw := hmy.transNew hm7 (Or.inl (Nat.le_refl _)); have hcx := ((owns_mid HLF.out hmw (Or.inl (Nat.zero_le _))).cellAt kk (by omega)).trans (show (ints xs)[kk]? = some (.int .i64 y) by simp [ints, HY.out]); have hsz7 := hmw.size; have HT7 := Lib.hid ht7.swap; clear ht7) | (at_builtin; refine wpList_push2 rfl _ _ rfl wk.heap.size Ar no cr ys _ _ _ rfl HT7.out y rfl (by omega) hsz7 ?_; intro A9 c9 w9 ht9 hm9))
                go_roundw
                case rel => exact ⟨kk + 1, A7, c7, A9, c9, no + 1, ys ++ [y], by omega, by go_num, rfl, rfl, Lib.hid (by rw [HBS.out, List.length_append, HNo.out]; rfl), Lib.hid (by rw [HBS.out]; exact ht9.swap), hmw.transNew hm9 (Or.inl (Nat.le_refl _))⟩
                case measure => simp [intOf]; omega
            · obtain rfl : kk = s := by omega
              have hln : (but g kk).length = no := HNo.out
              have hn1 : no = kk - 1 := by rw [← hln, but_len g hgs]
              obtain ⟨es2, hes2⟩ : ∃ es2, partE (but g kk) es1 = es2 := ⟨_, rfl⟩
              have hcv : cutV ((kk : Int), es1) g = ((no : Int), es2) := by unfold cutV; simp only [Int.toNat_natCast]; rw [hln, hes2]
              have hE6 := owns_mid HE.out hmy (Or.inl (Nat.zero_le _))
              have hP := spec_RenumberGraph r kk A2 es1 c2 Ao (but g kk) co wr _ _ _ _ (owns_rv hE6).rg (owns_rv HT2.out.f) HGs.out (but_nodup g kk) (fun x hx => but_range hx) (by omega)
              have HN1 := Lib.hid hn1
              rw [hln, hes2] at hP
              have HP := Lib.hid hP
              have hTT2 := HTT.out
              rw [hcv] at hTT2
              have hgr2 := HCG.out
              rw [hcv] at hgr2
              have HTT2 := Lib.hid hTT2
              have HG2 := Lib.hid hgr2
              have hwks : G + 1 ≤ wk.heap.size := Y3.1
              have hto := HT2.out.t
              clear hP hTT2 hgr2 hcv hes2 hln HTT HCG HE hE6 hn1
              go_wp2_with fail
              with_reducible refine HP.out.mono ?_
              rintro en w8 ⟨A3, c3, rfl, hog, hm8⟩
              clear HP
              have hogw : wk.heap.size ≤ wr.heap.size := hmy.size
              replace hto := owns_mid hto hm8 (Or.inl (Nat.zero_le _))
              have hm28 := hmy.trans hm8
              clear Y4 y0 y1 y2
              replace b0 := b0.mid hm28 (Or.inr (Nat.zero_le _))
              replace b2 := b2.mid hm28 (Or.inr (Nat.zero_le _))
              replace Y3 := Y3.mid hm28 (Or.inr (Nat.zero_le _))
              replace hm := hm.trans hm28
              clear hmy hm8 hm28
              have y0 := Y3.cell 0 rfl
              have y1 := Y3.cell 1 rfl
              have y2 := Y3.cell 2 rfl
              have yf := Y3.2.2
              go_wp2_with fail
              have hst := (Mid.setAt w8 G 0 (.int .i64 r)).trans ((Mid.setAt (w8.setCell ⟨G, 0, none⟩ (.int .i64 r)) G 1 (.int .i64 no)).trans (Mid.setAt ((w8.setCell ⟨G, 0, none⟩ (.int .i64 r)).setCell ⟨G, 1, none⟩ (.int .i64 no)) G 2 (.slice A3 es2.length c3)))
              have Y5 := ((Y3.set 0 (.int .i64 r) (by simp) rfl).set 1 (.int .i64 no) (by simp) rfl).set 2 (.slice A3 es2.length c3) (by simp) rfl
              have hm5 := ((hm.storeNew (p := ⟨G, 0, none⟩) (by show w.heap.size ≤ G; omega) (.int .i64 r)).storeNew (p := ⟨G, 1, none⟩) (by show w.heap.size ≤ G; omega) (.int .i64 no)).storeNew (p := ⟨G, 2, none⟩) (by show w.heap.size ≤ G; omega) (.slice A3 es2.length c3)
              replace b0 := b0.mid hst (Or.inl (by omega))
              replace b2 := b2.mid hst (Or.inl (by omega))
              replace hto := owns_base (owns_mid hto hst (Or.inl hwks)) hwks
              have hoe := (OG.mid hog hst (Or.inl (by omega))).ov.2.1
              have hbk9 : Value.ownBlock (.slice A3 es2.length c3) ≠ some G := fun h => by have := (hoe.lt _ h).1; omega
              go_roundw
              case rel => exact ⟨i + 1, m', no, es2, A3, c3, Ar, cr, ys, rfl, by go_num, by omega, HTT2, by have := HN1.out; omega, HG2, hto, Lib.hid (owns_base hoe (by omega)), Lib.hid hbk9, b0, b2, Y5, hm5⟩
              case measure => simp [intOf]; omega
end Go.Proofs.YtgpljoplnecioaaGreat

/- CoreGraph, both sides. -/
namespace Go.Proofs.YtgpljoplnecioaaGreat
set_option linter.unusedVariables false
set_option linter.unusedSimpArgs false
open Go.RowKit

theorem nat_gr {r : Int} {g : Int × List Ed} (h : IsGr r g.1 g.2) : ∃ (n : Nat) (es : List Ed), g = ((n : Int), es) ∧ IsGr r n es := by
  obtain ⟨s, es⟩ := g
  have h1 : 1 ≤ s := h.size.1
  obtain ⟨n, rfl⟩ : ∃ n : Nat, s = n := ⟨s.toNat, by omega⟩
  exact ⟨n, es, rfl, h⟩
theorem hcl_of {w : World} {lo hi : Nat} {A : Option Addr} {c : Nat} {es : List Ed} (h : OG w lo hi A c es) : es.length ≤ c := by
  obtain ⟨A', c', hv0, hsc, hcm⟩ := owns_shape h.ov.2.1
  injection hv0 with _ _ hv0
  omega

set_option maxHeartbeats 1600000 in
set_option maxRecDepth 20000 in
theorem spec_CoreGraph (r n : Nat) (A : Option Addr) (es : List Ed) (c : Nat) (w : World) (lo hi : Nat) (hr : RG w lo hi A es) (hg : IsGr r n es) :
    Calls Tryz.prog 46 #[graV r n A es.length c] w fun e w' => ∃ A1 c1, e = .returned (graV r (coreA r ((n : Int), es)).1 A1 (coreA r ((n : Int), es)).2.length c1) ∧ OG w' w.heap.size w'.heap.size A1 c1 (coreA r ((n : Int), es)).2 ∧ Mid 0 0 w w' := by
  obtain ⟨f, fs, hF, hgf⟩ := nat_gr (foldA_gr 40 (g := ((n : Int), es)) hg)
  obtain ⟨t, ts, hT, hgt⟩ := nat_gr (trimA_gr 40 (g := ((f : Int), fs)) hgf)
  obtain ⟨q, qs, hQ, -⟩ := nat_gr (canonG_gr (g := ((t : Int), ts)) hgt)
  have hcore : coreA r ((n : Int), es) = ((q : Int), qs) := by rw [coreA, hF, hT, hQ]
  rw [hcore]
  have hm0 : Mid 0 0 w ((w.alloc (.cells #[.int .i64 r, .int .i64 n, .slice A es.length c] 29)).alloc (.cells #[.int .i64 0, .int .i64 0, .slice none 0 0] 29)) := (Mid.alloc _ _).trans (Mid.alloc _ _)
  have b2 := Box.new (w.alloc (.cells #[.int .i64 r, .int .i64 n, .slice A es.length c] 29)) #[.int .i64 0, .int .i64 0, .slice none 0 0] 29
  simp only [World.size_alloc] at b2
  have HG := Lib.hid hg
  have HGF := Lib.hid hgf
  have HGT := Lib.hid hgt
  have HF := Lib.hid hF
  have HT := Lib.hid hT
  have HQ := Lib.hid hQ
  clear hg hgf hgt hF hT hQ hcore
  go_enter Tryz.func46, Tryz.ntmps46
  go_wp2_with fail
  generalize ((w.alloc (.cells #[.int .i64 r, .int .i64 n, .slice A es.length c] 29)).alloc (.cells #[.int .i64 0, .int .i64 0, .slice none 0 0] 29)) = w1 at hm0 b2 ⊢
  have hP1 := spec_FoldAll r n A es c w1 _ _ (hr.mid hm0 (Or.inl (Nat.zero_le _))) HG.out
  rw [HF.out] at hP1
  with_reducible refine hP1.mono ?_
  rintro en w2 ⟨A1, c1, Al, nl, cl, rfl, ho1, hm2⟩
  clear hP1
  have hs1 : w.heap.size + 1 < w1.heap.size := b2.1
  have hs2 := hm2.size
  have ha2 := Mid.alloc w2 (.cells #[.int .i64 r, .int .i64 f, .slice A1 fs.length c1] 29)
  have Y1 := Box.new w2 #[.int .i64 r, .int .i64 f, .slice A1 fs.length c1] 29
  replace b2 := b2.mid hm2 (Or.inr (Nat.zero_le _))
  replace hm0 := hm0.trans hm2
  replace b2 := b2.mid ha2 (Or.inr (Nat.zero_le _))
  replace ho1 := ho1.mid ha2 (Or.inl (Nat.zero_le _))
  replace hm0 := hm0.trans ha2
  dsimp only
  go_wp2_with fail
  generalize w2.alloc (.cells #[.int .i64 r, .int .i64 f, .slice A1 fs.length c1] 29) = w3 at hm0 b2 ho1 Y1 ha2 ⊢
  have hP2 := spec_TrimGraph r f A1 fs c1 w3 _ _ (OG.rg ho1) HGF.out
  rw [HT.out] at hP2
  with_reducible refine hP2.mono ?_
  rintro en w4 ⟨A3, c3, Al3, nl3, cl3, rfl, ho3, hm4⟩
  clear hP2
  have hs3 := ha2.size
  have hs4 := hm4.size
  have ha4 := Mid.alloc w4 (.cells #[.int .i64 r, .int .i64 t, .slice A3 ts.length c3] 29)
  replace b2 := b2.mid hm4 (Or.inr (Nat.zero_le _))
  replace hm0 := hm0.trans hm4
  replace b2 := b2.mid ha4 (Or.inr (Nat.zero_le _))
  replace ho3 := ho3.mid ha4 (Or.inl (Nat.zero_le _))
  replace hm0 := hm0.trans ha4
  dsimp only
  go_wp2_with fail
  generalize w4.alloc (.cells #[.int .i64 r, .int .i64 t, .slice A3 ts.length c3] 29) = w5 at hm0 b2 ho3 ha4 ⊢
  have hP3 := spec_CanonicalGraph r t A3 ts c3 w5 _ _ (OG.rg ho3) HGT.out
  rw [HQ.out] at hP3
  with_reducible refine hP3.mono ?_
  rintro en w6 ⟨A5, c5, rfl, ho5, hm6⟩
  clear hP3
  have hs5 := ha4.size
  replace b2 := b2.mid hm6 (Or.inr (Nat.zero_le _))
  replace hm0 := hm0.trans hm6
  have z0 := b2.cell 0 rfl
  have z1 := b2.cell 1 rfl
  have z2 := b2.cell 2 rfl
  have zf := b2.2.2
  dsimp only at ho5
  dsimp only
  go_wp2_with fail
  refine bodyPost_ret (v := .agg #[.int .i64 r, .int .i64 q, .slice A5 qs.length c5]) (by simp [results, Tryz.results46, go_sem, z0, z1, z2, zf]) rfl ⟨A5, c5, rfl, ?_, ?_⟩
  · refine OG.wide (OG.mid ho5 (a := w.heap.size + 1) (b := w.heap.size + 2) ?_ (Or.inl (by omega))) (by omega) (by simp) (Nat.le_refl _)
    repeat (first | exact Mid.refl _ _ _ | refine Mid.stored ?_ _ (by simp; try omega) (by simp; try omega))
  · repeat (first | exact hm0 | refine Mid.storeNew ?_ (by simp; try omega) _)

set_option maxHeartbeats 1600000 in
set_option maxRecDepth 20000 in
theorem impl_CoreGraph (r n : Nat) (A : Option Addr) (es : List Ed) (c : Nat) (w : World) (lo hi : Nat) (hr : RG w lo hi A es) (hg : IsGr r n es) :
    Calls Tryz.prog 51 #[graV r n A es.length c] w fun e w' => ∃ A1 c1, e = .returned (graV r (coreA r ((n : Int), es)).1 A1 (coreA r ((n : Int), es)).2.length c1) ∧ OG w' w.heap.size w'.heap.size A1 c1 (coreA r ((n : Int), es)).2 ∧ Mid 0 0 w w' := by
  obtain ⟨f, fs, hF, hgf⟩ := nat_gr (foldA_gr 40 (g := ((n : Int), es)) hg)
  obtain ⟨t, ts, hT, hgt⟩ := nat_gr (trimA_gr 40 (g := ((f : Int), fs)) hgf)
  obtain ⟨q, qs, hQ, -⟩ := nat_gr (canonG_gr (g := ((t : Int), ts)) hgt)
  have hcore : coreA r ((n : Int), es) = ((q : Int), qs) := by rw [coreA, hF, hT, hQ]
  rw [hcore]
  have hm0 : Mid 0 0 w ((w.alloc (.cells #[.int .i64 r, .int .i64 n, .slice A es.length c] 29)).alloc (.cells #[.int .i64 0, .int .i64 0, .slice none 0 0] 29)) := (Mid.alloc _ _).trans (Mid.alloc _ _)
  have b2 := Box.new (w.alloc (.cells #[.int .i64 r, .int .i64 n, .slice A es.length c] 29)) #[.int .i64 0, .int .i64 0, .slice none 0 0] 29
  simp only [World.size_alloc] at b2
  have HG := Lib.hid hg
  have HGF := Lib.hid hgf
  have HGT := Lib.hid hgt
  have HF := Lib.hid hF
  have HT := Lib.hid hT
  have HQ := Lib.hid hQ
  clear hg hgf hgt hF hT hQ hcore
  go_enter Tryz.func51, Tryz.ntmps51
  go_wp2_with fail
  generalize ((w.alloc (.cells #[.int .i64 r, .int .i64 n, .slice A es.length c] 29)).alloc (.cells #[.int .i64 0, .int .i64 0, .slice none 0 0] 29)) = w1 at hm0 b2 ⊢
  have hP1 := impl_FoldAll r n A es c w1 _ _ (hr.mid hm0 (Or.inl (Nat.zero_le _))) HG.out
  rw [HF.out] at hP1
  with_reducible refine hP1.mono ?_
  rintro en w2 ⟨A1, c1, Al, nl, cl, rfl, ho1, hm2⟩
  clear hP1
  have hs1 : w.heap.size + 1 < w1.heap.size := b2.1
  have hs2 := hm2.size
  have ha2 := Mid.alloc w2 (.cells #[.int .i64 r, .int .i64 f, .slice A1 fs.length c1] 29)
  have Y1 := Box.new w2 #[.int .i64 r, .int .i64 f, .slice A1 fs.length c1] 29
  replace b2 := b2.mid hm2 (Or.inr (Nat.zero_le _))
  replace hm0 := hm0.trans hm2
  replace b2 := b2.mid ha2 (Or.inr (Nat.zero_le _))
  replace ho1 := ho1.mid ha2 (Or.inl (Nat.zero_le _))
  replace hm0 := hm0.trans ha2
  dsimp only
  go_wp2_with fail
  generalize w2.alloc (.cells #[.int .i64 r, .int .i64 f, .slice A1 fs.length c1] 29) = w3 at hm0 b2 ho1 Y1 ha2 ⊢
  have hP2 := impl_TrimGraph r f A1 fs c1 w3 _ _ (OG.rg ho1) HGF.out
  rw [HT.out] at hP2
  with_reducible refine hP2.mono ?_
  rintro en w4 ⟨A3, c3, Al3, nl3, cl3, rfl, ho3, hm4⟩
  clear hP2
  have hs3 := ha2.size
  have hs4 := hm4.size
  have ha4 := Mid.alloc w4 (.cells #[.int .i64 r, .int .i64 t, .slice A3 ts.length c3] 29)
  replace b2 := b2.mid hm4 (Or.inr (Nat.zero_le _))
  replace hm0 := hm0.trans hm4
  replace b2 := b2.mid ha4 (Or.inr (Nat.zero_le _))
  replace ho3 := ho3.mid ha4 (Or.inl (Nat.zero_le _))
  replace hm0 := hm0.trans ha4
  dsimp only
  go_wp2_with fail
  generalize w4.alloc (.cells #[.int .i64 r, .int .i64 t, .slice A3 ts.length c3] 29) = w5 at hm0 b2 ho3 ha4 ⊢
  have hP3 := impl_CanonicalGraph r t A3 ts c3 w5 _ _ (OG.rg ho3) (hcl_of ho3) HGT.out
  rw [HQ.out] at hP3
  with_reducible refine hP3.mono ?_
  rintro en w6 ⟨A5, c5, rfl, ho5, hm6⟩
  clear hP3
  have hs5 := ha4.size
  replace b2 := b2.mid hm6 (Or.inr (Nat.zero_le _))
  replace hm0 := hm0.trans hm6
  have z0 := b2.cell 0 rfl
  have z1 := b2.cell 1 rfl
  have z2 := b2.cell 2 rfl
  have zf := b2.2.2
  dsimp only at ho5
  dsimp only
  go_wp2_with fail
  refine bodyPost_ret (v := .agg #[.int .i64 r, .int .i64 q, .slice A5 qs.length c5]) (by simp [results, Tryz.results51, go_sem, z0, z1, z2, zf]) rfl ⟨A5, c5, rfl, ?_, ?_⟩
  · refine OG.wide (OG.mid ho5 (a := w.heap.size + 1) (b := w.heap.size + 2) ?_ (Or.inl (by omega))) (by omega) (by simp) (Nat.le_refl _)
    repeat (first | exact Mid.refl _ _ _ | refine Mid.stored ?_ _ (by simp; try omega) (by simp; try omega))
  · repeat (first | exact hm0 | refine Mid.storeNew ?_ (by simp; try omega) _)
end Go.Proofs.YtgpljoplnecioaaGreat

/- GlueAtBase, the reference. -/
namespace Go.Proofs.YtgpljoplnecioaaGreat
set_option linter.unusedVariables false
set_option linter.unusedSimpArgs false
open Go.RowKit

set_option maxHeartbeats 6400000 in
set_option maxRecDepth 100000 in
theorem spec_GlueAtBase (r s : Int) (A : Option Addr) (es : List Ed) (c : Nat) (r' s' : Int) (A' : Option Addr) (es' : List Ed) (c' : Nat) (w : World) (lo hi lo' hi' : Nat)
    (hr : RG w lo hi A es) (hr' : RG w lo' hi' A' es') (hl : es.length ≤ 1048576) (hl' : es'.length ≤ 1048576) (rr rs : Int) (res : List Ed) (b : Bool) (hres : GlueAtBaseIs r s es r' s' es' rr rs res b) :
    Calls Tryz.prog 68 #[graV r s A es.length c, graV r' s' A' es'.length c'] w fun e w' => ∃ A1 c1, e = .returned (.tuple #[graV rr rs A1 res.length c1, .bool b]) ∧ OG w' w.heap.size w'.heap.size A1 c1 res ∧ Mid 0 0 w w' := by
  have HR := Lib.hid hres
  clear hres
  obtain ⟨b1, hb1⟩ := bool_of (IsGr r s es)
  obtain ⟨b2, hb2⟩ := bool_of (IsGr r' s' es')
  have H1 := Lib.hid hb1
  have H2 := Lib.hid hb2
  clear hb1 hb2
  have hm0 : Mid 0 0 w (((w.alloc (.cells #[.int .i64 r, .int .i64 s, .slice A es.length c] 29)).alloc (.cells #[.int .i64 r', .int .i64 s', .slice A' es'.length c'] 29)).alloc (.cells #[.int .i64 0, .int .i64 0, .slice none 0 0] 29)) := ((Mid.alloc _ _).trans (Mid.alloc _ _)).trans (Mid.alloc _ _)
  have B0 := ((Box.new w #[.int .i64 r, .int .i64 s, .slice A es.length c] 29).mid (Mid.alloc _ (.cells #[.int .i64 r', .int .i64 s', .slice A' es'.length c'] 29)) (Or.inr (Nat.zero_le _))).mid (Mid.alloc _ (.cells #[.int .i64 0, .int .i64 0, .slice none 0 0] 29)) (Or.inr (Nat.zero_le _))
  have B1 := (Box.new (w.alloc (.cells #[.int .i64 r, .int .i64 s, .slice A es.length c] 29)) #[.int .i64 r', .int .i64 s', .slice A' es'.length c'] 29).mid (Mid.alloc _ (.cells #[.int .i64 0, .int .i64 0, .slice none 0 0] 29)) (Or.inr (Nat.zero_le _))
  have B2 := Box.new ((w.alloc (.cells #[.int .i64 r, .int .i64 s, .slice A es.length c] 29)).alloc (.cells #[.int .i64 r', .int .i64 s', .slice A' es'.length c'] 29)) #[.int .i64 0, .int .i64 0, .slice none 0 0] 29
  simp only [World.size_alloc] at B1 B2
  go_enter Tryz.func68, Tryz.ntmps68
  go_wp2_with fail
  generalize hw1 : (((w.alloc (.cells #[.int .i64 r, .int .i64 s, .slice A es.length c] 29)).alloc (.cells #[.int .i64 r', .int .i64 s', .slice A' es'.length c'] 29)).alloc (.cells #[.int .i64 0, .int .i64 0, .slice none 0 0] 29)) = w1 at hm0 B0 B1 B2 ⊢
  have hs1 : w1.heap.size = w.heap.size + 1 + 1 + 1 := by rw [← hw1]; simp
  have HS := Lib.hid hs1
  clear hw1 hs1
  with_reducible refine (spec_IsGraph r s A es c _ _ _ (hr.mid hm0 (Or.inl (Nat.zero_le _))).rv hl b1 H1.out).mono ?_
  rintro en w2 ⟨rfl, hm2⟩
  have C0 := B0.mid hm2 (Or.inr (Nat.zero_le _))
  have C1 := B1.mid hm2 (Or.inr (Nat.zero_le _))
  have C2 := B2.mid hm2 (Or.inr (Nat.zero_le _))
  have p0 := C0.cell 0 rfl
  have p1 := C0.cell 1 rfl
  have p2 := C0.cell 2 rfl
  have q0 := C1.cell 0 rfl
  have q1 := C1.cell 1 rfl
  have q2 := C1.cell 2 rfl
  have z0 := C2.cell 0 rfl
  have z1 := C2.cell 1 rfl
  have z2 := C2.cell 2 rfl
  have zf := C2.2.2
  have hm := hm0.trans hm2
  cases b1 with
  | false =>
    have hno : ¬ GlueOk r s es r' s' es' := fun h => by have := H1.out.2 h.g1; cases this
    obtain ⟨rfl, rfl, rfl, rfl⟩ := HR.out.no hno
    go_wp2_with fail
    refine bodyPost_ret (v := .tuple #[.agg #[.int .i64 0, .int .i64 0, .slice none 0 0], .bool false]) (by simp [results, Tryz.results68, go_sem, z0, z1, z2, zf]) rfl ⟨none, 0, rfl, OG.nil, ?_⟩
    repeat (first | exact hm | refine Mid.storeNew ?_ (by simp; try omega) _)
  | true =>
  have G1h := Lib.hid (H1.out.1 rfl)
  clear B0 B1 B2
  go_wp2_with fail
  with_reducible refine (spec_IsGraph r' s' A' es' c' _ _ _ (hr'.mid hm (Or.inl (Nat.zero_le _))).rv hl' b2 H2.out).mono ?_
  rintro en w3 ⟨rfl, hm3⟩
  have D0 := C0.mid hm3 (Or.inr (Nat.zero_le _))
  have D1 := C1.mid hm3 (Or.inr (Nat.zero_le _))
  have D2 := C2.mid hm3 (Or.inr (Nat.zero_le _))
  clear p0 p1 p2 q0 q1 q2 z0 z1 z2 zf C0 C1 C2
  have p0 := D0.cell 0 rfl
  have p1 := D0.cell 1 rfl
  have p2 := D0.cell 2 rfl
  have q0 := D1.cell 0 rfl
  have q1 := D1.cell 1 rfl
  have q2 := D1.cell 2 rfl
  have z0 := D2.cell 0 rfl
  have z1 := D2.cell 1 rfl
  have z2 := D2.cell 2 rfl
  have zf := D2.2.2
  have hmm := hm.trans hm3
  have hw33 : w.heap.size + 3 ≤ w3.heap.size := by have h1 := HS.out; have h2 := hm2.size; have h3 := hm3.size; omega
  clear hm0 hm2 hm hm3
  cases b2 with
  | false =>
    have hno : ¬ GlueOk r s es r' s' es' := fun h => by have := H2.out.2 h.g2; cases this
    obtain ⟨rfl, rfl, rfl, rfl⟩ := HR.out.no hno
    go_wp2_with fail
    refine bodyPost_ret (v := .tuple #[.agg #[.int .i64 0, .int .i64 0, .slice none 0 0], .bool false]) (by simp [results, Tryz.results68, go_sem, z0, z1, z2, zf]) rfl ⟨none, 0, rfl, OG.nil, ?_⟩
    repeat (first | exact hmm | refine Mid.storeNew ?_ (by simp; try omega) _)
  | true =>
  have G2h := Lib.hid (H2.out.1 rfl)
  clear H1 H2
  have hsz := G1h.out.size
  have hsz' := G2h.out.size
  by_cases hok : GlueOk r s es r' s' es'
  · obtain ⟨rfl, hrr, hrs, hre⟩ := HR.out.yes hok
    have h1a : (r != r') = false := by simpa using hok.rk
    have h2a : decide (40 < s + s' - 1) = false := by have := hok.sz; simp; omega
    have h3a : decide (120 < (es.length : Int) + (es'.length : Int)) = false := by have := hok.ln; simp; omega
    have HRR := Lib.hid hrr
    have HRS := Lib.hid hrs
    have HRE := Lib.hid hre
    have hln := hok.ln
    have hasc := Lib.hid hok.g1.asc
    clear hrr hrs hre hok HR
    go_wp2_with fail
    with_reducible refine (spec_l4Copy r s A es c _ _ _ (hr.mid hmm (Or.inl (Nat.zero_le _))) hl).mono ?_
    rintro en w4 ⟨A1, c1, rfl, ho4, hm4⟩
    have E0 := D0.mid hm4 (Or.inr (Nat.zero_le _))
    have E1 := D1.mid hm4 (Or.inr (Nat.zero_le _))
    have E2 := D2.mid hm4 (Or.inr (Nat.zero_le _))
    have hal := Mid.alloc w4 (.cells #[.int .i64 r, .int .i64 (s + s' - 1), .slice A1 es.length c1] 29)
    have Y0 := E0.mid hal (Or.inr (Nat.zero_le _))
    have Y1 := E1.mid hal (Or.inr (Nat.zero_le _))
    have Y2 := E2.mid hal (Or.inr (Nat.zero_le _))
    have Y3 := Box.new w4 #[.int .i64 r, .int .i64 (s + s' - 1), .slice A1 es.length c1] 29
    have hzs := hm4.size
    have hmy := (hmm.trans hm4).trans hal
    have ho5 := ho4.mid hal (Or.inl (Nat.zero_le _))
    clear p0 p1 p2 q0 q1 q2 z0 z1 z2 zf D0 D1 D2
    have p1 := E0.cell 1 rfl
    have q1 := E1.cell 1 rfl
    have q2 := E1.cell 2 rfl
    have hz0 := E0.1
    have hz1 := E1.1
    have hz2 := E2.1
    clear E0 E1 E2
    go_wp2_with fail
    clear p1 q1 q2
    generalize hw5 : w4.alloc (.cells #[.int .i64 r, .int .i64 (s + s' - 1), .slice A1 es.length c1] 29) = w5 at Y0 Y1 Y2 Y3 hmy ho5 ⊢
    have hs5 : w4.heap.size + 1 ≤ w5.heap.size := by rw [← hw5]; simp
    clear hw5 hal ho4
    generalize hG : w4.heap.size = G at Y3 hs5 hz2 hzs ho5 ⊢
    clear hG
    have hGw : w.heap.size + 2 < G := by omega
    have hw3 : w.heap.size ≤ w3.heap.size := hmm.size
    go_loopw [7, 8] (fun i _ wr => ∃ (k : Nat) (A2 : Option Addr) (c2 lo2 hi2 : Nat) (xs : List Ed), k ≤ es'.length ∧ i = .int .i64 k ∧ Hid (xs = putAll es (glueE s (es'.take k))) ∧
      OG wr lo2 hi2 A2 c2 xs ∧ (hi2 ≤ G ∨ G + 1 ≤ lo2) ∧ w3.heap.size ≤ lo2 ∧
      Box wr w.heap.size [.int .i64 r, .int .i64 s, .slice A es.length c] ∧ Box wr (w.heap.size + 1) [.int .i64 r', .int .i64 s', .slice A' es'.length c'] ∧ Box wr (w.heap.size + 1 + 1) [.int .i64 0, .int .i64 0, .slice none 0 0] ∧
      Box wr G [.int .i64 r, .int .i64 (s + s' - 1), .slice A2 xs.length c2] ∧ Mid 0 0 w wr) (fun i _ _ => es'.length - (intOf i).toNat)
    case atStart => exact ⟨0, A1, c1, _, _, es, Nat.zero_le _, rfl, Lib.hid rfl, ho5, .inl (Nat.le_refl _), Nat.le_refl _, Y0, Y1, Y2, Y3, hmy⟩
    case round =>
      obtain ⟨k, A2, c2, lo2, hi2, xs, hk, rfl, HX, hown, hdis, hlo2, Z0, Z1, Z2, Z3, hmr⟩ := hrel
      have hxl : xs.length ≤ 240 := by
        have h1 := putAll_len es (glueE s (es'.take k))
        rw [← HX.out] at h1
        simp [glueE] at h1
        omega
      have p1 := Z0.cell 1 rfl
      have q2 := Z1.cell 2 rfl
      have z2 := Z3.cell 2 rfl
      have zf := Z3.2.2
      by_cases hlt : k < es'.length
      · obtain ⟨B, off, e, rfl, -, hbh, he, e0, e1, e2⟩ := (hr'.mid hmr (Or.inl (Nat.zero_le _))).ed hlt
        have hin : InG _ s' e := G2h.out.all e (List.mem_of_getElem? he)
        obtain ⟨i1, i2, i3, i4, i5, i6⟩ := hin
        have HE := Lib.hid he
        have hk0 : (0 : Int) ≤ (k : Int) := by omega
        have hkn : (k : Int) < (es'.length : Int) := by omega
        have hGr : G < wr.heap.size := Z3.1
        have h0r : w.heap.size < wr.heap.size := Z0.1
        obtain ⟨x, hx⟩ : ∃ x, glueV s e.a = x := ⟨_, rfl⟩
        obtain ⟨y, hy⟩ : ∃ y, glueV s e.b = y := ⟨_, rfl⟩
        have hal := Mid.alloc wr (.cells #[.int .i64 x, .int .i64 e.l, .int .i64 y] 64)
        have hP := fun W lo hi h => spec_l4Put A2 xs c2 ⟨x, e.l, y⟩ W lo hi h (by omega)
        have hF : glueF s e = ⟨x, e.l, y⟩ := by simp [glueF, hx, hy]
        have HF := Lib.hid hF
        clear he hF
        have hx' : (decide (0 < e.a) = true ∧ x = e.a + s - 1) ∨ (decide (0 < e.a) = false ∧ x = e.a) := by
          unfold glueV at hx
          split at hx
          · right; simp; omega
          · left; simp; omega
        have hy' : (decide (0 < e.b) = true ∧ y = e.b + s - 1) ∨ (decide (0 < e.b) = false ∧ y = e.b) := by
          unfold glueV at hy
          split at hy
          · right; simp; omega
          · left; simp; omega
        clear hx hy
        rcases hx' with ⟨hda, rfl⟩ | ⟨hda, rfl⟩ <;> rcases hy' with ⟨hdb, rfl⟩ | ⟨hdb, rfl⟩
        all_goals
          go_wp2_with fail
          with_reducible refine (hP _ _ _ (hown.mid hal (Or.inl (Nat.zero_le _))).rg).mono ?_
          rintro en w6 ⟨A3, c3, rfl, ho6, hm6⟩
          have R0 := (Z0.mid hal (Or.inr (Nat.zero_le _))).mid hm6 (Or.inr (Nat.zero_le _))
          have R1 := (Z1.mid hal (Or.inr (Nat.zero_le _))).mid hm6 (Or.inr (Nat.zero_le _))
          have R2 := (Z2.mid hal (Or.inr (Nat.zero_le _))).mid hm6 (Or.inr (Nat.zero_le _))
          have R3 := (Z3.mid hal (Or.inr (Nat.zero_le _))).mid hm6 (Or.inr (Nat.zero_le _))
          have hm7 := (hmr.trans hal).trans hm6
          have r2 := R3.cell 2 rfl
          have rf := R3.2.2
          have hrs := hmr.size
          have hg1 : w6.heap.size ≤ G ∨ G + 1 ≤ wr.heap.size + 1 := Or.inr (by omega)
          have hg2 : G + 1 ≤ wr.heap.size + 1 := by omega
          have hg3 : w3.heap.size ≤ wr.heap.size + 1 := by omega
          rw [World.size_alloc] at ho6
          clear p1 q2 z2 zf e0 e1 e2
          go_wp2_with fail
          go_roundw
          case rel =>
            have hst := fun u => Mid.setCell w6 (lo := G) (hi := G + 1) (p := ⟨G, 2, none⟩) u (Nat.le_refl _) (Nat.lt_succ_self _)
            refine ⟨k + 1, A3, c3, wr.heap.size + 1, w6.heap.size, _, by omega, by go_num, Lib.hid ?_, ho6.mid (hst _) (Or.inl hg2), .inr hg2, hg3, R0.mid (hst _) (Or.inl (by omega)), R1.mid (hst _) (Or.inl (by omega)), R2.mid (hst _) (Or.inl (by omega)), R3.set 2 _ (by simp) rfl, hm7.storeNew (by show w.heap.size ≤ G; omega) _⟩
            rw [take_snoc HE.out, show glueE s (es'.take k ++ [e]) = glueE s (es'.take k) ++ [glueF s e] by simp [glueE], putAll_snoc, ← HX.out, HF.out]
          case measure => simp [intOf]; omega
      · obtain rfl : k = es'.length := by omega
        have hG6 : G < wr.heap.size := Z3.1
        clear p1 q2 z2 zf
        have a0 := Z2.cell 0 rfl
        have a1 := Z2.cell 1 rfl
        have a2 := Z2.cell 2 rfl
        have b0 := Z3.cell 0 rfl
        have b1 := Z3.cell 1 rfl
        have b2 := Z3.cell 2 rfl
        have af := Z2.2.2
        have bf := Z3.2.2
        have q2 := Z1.cell 2 rfl
        go_wp2_with fail
        have hcl : (w.heap.size + 1 + 1 == G) = false := by simp; omega
        refine bodyPost_ret (v := .tuple #[.agg #[.int .i64 r, .int .i64 (s + s' - 1), .slice A2 xs.length c2], .bool true]) (by simp [results, Tryz.results68, go_sem, a0, a1, a2, b0, b1, b2, af, bf]) rfl ⟨A2, c2, ?_, ?_, ?_⟩
        · have hxx := HX.out
          rw [List.take_length, putAll_canon hasc.out] at hxx
          rw [HRR.out, HRS.out, HRE.out, hxx]
        · have hxx := HX.out
          rw [List.take_length, putAll_canon hasc.out] at hxx
          rw [HRE.out, ← hxx]
          refine OG.wide (OG.mid hown (a := w.heap.size) (b := w.heap.size + 3) ?_ (Or.inl (by omega))) (by omega) (by have := hown.size; simpa using this) (Nat.le_refl _)
          repeat (first | exact Mid.refl _ _ _ | refine Mid.stored ?_ _ (by simp; try omega) (by simp; try omega))
        · repeat (first | exact hmr | refine Mid.storeNew ?_ (by simp; try omega) _)
  · obtain ⟨rfl, rfl, rfl, rfl⟩ := HR.out.no hok
    have hc : r ≠ r' ∨ (r = r' ∧ 40 < s + s' - 1) ∨ (r = r' ∧ ¬ 40 < s + s' - 1 ∧ 120 < es.length + es'.length) := by
      by_cases h1 : r = r'
      · by_cases h2 : 40 < s + s' - 1
        · exact .inr (.inl ⟨h1, h2⟩)
        · refine .inr (.inr ⟨h1, h2, ?_⟩)
          refine Classical.byContradiction fun h3 => hok ⟨G1h.out, G2h.out, h1, by omega, by omega⟩
      · exact .inl h1
    clear hok
    rcases hc with h1 | ⟨h1, h2⟩ | ⟨h1, h2, h3⟩
    · have h1a : (r != r') = true := by simpa using h1
      go_wp2_with fail
      refine bodyPost_ret (v := .tuple #[.agg #[.int .i64 0, .int .i64 0, .slice none 0 0], .bool false]) (by simp [results, Tryz.results68, go_sem, z0, z1, z2, zf]) rfl ⟨none, 0, rfl, OG.nil, ?_⟩
      repeat (first | exact hmm | refine Mid.storeNew ?_ (by simp; try omega) _)
    · have h1a : (r != r') = false := by simpa using h1
      have h2a : decide (40 < s + s' - 1) = true := by simpa using h2
      clear h1
      go_wp2_with fail
      refine bodyPost_ret (v := .tuple #[.agg #[.int .i64 0, .int .i64 0, .slice none 0 0], .bool false]) (by simp [results, Tryz.results68, go_sem, z0, z1, z2, zf]) rfl ⟨none, 0, rfl, OG.nil, ?_⟩
      repeat (first | exact hmm | refine Mid.storeNew ?_ (by simp; try omega) _)
    · have h1a : (r != r') = false := by simpa using h1
      have h2a : decide (40 < s + s' - 1) = false := by simpa using h2
      have h3a : decide (120 < (es.length : Int) + (es'.length : Int)) = true := by simp; omega
      clear h1
      go_wp2_with fail
      refine bodyPost_ret (v := .tuple #[.agg #[.int .i64 0, .int .i64 0, .slice none 0 0], .bool false]) (by simp [results, Tryz.results68, go_sem, z0, z1, z2, zf]) rfl ⟨none, 0, rfl, OG.nil, ?_⟩
      repeat (first | exact hmm | refine Mid.storeNew ?_ (by simp; try omega) _)
end Go.Proofs.YtgpljoplnecioaaGreat

/- JoinOf, both sides. -/
namespace Go.Proofs.YtgpljoplnecioaaGreat
set_option linter.unusedVariables false
set_option linter.unusedSimpArgs false
open Go.RowKit

theorem glue_gr {r s : Int} {es : List Ed} {r' s' : Int} {es' : List Ed} (h : GlueOk r s es r' s' es') : IsGr r (s + s' - 1) (canon (es ++ glueE s es')) := by
  have hs := h.g1.size
  have hs' := h.g2.size
  refine ⟨h.g1.rank, ⟨by omega, h.sz⟩, ?_, ?_, asc_canon _⟩
  · have h1 := canon_len (es ++ glueE s es')
    have h2 := h.ln
    unfold glueE at h1 ⊢
    rw [List.length_append, List.length_map] at h1
    omega
  · intro e he
    have hk := h.rk
    rcases List.mem_append.1 (mem_canon.1 he) with h1 | h1
    · have := h.g1.all e h1
      unfold InG at this ⊢
      omega
    · obtain ⟨f, hf, rfl⟩ := List.mem_map.1 h1
      have := h.g2.all f hf
      unfold InG at this ⊢
      simp only [glueF, glueV]
      refine ⟨?_, ?_, ?_, ?_, ?_, ?_⟩ <;> (try split) <;> omega
def JoinIs (r s : Int) (es : List Ed) (r' s' : Int) (es' : List Ed) (rr rs : Int) (res : List Ed) (b : Bool) : Prop :=
  (b = true ∧ (GlueOk r s es r' s' es' ∧ IsCor r s es ∧ IsCor r' s' es') ∧ rr = r ∧ rs = (coreA r (s + s' - 1, canon (es ++ glueE s es'))).1 ∧ res = (coreA r (s + s' - 1, canon (es ++ glueE s es'))).2) ∨
  (b = false ∧ ¬ (GlueOk r s es r' s' es' ∧ IsCor r s es ∧ IsCor r' s' es') ∧ rr = 0 ∧ rs = 0 ∧ res = [])
theorem JoinIs.no {r s : Int} {es : List Ed} {r' s' : Int} {es' : List Ed} {rr rs : Int} {res : List Ed} {b : Bool} (h : JoinIs r s es r' s' es' rr rs res b) (hn : ¬ (GlueOk r s es r' s' es' ∧ IsCor r s es ∧ IsCor r' s' es')) : b = false ∧ rr = 0 ∧ rs = 0 ∧ res = [] := by
  rcases h with ⟨-, h, -⟩ | ⟨h1, -, h2⟩
  · exact absurd h hn
  · exact ⟨h1, h2⟩
theorem JoinIs.yes {r s : Int} {es : List Ed} {r' s' : Int} {es' : List Ed} {rr rs : Int} {res : List Ed} {b : Bool} (h : JoinIs r s es r' s' es' rr rs res b) (hn : GlueOk r s es r' s' es' ∧ IsCor r s es ∧ IsCor r' s' es') : b = true ∧ r = rr ∧ rs = (coreA r (s + s' - 1, canon (es ++ glueE s es'))).1 ∧ res = (coreA r (s + s' - 1, canon (es ++ glueE s es'))).2 := by
  rcases h with ⟨h1, -, h2, h3⟩ | ⟨-, h, -⟩
  · exact ⟨h1, h2.symm, h3⟩
  · exact absurd hn h

set_option maxHeartbeats 3200000 in
set_option maxRecDepth 20000 in
theorem spec_JoinOf (r s : Int) (A : Option Addr) (es : List Ed) (c : Nat) (r' s' : Int) (A' : Option Addr) (es' : List Ed) (c' : Nat) (w : World) (lo hi lo' hi' : Nat) (hr : RG w lo hi A es) (hr' : RG w lo' hi' A' es') (hl : es.length ≤ 1048576) (hl' : es'.length ≤ 1048576) (rr rs : Int) (res : List Ed) (b : Bool) (hres : JoinIs r s es r' s' es' rr rs res b) :
    Calls Tryz.prog 34 #[graV r s A es.length c, graV r' s' A' es'.length c'] w fun e w' => ∃ A1 c1, e = .returned (.tuple #[graV rr rs A1 res.length c1, .bool b]) ∧ OG w' w.heap.size w'.heap.size A1 c1 res ∧ Mid 0 0 w w' := by
  have hm0 : Mid 0 0 w (((w.alloc (.cells #[.int .i64 r, .int .i64 s, .slice A es.length c] 29)).alloc (.cells #[.int .i64 r', .int .i64 s', .slice A' es'.length c'] 29)).alloc (.cells #[.int .i64 0, .int .i64 0, .slice none 0 0] 29)) := ((Mid.alloc _ _).trans (Mid.alloc _ _)).trans (Mid.alloc _ _)
  have b0 := ((Box.new w #[.int .i64 r, .int .i64 s, .slice A es.length c] 29).mid (Mid.alloc _ (.cells #[.int .i64 r', .int .i64 s', .slice A' es'.length c'] 29)) (Or.inr (Nat.zero_le _))).mid (Mid.alloc _ (.cells #[.int .i64 0, .int .i64 0, .slice none 0 0] 29)) (Or.inr (Nat.zero_le _))
  have b1 := (Box.new (w.alloc (.cells #[.int .i64 r, .int .i64 s, .slice A es.length c] 29)) #[.int .i64 r', .int .i64 s', .slice A' es'.length c'] 29).mid (Mid.alloc _ (.cells #[.int .i64 0, .int .i64 0, .slice none 0 0] 29)) (Or.inr (Nat.zero_le _))
  have b2 := Box.new ((w.alloc (.cells #[.int .i64 r, .int .i64 s, .slice A es.length c] 29)).alloc (.cells #[.int .i64 r', .int .i64 s', .slice A' es'.length c'] 29)) #[.int .i64 0, .int .i64 0, .slice none 0 0] 29
  simp only [World.size_alloc, Nat.add_assoc, Nat.reduceAdd] at b1 b2
  have HR := Lib.hid hres
  clear hres
  go_enter Tryz.func34, Tryz.ntmps34
  go_wp2_with fail
  generalize (((w.alloc (.cells #[.int .i64 r, .int .i64 s, .slice A es.length c] 29)).alloc (.cells #[.int .i64 r', .int .i64 s', .slice A' es'.length c'] 29)).alloc (.cells #[.int .i64 0, .int .i64 0, .slice none 0 0] 29)) = w1 at hm0 b0 b1 b2 ⊢
  have hs1 : w.heap.size + 2 < w1.heap.size := b2.1
  by_cases hf : GlueOk r s es r' s' es'
  · have HF := Lib.hid hf
    clear hf
    obtain ⟨ms, hms⟩ : ∃ ms, canon (es ++ glueE s es') = ms := ⟨_, rfl⟩
    have hgm := glue_gr HF.out
    rw [hms] at hgm
    have HGM := Lib.hid hgm
    have HMS := Lib.hid hms
    clear hgm
    have hCI : GlueAtBaseIs r s es r' s' es' r (s + s' - 1) ms true := Or.inl ⟨rfl, HF.out, rfl, rfl, hms.symm⟩
    obtain ⟨sn, hsn⟩ : ∃ sn : Nat, s + s' - 1 = sn := ⟨(s + s' - 1).toNat, by have := HGM.out.size; omega⟩
    rw [hsn] at hCI HGM
    have HSN := Lib.hid hsn
    clear hsn
    with_reducible refine (spec_GlueAtBase r s A es c r' s' A' es' c' w1 _ _ _ _ (hr.mid hm0 (Or.inl (Nat.zero_le _))) (hr'.mid hm0 (Or.inl (Nat.zero_le _))) hl hl' r sn ms true hCI).mono ?_
    rintro en w2 ⟨A2, c2, rfl, ho2, hm2⟩
    clear hms hCI
    have hs2 := hm2.size
    have ha2 := Mid.alloc w2 (.cells #[.int .i64 r, .int .i64 sn, .slice A2 ms.length c2] 29)
    have Y2 := Box.new w2 #[.int .i64 r, .int .i64 sn, .slice A2 ms.length c2] 29
    replace b0 := b0.mid hm2 (Or.inr (Nat.zero_le _))
    replace b1 := b1.mid hm2 (Or.inr (Nat.zero_le _))
    replace b2 := b2.mid hm2 (Or.inr (Nat.zero_le _))
    replace hm0 := hm0.trans hm2
    replace b0 := b0.mid ha2 (Or.inr (Nat.zero_le _))
    replace b1 := b1.mid ha2 (Or.inr (Nat.zero_le _))
    replace b2 := b2.mid ha2 (Or.inr (Nat.zero_le _))
    replace ho2 := ho2.mid ha2 (Or.inl (Nat.zero_le _))
    replace hm0 := hm0.trans ha2
    have p0 := b0.cell 0 rfl
    have p1 := b0.cell 1 rfl
    have p2 := b0.cell 2 rfl
    go_wp2_with fail
    generalize w2.alloc (.cells #[.int .i64 r, .int .i64 sn, .slice A2 ms.length c2] 29) = w3 at hm0 b0 b1 b2 ho2 Y2 ha2 p0 p1 p2 ⊢
    have hs3 := ha2.size
    by_cases hc : IsCor r s es
    · have HC := Lib.hid hc
      clear hc
      with_reducible refine (spec_IsSubgroup r s A es c _ _ _ (hr.mid hm0 (Or.inl (Nat.zero_le _))) hl true (iff_of_true rfl HC.out)).mono ?_
      rintro en w4 ⟨rfl, hm4⟩
      have hs4 := hm4.size
      replace b0 := b0.mid hm4 (Or.inr (Nat.zero_le _))
      replace b1 := b1.mid hm4 (Or.inr (Nat.zero_le _))
      replace b2 := b2.mid hm4 (Or.inr (Nat.zero_le _))
      replace Y2 := Y2.mid hm4 (Or.inr (Nat.zero_le _))
      replace ho2 := ho2.mid hm4 (Or.inl (Nat.zero_le _))
      replace hm0 := hm0.trans hm4
      clear p0 p1 p2
      have p0 := b1.cell 0 rfl
      have p1 := b1.cell 1 rfl
      have p2 := b1.cell 2 rfl
      by_cases hd : IsCor r' s' es'
      · have HD := Lib.hid hd
        obtain ⟨hb, hrr, hrs, hre⟩ := HR.out.yes ⟨HF.out, HC.out, hd⟩
        clear hd HR
        go_wp2_with fail
        with_reducible refine (spec_IsSubgroup r' s' A' es' c' _ _ _ (hr'.mid hm0 (Or.inl (Nat.zero_le _))) hl' true (iff_of_true rfl HD.out)).mono ?_
        rintro en w5 ⟨rfl, hm5⟩
        have hs5 := hm5.size
        replace b2 := b2.mid hm5 (Or.inr (Nat.zero_le _))
        replace Y2 := Y2.mid hm5 (Or.inr (Nat.zero_le _))
        replace ho2 := ho2.mid hm5 (Or.inl (Nat.zero_le _))
        replace hm0 := hm0.trans hm5
        clear p0 p1 p2
        have y0 := Y2.cell 0 rfl
        have y1 := Y2.cell 1 rfl
        have y2 := Y2.cell 2 rfl
        obtain ⟨rn, rfl⟩ : ∃ rn : Nat, r = rn := ⟨r.toNat, by have := HF.out.g1.rank; omega⟩
        rw [HMS.out, HSN.out] at hrs hre
        obtain ⟨q, qs, hQ, -⟩ := nat_gr (coreA_gr (g := ((sn : Int), ms)) HGM.out)
        have hP := spec_CoreGraph rn sn A2 ms c2 w5 _ _ (OG.rg ho2) HGM.out
        rw [hQ] at hP hrs hre
        dsimp only at hP hrs hre
        have HP := Lib.hid hP
        have HALL := Lib.hid (And.intro hb (And.intro hrr (And.intro hrs hre)))
        clear hP hQ hb hrr hrs hre
        go_wp2_with fail
        with_reducible refine HP.out.mono ?_
        rintro en w6 ⟨A5, c5, rfl, ho5, hm6⟩
        clear HP
        replace b2 := b2.mid hm6 (Or.inr (Nat.zero_le _))
        replace hm0 := hm0.trans hm6
        have z0 := b2.cell 0 rfl
        have z1 := b2.cell 1 rfl
        have z2 := b2.cell 2 rfl
        have zf := b2.2.2
        go_wp2_with fail
        refine bodyPost_ret (v := .tuple #[.agg #[.int .i64 rn, .int .i64 q, .slice A5 qs.length c5], .bool true]) (by simp [results, Tryz.results34, go_sem, z0, z1, z2, zf]) rfl ⟨A5, c5, by rw [HALL.out.1, ← HALL.out.2.1, HALL.out.2.2.1, HALL.out.2.2.2], ?_, ?_⟩
        · rw [HALL.out.2.2.2]
          refine OG.wide (OG.mid ho5 (a := w.heap.size + 1) (b := w.heap.size + 3) ?_ (Or.inl (by omega))) (by omega) (by simp) (Nat.le_refl _)
          repeat (first | exact Mid.refl _ _ _ | refine Mid.stored ?_ _ (by simp; try omega) (by simp; try omega))
        · repeat (first | exact hm0 | refine Mid.storeNew ?_ (by simp; try omega) _)
      · obtain ⟨rfl, rfl, rfl, rfl⟩ := HR.out.no fun h => hd h.2.2
        have HD := Lib.hid hd
        clear hd HR
        go_wp2_with fail
        with_reducible refine (spec_IsSubgroup r' s' A' es' c' _ _ _ (hr'.mid hm0 (Or.inl (Nat.zero_le _))) hl' false (iff_of_false Bool.false_ne_true HD.out)).mono ?_
        rintro en w5 ⟨rfl, hm5⟩
        replace b2 := b2.mid hm5 (Or.inr (Nat.zero_le _))
        replace hm0 := hm0.trans hm5
        have z0 := b2.cell 0 rfl
        have z1 := b2.cell 1 rfl
        have z2 := b2.cell 2 rfl
        have zf := b2.2.2
        clear p0 p1 p2
        go_wp2_with fail
        refine bodyPost_ret (v := .tuple #[.agg #[.int .i64 0, .int .i64 0, .slice none 0 0], .bool false]) (by simp [results, Tryz.results34, go_sem, z0, z1, z2, zf]) rfl ⟨none, 0, rfl, ?_, ?_⟩
        · exact ⟨Nat.le_refl _, ⟨rfl, .inl ⟨rfl, rfl⟩⟩, fun g hg => by simp [Value.ownBlock] at hg⟩
        · repeat (first | exact hm0 | refine Mid.trans ?_ (Mid.alloc _ _) | refine Mid.storeNew ?_ (by simp; try omega) _)
    · obtain ⟨rfl, rfl, rfl, rfl⟩ := HR.out.no fun h => hc h.2.1
      have HC := Lib.hid hc
      clear hc HR
      with_reducible refine (spec_IsSubgroup r s A es c _ _ _ (hr.mid hm0 (Or.inl (Nat.zero_le _))) hl false (iff_of_false Bool.false_ne_true HC.out)).mono ?_
      rintro en w4 ⟨rfl, hm4⟩
      replace b2 := b2.mid hm4 (Or.inr (Nat.zero_le _))
      replace hm0 := hm0.trans hm4
      have z0 := b2.cell 0 rfl
      have z1 := b2.cell 1 rfl
      have z2 := b2.cell 2 rfl
      have zf := b2.2.2
      clear p0 p1 p2
      go_wp2_with fail
      refine bodyPost_ret (v := .tuple #[.agg #[.int .i64 0, .int .i64 0, .slice none 0 0], .bool false]) (by simp [results, Tryz.results34, go_sem, z0, z1, z2, zf]) rfl ⟨none, 0, rfl, ?_, ?_⟩
      · exact ⟨Nat.le_refl _, ⟨rfl, .inl ⟨rfl, rfl⟩⟩, fun g hg => by simp [Value.ownBlock] at hg⟩
      · repeat (first | exact hm0 | refine Mid.trans ?_ (Mid.alloc _ _) | refine Mid.storeNew ?_ (by simp; try omega) _)
  · obtain ⟨rfl, rfl, rfl, rfl⟩ := HR.out.no fun h => hf h.1
    have hCI : GlueAtBaseIs r s es r' s' es' 0 0 [] false := Or.inr ⟨rfl, hf, rfl, rfl, rfl⟩
    with_reducible refine (spec_GlueAtBase r s A es c r' s' A' es' c' w1 _ _ _ _ (hr.mid hm0 (Or.inl (Nat.zero_le _))) (hr'.mid hm0 (Or.inl (Nat.zero_le _))) hl hl' 0 0 [] false hCI).mono ?_
    rintro en w2 ⟨A2, c2, rfl, ho2, hm2⟩
    have hs2 := hm2.size
    clear hf HR hCI
    replace b2 := b2.mid hm2 (Or.inr (Nat.zero_le _))
    replace hm0 := hm0.trans hm2
    have hb22 : w.heap.size + 2 < w2.heap.size := b2.1
    have hb23 : w.heap.size + 1 < w2.heap.size := by omega
    have z0 := b2.cell 0 rfl
    have z1 := b2.cell 1 rfl
    have z2 := b2.cell 2 rfl
    have zf := b2.2.2
    go_wp2_with fail
    refine bodyPost_ret (v := .tuple #[.agg #[.int .i64 0, .int .i64 0, .slice none 0 0], .bool false]) (by simp [results, Tryz.results34, go_sem, z0, z1, z2, zf, hb22, hb23, World.cell?_alloc_lt]) rfl ⟨none, 0, rfl, ?_, ?_⟩
    · exact ⟨Nat.le_refl _, ⟨rfl, .inl ⟨rfl, rfl⟩⟩, fun g hg => by simp [Value.ownBlock] at hg⟩
    · repeat (first | exact hm0 | refine Mid.trans ?_ (Mid.alloc _ _) | refine Mid.storeNew ?_ (by simp; try omega) _)

set_option maxHeartbeats 3200000 in
set_option maxRecDepth 20000 in
theorem impl_JoinOf (r s : Int) (A : Option Addr) (es : List Ed) (c : Nat) (r' s' : Int) (A' : Option Addr) (es' : List Ed) (c' : Nat) (w : World) (lo hi lo' hi' : Nat) (hr : RG w lo hi A es) (hr' : RG w lo' hi' A' es') (hl : es.length ≤ 1048576) (hl' : es'.length ≤ 1048576) (hcl : es.length ≤ c) (hcl' : es'.length ≤ c') (rr rs : Int) (res : List Ed) (b : Bool) (hres : JoinIs r s es r' s' es' rr rs res b) :
    Calls Tryz.prog 37 #[graV r s A es.length c, graV r' s' A' es'.length c'] w fun e w' => ∃ A1 c1, e = .returned (.tuple #[graV rr rs A1 res.length c1, .bool b]) ∧ OG w' w.heap.size w'.heap.size A1 c1 res ∧ Mid 0 0 w w' := by
  have hm0 : Mid 0 0 w (((w.alloc (.cells #[.int .i64 r, .int .i64 s, .slice A es.length c] 29)).alloc (.cells #[.int .i64 r', .int .i64 s', .slice A' es'.length c'] 29)).alloc (.cells #[.int .i64 0, .int .i64 0, .slice none 0 0] 29)) := ((Mid.alloc _ _).trans (Mid.alloc _ _)).trans (Mid.alloc _ _)
  have b0 := ((Box.new w #[.int .i64 r, .int .i64 s, .slice A es.length c] 29).mid (Mid.alloc _ (.cells #[.int .i64 r', .int .i64 s', .slice A' es'.length c'] 29)) (Or.inr (Nat.zero_le _))).mid (Mid.alloc _ (.cells #[.int .i64 0, .int .i64 0, .slice none 0 0] 29)) (Or.inr (Nat.zero_le _))
  have b1 := (Box.new (w.alloc (.cells #[.int .i64 r, .int .i64 s, .slice A es.length c] 29)) #[.int .i64 r', .int .i64 s', .slice A' es'.length c'] 29).mid (Mid.alloc _ (.cells #[.int .i64 0, .int .i64 0, .slice none 0 0] 29)) (Or.inr (Nat.zero_le _))
  have b2 := Box.new ((w.alloc (.cells #[.int .i64 r, .int .i64 s, .slice A es.length c] 29)).alloc (.cells #[.int .i64 r', .int .i64 s', .slice A' es'.length c'] 29)) #[.int .i64 0, .int .i64 0, .slice none 0 0] 29
  simp only [World.size_alloc, Nat.add_assoc, Nat.reduceAdd] at b1 b2
  have HR := Lib.hid hres
  clear hres
  go_enter Tryz.func37, Tryz.ntmps37
  go_wp2_with fail
  generalize (((w.alloc (.cells #[.int .i64 r, .int .i64 s, .slice A es.length c] 29)).alloc (.cells #[.int .i64 r', .int .i64 s', .slice A' es'.length c'] 29)).alloc (.cells #[.int .i64 0, .int .i64 0, .slice none 0 0] 29)) = w1 at hm0 b0 b1 b2 ⊢
  have hs1 : w.heap.size + 2 < w1.heap.size := b2.1
  by_cases hf : GlueOk r s es r' s' es'
  · have HF := Lib.hid hf
    clear hf
    obtain ⟨ms, hms⟩ : ∃ ms, canon (es ++ glueE s es') = ms := ⟨_, rfl⟩
    have hgm := glue_gr HF.out
    rw [hms] at hgm
    have HGM := Lib.hid hgm
    have HMS := Lib.hid hms
    clear hgm
    have hCI : GlueAtBaseIs r s es r' s' es' r (s + s' - 1) ms true := Or.inl ⟨rfl, HF.out, rfl, rfl, hms.symm⟩
    obtain ⟨sn, hsn⟩ : ∃ sn : Nat, s + s' - 1 = sn := ⟨(s + s' - 1).toNat, by have := HGM.out.size; omega⟩
    rw [hsn] at hCI HGM
    have HSN := Lib.hid hsn
    clear hsn
    with_reducible refine (impl_GlueAtBase r s A es c r' s' A' es' c' w1 _ _ _ _ (hr.mid hm0 (Or.inl (Nat.zero_le _))) (hr'.mid hm0 (Or.inl (Nat.zero_le _))) hl hl' r sn ms true hCI).mono ?_
    rintro en w2 ⟨A2, c2, rfl, ho2, hm2⟩
    clear hms hCI
    have hs2 := hm2.size
    have ha2 := Mid.alloc w2 (.cells #[.int .i64 r, .int .i64 sn, .slice A2 ms.length c2] 29)
    have Y2 := Box.new w2 #[.int .i64 r, .int .i64 sn, .slice A2 ms.length c2] 29
    replace b0 := b0.mid hm2 (Or.inr (Nat.zero_le _))
    replace b1 := b1.mid hm2 (Or.inr (Nat.zero_le _))
    replace b2 := b2.mid hm2 (Or.inr (Nat.zero_le _))
    replace hm0 := hm0.trans hm2
    replace b0 := b0.mid ha2 (Or.inr (Nat.zero_le _))
    replace b1 := b1.mid ha2 (Or.inr (Nat.zero_le _))
    replace b2 := b2.mid ha2 (Or.inr (Nat.zero_le _))
    replace ho2 := ho2.mid ha2 (Or.inl (Nat.zero_le _))
    replace hm0 := hm0.trans ha2
    have p0 := b0.cell 0 rfl
    have p1 := b0.cell 1 rfl
    have p2 := b0.cell 2 rfl
    go_wp2_with fail
    generalize w2.alloc (.cells #[.int .i64 r, .int .i64 sn, .slice A2 ms.length c2] 29) = w3 at hm0 b0 b1 b2 ho2 Y2 ha2 p0 p1 p2 ⊢
    have hs3 := ha2.size
    by_cases hc : IsCor r s es
    · have HC := Lib.hid hc
      clear hc
      with_reducible refine (impl_IsCore r s A es c _ _ _ (hr.mid hm0 (Or.inl (Nat.zero_le _))) hl hcl true (iff_of_true rfl HC.out)).mono ?_
      rintro en w4 ⟨rfl, hm4⟩
      have hs4 := hm4.size
      replace b0 := b0.mid hm4 (Or.inr (Nat.zero_le _))
      replace b1 := b1.mid hm4 (Or.inr (Nat.zero_le _))
      replace b2 := b2.mid hm4 (Or.inr (Nat.zero_le _))
      replace Y2 := Y2.mid hm4 (Or.inr (Nat.zero_le _))
      replace ho2 := ho2.mid hm4 (Or.inl (Nat.zero_le _))
      replace hm0 := hm0.trans hm4
      clear p0 p1 p2
      have p0 := b1.cell 0 rfl
      have p1 := b1.cell 1 rfl
      have p2 := b1.cell 2 rfl
      by_cases hd : IsCor r' s' es'
      · have HD := Lib.hid hd
        obtain ⟨hb, hrr, hrs, hre⟩ := HR.out.yes ⟨HF.out, HC.out, hd⟩
        clear hd HR
        go_wp2_with fail
        with_reducible refine (impl_IsCore r' s' A' es' c' _ _ _ (hr'.mid hm0 (Or.inl (Nat.zero_le _))) hl' hcl' true (iff_of_true rfl HD.out)).mono ?_
        rintro en w5 ⟨rfl, hm5⟩
        have hs5 := hm5.size
        replace b2 := b2.mid hm5 (Or.inr (Nat.zero_le _))
        replace Y2 := Y2.mid hm5 (Or.inr (Nat.zero_le _))
        replace ho2 := ho2.mid hm5 (Or.inl (Nat.zero_le _))
        replace hm0 := hm0.trans hm5
        clear p0 p1 p2
        have y0 := Y2.cell 0 rfl
        have y1 := Y2.cell 1 rfl
        have y2 := Y2.cell 2 rfl
        obtain ⟨rn, rfl⟩ : ∃ rn : Nat, r = rn := ⟨r.toNat, by have := HF.out.g1.rank; omega⟩
        rw [HMS.out, HSN.out] at hrs hre
        obtain ⟨q, qs, hQ, -⟩ := nat_gr (coreA_gr (g := ((sn : Int), ms)) HGM.out)
        have hP := impl_CoreGraph rn sn A2 ms c2 w5 _ _ (OG.rg ho2) HGM.out
        rw [hQ] at hP hrs hre
        dsimp only at hP hrs hre
        have HP := Lib.hid hP
        have HALL := Lib.hid (And.intro hb (And.intro hrr (And.intro hrs hre)))
        clear hP hQ hb hrr hrs hre
        go_wp2_with fail
        with_reducible refine HP.out.mono ?_
        rintro en w6 ⟨A5, c5, rfl, ho5, hm6⟩
        clear HP
        replace b2 := b2.mid hm6 (Or.inr (Nat.zero_le _))
        replace hm0 := hm0.trans hm6
        have z0 := b2.cell 0 rfl
        have z1 := b2.cell 1 rfl
        have z2 := b2.cell 2 rfl
        have zf := b2.2.2
        go_wp2_with fail
        refine bodyPost_ret (v := .tuple #[.agg #[.int .i64 rn, .int .i64 q, .slice A5 qs.length c5], .bool true]) (by simp [results, Tryz.results37, go_sem, z0, z1, z2, zf]) rfl ⟨A5, c5, by rw [HALL.out.1, ← HALL.out.2.1, HALL.out.2.2.1, HALL.out.2.2.2], ?_, ?_⟩
        · rw [HALL.out.2.2.2]
          refine OG.wide (OG.mid ho5 (a := w.heap.size + 1) (b := w.heap.size + 3) ?_ (Or.inl (by omega))) (by omega) (by simp) (Nat.le_refl _)
          repeat (first | exact Mid.refl _ _ _ | refine Mid.stored ?_ _ (by simp; try omega) (by simp; try omega))
        · repeat (first | exact hm0 | refine Mid.storeNew ?_ (by simp; try omega) _)
      · obtain ⟨rfl, rfl, rfl, rfl⟩ := HR.out.no fun h => hd h.2.2
        have HD := Lib.hid hd
        clear hd HR
        go_wp2_with fail
        with_reducible refine (impl_IsCore r' s' A' es' c' _ _ _ (hr'.mid hm0 (Or.inl (Nat.zero_le _))) hl' hcl' false (iff_of_false Bool.false_ne_true HD.out)).mono ?_
        rintro en w5 ⟨rfl, hm5⟩
        replace b2 := b2.mid hm5 (Or.inr (Nat.zero_le _))
        replace hm0 := hm0.trans hm5
        have z0 := b2.cell 0 rfl
        have z1 := b2.cell 1 rfl
        have z2 := b2.cell 2 rfl
        have zf := b2.2.2
        clear p0 p1 p2
        go_wp2_with fail
        refine bodyPost_ret (v := .tuple #[.agg #[.int .i64 0, .int .i64 0, .slice none 0 0], .bool false]) (by simp [results, Tryz.results37, go_sem, z0, z1, z2, zf]) rfl ⟨none, 0, rfl, ?_, ?_⟩
        · exact ⟨Nat.le_refl _, ⟨rfl, .inl ⟨rfl, rfl⟩⟩, fun g hg => by simp [Value.ownBlock] at hg⟩
        · repeat (first | exact hm0 | refine Mid.trans ?_ (Mid.alloc _ _) | refine Mid.storeNew ?_ (by simp; try omega) _)
    · obtain ⟨rfl, rfl, rfl, rfl⟩ := HR.out.no fun h => hc h.2.1
      have HC := Lib.hid hc
      clear hc HR
      with_reducible refine (impl_IsCore r s A es c _ _ _ (hr.mid hm0 (Or.inl (Nat.zero_le _))) hl hcl false (iff_of_false Bool.false_ne_true HC.out)).mono ?_
      rintro en w4 ⟨rfl, hm4⟩
      replace b2 := b2.mid hm4 (Or.inr (Nat.zero_le _))
      replace hm0 := hm0.trans hm4
      have z0 := b2.cell 0 rfl
      have z1 := b2.cell 1 rfl
      have z2 := b2.cell 2 rfl
      have zf := b2.2.2
      clear p0 p1 p2
      go_wp2_with fail
      refine bodyPost_ret (v := .tuple #[.agg #[.int .i64 0, .int .i64 0, .slice none 0 0], .bool false]) (by simp [results, Tryz.results37, go_sem, z0, z1, z2, zf]) rfl ⟨none, 0, rfl, ?_, ?_⟩
      · exact ⟨Nat.le_refl _, ⟨rfl, .inl ⟨rfl, rfl⟩⟩, fun g hg => by simp [Value.ownBlock] at hg⟩
      · repeat (first | exact hm0 | refine Mid.trans ?_ (Mid.alloc _ _) | refine Mid.storeNew ?_ (by simp; try omega) _)
  · obtain ⟨rfl, rfl, rfl, rfl⟩ := HR.out.no fun h => hf h.1
    have hCI : GlueAtBaseIs r s es r' s' es' 0 0 [] false := Or.inr ⟨rfl, hf, rfl, rfl, rfl⟩
    with_reducible refine (impl_GlueAtBase r s A es c r' s' A' es' c' w1 _ _ _ _ (hr.mid hm0 (Or.inl (Nat.zero_le _))) (hr'.mid hm0 (Or.inl (Nat.zero_le _))) hl hl' 0 0 [] false hCI).mono ?_
    rintro en w2 ⟨A2, c2, rfl, ho2, hm2⟩
    have hs2 := hm2.size
    clear hf HR hCI
    replace b2 := b2.mid hm2 (Or.inr (Nat.zero_le _))
    replace hm0 := hm0.trans hm2
    have hb22 : w.heap.size + 2 < w2.heap.size := b2.1
    have hb23 : w.heap.size + 1 < w2.heap.size := by omega
    have z0 := b2.cell 0 rfl
    have z1 := b2.cell 1 rfl
    have z2 := b2.cell 2 rfl
    have zf := b2.2.2
    go_wp2_with fail
    refine bodyPost_ret (v := .tuple #[.agg #[.int .i64 0, .int .i64 0, .slice none 0 0], .bool false]) (by simp [results, Tryz.results37, go_sem, z0, z1, z2, zf, hb22, hb23, World.cell?_alloc_lt]) rfl ⟨none, 0, rfl, ?_, ?_⟩
    · exact ⟨Nat.le_refl _, ⟨rfl, .inl ⟨rfl, rfl⟩⟩, fun g hg => by simp [Value.ownBlock] at hg⟩
    · repeat (first | exact hm0 | refine Mid.trans ?_ (Mid.alloc _ _) | refine Mid.storeNew ?_ (by simp; try omega) _)
end Go.Proofs.YtgpljoplnecioaaGreat

/- The law on JoinOf: its data. -/
namespace Go.Proofs.YtgpljoplnecioaaGreat
set_option linter.unusedVariables false
open Go.RowKit
def JoinOfIs (r0 s0 : Int) (d0 : List Ed) (r1 s1 : Int) (d1 : List Ed) (rr0 rs0 : Int) (res0 : List Ed) (res1 : Bool) : Prop := JoinIs r0 s0 d0 r1 s1 d1 rr0 rs0 res0 res1
theorem JoinOfIs_ex (r0 s0 : Int) (d0 : List Ed) (r1 s1 : Int) (d1 : List Ed) (hl0 : d0.length ≤ 1048576) (hl1 : d1.length ≤ 1048576) : ∃ rr0 rs0 res0 res1, JoinOfIs r0 s0 d0 r1 s1 d1 rr0 rs0 res0 res1 := by
  by_cases h : GlueOk r0 s0 d0 r1 s1 d1 ∧ IsCor r0 s0 d0 ∧ IsCor r1 s1 d1
  · exact ⟨_, _, _, _, .inl ⟨rfl, h, rfl, rfl, rfl⟩⟩
  · exact ⟨_, _, _, _, .inr ⟨rfl, h, rfl, rfl, rfl⟩⟩
theorem JoinOfIs_len {r0 s0 : Int} {d0 : List Ed} {r1 s1 : Int} {d1 : List Ed} {rr0 rs0 : Int} {res0 : List Ed} {res1 : Bool} (h : JoinOfIs r0 s0 d0 r1 s1 d1 rr0 rs0 res0 res1) (hl0 : d0.length ≤ 1048576) (hl1 : d1.length ≤ 1048576) : res0.length ≤ 1048576 := by
  rcases h with ⟨-, h, -, -, rfl⟩ | ⟨-, -, -, -, rfl⟩
  · have h1 := (coreA_gr (g := (s0 + s1 - 1, canon (d0 ++ glueE s0 d1))) (glue_gr h.1)).len
    omega
  · simp
theorem sspec_JoinOf (r0 s0 : Int) (A0 : Option Addr) (d0 : List Ed) (c0 : Nat) (r1 s1 : Int) (A1 : Option Addr) (d1 : List Ed) (c1 : Nat) (w : World) (lo0 hi0 : Nat) (h0 : OG w lo0 hi0 A0 c0 d0) (hl0 : d0.length ≤ 1048576) (lo1 hi1 : Nat) (h1 : OG w lo1 hi1 A1 c1 d1) (hl1 : d1.length ≤ 1048576) (rr0 rs0 : Int) (res0 : List Ed) (res1 : Bool) (h : JoinOfIs r0 s0 d0 r1 s1 d1 rr0 rs0 res0 res1) :
    Calls Tryz.prog 34 #[.agg #[.int .i64 r0, .int .i64 s0, .slice A0 d0.length c0], .agg #[.int .i64 r1, .int .i64 s1, .slice A1 d1.length c1]] w fun e w' => ∃ (A : Option Addr) (c : Nat), e = .returned (.tuple #[.agg #[.int .i64 rr0, .int .i64 rs0, .slice A res0.length c], .bool res1]) ∧ OG w' w.heap.size w'.heap.size A c res0 ∧ Mid 0 0 w w' :=
  spec_JoinOf r0 s0 A0 d0 c0 r1 s1 A1 d1 c1 w lo0 hi0 lo1 hi1 h0.rg h1.rg hl0 hl1 rr0 rs0 res0 res1 h
theorem simpl_JoinOf (r0 s0 : Int) (A0 : Option Addr) (d0 : List Ed) (c0 : Nat) (r1 s1 : Int) (A1 : Option Addr) (d1 : List Ed) (c1 : Nat) (w : World) (lo0 hi0 : Nat) (h0 : OG w lo0 hi0 A0 c0 d0) (hl0 : d0.length ≤ 1048576) (lo1 hi1 : Nat) (h1 : OG w lo1 hi1 A1 c1 d1) (hl1 : d1.length ≤ 1048576) (rr0 rs0 : Int) (res0 : List Ed) (res1 : Bool) (h : JoinOfIs r0 s0 d0 r1 s1 d1 rr0 rs0 res0 res1) :
    Calls Tryz.prog 37 #[.agg #[.int .i64 r0, .int .i64 s0, .slice A0 d0.length c0], .agg #[.int .i64 r1, .int .i64 s1, .slice A1 d1.length c1]] w fun e w' => ∃ (A : Option Addr) (c : Nat), e = .returned (.tuple #[.agg #[.int .i64 rr0, .int .i64 rs0, .slice A res0.length c], .bool res1]) ∧ OG w' w.heap.size w'.heap.size A c res0 ∧ Mid 0 0 w w' :=
  impl_JoinOf r0 s0 A0 d0 c0 r1 s1 A1 d1 c1 w lo0 hi0 lo1 hi1 h0.rg h1.rg hl0 hl1 h0.cnt.1 h1.cnt.1 rr0 rs0 res0 res1 h
end Go.Proofs.YtgpljoplnecioaaGreat

/- Plain: a completed graph is a graph. -/
namespace Go.Proofs.YtgpljoplnecioaaGreat
set_option linter.unusedVariables false
set_option linter.unusedSimpArgs false

theorem letter_count {r s : Int} {es : List Ed} (h : IsFol r s es) {x : Int} (hx : 0 < x) : (freeV es x s.toNat).length + (es.filter fun e => e.l == x).length = s.toNat := by
  have hg := h.gr.all
  have hs := h.gr.size
  have nd : ((es.filter fun e => e.l == x).map Ed.a).Nodup := by
    rw [List.Nodup, List.pairwise_map]
    refine (h.fol.filter _).imp_of_mem ?_
    intro a b h1 h2 h3 h4
    have h5 : a.l = x := by simpa using (List.mem_filter.1 h1).2
    have h6 : b.l = x := by simpa using (List.mem_filter.1 h2).2
    exact h3 ⟨by omega, .inl h4⟩
  have h1 := count_free (es := es) (x := x) (n := s.toNat) nd fun v => by
    rw [List.mem_map, Int.not_lt, nextV_pos_iff hg]
    constructor
    · rintro ⟨e, he, rfl⟩
      obtain ⟨h1, h2⟩ := List.mem_filter.1 he
      have := hg e h1
      unfold InG at this
      refine ⟨by omega, by omega, e, h1, e.b, endOf_some.2 (.inl ⟨hx, by simpa using h2, rfl, rfl⟩)⟩
    · rintro ⟨h0, hl, e, he, u, hu⟩
      refine ⟨e, List.mem_filter.2 ⟨he, ?_⟩, ?_⟩ <;> have := endOf_some.1 hu
      · simp; omega
      · omega
  rwa [List.length_map] at h1
theorem upto_split (n : Nat) : ∀ l : List Ed, (l.filter fun e => decide (e.l ≤ ((n + 1 : Nat) : Int))).length = (l.filter fun e => decide (e.l ≤ (n : Int))).length + (l.filter fun e => e.l == ((n : Int) + 1)).length
  | [] => rfl
  | e :: t => by
    have ih := upto_split n t
    rcases (by omega : e.l ≤ (n : Int) ∨ e.l = (n : Int) + 1 ∨ (n : Int) + 1 < e.l) with h | h | h
    · have h1 : decide (e.l ≤ ((n + 1 : Nat) : Int)) = true := by simp; omega
      have h2 : decide (e.l ≤ (n : Int)) = true := by simpa using h
      have h3 : (e.l == ((n : Int) + 1)) = false := by simp only [beq_eq_false_iff_ne]; omega
      simp only [List.filter_cons, h1, h2, h3, if_true, List.length_cons]
      simp only [Bool.false_eq_true, if_false]
      omega
    · have h1 : decide (e.l ≤ ((n + 1 : Nat) : Int)) = true := by simp; omega
      have h2 : decide (e.l ≤ (n : Int)) = false := by simp; omega
      have h3 : (e.l == ((n : Int) + 1)) = true := by simpa using h
      simp only [List.filter_cons, h1, h2, h3, if_true, List.length_cons]
      simp only [Bool.false_eq_true, if_false]
      omega
    · have h1 : decide (e.l ≤ ((n + 1 : Nat) : Int)) = false := by simp; omega
      have h2 : decide (e.l ≤ (n : Int)) = false := by simp; omega
      have h3 : (e.l == ((n : Int) + 1)) = false := by simp only [beq_eq_false_iff_ne]; omega
      simp only [List.filter_cons, h1, h2, h3]
      simp only [Bool.false_eq_true, if_false]
      exact ih
theorem addLs_count {r s : Int} {es : List Ed} (h : IsFol r s es) : ∀ n : Nat, (es.filter fun e => decide (e.l ≤ (n : Int))).length + (addLs s es n).length ≤ n * s.toNat
  | 0 => by
    have h0 : es.filter (fun e => decide (e.l ≤ ((0 : Nat) : Int))) = [] := by
      rw [List.filter_eq_nil_iff]
      intro e he
      have := h.gr.all e he
      unfold InG at this
      simp
      omega
    rw [h0]
    simp [addLs]
  | n + 1 => by
    have ih := addLs_count h n
    have h1 := letter_count h (x := (n : Int) + 1) (by omega)
    have h2 : (addL s es ((n : Int) + 1)).length ≤ (freeV es ((n : Int) + 1) s.toNat).length := by
      unfold addL
      rw [List.length_zipWith]
      omega
    rw [upto_split, addLs_succ, List.length_append, Nat.succ_mul]
    omega
theorem complete_gr {r s : Int} {es : List Ed} (h : IsFol r s es) : IsGr r s (canon (es ++ addLs s es r.toNat)) := by
  have hr := h.gr.rank
  have hs := h.gr.size
  refine ⟨hr, hs, ?_, ?_, asc_canon _⟩
  · have h1 := canon_len (es ++ addLs s es r.toNat)
    have h2 := addLs_count h r.toNat
    have h3 : es.filter (fun e => decide (e.l ≤ (r.toNat : Int))) = es := by
      rw [List.filter_eq_self]
      intro e he
      have := h.gr.all e he
      unfold InG at this
      simp
      omega
    rw [h3] at h2
    have h4 : r.toNat * s.toNat ≤ 3 * 40 := Nat.mul_le_mul (by omega) (by omega)
    rw [List.length_append] at h1
    omega
  · intro e he
    rcases List.mem_append.1 (mem_canon.1 he) with h1 | h1
    · exact h.gr.all e h1
    · unfold addLs at h1
      obtain ⟨i, hi, h2⟩ := List.mem_flatMap.1 h1
      have hi' : i < r.toNat := List.mem_range.1 hi
      unfold addL at h2
      obtain ⟨k, hk, hk'⟩ := List.getElem_of_mem h2
      rw [List.getElem_zipWith] at hk'
      rw [List.length_zipWith] at hk
      have ha := mem_freeV.1 (List.getElem_mem (l := freeV es ((i : Int) + 1) s.toNat) (n := k) (by omega))
      have hb := mem_freeV.1 (List.getElem_mem (l := freeV es (-((i : Int) + 1)) s.toNat) (n := k) (by omega))
      subst hk'
      unfold InG
      simp only
      omega
end Go.Proofs.YtgpljoplnecioaaGreat

/- CompleteGraph, the reference. -/
namespace Go.Proofs.YtgpljoplnecioaaGreat
set_option linter.unusedVariables false
set_option linter.unusedSimpArgs false
open Go.RowKit

set_option maxHeartbeats 6400000 in
set_option maxRecDepth 100000 in
theorem spec_CompleteGraph (r s : Int) (A : Option Addr) (es : List Ed) (c : Nat) (w : World) (lo hi : Nat)
    (hr : RG w lo hi A es) (hl : es.length ≤ 1048576) (rr rs : Int) (res : List Ed) (b : Bool) (hres : CompleteIs r s es rr rs res b) :
    Calls Tryz.prog 72 #[graV r s A es.length c] w fun e w' => ∃ A1 c1, e = .returned (.tuple #[graV rr rs A1 res.length c1, .bool b]) ∧ OG w' w.heap.size w'.heap.size A1 c1 res ∧ Mid 0 0 w w' := by
  have HR := Lib.hid hres
  clear hres
  obtain ⟨b1, hb1⟩ := bool_of (IsFol r s es)
  have H1 := Lib.hid hb1
  clear hb1
  have hm0 : Mid 0 0 w ((w.alloc (.cells #[.int .i64 r, .int .i64 s, .slice A es.length c] 29)).alloc (.cells #[.int .i64 0, .int .i64 0, .slice none 0 0] 29)) := (Mid.alloc _ _).trans (Mid.alloc _ _)
  have B0 := (Box.new w #[.int .i64 r, .int .i64 s, .slice A es.length c] 29).mid (Mid.alloc _ (.cells #[.int .i64 0, .int .i64 0, .slice none 0 0] 29)) (Or.inr (Nat.zero_le _))
  have B2 := Box.new (w.alloc (.cells #[.int .i64 r, .int .i64 s, .slice A es.length c] 29)) #[.int .i64 0, .int .i64 0, .slice none 0 0] 29
  simp only [World.size_alloc] at B2
  go_enter Tryz.func72, Tryz.ntmps72
  go_wp2_with fail
  generalize hw1 : ((w.alloc (.cells #[.int .i64 r, .int .i64 s, .slice A es.length c] 29)).alloc (.cells #[.int .i64 0, .int .i64 0, .slice none 0 0] 29)) = w1 at hm0 B0 B2 ⊢
  have hs1 : w1.heap.size = w.heap.size + 1 + 1 := by rw [← hw1]; simp
  have HS := Lib.hid hs1
  clear hw1 hs1
  with_reducible refine (spec_IsFolded r s A es c _ _ _ (hr.mid hm0 (Or.inl (Nat.zero_le _))) hl b1 H1.out).mono ?_
  rintro en w2 ⟨rfl, hm2⟩
  have C0 := B0.mid hm2 (Or.inr (Nat.zero_le _))
  have C2 := B2.mid hm2 (Or.inr (Nat.zero_le _))
  have p0 := C0.cell 0 rfl
  have p1 := C0.cell 1 rfl
  have p2 := C0.cell 2 rfl
  have z0 := C2.cell 0 rfl
  have z1 := C2.cell 1 rfl
  have z2 := C2.cell 2 rfl
  have zf := C2.2.2
  have hm := hm0.trans hm2
  cases b1 with
  | false =>
    have hno : ¬ IsFol r s es := fun h => by have := H1.out.2 h; cases this
    obtain ⟨rfl, rfl, rfl, rfl⟩ := HR.out.no hno
    go_wp2_with fail
    refine bodyPost_ret (v := .tuple #[.agg #[.int .i64 0, .int .i64 0, .slice none 0 0], .bool false]) (by simp [results, Tryz.results72, go_sem, z0, z1, z2, zf]) rfl ⟨none, 0, rfl, OG.nil, ?_⟩
    repeat (first | exact hm | refine Mid.storeNew ?_ (by simp; try omega) _)
  | true =>
  have F1 := Lib.hid (H1.out.1 rfl)
  have hg := F1.out.gr
  have g1 := hg.rank
  have g2 := hg.size
  have g3 := hg.len
  obtain ⟨rfl, hrr, hrs, hre⟩ := HR.out.yes F1.out
  have HRR := Lib.hid hrr
  have HRS := Lib.hid hrs
  have HRE := Lib.hid hre
  have hmul : 0 ≤ s * r ∧ s * r ≤ 120 := ⟨Int.mul_nonneg (by omega) (by omega), by have := Int.mul_le_mul (show s ≤ 40 by omega) (show r ≤ 3 by omega) (by omega) (by omega); omega⟩
  have hmd : decide (120 < s * r) = false := by simp; omega
  clear B0 B2 HR H1 hrr hrs hre hg
  go_wp2_with fail
  with_reducible refine (spec_l4Copy r s A es c _ _ _ (hr.mid hm (Or.inl (Nat.zero_le _))) hl).mono ?_
  rintro en w4 ⟨A1, c1, rfl, ho4, hm4⟩
  have E0 := C0.mid hm4 (Or.inr (Nat.zero_le _))
  have E2 := C2.mid hm4 (Or.inr (Nat.zero_le _))
  have hal := Mid.alloc w4 (.cells #[.int .i64 r, .int .i64 s, .slice A1 es.length c1] 29)
  have Y0 := E0.mid hal (Or.inr (Nat.zero_le _))
  have Y2 := E2.mid hal (Or.inr (Nat.zero_le _))
  have Y3 := Box.new w4 #[.int .i64 r, .int .i64 s, .slice A1 es.length c1] 29
  have hzs := hm4.size
  have hmy := (hm.trans hm4).trans hal
  have ho5 := ho4.mid hal (Or.inl (Nat.zero_le _))
  clear p0 p1 p2 z0 z1 z2 zf C0 C2
  have hz0 := E0.1
  have hz2 := E2.1
  clear E0 E2
  have hw2 : w.heap.size ≤ w2.heap.size := hm.size
  have hw22 : w.heap.size + 2 ≤ w2.heap.size := by have h1 := HS.out; have h2 := hm2.size; omega
  go_wp2_with fail
  generalize hw5 : w4.alloc (.cells #[.int .i64 r, .int .i64 s, .slice A1 es.length c1] 29) = w5 at Y0 Y2 Y3 hmy ho5 ⊢
  have hs5 : w4.heap.size + 1 ≤ w5.heap.size := by rw [← hw5]; simp
  clear hw5 hal ho4
  have hGw : w.heap.size + 1 < w4.heap.size := by have := HS.out; have := hm2.size; omega
  have hG2 : w2.heap.size ≤ w4.heap.size := hzs
  generalize hG : w4.heap.size = G at Y3 hs5 hGw hG2 ho5 ⊢
  have hgl : ∀ e ∈ es, 1 ≤ e.l ∧ e.l ≤ 3 := fun e he => by have := F1.out.gr.all e he; unfold InG at this; omega
  clear hG hm2 hm4 hm0 hz0 hz2 hzs HS hm
  go_loopw [5] (fun x wr => ∃ (k : Nat) (A2 : Option Addr) (c2 lo2 hi2 : Nat) (xs : List Ed), (k : Int) ≤ r ∧ x = .int .i64 ((k : Int) + 1) ∧ Hid (xs = putAll es (addLs s es k)) ∧
      OG wr lo2 hi2 A2 c2 xs ∧ (hi2 ≤ G ∨ G + 1 ≤ lo2) ∧ w2.heap.size ≤ lo2 ∧
      Box wr w.heap.size [.int .i64 r, .int .i64 s, .slice A es.length c] ∧ Box wr (w.heap.size + 1) [.int .i64 0, .int .i64 0, .slice none 0 0] ∧
      Box wr G [.int .i64 r, .int .i64 s, .slice A2 xs.length c2] ∧ Mid 0 0 w wr) (fun x _ => (r + 1 - intOf x).toNat)
  case atStart => exact ⟨0, A1, c1, _, _, es, by omega, rfl, Lib.hid (by simp [addLs, putAll]), ho5, .inl (Nat.le_refl _), Nat.le_refl _, Y0, Y2, Y3, hmy⟩
  case round =>
    obtain ⟨wo, hwo⟩ : ∃ wo, wo = wr := ⟨_, rfl⟩
    subst hwo
    obtain ⟨k, A2, c2, lo2, hi2, xs, hk, rfl, HX, hown, hdis, hlo2, Z0, Z2, Z3, hmr⟩ := hrel
    have hGo : G < wo.heap.size := Z3.1
    have p0 := Z0.cell 0 rfl
    have p1 := Z0.cell 1 rfl
    have p2 := Z0.cell 2 rfl
    by_cases hlt : (k : Int) < r
    · have hkx : (k : Int) + 1 ≤ r := by omega
      have hk0 : (0 : Int) < (k : Int) + 1 := by omega
      have hal := (Mid.alloc wo (.cells #[] 3)).trans (Mid.alloc (wo.alloc (.cells #[] 3)) (.cells #[] 3))
      have T0 : TwoI ((wo.alloc (.cells #[] 3)).alloc (.cells #[] 3)) wo.heap.size (.slice (some ⟨wo.heap.size, 0, none⟩) 0 0) (.slice (some ⟨wo.heap.size + 1, 0, none⟩) 0 0) 0 0 [] [] := by
        have O1 := owns_empty wo 3 1
        have O2 := owns_empty (wo.alloc (.cells #[] 3)) 3 1
        rw [World.size_alloc] at O2
        refine ⟨O1.alloc _, owns_base O2 (Nat.le_succ _), ?_⟩
        intro h
        simp [Value.ownBlock] at h
      go_wp2_with fail
      go_loopw [6, 7, 8] (fun f t v wr => ∃ (j : Nat) (AF : Option Addr) (nF cF : Nat) (AT : Option Addr) (nT cT : Nat), (j : Int) ≤ s ∧ v = .int .i64 j ∧ f = .slice AF nF cF ∧ t = .slice AT nT cT ∧ Hid ((freeV es ((k : Int) + 1) j).length = nF) ∧ Hid ((freeV es (-((k : Int) + 1)) j).length = nT) ∧
        Hid (TwoI wr wo.heap.size (.slice AF nF cF) (.slice AT nT cT) nF nT (freeV es ((k : Int) + 1) j) (freeV es (-((k : Int) + 1)) j)) ∧ Mid 0 0 wo wr) (fun _ _ v _ => (s - intOf v).toNat)
      case atStart => exact ⟨0, _, 0, 0, _, 0, 0, by omega, rfl, rfl, rfl, Lib.hid rfl, Lib.hid rfl, Lib.hid T0, hal⟩
      case round =>
        obtain ⟨j, AF, nF, cF, AT, nT, cT, hj, rfl, rfl, rfl, HNF, HNT, HT, hmx⟩ := hrel
        have hnF : nF ≤ 40 := by have h1 := freeV_le es ((k : Int) + 1) j; have h2 := HNF.out; omega
        have hnT : nT ≤ 40 := by have h1 := freeV_le es (-((k : Int) + 1)) j; have h2 := HNT.out; omega
        have X0 := Z0.mid hmx (Or.inr (Nat.zero_le _))
        have q0 := X0.cell 0 rfl
        have q1 := X0.cell 1 rfl
        have q2 := X0.cell 2 rfl
        by_cases hlt2 : (j : Int) < s
        · have hS1 := freeV_succ es ((k : Int) + 1) j
          have hS2 := freeV_succ es (-((k : Int) + 1)) j
          go_wp2_with fail
          with_reducible refine (spec_NextVertex r s A es c j ((k : Int) + 1) _ lo hi (hr.mid (hmr.trans hmx) (Or.inl (Nat.zero_le _))) (by omega) hgl (by omega) (by omega)).mono ?_
          rintro en w6 ⟨rfl, hm6⟩
          generalize hv1 : nextV es (j : Int) ((k : Int) + 1) = v1 at hS1 ⊢
          have X1 := X0.mid hm6 (Or.inr (Nat.zero_le _))
          clear q0 q1 q2
          have q0 := X1.cell 0 rfl
          have q1 := X1.cell 1 rfl
          have q2 := X1.cell 2 rfl
          have hmx6 := hmx.trans hm6
          have hsz6 := hmx6.size
          have HT6 := Lib.hid (HT.out.mid hm6 (Nat.zero_le _))
          have hwo : w.heap.size < wo.heap.size := Z0.1
          by_cases c1 : v1 < 0
          · have b1 : decide (v1 < 0) = true := by simpa using c1
            rw [if_pos c1] at hS1
            go_wp2_with (at_builtin; refine wpList_push2 rfl _ _ rfl wo.heap.size AF nF cF _ _ _ _ rfl HT6.out j rfl (by omega) hsz6 ?_; intro A7 c7 w7 ht7 hm7; have X2 := X1.mid hm7 (Or.inl hwo); have z0 := X2.cell 0 rfl; have z1 := X2.cell 1 rfl; have z2 := X2.cell 2 rfl)
            with_reducible refine (spec_NextVertex r s A es c j (-((k : Int) + 1)) _ lo hi (hr.mid (hmr.trans (hmx6.transNew hm7 (Or.inl (Nat.le_refl _)))) (Or.inl (Nat.zero_le _))) (by omega) hgl (by omega) (by omega)).mono ?_
            rintro en w8 ⟨rfl, hm8⟩
            generalize hv2 : nextV es (j : Int) (-((k : Int) + 1)) = v2 at hS2 ⊢
            have hmx8 := ((hmx6.transNew hm7 (Or.inl (Nat.le_refl _)))).trans hm8
            have hsz8 := hmx8.size
            have HT8 := Lib.hid ((ht7).mid hm8 (Nat.zero_le _))
            by_cases c2 : v2 < 0
            · have b2 : decide (v2 < 0) = true := by simpa using c2
              rw [if_pos c2] at hS2
              clear hv2 c2 hv1
              go_wp2_with (at_builtin; refine wpList_push2 rfl _ _ rfl wo.heap.size AT nT cT _ _ _ _ rfl HT8.out.swap j rfl (by omega) hsz8 ?_; intro A9 c9 w9 ht9 hm9)
              go_roundw
              case rel => exact ⟨j + 1, A7, nF + 1, c7, A9, nT + 1, c9, by omega, by go_num, rfl, rfl, Lib.hid (by rw [hS1, List.length_append, HNF.out]; rfl), Lib.hid (by rw [hS2, List.length_append, HNT.out]; rfl), Lib.hid (by rw [hS1, hS2]; exact ht9.swap), hmx8.transNew hm9 (Or.inl (Nat.le_refl _))⟩
              case measure => simp [intOf]; omega
            · have b2 : decide (v2 < 0) = false := by simpa using c2
              rw [if_neg c2] at hS2
              clear hv2 c2 hv1
              go_wp2_with fail
              go_roundw
              case rel => exact ⟨j + 1, A7, nF + 1, c7, AT, nT, cT, by omega, by go_num, rfl, rfl, Lib.hid (by rw [hS1, List.length_append, HNF.out]; rfl), Lib.hid (by rw [hS2, List.append_nil, HNT.out]), Lib.hid (by rw [hS1, hS2, List.append_nil]; exact HT8.out), hmx8⟩
              case measure => simp [intOf]; omega
          · have b1 : decide (v1 < 0) = false := by simpa using c1
            rw [if_neg c1] at hS1
            have X2 := X1
            clear q0 q1 q2
            have q0 := X2.cell 0 rfl
            have q1 := X2.cell 1 rfl
            have q2 := X2.cell 2 rfl
            go_wp2_with fail
            with_reducible refine (spec_NextVertex r s A es c j (-((k : Int) + 1)) _ lo hi (hr.mid (hmr.trans hmx6) (Or.inl (Nat.zero_le _))) (by omega) hgl (by omega) (by omega)).mono ?_
            rintro en w8 ⟨rfl, hm8⟩
            generalize hv2 : nextV es (j : Int) (-((k : Int) + 1)) = v2 at hS2 ⊢
            have hmx8 := (hmx6).trans hm8
            have hsz8 := hmx8.size
            have HT8 := Lib.hid ((HT6.out).mid hm8 (Nat.zero_le _))
            by_cases c2 : v2 < 0
            · have b2 : decide (v2 < 0) = true := by simpa using c2
              rw [if_pos c2] at hS2
              clear hv2 c2 hv1
              go_wp2_with (at_builtin; refine wpList_push2 rfl _ _ rfl wo.heap.size AT nT cT _ _ _ _ rfl HT8.out.swap j rfl (by omega) hsz8 ?_; intro A9 c9 w9 ht9 hm9)
              go_roundw
              case rel => exact ⟨j + 1, AF, nF, cF, A9, nT + 1, c9, by omega, by go_num, rfl, rfl, Lib.hid (by rw [hS1, List.append_nil, HNF.out]), Lib.hid (by rw [hS2, List.length_append, HNT.out]; rfl), Lib.hid (by rw [hS1, hS2]; rw [List.append_nil]; exact ht9.swap), hmx8.transNew hm9 (Or.inl (Nat.le_refl _))⟩
              case measure => simp [intOf]; omega
            · have b2 : decide (v2 < 0) = false := by simpa using c2
              rw [if_neg c2] at hS2
              clear hv2 c2 hv1
              go_wp2_with fail
              go_roundw
              case rel => exact ⟨j + 1, AF, nF, cF, AT, nT, cT, by omega, by go_num, rfl, rfl, Lib.hid (by rw [hS1, List.append_nil, HNF.out]), Lib.hid (by rw [hS2, List.append_nil, HNT.out]), Lib.hid (by rw [hS1, hS2, List.append_nil]; rw [List.append_nil]; exact HT8.out), hmx8⟩
              case measure => simp [intOf]; omega
        · obtain ⟨wi, hwi⟩ : ∃ wi, wi = wr := ⟨_, rfl⟩
          subst hwi
          obtain rfl : j = s.toNat := by omega
          have hsame := free_same F1.out hk0
          have hall := addL_all F1.out hk0
          have hwo : w.heap.size < wo.heap.size := Z0.1
          have hnf : nF = nT := by rw [← HNF.out, ← HNT.out]; exact hsame
          have X2 := Z2.mid hmx (Or.inr (Nat.zero_le _))
          have X3 := Z3.mid hmx (Or.inr (Nat.zero_le _))
          have hown2 := hown.mid hmx (Or.inl (Nat.zero_le _))
          have hmi := hmr.trans hmx
          have HNX := Lib.hid hnf
          go_wp2_with fail
          go_loopw [9] (fun i wr => ∃ (m : Nat) (A3 : Option Addr) (c3 lo3 hi3 : Nat) (ys : List Ed), m ≤ nF ∧ i = .int .i64 m ∧ Hid (ys = putAll es (addLs s es k ++ (addL s es ((k : Int) + 1)).take m)) ∧
            OG wr lo3 hi3 A3 c3 ys ∧ (hi3 ≤ G ∨ G + 1 ≤ lo3) ∧ w2.heap.size ≤ lo3 ∧
            Box wr w.heap.size [.int .i64 r, .int .i64 s, .slice A es.length c] ∧ Box wr (w.heap.size + 1) [.int .i64 0, .int .i64 0, .slice none 0 0] ∧ Box wr G [.int .i64 r, .int .i64 s, .slice A3 ys.length c3] ∧
            Hid (TwoI wr wo.heap.size (.slice AF nF cF) (.slice AT nT cT) nF nT (freeV es ((k : Int) + 1) s.toNat) (freeV es (-((k : Int) + 1)) s.toNat)) ∧ Mid 0 0 w wr) (fun i _ => nF - (intOf i).toNat)
          case atStart => exact ⟨0, A2, c2, lo2, hi2, xs, Nat.zero_le _, rfl, Lib.hid (by rw [List.take_zero, List.append_nil]; exact HX.out), hown2, hdis, hlo2, X0, X2, X3, HT, hmi⟩
          case round =>
            obtain ⟨m, A3, c3, lo3, hi3, ys, hm3, rfl, HY, hown3, hdis3, hlo3, V0, V2, V3, HT3, hmv⟩ := hrel
            have hyl : ys.length ≤ 1000 := by
              have h1 := putAll_len es (addLs s es k ++ (addL s es ((k : Int) + 1)).take m)
              have h2 := addLs_len s es k
              have h3 := addL_len s es ((k : Int) + 1)
              have h4 : k * s.toNat ≤ 3 * 40 := Nat.mul_le_mul (by omega) (by omega)
              rw [← HY.out] at h1
              simp at h1
              omega
            by_cases hlt3 : m < nF
            · obtain ⟨a, b', ha, hb', hab⟩ := addL_at F1.out hk0 (i := m) (by rw [HNF.out]; exact hlt3)
              obtain ⟨BF, oF, f, rfl, hBF, hf, cF0⟩ := (owns_rv HT3.out.f).at (k := m) (by rw [HNF.out]; exact hlt3)
              obtain ⟨BT, oT, t, rfl, hBT, ht, cT0⟩ := (owns_rv HT3.out.t).at (k := m) (by rw [HNT.out]; omega)
              rw [ha] at hf
              rw [hb'] at ht
              injection hf with hf
              injection ht with ht
              subst hf ht
              have HAB := Lib.hid hab
              have hmn : (m : Int) < (nF : Int) := by omega
              have hmt : (m : Int) < (nT : Int) := by omega
              have hm0' : (0 : Int) ≤ (m : Int) := by omega
              have HA1 := Lib.hid ha
              have HA2 := Lib.hid hb'
              clear ha hb' hab
              have hbase : w2.heap.size ≤ wr.heap.size := by have := V3.1; omega
              go_wp2_with fail
              have hmd := Mid.drew1 wr
              have U0 := V0.mid hmd (Or.inr (Nat.zero_le _))
              have U2 := V2.mid hmd (Or.inr (Nat.zero_le _))
              have U3 := V3.mid hmd (Or.inr (Nat.zero_le _))
              have hownU := hown3.mid hmd (Or.inl (Nat.zero_le _))
              have HT4 := HT3.out.mid hmd (Nat.zero_le _)
              have hmu := hmv.trans hmd
              have f0 := HT4.cellF HA1.out
              have f1 := HT4.swap.cellF HA2.out
              have g2 := U3.cell 2 rfl
              clear V0 V2 V3 hown3 hmv hmd HT3 cF0 cT0
              refine wp_region_T (S := (fun w' => w'.cell? ⟨G, 2, none⟩ = some (.slice A3 ys.length c3) ∧ w'.cell? ⟨BF, oF + m, none⟩ = some (.int .i64 a) ∧ w'.cell? ⟨BT, oT + m, none⟩ = some (.int .i64 b'))) 14 (by kernel_rfl) ⟨g2, f0, f1⟩ ?_
              generalize World.drew wr = wz at U0 U2 U3 hownU HT4 hmu f0 f1 g2 ⊢
              have hS : wz.cell? ⟨G, 2, none⟩ = some (.slice A3 ys.length c3) ∧ wz.cell? ⟨BF, oF + m, none⟩ = some (.int .i64 a) ∧ wz.cell? ⟨BT, oT + m, none⟩ = some (.int .i64 b') := ⟨g2, f0, f1⟩
              refine wpAnyT_take (i := 0) (v := ?_) rfl (by kernel_rfl) (by kernel_rfl) (by kernel_rfl) (by kernel_rfl) (fun _ _ _ h => h) (Or.inl ⟨by rfl, ?_⟩) hS ?_
              rotate_left
              focus (intro w hSw; (try dsimp only at hSw); go_simp; try with_reducible rfl)
              try simp only [Act.put, List.setIfInBounds_toArray, List.set_cons_zero, List.set_cons_succ, List.getElem_toArray, List.getElem_cons_zero, List.getElem_cons_succ]
              refine wpAnyT_take (i := 1) (v := ?_) rfl (by kernel_rfl) (by kernel_rfl) (by kernel_rfl) (by kernel_rfl) (fun _ _ _ h => h) (Or.inl ⟨by rfl, ?_⟩) hS ?_
              rotate_left
              focus (intro w hSw; (try dsimp only at hSw); go_simp; try with_reducible rfl)
              try simp only [Act.put, List.setIfInBounds_toArray, List.set_cons_zero, List.set_cons_succ, List.getElem_toArray, List.getElem_cons_zero, List.getElem_cons_succ]
              refine wpAnyT_take (i := 2) (v := ?_) rfl (by kernel_rfl) (by kernel_rfl) (by kernel_rfl) (by kernel_rfl) (fun _ _ _ h => h) (Or.inl ⟨by rfl, ?_⟩) hS ?_
              rotate_left
              focus (intro w hSw; (try dsimp only at hSw); go_simp; try with_reducible rfl)
              try simp only [Act.put, List.setIfInBounds_toArray, List.set_cons_zero, List.set_cons_succ, List.getElem_toArray, List.getElem_cons_zero, List.getElem_cons_succ]
              refine wpAnyT_take (i := 3) (v := ?_) rfl (by kernel_rfl) (by kernel_rfl) (by kernel_rfl) (by kernel_rfl) (fun _ _ _ h => h) (Or.inl ⟨by rfl, ?_⟩) hS ?_
              rotate_left
              focus (intro w hSw; (try dsimp only at hSw); go_simp; try with_reducible rfl)
              try simp only [Act.put, List.setIfInBounds_toArray, List.set_cons_zero, List.set_cons_succ, List.getElem_toArray, List.getElem_cons_zero, List.getElem_cons_succ]
              refine wpAnyT_take (i := 4) (v := ?_) rfl (by kernel_rfl) (by kernel_rfl) (by kernel_rfl) (by kernel_rfl) (fun _ _ _ h => h) (Or.inl ⟨by rfl, ?_⟩) hS ?_
              rotate_left
              focus (intro w hSw; (try dsimp only at hSw); go_simp; try with_reducible rfl)
              try simp only [Act.put, List.setIfInBounds_toArray, List.set_cons_zero, List.set_cons_succ, List.getElem_toArray, List.getElem_cons_zero, List.getElem_cons_succ]
              refine wpAnyT_take (i := 5) (v := ?_) rfl (by kernel_rfl) (by kernel_rfl) (by kernel_rfl) (by kernel_rfl) (fun _ _ _ h => h) (Or.inl ⟨by rfl, ?_⟩) hS ?_
              rotate_left
              focus (intro w hSw; (try dsimp only at hSw); go_simp; try with_reducible rfl)
              try simp only [Act.put, List.setIfInBounds_toArray, List.set_cons_zero, List.set_cons_succ, List.getElem_toArray, List.getElem_cons_zero, List.getElem_cons_succ]
              refine wpAnyT_take (i := 6) (v := ?_) rfl (by kernel_rfl) (by kernel_rfl) (by kernel_rfl) (by kernel_rfl) (fun _ _ _ h => h) (Or.inl ⟨by rfl, ?_⟩) hS ?_
              rotate_left
              focus (intro w hSw; (try dsimp only at hSw); go_simp; try with_reducible rfl)
              try simp only [Act.put, List.setIfInBounds_toArray, List.set_cons_zero, List.set_cons_succ, List.getElem_toArray, List.getElem_cons_zero, List.getElem_cons_succ]
              refine wpAnyT_take (i := 7) (v := ?_) rfl (by kernel_rfl) (by kernel_rfl) (by kernel_rfl) (by kernel_rfl) (fun _ _ _ h => h) (Or.inl ⟨by rfl, ?_⟩) hS ?_
              rotate_left
              focus (intro w hSw; (try dsimp only at hSw); go_simp; try with_reducible rfl)
              try simp only [Act.put, List.setIfInBounds_toArray, List.set_cons_zero, List.set_cons_succ, List.getElem_toArray, List.getElem_cons_zero, List.getElem_cons_succ]
              refine wpAnyT_take (i := 8) (v := ?_) rfl (by kernel_rfl) (by kernel_rfl) (by kernel_rfl) (by kernel_rfl) (fun _ _ _ h => h) (Or.inl ⟨by rfl, ?_⟩) hS ?_
              rotate_left
              focus (intro w hSw; (try dsimp only at hSw); go_simp; try with_reducible rfl)
              try simp only [Act.put, List.setIfInBounds_toArray, List.set_cons_zero, List.set_cons_succ, List.getElem_toArray, List.getElem_cons_zero, List.getElem_cons_succ]
              refine wpAnyT_take (i := 9) (v := ?_) rfl (by kernel_rfl) (by kernel_rfl) (by kernel_rfl) (by kernel_rfl) (fun _ _ _ h => h) (Or.inl ⟨by rfl, ?_⟩) hS ?_
              rotate_left
              focus (intro w hSw; (try dsimp only at hSw); go_simp; try with_reducible rfl)
              try simp only [Act.put, List.setIfInBounds_toArray, List.set_cons_zero, List.set_cons_succ, List.getElem_toArray, List.getElem_cons_zero, List.getElem_cons_succ]
              refine wpAnyT_take (i := 10) (v := ?_) rfl (by kernel_rfl) (by kernel_rfl) (by kernel_rfl) (by kernel_rfl) (fun _ _ _ h => h) (Or.inl ⟨by rfl, ?_⟩) hS ?_
              rotate_left
              focus (intro w hSw; (try dsimp only at hSw); go_simp; try with_reducible rfl)
              try simp only [Act.put, List.setIfInBounds_toArray, List.set_cons_zero, List.set_cons_succ, List.getElem_toArray, List.getElem_cons_zero, List.getElem_cons_succ]
              refine wpAnyT_take (i := 11) (v := ?_) rfl (by kernel_rfl) (by kernel_rfl) (by kernel_rfl) (by kernel_rfl) (fun _ _ _ h => h) (Or.inl ⟨by rfl, ?_⟩) hS ?_
              rotate_left
              focus (intro w hSw; (try dsimp only at hSw); go_simp; try with_reducible rfl)
              try simp only [Act.put, List.setIfInBounds_toArray, List.set_cons_zero, List.set_cons_succ, List.getElem_toArray, List.getElem_cons_zero, List.getElem_cons_succ]
              have hP := spec_l4Put A3 ys c3 ⟨a, (k : Int) + 1, b'⟩ wz _ _ hownU.rg (by omega)
              refine wpAnyT_ready (rs := [12]) (by kernel_rfl) (by simp) (AllReadyT.cons rfl (fun K hK => ?_) AllReadyT.nil)
              (go_simp; refine hP.mono ?_; rintro en w9 ⟨A9, c9, rfl, ho9, hm9⟩; have T0' := U0.mid hm9 (Or.inr (Nat.zero_le _)); have T2' := U2.mid hm9 (Or.inr (Nat.zero_le _)); have T3' := U3.mid hm9 (Or.inr (Nat.zero_le _)); have HT5 := HT4.mid hm9 (Nat.zero_le _); go_wp2_with fail)
              refine hK.out _ _ (Or.inr ⟨T3'.cell 2 rfl, HT5.cellF HA1.out, HT5.swap.cellF HA2.out⟩) (fun _ => ?_)
              clear hK K
              try simp only [Act.put, List.setIfInBounds_toArray, List.set_cons_zero, List.set_cons_succ, List.getElem_toArray, List.getElem_cons_zero, List.getElem_cons_succ]
              have hmr9 := hmu.trans hm9
              have hGz : G < wz.heap.size := U3.1
              have hw2z : w2.heap.size ≤ wz.heap.size := by omega
              have hS3 := And.intro (T3'.cell 2 rfl) (And.intro (HT5.cellF HA1.out) (HT5.swap.cellF HA2.out))
              have hr2 := T3'.cell 2 rfl
              have hrf := T3'.2.2
              clear hS U0 U2 U3 hmu HT4
              refine wpAnyT_take (i := 13) (v := ?_) rfl (by kernel_rfl) (by kernel_rfl) (by kernel_rfl) (by kernel_rfl) (fun _ _ _ h => h) (Or.inl ⟨by rfl, ?_⟩) hS3 ?_
              rotate_left
              focus (intro w hSw; (try dsimp only at hSw); go_simp; try with_reducible rfl)
              try simp only [Act.put, List.setIfInBounds_toArray, List.set_cons_zero, List.set_cons_succ, List.getElem_toArray, List.getElem_cons_zero, List.getElem_cons_succ]
              refine wpAnyT_ready (rs := [14]) (by kernel_rfl) (by simp) (AllReadyT.cons rfl (fun K hK => ?_) AllReadyT.nil)
              (go_simp)
              refine hK.out _ _ (Or.inl rfl) (fun _ => ?_)
              clear hK K
              try simp only [Act.put, List.setIfInBounds_toArray, List.set_cons_zero, List.set_cons_succ, List.getElem_toArray, List.getElem_cons_zero, List.getElem_cons_succ]
              refine wpAnyT_done (by kernel_rfl) ?_ _
              go_wp2_with fail
              go_roundw
              case rel =>
                have hst := Mid.setCell w9 (lo := G) (hi := G + 1) (p := ⟨G, 2, none⟩) (.slice A9 (putE ⟨a, (k : Int) + 1, b'⟩ ys).length c9) (Nat.le_refl _) (Nat.lt_succ_self _)
                have htk : (addL s es ((k : Int) + 1)).take (m + 1) = (addL s es ((k : Int) + 1)).take m ++ [⟨a, (k : Int) + 1, b'⟩] := take_snoc HAB.out
                refine ⟨m + 1, A9, c9, _, _, _, by omega, by go_num, Lib.hid ?_, ho9.mid hst (Or.inl (by omega)), .inr (by omega), hw2z, T0'.mid hst (Or.inl (by omega)), T2'.mid hst (Or.inl (by omega)), T3'.set 2 _ (by simp) rfl, Lib.hid (HT5.mid hst (by omega)), hmr9.storeNew (by show w.heap.size ≤ G; omega) _⟩
                rw [htk, ← List.append_assoc, putAll_snoc, ← HY.out]
              case measure => simp [intOf]; omega
            · obtain rfl : m = nF := by omega
              have hta : (addL s es ((k : Int) + 1)).take m = addL s es ((k : Int) + 1) := List.take_of_length_le (by rw [hall, HNF.out]; exact Nat.le_refl _)
              rw [hta, ← addLs_succ] at HY
              go_wp2_with fail
              go_roundw
              case rel => exact ⟨k + 1, A3, c3, lo3, hi3, ys, by omega, by go_num, HY, hown3, hdis3, hlo3, V0, V2, V3, hmv⟩
              case measure => simp [intOf]; omega
    · obtain rfl : r = (k : Int) := by omega
      clear p0 p1 p2
      have p0 := Z0.cell 0 rfl
      have p1 := Z0.cell 1 rfl
      have p2 := Z0.cell 2 rfl
      have a0 := Z2.cell 0 rfl
      have a1 := Z2.cell 1 rfl
      have a2 := Z2.cell 2 rfl
      have b0 := Z3.cell 0 rfl
      have b1 := Z3.cell 1 rfl
      have b2 := Z3.cell 2 rfl
      have af := Z2.2.2
      have bf := Z3.2.2
      go_wp2_with fail
      have hcl : (w.heap.size + 1 == G) = false := by simp; omega
      have hxx := HX.out
      rw [putAll_canon F1.out.gr.asc] at hxx
      refine bodyPost_ret (v := .tuple #[.agg #[.int .i64 k, .int .i64 s, .slice A2 xs.length c2], .bool true]) (by simp [results, Tryz.results72, go_sem, a0, a1, a2, b0, b1, b2, af, bf]) rfl ⟨A2, c2, ?_, ?_, ?_⟩
      · rw [HRR.out, HRS.out, HRE.out, hxx]
        rfl
      · rw [HRE.out, Int.toNat_natCast, ← hxx]
        refine OG.wide (OG.mid hown (a := w.heap.size) (b := w.heap.size + 2) ?_ (Or.inl (by omega))) (by omega) (by have := hown.size; simpa using this) (Nat.le_refl _)
        repeat (first | exact Mid.refl _ _ _ | refine Mid.stored ?_ _ (by simp; try omega) (by simp; try omega))
      · repeat (first | exact hmr | refine Mid.storeNew ?_ (by simp; try omega) _)
end Go.Proofs.YtgpljoplnecioaaGreat

/- The law on CompleteGraph: its data. -/
namespace Go.Proofs.YtgpljoplnecioaaGreat
set_option linter.unusedVariables false
open Go.RowKit
def CompleteGraphIs (r0 s0 : Int) (d0 : List Ed) (rr0 rs0 : Int) (res0 : List Ed) (res1 : Bool) : Prop := CompleteIs r0 s0 d0 rr0 rs0 res0 res1
theorem CompleteGraphIs_ex (r0 s0 : Int) (d0 : List Ed) (hl0 : d0.length ≤ 1048576) : ∃ rr0 rs0 res0 res1, CompleteGraphIs r0 s0 d0 rr0 rs0 res0 res1 := by
  by_cases h : IsFol r0 s0 d0
  · exact ⟨_, _, _, _, .inl ⟨rfl, h, rfl, rfl, rfl⟩⟩
  · exact ⟨_, _, _, _, .inr ⟨rfl, h, rfl, rfl, rfl⟩⟩
theorem CompleteGraphIs_len {r0 s0 : Int} {d0 : List Ed} {rr0 rs0 : Int} {res0 : List Ed} {res1 : Bool} (h : CompleteGraphIs r0 s0 d0 rr0 rs0 res0 res1) (hl0 : d0.length ≤ 1048576) : res0.length ≤ 1048576 := by
  rcases h with ⟨-, h, -, -, rfl⟩ | ⟨-, -, -, -, rfl⟩
  · have h1 := canon_len (d0 ++ addLs s0 d0 r0.toNat)
    have h2 := addLs_len s0 d0 r0.toNat
    have h3 := h.gr.len
    have h4 := h.gr.rank
    have h5 := h.gr.size
    have h6 : r0.toNat * s0.toNat ≤ 3 * 40 := Nat.mul_le_mul (by omega) (by omega)
    rw [List.length_append] at h1
    omega
  · simp
theorem sspec_CompleteGraph (r0 s0 : Int) (A0 : Option Addr) (d0 : List Ed) (c0 : Nat) (w : World) (lo0 hi0 : Nat) (h0 : OG w lo0 hi0 A0 c0 d0) (hl0 : d0.length ≤ 1048576) (rr0 rs0 : Int) (res0 : List Ed) (res1 : Bool) (h : CompleteGraphIs r0 s0 d0 rr0 rs0 res0 res1) :
    Calls Tryz.prog 72 #[.agg #[.int .i64 r0, .int .i64 s0, .slice A0 d0.length c0]] w fun e w' => ∃ (A : Option Addr) (c : Nat), e = .returned (.tuple #[.agg #[.int .i64 rr0, .int .i64 rs0, .slice A res0.length c], .bool res1]) ∧ OG w' w.heap.size w'.heap.size A c res0 ∧ Mid 0 0 w w' :=
  spec_CompleteGraph r0 s0 A0 d0 c0 w lo0 hi0 h0.rg hl0 rr0 rs0 res0 res1 h
theorem simpl_CompleteGraph (r0 s0 : Int) (A0 : Option Addr) (d0 : List Ed) (c0 : Nat) (w : World) (lo0 hi0 : Nat) (h0 : OG w lo0 hi0 A0 c0 d0) (hl0 : d0.length ≤ 1048576) (rr0 rs0 : Int) (res0 : List Ed) (res1 : Bool) (h : CompleteGraphIs r0 s0 d0 rr0 rs0 res0 res1) :
    Calls Tryz.prog 73 #[.agg #[.int .i64 r0, .int .i64 s0, .slice A0 d0.length c0]] w fun e w' => ∃ (A : Option Addr) (c : Nat), e = .returned (.tuple #[.agg #[.int .i64 rr0, .int .i64 rs0, .slice A res0.length c], .bool res1]) ∧ OG w' w.heap.size w'.heap.size A c res0 ∧ Mid 0 0 w w' :=
  impl_CompleteGraph r0 s0 A0 d0 c0 w lo0 hi0 h0.rg hl0 h0.cnt.1 rr0 rs0 res0 res1 h
end Go.Proofs.YtgpljoplnecioaaGreat

/- CoverOf, both sides. -/
namespace Go.Proofs.YtgpljoplnecioaaGreat
set_option linter.unusedVariables false
set_option linter.unusedSimpArgs false
open Go.RowKit

def CoverIs (r s : Int) (es : List Ed) (rr rs : Int) (res : List Ed) (b : Bool) : Prop :=
  (b = true ∧ IsCor r s es ∧ rr = r ∧ rs = (coreA r (s, canon (es ++ addLs s es r.toNat))).1 ∧ res = (coreA r (s, canon (es ++ addLs s es r.toNat))).2) ∨ (b = false ∧ ¬ IsCor r s es ∧ rr = 0 ∧ rs = 0 ∧ res = [])
theorem CoverIs.no {r s : Int} {es : List Ed} {rr rs : Int} {res : List Ed} {b : Bool} (h : CoverIs r s es rr rs res b) (hn : ¬ IsCor r s es) : b = false ∧ rr = 0 ∧ rs = 0 ∧ res = [] := by
  rcases h with ⟨-, h, -⟩ | ⟨h1, -, h2⟩
  · exact absurd h hn
  · exact ⟨h1, h2⟩
theorem CoverIs.yes {r s : Int} {es : List Ed} {rr rs : Int} {res : List Ed} {b : Bool} (h : CoverIs r s es rr rs res b) (hn : IsCor r s es) : b = true ∧ r = rr ∧ rs = (coreA r (s, canon (es ++ addLs s es r.toNat))).1 ∧ res = (coreA r (s, canon (es ++ addLs s es r.toNat))).2 := by
  rcases h with ⟨h1, -, h2, h3⟩ | ⟨-, h, -⟩
  · exact ⟨h1, h2.symm, h3⟩
  · exact absurd hn h

set_option maxHeartbeats 3200000 in
set_option maxRecDepth 20000 in
theorem spec_CoverOf (r s : Int) (A : Option Addr) (es : List Ed) (c : Nat) (w : World) (lo hi : Nat) (hr : RG w lo hi A es) (hl : es.length ≤ 1048576) (rr rs : Int) (res : List Ed) (b : Bool) (hres : CoverIs r s es rr rs res b) :
    Calls Tryz.prog 40 #[graV r s A es.length c] w fun e w' => ∃ A1 c1, e = .returned (.tuple #[graV rr rs A1 res.length c1, .bool b]) ∧ OG w' w.heap.size w'.heap.size A1 c1 res ∧ Mid 0 0 w w' := by
  have hm0 : Mid 0 0 w ((w.alloc (.cells #[.int .i64 r, .int .i64 s, .slice A es.length c] 29)).alloc (.cells #[.int .i64 0, .int .i64 0, .slice none 0 0] 29)) := (Mid.alloc _ _).trans (Mid.alloc _ _)
  have b0 := (Box.new w #[.int .i64 r, .int .i64 s, .slice A es.length c] 29).mid (Mid.alloc _ (.cells #[.int .i64 0, .int .i64 0, .slice none 0 0] 29)) (Or.inr (Nat.zero_le _))
  have b2 := Box.new (w.alloc (.cells #[.int .i64 r, .int .i64 s, .slice A es.length c] 29)) #[.int .i64 0, .int .i64 0, .slice none 0 0] 29
  simp only [World.size_alloc] at b2
  have HR := Lib.hid hres
  clear hres
  go_enter Tryz.func40, Tryz.ntmps40
  go_wp2_with fail
  generalize ((w.alloc (.cells #[.int .i64 r, .int .i64 s, .slice A es.length c] 29)).alloc (.cells #[.int .i64 0, .int .i64 0, .slice none 0 0] 29)) = w1 at hm0 b0 b2 ⊢
  have hs1 : w.heap.size + 1 < w1.heap.size := b2.1
  by_cases hf : IsFol r s es
  · have HF := Lib.hid hf
    clear hf
    obtain ⟨ms, hms⟩ : ∃ ms, canon (es ++ addLs s es r.toNat) = ms := ⟨_, rfl⟩
    have hgm := complete_gr HF.out
    rw [hms] at hgm
    have HGM := Lib.hid hgm
    have HMS := Lib.hid hms
    clear hgm
    have hCI : CompleteIs r s es r s ms true := Or.inl ⟨rfl, HF.out, rfl, rfl, hms.symm⟩
    with_reducible refine (spec_CompleteGraph r s A es c w1 _ _ (hr.mid hm0 (Or.inl (Nat.zero_le _))) hl r s ms true hCI).mono ?_
    rintro en w2 ⟨A2, c2, rfl, ho2, hm2⟩
    clear hms hCI
    have hs2 := hm2.size
    have ha2 := Mid.alloc w2 (.cells #[.int .i64 r, .int .i64 s, .slice A2 ms.length c2] 29)
    have Y2 := Box.new w2 #[.int .i64 r, .int .i64 s, .slice A2 ms.length c2] 29
    replace b0 := b0.mid hm2 (Or.inr (Nat.zero_le _))
    replace b2 := b2.mid hm2 (Or.inr (Nat.zero_le _))
    replace hm0 := hm0.trans hm2
    replace b0 := b0.mid ha2 (Or.inr (Nat.zero_le _))
    replace b2 := b2.mid ha2 (Or.inr (Nat.zero_le _))
    replace ho2 := ho2.mid ha2 (Or.inl (Nat.zero_le _))
    replace hm0 := hm0.trans ha2
    have p0 := b0.cell 0 rfl
    have p1 := b0.cell 1 rfl
    have p2 := b0.cell 2 rfl
    go_wp2_with fail
    generalize w2.alloc (.cells #[.int .i64 r, .int .i64 s, .slice A2 ms.length c2] 29) = w3 at hm0 b0 b2 ho2 Y2 ha2 p0 p1 p2 ⊢
    have hs3 := ha2.size
    by_cases hc : IsCor r s es
    · obtain ⟨hb, hrr, hrs, hre⟩ := HR.out.yes hc
      have HC := Lib.hid hc
      clear hc HR
      with_reducible refine (spec_IsSubgroup r s A es c _ _ _ (hr.mid hm0 (Or.inl (Nat.zero_le _))) hl true (iff_of_true rfl HC.out)).mono ?_
      rintro en w4 ⟨rfl, hm4⟩
      have hs4 := hm4.size
      replace b0 := b0.mid hm4 (Or.inr (Nat.zero_le _))
      replace b2 := b2.mid hm4 (Or.inr (Nat.zero_le _))
      replace Y2 := Y2.mid hm4 (Or.inr (Nat.zero_le _))
      replace ho2 := ho2.mid hm4 (Or.inl (Nat.zero_le _))
      replace hm0 := hm0.trans hm4
      clear p0 p1 p2
      have y0 := Y2.cell 0 rfl
      have y1 := Y2.cell 1 rfl
      have y2 := Y2.cell 2 rfl
      obtain ⟨rn, rfl⟩ : ∃ rn : Nat, r = rn := ⟨r.toNat, by have := HF.out.gr.rank; omega⟩
      obtain ⟨sn, rfl⟩ : ∃ sn : Nat, s = sn := ⟨s.toNat, by have := HF.out.gr.size; omega⟩
      rw [HMS.out] at hrs hre
      obtain ⟨q, qs, hQ, -⟩ := nat_gr (coreA_gr (g := ((sn : Int), ms)) HGM.out)
      have hP := spec_CoreGraph rn sn A2 ms c2 w4 _ _ (OG.rg ho2) HGM.out
      rw [hQ] at hP hrs hre
      dsimp only at hP hrs hre
      have HP := Lib.hid hP
      have HALL := Lib.hid (And.intro hb (And.intro hrr (And.intro hrs hre)))
      clear hP hQ hb hrr hrs hre
      go_wp2_with fail
      with_reducible refine HP.out.mono ?_
      rintro en w5 ⟨A5, c5, rfl, ho5, hm5⟩
      clear HP
      replace b2 := b2.mid hm5 (Or.inr (Nat.zero_le _))
      replace hm0 := hm0.trans hm5
      have z0 := b2.cell 0 rfl
      have z1 := b2.cell 1 rfl
      have z2 := b2.cell 2 rfl
      have zf := b2.2.2
      go_wp2_with fail
      refine bodyPost_ret (v := .tuple #[.agg #[.int .i64 rn, .int .i64 q, .slice A5 qs.length c5], .bool true]) (by simp [results, Tryz.results40, go_sem, z0, z1, z2, zf]) rfl ⟨A5, c5, by rw [HALL.out.1, ← HALL.out.2.1, HALL.out.2.2.1, HALL.out.2.2.2], ?_, ?_⟩
      · rw [HALL.out.2.2.2]
        refine OG.wide (OG.mid ho5 (a := w.heap.size + 1) (b := w.heap.size + 2) ?_ (Or.inl (by omega))) (by omega) (by simp) (Nat.le_refl _)
        repeat (first | exact Mid.refl _ _ _ | refine Mid.stored ?_ _ (by simp; try omega) (by simp; try omega))
      · repeat (first | exact hm0 | refine Mid.storeNew ?_ (by simp; try omega) _)
    · obtain ⟨rfl, rfl, rfl, rfl⟩ := HR.out.no hc
      have HC := Lib.hid hc
      clear hc HR
      with_reducible refine (spec_IsSubgroup r s A es c _ _ _ (hr.mid hm0 (Or.inl (Nat.zero_le _))) hl false (iff_of_false Bool.false_ne_true HC.out)).mono ?_
      rintro en w4 ⟨rfl, hm4⟩
      replace b2 := b2.mid hm4 (Or.inr (Nat.zero_le _))
      replace hm0 := hm0.trans hm4
      have z0 := b2.cell 0 rfl
      have z1 := b2.cell 1 rfl
      have z2 := b2.cell 2 rfl
      have zf := b2.2.2
      clear p0 p1 p2
      go_wp2_with fail
      refine bodyPost_ret (v := .tuple #[.agg #[.int .i64 0, .int .i64 0, .slice none 0 0], .bool false]) (by simp [results, Tryz.results40, go_sem, z0, z1, z2, zf]) rfl ⟨none, 0, rfl, ?_, ?_⟩
      · exact ⟨Nat.le_refl _, ⟨rfl, .inl ⟨rfl, rfl⟩⟩, fun g hg => by simp [Value.ownBlock] at hg⟩
      · repeat (first | exact hm0 | refine Mid.trans ?_ (Mid.alloc _ _) | refine Mid.storeNew ?_ (by simp; try omega) _)
  · have hc : ¬ IsCor r s es := fun h => hf h.fol
    obtain ⟨rfl, rfl, rfl, rfl⟩ := HR.out.no hc
    have hCI : CompleteIs r s es 0 0 [] false := Or.inr ⟨rfl, hf, rfl, rfl, rfl⟩
    with_reducible refine (spec_CompleteGraph r s A es c w1 _ _ (hr.mid hm0 (Or.inl (Nat.zero_le _))) hl 0 0 [] false hCI).mono ?_
    rintro en w2 ⟨A2, c2, rfl, ho2, hm2⟩
    have hs2 := hm2.size
    clear hc hf HR hCI
    replace b2 := b2.mid hm2 (Or.inr (Nat.zero_le _))
    replace hm0 := hm0.trans hm2
    have ha2 := Mid.alloc w2 (.cells #[.int .i64 0, .int .i64 0, .slice A2 0 c2] 29)
    have hb22 : w.heap.size + 1 < w2.heap.size := b2.1
    have hb23 : w.heap.size < w2.heap.size := by omega
    have z0 := b2.cell 0 rfl
    have z1 := b2.cell 1 rfl
    have z2 := b2.cell 2 rfl
    have zf := b2.2.2
    go_wp2_with fail
    refine bodyPost_ret (v := .tuple #[.agg #[.int .i64 0, .int .i64 0, .slice none 0 0], .bool false]) (by simp [results, Tryz.results40, go_sem, z0, z1, z2, zf, hb22, hb23, World.cell?_alloc_lt]) rfl ⟨none, 0, rfl, ?_, ?_⟩
    · exact ⟨Nat.le_refl _, ⟨rfl, .inl ⟨rfl, rfl⟩⟩, fun g hg => by simp [Value.ownBlock] at hg⟩
    · repeat (first | exact hm0 | refine Mid.trans ?_ (Mid.alloc _ _) | refine Mid.storeNew ?_ (by simp; try omega) _)

set_option maxHeartbeats 3200000 in
set_option maxRecDepth 20000 in
theorem impl_CoverOf (r s : Int) (A : Option Addr) (es : List Ed) (c : Nat) (w : World) (lo hi : Nat) (hr : RG w lo hi A es) (hl : es.length ≤ 1048576) (hcl : es.length ≤ c) (rr rs : Int) (res : List Ed) (b : Bool) (hres : CoverIs r s es rr rs res b) :
    Calls Tryz.prog 41 #[graV r s A es.length c] w fun e w' => ∃ A1 c1, e = .returned (.tuple #[graV rr rs A1 res.length c1, .bool b]) ∧ OG w' w.heap.size w'.heap.size A1 c1 res ∧ Mid 0 0 w w' := by
  have hm0 : Mid 0 0 w ((w.alloc (.cells #[.int .i64 r, .int .i64 s, .slice A es.length c] 29)).alloc (.cells #[.int .i64 0, .int .i64 0, .slice none 0 0] 29)) := (Mid.alloc _ _).trans (Mid.alloc _ _)
  have b0 := (Box.new w #[.int .i64 r, .int .i64 s, .slice A es.length c] 29).mid (Mid.alloc _ (.cells #[.int .i64 0, .int .i64 0, .slice none 0 0] 29)) (Or.inr (Nat.zero_le _))
  have b2 := Box.new (w.alloc (.cells #[.int .i64 r, .int .i64 s, .slice A es.length c] 29)) #[.int .i64 0, .int .i64 0, .slice none 0 0] 29
  simp only [World.size_alloc] at b2
  have HR := Lib.hid hres
  clear hres
  go_enter Tryz.func41, Tryz.ntmps41
  go_wp2_with fail
  generalize ((w.alloc (.cells #[.int .i64 r, .int .i64 s, .slice A es.length c] 29)).alloc (.cells #[.int .i64 0, .int .i64 0, .slice none 0 0] 29)) = w1 at hm0 b0 b2 ⊢
  have hs1 : w.heap.size + 1 < w1.heap.size := b2.1
  by_cases hf : IsFol r s es
  · have HF := Lib.hid hf
    clear hf
    obtain ⟨ms, hms⟩ : ∃ ms, canon (es ++ addLs s es r.toNat) = ms := ⟨_, rfl⟩
    have hgm := complete_gr HF.out
    rw [hms] at hgm
    have HGM := Lib.hid hgm
    have HMS := Lib.hid hms
    clear hgm
    have hCI : CompleteIs r s es r s ms true := Or.inl ⟨rfl, HF.out, rfl, rfl, hms.symm⟩
    with_reducible refine (impl_CompleteGraph r s A es c w1 _ _ (hr.mid hm0 (Or.inl (Nat.zero_le _))) hl hcl r s ms true hCI).mono ?_
    rintro en w2 ⟨A2, c2, rfl, ho2, hm2⟩
    clear hms hCI
    have hs2 := hm2.size
    have ha2 := Mid.alloc w2 (.cells #[.int .i64 r, .int .i64 s, .slice A2 ms.length c2] 29)
    have Y2 := Box.new w2 #[.int .i64 r, .int .i64 s, .slice A2 ms.length c2] 29
    replace b0 := b0.mid hm2 (Or.inr (Nat.zero_le _))
    replace b2 := b2.mid hm2 (Or.inr (Nat.zero_le _))
    replace hm0 := hm0.trans hm2
    replace b0 := b0.mid ha2 (Or.inr (Nat.zero_le _))
    replace b2 := b2.mid ha2 (Or.inr (Nat.zero_le _))
    replace ho2 := ho2.mid ha2 (Or.inl (Nat.zero_le _))
    replace hm0 := hm0.trans ha2
    have p0 := b0.cell 0 rfl
    have p1 := b0.cell 1 rfl
    have p2 := b0.cell 2 rfl
    go_wp2_with fail
    generalize w2.alloc (.cells #[.int .i64 r, .int .i64 s, .slice A2 ms.length c2] 29) = w3 at hm0 b0 b2 ho2 Y2 ha2 p0 p1 p2 ⊢
    have hs3 := ha2.size
    by_cases hc : IsCor r s es
    · obtain ⟨hb, hrr, hrs, hre⟩ := HR.out.yes hc
      have HC := Lib.hid hc
      clear hc HR
      with_reducible refine (impl_IsCore r s A es c _ _ _ (hr.mid hm0 (Or.inl (Nat.zero_le _))) hl hcl true (iff_of_true rfl HC.out)).mono ?_
      rintro en w4 ⟨rfl, hm4⟩
      have hs4 := hm4.size
      replace b0 := b0.mid hm4 (Or.inr (Nat.zero_le _))
      replace b2 := b2.mid hm4 (Or.inr (Nat.zero_le _))
      replace Y2 := Y2.mid hm4 (Or.inr (Nat.zero_le _))
      replace ho2 := ho2.mid hm4 (Or.inl (Nat.zero_le _))
      replace hm0 := hm0.trans hm4
      clear p0 p1 p2
      have y0 := Y2.cell 0 rfl
      have y1 := Y2.cell 1 rfl
      have y2 := Y2.cell 2 rfl
      obtain ⟨rn, rfl⟩ : ∃ rn : Nat, r = rn := ⟨r.toNat, by have := HF.out.gr.rank; omega⟩
      obtain ⟨sn, rfl⟩ : ∃ sn : Nat, s = sn := ⟨s.toNat, by have := HF.out.gr.size; omega⟩
      rw [HMS.out] at hrs hre
      obtain ⟨q, qs, hQ, -⟩ := nat_gr (coreA_gr (g := ((sn : Int), ms)) HGM.out)
      have hP := impl_CoreGraph rn sn A2 ms c2 w4 _ _ (OG.rg ho2) HGM.out
      rw [hQ] at hP hrs hre
      dsimp only at hP hrs hre
      have HP := Lib.hid hP
      have HALL := Lib.hid (And.intro hb (And.intro hrr (And.intro hrs hre)))
      clear hP hQ hb hrr hrs hre
      go_wp2_with fail
      with_reducible refine HP.out.mono ?_
      rintro en w5 ⟨A5, c5, rfl, ho5, hm5⟩
      clear HP
      replace b2 := b2.mid hm5 (Or.inr (Nat.zero_le _))
      replace hm0 := hm0.trans hm5
      have z0 := b2.cell 0 rfl
      have z1 := b2.cell 1 rfl
      have z2 := b2.cell 2 rfl
      have zf := b2.2.2
      go_wp2_with fail
      refine bodyPost_ret (v := .tuple #[.agg #[.int .i64 rn, .int .i64 q, .slice A5 qs.length c5], .bool true]) (by simp [results, Tryz.results41, go_sem, z0, z1, z2, zf]) rfl ⟨A5, c5, by rw [HALL.out.1, ← HALL.out.2.1, HALL.out.2.2.1, HALL.out.2.2.2], ?_, ?_⟩
      · rw [HALL.out.2.2.2]
        refine OG.wide (OG.mid ho5 (a := w.heap.size + 1) (b := w.heap.size + 2) ?_ (Or.inl (by omega))) (by omega) (by simp) (Nat.le_refl _)
        repeat (first | exact Mid.refl _ _ _ | refine Mid.stored ?_ _ (by simp; try omega) (by simp; try omega))
      · repeat (first | exact hm0 | refine Mid.storeNew ?_ (by simp; try omega) _)
    · obtain ⟨rfl, rfl, rfl, rfl⟩ := HR.out.no hc
      have HC := Lib.hid hc
      clear hc HR
      with_reducible refine (impl_IsCore r s A es c _ _ _ (hr.mid hm0 (Or.inl (Nat.zero_le _))) hl hcl false (iff_of_false Bool.false_ne_true HC.out)).mono ?_
      rintro en w4 ⟨rfl, hm4⟩
      replace b2 := b2.mid hm4 (Or.inr (Nat.zero_le _))
      replace hm0 := hm0.trans hm4
      have z0 := b2.cell 0 rfl
      have z1 := b2.cell 1 rfl
      have z2 := b2.cell 2 rfl
      have zf := b2.2.2
      clear p0 p1 p2
      go_wp2_with fail
      refine bodyPost_ret (v := .tuple #[.agg #[.int .i64 0, .int .i64 0, .slice none 0 0], .bool false]) (by simp [results, Tryz.results41, go_sem, z0, z1, z2, zf]) rfl ⟨none, 0, rfl, ?_, ?_⟩
      · exact ⟨Nat.le_refl _, ⟨rfl, .inl ⟨rfl, rfl⟩⟩, fun g hg => by simp [Value.ownBlock] at hg⟩
      · repeat (first | exact hm0 | refine Mid.trans ?_ (Mid.alloc _ _) | refine Mid.storeNew ?_ (by simp; try omega) _)
  · have hc : ¬ IsCor r s es := fun h => hf h.fol
    obtain ⟨rfl, rfl, rfl, rfl⟩ := HR.out.no hc
    have hCI : CompleteIs r s es 0 0 [] false := Or.inr ⟨rfl, hf, rfl, rfl, rfl⟩
    with_reducible refine (impl_CompleteGraph r s A es c w1 _ _ (hr.mid hm0 (Or.inl (Nat.zero_le _))) hl hcl 0 0 [] false hCI).mono ?_
    rintro en w2 ⟨A2, c2, rfl, ho2, hm2⟩
    have hs2 := hm2.size
    clear hc hf HR hCI
    replace b2 := b2.mid hm2 (Or.inr (Nat.zero_le _))
    replace hm0 := hm0.trans hm2
    have ha2 := Mid.alloc w2 (.cells #[.int .i64 0, .int .i64 0, .slice A2 0 c2] 29)
    have hb22 : w.heap.size + 1 < w2.heap.size := b2.1
    have hb23 : w.heap.size < w2.heap.size := by omega
    have z0 := b2.cell 0 rfl
    have z1 := b2.cell 1 rfl
    have z2 := b2.cell 2 rfl
    have zf := b2.2.2
    go_wp2_with fail
    refine bodyPost_ret (v := .tuple #[.agg #[.int .i64 0, .int .i64 0, .slice none 0 0], .bool false]) (by simp [results, Tryz.results41, go_sem, z0, z1, z2, zf, hb22, hb23, World.cell?_alloc_lt]) rfl ⟨none, 0, rfl, ?_, ?_⟩
    · exact ⟨Nat.le_refl _, ⟨rfl, .inl ⟨rfl, rfl⟩⟩, fun g hg => by simp [Value.ownBlock] at hg⟩
    · repeat (first | exact hm0 | refine Mid.trans ?_ (Mid.alloc _ _) | refine Mid.storeNew ?_ (by simp; try omega) _)
end Go.Proofs.YtgpljoplnecioaaGreat

/- The law on CoverOf: its data. -/
namespace Go.Proofs.YtgpljoplnecioaaGreat
set_option linter.unusedVariables false
open Go.RowKit
def CoverOfIs (r0 s0 : Int) (d0 : List Ed) (rr0 rs0 : Int) (res0 : List Ed) (res1 : Bool) : Prop := CoverIs r0 s0 d0 rr0 rs0 res0 res1
theorem CoverOfIs_ex (r0 s0 : Int) (d0 : List Ed) (hl0 : d0.length ≤ 1048576) : ∃ rr0 rs0 res0 res1, CoverOfIs r0 s0 d0 rr0 rs0 res0 res1 := by
  by_cases h : IsCor r0 s0 d0
  · exact ⟨_, _, _, _, .inl ⟨rfl, h, rfl, rfl, rfl⟩⟩
  · exact ⟨_, _, _, _, .inr ⟨rfl, h, rfl, rfl, rfl⟩⟩
theorem CoverOfIs_len {r0 s0 : Int} {d0 : List Ed} {rr0 rs0 : Int} {res0 : List Ed} {res1 : Bool} (h : CoverOfIs r0 s0 d0 rr0 rs0 res0 res1) (hl0 : d0.length ≤ 1048576) : res0.length ≤ 1048576 := by
  rcases h with ⟨-, h, -, -, rfl⟩ | ⟨-, -, -, -, rfl⟩
  · have h1 := (coreA_gr (g := (s0, canon (d0 ++ addLs s0 d0 r0.toNat))) (complete_gr h.fol)).len
    omega
  · simp
theorem sspec_CoverOf (r0 s0 : Int) (A0 : Option Addr) (d0 : List Ed) (c0 : Nat) (w : World) (lo0 hi0 : Nat) (h0 : OG w lo0 hi0 A0 c0 d0) (hl0 : d0.length ≤ 1048576) (rr0 rs0 : Int) (res0 : List Ed) (res1 : Bool) (h : CoverOfIs r0 s0 d0 rr0 rs0 res0 res1) :
    Calls Tryz.prog 40 #[.agg #[.int .i64 r0, .int .i64 s0, .slice A0 d0.length c0]] w fun e w' => ∃ (A : Option Addr) (c : Nat), e = .returned (.tuple #[.agg #[.int .i64 rr0, .int .i64 rs0, .slice A res0.length c], .bool res1]) ∧ OG w' w.heap.size w'.heap.size A c res0 ∧ Mid 0 0 w w' :=
  spec_CoverOf r0 s0 A0 d0 c0 w lo0 hi0 h0.rg hl0 rr0 rs0 res0 res1 h
theorem simpl_CoverOf (r0 s0 : Int) (A0 : Option Addr) (d0 : List Ed) (c0 : Nat) (w : World) (lo0 hi0 : Nat) (h0 : OG w lo0 hi0 A0 c0 d0) (hl0 : d0.length ≤ 1048576) (rr0 rs0 : Int) (res0 : List Ed) (res1 : Bool) (h : CoverOfIs r0 s0 d0 rr0 rs0 res0 res1) :
    Calls Tryz.prog 41 #[.agg #[.int .i64 r0, .int .i64 s0, .slice A0 d0.length c0]] w fun e w' => ∃ (A : Option Addr) (c : Nat), e = .returned (.tuple #[.agg #[.int .i64 rr0, .int .i64 rs0, .slice A res0.length c], .bool res1]) ∧ OG w' w.heap.size w'.heap.size A c res0 ∧ Mid 0 0 w w' :=
  impl_CoverOf r0 s0 A0 d0 c0 w lo0 hi0 h0.rg hl0 h0.cnt.1 rr0 rs0 res0 res1 h
end Go.Proofs.YtgpljoplnecioaaGreat

/- ReducedRank, of both, and the law's data. -/
namespace Go.Proofs.YtgpljoplnecioaaGreat
set_option linter.unusedVariables false
set_option linter.unusedSimpArgs false
open Go.RowKit

theorem rankI_bnd {r s : Int} {es : List Ed} (hl : es.length ≤ 1048576) : -1 ≤ rankI r s es + 40 ∧ rankI r s es ≤ 1048577 := by
  unfold rankI
  split
  · rename_i h
    have h1 := h.fol.gr.size
    have h2 := h.fol.gr.len
    omega
  · omega

def ReducedRankIs (r0 s0 : Int) (d0 : List Ed) (res0 : Int) : Prop := res0 = max 0 (rankI r0 s0 d0 - 1)
theorem ReducedRankIs_ex (r0 s0 : Int) (d0 : List Ed) (hl0 : d0.length ≤ 1048576) : ∃ res0, ReducedRankIs r0 s0 d0 res0 := ⟨_, rfl⟩
end Go.Proofs.YtgpljoplnecioaaGreat

/- RankDrop and ExtraRank, both sides; the laws' data. -/
namespace Go.Proofs.YtgpljoplnecioaaGreat
set_option linter.unusedVariables false
set_option linter.unusedSimpArgs false
open Go.RowKit

theorem JoinIs.lens {r s : Int} {es : List Ed} {r' s' : Int} {es' : List Ed} {rr rs : Int} {res : List Ed} {b : Bool} (h : JoinIs r s es r' s' es' rr rs res b) : res.length ≤ 120 := by
  rcases h with ⟨-, h, -, -, rfl⟩ | ⟨-, -, -, -, rfl⟩
  · exact (coreA_gr (g := (s + s' - 1, canon (es ++ glueE s es'))) (glue_gr h.1)).len
  · simp
theorem CoverIs.lens {r s : Int} {es : List Ed} {rr rs : Int} {res : List Ed} {b : Bool} (h : CoverIs r s es rr rs res b) : res.length ≤ 120 := by
  rcases h with ⟨-, h, -, -, rfl⟩ | ⟨-, -, -, -, rfl⟩
  · exact (coreA_gr (g := (s, canon (es ++ addLs s es r.toNat))) (complete_gr h.fol)).len
  · simp
/-- What is lost of the ranks. -/
noncomputable def dropI (r s : Int) (es : List Ed) (r' s' : Int) (es' : List Ed) (rr rs : Int) (res : List Ed) (b : Bool) : Int := if b = true then rankI r s es + rankI r' s' es' - rankI rr rs res else -1
noncomputable def extraI (r s : Int) (es : List Ed) (rr rs : Int) (res : List Ed) (b : Bool) : Int := if b = true then rankI rr rs res - rankI r s es else -1


set_option maxHeartbeats 1000000 in
set_option maxRecDepth 20000 in
theorem spec_RankDrop (r s : Int) (A : Option Addr) (es : List Ed) (c : Nat) (r' s' : Int) (A' : Option Addr) (es' : List Ed) (c' : Nat) (w : World) (lo hi lo' hi' : Nat) (hr : RG w lo hi A es) (hr' : RG w lo' hi' A' es') (hl : es.length ≤ 1048576) (hl' : es'.length ≤ 1048576) (rr rs : Int) (res : List Ed) (b : Bool) (hres : JoinIs r s es r' s' es' rr rs res b) :
    Calls Tryz.prog 10 #[graV r s A es.length c, graV r' s' A' es'.length c'] w fun e w' => e = .returned (.int .i64 (dropI r s es r' s' es' rr rs res b)) ∧ Mid 0 0 w w' := by
  have hm0 : Mid 0 0 w ((w.alloc (.cells #[.int .i64 r, .int .i64 s, .slice A es.length c] 29)).alloc (.cells #[.int .i64 r', .int .i64 s', .slice A' es'.length c'] 29)) := (Mid.alloc _ _).trans (Mid.alloc _ _)
  have b0 := (Box.new w #[.int .i64 r, .int .i64 s, .slice A es.length c] 29).mid (Mid.alloc _ (.cells #[.int .i64 r', .int .i64 s', .slice A' es'.length c'] 29)) (Or.inr (Nat.zero_le _))
  have b1 := Box.new (w.alloc (.cells #[.int .i64 r, .int .i64 s, .slice A es.length c] 29)) #[.int .i64 r', .int .i64 s', .slice A' es'.length c'] 29
  simp only [World.size_alloc] at b1
  have hl2 := hres.lens
  have hl3 : res.length ≤ 1048576 := by omega
  obtain ⟨k1, k2⟩ := rankI_bnd (r := r) (s := s) hl
  obtain ⟨k3, k4⟩ := rankI_bnd (r := r') (s := s') hl'
  obtain ⟨k5, k6⟩ := rankI_bnd (r := rr) (s := rs) hl3
  have HR := Lib.hid hres
  have hJ := fun W hh hh' => spec_JoinOf r s A es c r' s' A' es' c' W lo hi lo' hi' hh hh' hl hl' rr rs res b HR.out
  have h1 := fun W hh => spec_RankOf r s A es c W lo hi hh hl
  have h2 := fun W hh => spec_RankOf r' s' A' es' c' W lo' hi' hh hl'
  have h3 := fun A c W lo hi hh => spec_RankOf rr rs A res c W lo hi hh hl3
  have hdr : dropI r s es r' s' es' rr rs res b = if b = true then rankI r s es + rankI r' s' es' - rankI rr rs res else -1 := rfl
  generalize dropI r s es r' s' es' rr rs res b = dd at hdr ⊢
  generalize rankI r s es = x1 at k1 k2 h1 hdr
  generalize rankI r' s' es' = x2 at k3 k4 h2 hdr
  generalize rankI rr rs res = x3 at k5 k6 h3 hdr
  have HJ := Lib.hid hJ
  have H1 := Lib.hid h1
  have H2 := Lib.hid h2
  have H3 := Lib.hid h3
  have HD := Lib.hid hdr
  clear hJ h1 h2 h3 hdr hres HR
  go_enter Tryz.func10, Tryz.ntmps10
  go_wp2_with fail
  generalize ((w.alloc (.cells #[.int .i64 r, .int .i64 s, .slice A es.length c] 29)).alloc (.cells #[.int .i64 r', .int .i64 s', .slice A' es'.length c'] 29)) = w1 at hm0 b0 b1 ⊢
  with_reducible refine (HJ.out w1 (hr.mid hm0 (Or.inl (Nat.zero_le _))) (hr'.mid hm0 (Or.inl (Nat.zero_le _)))).mono ?_
  rintro en w2 ⟨A2, c2, rfl, ho2, hm2⟩
  have hcl2 := ho2.cnt.1
  have ha2 := Mid.alloc w2 (.cells #[.int .i64 rr, .int .i64 rs, .slice A2 res.length c2] 29)
  have Y2 := Box.new w2 #[.int .i64 rr, .int .i64 rs, .slice A2 res.length c2] 29
  replace b0 := b0.mid hm2 (Or.inr (Nat.zero_le _))
  replace b1 := b1.mid hm2 (Or.inr (Nat.zero_le _))
  replace hm0 := hm0.trans hm2
  replace b0 := b0.mid ha2 (Or.inr (Nat.zero_le _))
  replace b1 := b1.mid ha2 (Or.inr (Nat.zero_le _))
  replace ho2 := ho2.mid ha2 (Or.inl (Nat.zero_le _))
  replace hm0 := hm0.trans ha2
  clear hm2 HJ
  cases b with
  | false =>
    go_wp2_with fail
    go_ret
    exact ⟨by rw [HD.out]; rfl, hm0⟩
  | true =>
    have hdd : dd = x1 + x2 - x3 := by rw [HD.out]; rfl
    subst hdd
    have hw1 : IntKind.i64.wrap (x1 + x2) = x1 + x2 := IntWalk.i64_in _ (by omega)
    have hw2 : IntKind.i64.wrap (x1 + x2 - x3) = x1 + x2 - x3 := IntWalk.i64_in _ (by omega)
    go_wp2_with fail
    generalize w2.alloc (.cells #[.int .i64 rr, .int .i64 rs, .slice A2 res.length c2] 29) = w3 at hm0 b0 b1 ho2 Y2 ha2 ⊢
    have u0 := wg_cell b0.1 (b0.cell 0 rfl)
    have u1 := wg_cell b0.1 (b0.cell 1 rfl)
    have u2 := wg_cell b0.1 (b0.cell 2 rfl)
    have v0 := wg_cell b1.1 (b1.cell 0 rfl)
    have v1 := wg_cell b1.1 (b1.cell 1 rfl)
    have v2 := wg_cell b1.1 (b1.cell 2 rfl)
    have y0 := wg_cell Y2.1 (Y2.cell 0 rfl)
    have y1 := wg_cell Y2.1 (Y2.cell 1 rfl)
    have y2 := wg_cell Y2.1 (Y2.cell 2 rfl)
    have hA1 := fun m os => H1.out (wg w3 m os) (hr.mid (hm0.trans (Mid.ofWg w3 m os)) (Or.inl (Nat.zero_le _)))
    have hA2 := fun m os => H2.out (wg w3 m os) (hr'.mid (hm0.trans (Mid.ofWg w3 m os)) (Or.inl (Nat.zero_le _)))
    have hA3 := fun m os => H3.out A2 c2 (wg w3 m os) _ _ (ho2.rg.mid (Mid.ofWg w3 m os) (Or.inl (Nat.zero_le _)))
    refine wp_region_quiet_wg (by kernel_rfl) (by kernel_rfl) ?_
    repeat
      (with_reducible refine wpQuiet_step (fun K hK => ?_))
      go_simp
      first
        | ((with_reducible refine hK _ ?_); clear hK K)
        | (rw [if_neg (by decide)]; (with_reducible refine hK _ ?_); clear hK K)
        | (apply Exists.intro; refine ⟨fun _ => ?_, hK _ ?_⟩; ((first | (go_at_call 35; with_reducible exact Calls.wg_of (hA1 _ _)) | (go_at_call 35; with_reducible exact Calls.wg_of (hA2 _ _)) | (go_at_call 35; with_reducible exact Calls.wg_of (hA3 _ _)))); clear hK K)
    with_reducible refine wpQuiet_nil ?_
    intro _ hw'
    obtain ⟨⟨nq, osq⟩, hw''⟩ := hw'
    subst hw''
    go_wp2_with fail
    go_ret
    exact ⟨by first | rfl | (rw [hw1, hw2]) | (congr 1), hm0.trans (Mid.ofWg w3 nq osq)⟩

set_option maxHeartbeats 1000000 in
set_option maxRecDepth 20000 in
theorem spec_ExtraRank (r s : Int) (A : Option Addr) (es : List Ed) (c : Nat) (w : World) (lo hi : Nat) (hr : RG w lo hi A es) (hl : es.length ≤ 1048576) (rr rs : Int) (res : List Ed) (b : Bool) (hres : CoverIs r s es rr rs res b) :
    Calls Tryz.prog 14 #[graV r s A es.length c] w fun e w' => e = .returned (.int .i64 (extraI r s es rr rs res b)) ∧ Mid 0 0 w w' := by
  have hm0 : Mid 0 0 w (w.alloc (.cells #[.int .i64 r, .int .i64 s, .slice A es.length c] 29)) := Mid.alloc _ _
  have b0 := Box.new w #[.int .i64 r, .int .i64 s, .slice A es.length c] 29
  have hl2 := hres.lens
  have hl3 : res.length ≤ 1048576 := by omega
  obtain ⟨k1, k2⟩ := rankI_bnd (r := r) (s := s) hl
  obtain ⟨k5, k6⟩ := rankI_bnd (r := rr) (s := rs) hl3
  have HR := Lib.hid hres
  have hJ := fun W hh => spec_CoverOf r s A es c W lo hi hh hl rr rs res b HR.out
  have h1 := fun W hh => spec_RankOf r s A es c W lo hi hh hl
  have h3 := fun A c W lo hi hh => spec_RankOf rr rs A res c W lo hi hh hl3
  have hdr : extraI r s es rr rs res b = if b = true then rankI rr rs res - rankI r s es else -1 := rfl
  generalize extraI r s es rr rs res b = dd at hdr ⊢
  generalize rankI r s es = x1 at k1 k2 h1 hdr
  generalize rankI rr rs res = x3 at k5 k6 h3 hdr
  have HJ := Lib.hid hJ
  have H1 := Lib.hid h1
  have H3 := Lib.hid h3
  have HD := Lib.hid hdr
  clear hJ h1 h3 hdr hres HR
  go_enter Tryz.func14, Tryz.ntmps14
  go_wp2_with fail
  generalize (w.alloc (.cells #[.int .i64 r, .int .i64 s, .slice A es.length c] 29)) = w1 at hm0 b0 ⊢
  with_reducible refine (HJ.out w1 (hr.mid hm0 (Or.inl (Nat.zero_le _)))).mono ?_
  rintro en w2 ⟨A2, c2, rfl, ho2, hm2⟩
  have hcl2 := ho2.cnt.1
  have ha2 := Mid.alloc w2 (.cells #[.int .i64 rr, .int .i64 rs, .slice A2 res.length c2] 29)
  have Y2 := Box.new w2 #[.int .i64 rr, .int .i64 rs, .slice A2 res.length c2] 29
  replace b0 := b0.mid hm2 (Or.inr (Nat.zero_le _))
  replace hm0 := hm0.trans hm2
  replace b0 := b0.mid ha2 (Or.inr (Nat.zero_le _))
  replace ho2 := ho2.mid ha2 (Or.inl (Nat.zero_le _))
  replace hm0 := hm0.trans ha2
  clear hm2 HJ
  cases b with
  | false =>
    go_wp2_with fail
    go_ret
    exact ⟨by rw [HD.out]; rfl, hm0⟩
  | true =>
    have hdd : dd = x3 - x1 := by rw [HD.out]; rfl
    subst hdd
    have hw2 : IntKind.i64.wrap (x3 - x1) = x3 - x1 := IntWalk.i64_in _ (by omega)
    go_wp2_with fail
    generalize w2.alloc (.cells #[.int .i64 rr, .int .i64 rs, .slice A2 res.length c2] 29) = w3 at hm0 b0 ho2 Y2 ha2 ⊢
    have u0 := wg_cell b0.1 (b0.cell 0 rfl)
    have u1 := wg_cell b0.1 (b0.cell 1 rfl)
    have u2 := wg_cell b0.1 (b0.cell 2 rfl)
    have y0 := wg_cell Y2.1 (Y2.cell 0 rfl)
    have y1 := wg_cell Y2.1 (Y2.cell 1 rfl)
    have y2 := wg_cell Y2.1 (Y2.cell 2 rfl)
    have hA1 := fun m os => H1.out (wg w3 m os) (hr.mid (hm0.trans (Mid.ofWg w3 m os)) (Or.inl (Nat.zero_le _)))
    have hA3 := fun m os => H3.out A2 c2 (wg w3 m os) _ _ (ho2.rg.mid (Mid.ofWg w3 m os) (Or.inl (Nat.zero_le _)))
    refine wp_region_quiet_wg (by kernel_rfl) (by kernel_rfl) ?_
    repeat
      (with_reducible refine wpQuiet_step (fun K hK => ?_))
      go_simp
      first
        | ((with_reducible refine hK _ ?_); clear hK K)
        | (rw [if_neg (by decide)]; (with_reducible refine hK _ ?_); clear hK K)
        | (apply Exists.intro; refine ⟨fun _ => ?_, hK _ ?_⟩; ((first | (go_at_call 35; with_reducible exact Calls.wg_of (hA1 _ _)) | (go_at_call 35; with_reducible exact Calls.wg_of (hA3 _ _)))); clear hK K)
    with_reducible refine wpQuiet_nil ?_
    intro _ hw'
    obtain ⟨⟨nq, osq⟩, hw''⟩ := hw'
    subst hw''
    go_wp2_with fail
    go_ret
    exact ⟨by first | rfl | (rw [hw2]) | (congr 1), hm0.trans (Mid.ofWg w3 nq osq)⟩


set_option maxHeartbeats 1000000 in
set_option maxRecDepth 20000 in
theorem impl_RankDrop (r s : Int) (A : Option Addr) (es : List Ed) (c : Nat) (r' s' : Int) (A' : Option Addr) (es' : List Ed) (c' : Nat) (w : World) (lo hi lo' hi' : Nat) (hr : RG w lo hi A es) (hr' : RG w lo' hi' A' es') (hl : es.length ≤ 1048576) (hl' : es'.length ≤ 1048576) (hcl : es.length ≤ c) (hcl' : es'.length ≤ c') (rr rs : Int) (res : List Ed) (b : Bool) (hres : JoinIs r s es r' s' es' rr rs res b) :
    Calls Tryz.prog 12 #[graV r s A es.length c, graV r' s' A' es'.length c'] w fun e w' => e = .returned (.int .i64 (dropI r s es r' s' es' rr rs res b)) ∧ Mid 0 0 w w' := by
  have hm0 : Mid 0 0 w ((w.alloc (.cells #[.int .i64 r, .int .i64 s, .slice A es.length c] 29)).alloc (.cells #[.int .i64 r', .int .i64 s', .slice A' es'.length c'] 29)) := (Mid.alloc _ _).trans (Mid.alloc _ _)
  have b0 := (Box.new w #[.int .i64 r, .int .i64 s, .slice A es.length c] 29).mid (Mid.alloc _ (.cells #[.int .i64 r', .int .i64 s', .slice A' es'.length c'] 29)) (Or.inr (Nat.zero_le _))
  have b1 := Box.new (w.alloc (.cells #[.int .i64 r, .int .i64 s, .slice A es.length c] 29)) #[.int .i64 r', .int .i64 s', .slice A' es'.length c'] 29
  simp only [World.size_alloc] at b1
  have hl2 := hres.lens
  have hl3 : res.length ≤ 1048576 := by omega
  obtain ⟨k1, k2⟩ := rankI_bnd (r := r) (s := s) hl
  obtain ⟨k3, k4⟩ := rankI_bnd (r := r') (s := s') hl'
  obtain ⟨k5, k6⟩ := rankI_bnd (r := rr) (s := rs) hl3
  have HR := Lib.hid hres
  have hJ := fun W hh hh' => impl_JoinOf r s A es c r' s' A' es' c' W lo hi lo' hi' hh hh' hl hl' hcl hcl' rr rs res b HR.out
  have h1 := fun W hh => impl_RankOf r s A es c W lo hi hh hl hcl
  have h2 := fun W hh => impl_RankOf r' s' A' es' c' W lo' hi' hh hl' hcl'
  have h3 := fun A c W lo hi hh hc => impl_RankOf rr rs A res c W lo hi hh hl3 hc
  have hdr : dropI r s es r' s' es' rr rs res b = if b = true then rankI r s es + rankI r' s' es' - rankI rr rs res else -1 := rfl
  generalize dropI r s es r' s' es' rr rs res b = dd at hdr ⊢
  generalize rankI r s es = x1 at k1 k2 h1 hdr
  generalize rankI r' s' es' = x2 at k3 k4 h2 hdr
  generalize rankI rr rs res = x3 at k5 k6 h3 hdr
  have HJ := Lib.hid hJ
  have H1 := Lib.hid h1
  have H2 := Lib.hid h2
  have H3 := Lib.hid h3
  have HD := Lib.hid hdr
  clear hJ h1 h2 h3 hdr hres HR
  go_enter Tryz.func12, Tryz.ntmps12
  go_wp2_with fail
  generalize ((w.alloc (.cells #[.int .i64 r, .int .i64 s, .slice A es.length c] 29)).alloc (.cells #[.int .i64 r', .int .i64 s', .slice A' es'.length c'] 29)) = w1 at hm0 b0 b1 ⊢
  with_reducible refine (HJ.out w1 (hr.mid hm0 (Or.inl (Nat.zero_le _))) (hr'.mid hm0 (Or.inl (Nat.zero_le _)))).mono ?_
  rintro en w2 ⟨A2, c2, rfl, ho2, hm2⟩
  have hcl2 := ho2.cnt.1
  have ha2 := Mid.alloc w2 (.cells #[.int .i64 rr, .int .i64 rs, .slice A2 res.length c2] 29)
  have Y2 := Box.new w2 #[.int .i64 rr, .int .i64 rs, .slice A2 res.length c2] 29
  replace b0 := b0.mid hm2 (Or.inr (Nat.zero_le _))
  replace b1 := b1.mid hm2 (Or.inr (Nat.zero_le _))
  replace hm0 := hm0.trans hm2
  replace b0 := b0.mid ha2 (Or.inr (Nat.zero_le _))
  replace b1 := b1.mid ha2 (Or.inr (Nat.zero_le _))
  replace ho2 := ho2.mid ha2 (Or.inl (Nat.zero_le _))
  replace hm0 := hm0.trans ha2
  clear hm2 HJ
  cases b with
  | false =>
    go_wp2_with fail
    go_ret
    exact ⟨by rw [HD.out]; rfl, hm0⟩
  | true =>
    have hdd : dd = x1 + x2 - x3 := by rw [HD.out]; rfl
    subst hdd
    have hw1 : IntKind.i64.wrap (x1 + x2) = x1 + x2 := IntWalk.i64_in _ (by omega)
    have hw2 : IntKind.i64.wrap (x1 + x2 - x3) = x1 + x2 - x3 := IntWalk.i64_in _ (by omega)
    go_wp2_with fail
    generalize w2.alloc (.cells #[.int .i64 rr, .int .i64 rs, .slice A2 res.length c2] 29) = w3 at hm0 b0 b1 ho2 Y2 ha2 ⊢
    have u0 := wg_cell b0.1 (b0.cell 0 rfl)
    have u1 := wg_cell b0.1 (b0.cell 1 rfl)
    have u2 := wg_cell b0.1 (b0.cell 2 rfl)
    have v0 := wg_cell b1.1 (b1.cell 0 rfl)
    have v1 := wg_cell b1.1 (b1.cell 1 rfl)
    have v2 := wg_cell b1.1 (b1.cell 2 rfl)
    have y0 := wg_cell Y2.1 (Y2.cell 0 rfl)
    have y1 := wg_cell Y2.1 (Y2.cell 1 rfl)
    have y2 := wg_cell Y2.1 (Y2.cell 2 rfl)
    have hA1 := fun m os => H1.out (wg w3 m os) (hr.mid (hm0.trans (Mid.ofWg w3 m os)) (Or.inl (Nat.zero_le _)))
    have hA2 := fun m os => H2.out (wg w3 m os) (hr'.mid (hm0.trans (Mid.ofWg w3 m os)) (Or.inl (Nat.zero_le _)))
    have hA3 := fun m os => H3.out A2 c2 (wg w3 m os) _ _ (ho2.rg.mid (Mid.ofWg w3 m os) (Or.inl (Nat.zero_le _))) hcl2
    refine wp_region_quiet_wg (by kernel_rfl) (by kernel_rfl) ?_
    repeat
      (with_reducible refine wpQuiet_step (fun K hK => ?_))
      go_simp
      first
        | ((with_reducible refine hK _ ?_); clear hK K)
        | (rw [if_neg (by decide)]; (with_reducible refine hK _ ?_); clear hK K)
        | (apply Exists.intro; refine ⟨fun _ => ?_, hK _ ?_⟩; ((first | (go_at_call 38; with_reducible exact Calls.wg_of (hA1 _ _)) | (go_at_call 38; with_reducible exact Calls.wg_of (hA2 _ _)) | (go_at_call 38; with_reducible exact Calls.wg_of (hA3 _ _)))); clear hK K)
    with_reducible refine wpQuiet_nil ?_
    intro _ hw'
    obtain ⟨⟨nq, osq⟩, hw''⟩ := hw'
    subst hw''
    go_wp2_with fail
    go_ret
    exact ⟨by first | rfl | (rw [hw1, hw2]) | (congr 1), hm0.trans (Mid.ofWg w3 nq osq)⟩

set_option maxHeartbeats 1000000 in
set_option maxRecDepth 20000 in
theorem impl_ExtraRank (r s : Int) (A : Option Addr) (es : List Ed) (c : Nat) (w : World) (lo hi : Nat) (hr : RG w lo hi A es) (hl : es.length ≤ 1048576) (hcl : es.length ≤ c) (rr rs : Int) (res : List Ed) (b : Bool) (hres : CoverIs r s es rr rs res b) :
    Calls Tryz.prog 15 #[graV r s A es.length c] w fun e w' => e = .returned (.int .i64 (extraI r s es rr rs res b)) ∧ Mid 0 0 w w' := by
  have hm0 : Mid 0 0 w (w.alloc (.cells #[.int .i64 r, .int .i64 s, .slice A es.length c] 29)) := Mid.alloc _ _
  have b0 := Box.new w #[.int .i64 r, .int .i64 s, .slice A es.length c] 29
  have hl2 := hres.lens
  have hl3 : res.length ≤ 1048576 := by omega
  obtain ⟨k1, k2⟩ := rankI_bnd (r := r) (s := s) hl
  obtain ⟨k5, k6⟩ := rankI_bnd (r := rr) (s := rs) hl3
  have HR := Lib.hid hres
  have hJ := fun W hh => impl_CoverOf r s A es c W lo hi hh hl hcl rr rs res b HR.out
  have h1 := fun W hh => impl_RankOf r s A es c W lo hi hh hl hcl
  have h3 := fun A c W lo hi hh hc => impl_RankOf rr rs A res c W lo hi hh hl3 hc
  have hdr : extraI r s es rr rs res b = if b = true then rankI rr rs res - rankI r s es else -1 := rfl
  generalize extraI r s es rr rs res b = dd at hdr ⊢
  generalize rankI r s es = x1 at k1 k2 h1 hdr
  generalize rankI rr rs res = x3 at k5 k6 h3 hdr
  have HJ := Lib.hid hJ
  have H1 := Lib.hid h1
  have H3 := Lib.hid h3
  have HD := Lib.hid hdr
  clear hJ h1 h3 hdr hres HR
  go_enter Tryz.func15, Tryz.ntmps15
  go_wp2_with fail
  generalize (w.alloc (.cells #[.int .i64 r, .int .i64 s, .slice A es.length c] 29)) = w1 at hm0 b0 ⊢
  with_reducible refine (HJ.out w1 (hr.mid hm0 (Or.inl (Nat.zero_le _)))).mono ?_
  rintro en w2 ⟨A2, c2, rfl, ho2, hm2⟩
  have hcl2 := ho2.cnt.1
  have ha2 := Mid.alloc w2 (.cells #[.int .i64 rr, .int .i64 rs, .slice A2 res.length c2] 29)
  have Y2 := Box.new w2 #[.int .i64 rr, .int .i64 rs, .slice A2 res.length c2] 29
  replace b0 := b0.mid hm2 (Or.inr (Nat.zero_le _))
  replace hm0 := hm0.trans hm2
  replace b0 := b0.mid ha2 (Or.inr (Nat.zero_le _))
  replace ho2 := ho2.mid ha2 (Or.inl (Nat.zero_le _))
  replace hm0 := hm0.trans ha2
  clear hm2 HJ
  cases b with
  | false =>
    go_wp2_with fail
    go_ret
    exact ⟨by rw [HD.out]; rfl, hm0⟩
  | true =>
    have hdd : dd = x3 - x1 := by rw [HD.out]; rfl
    subst hdd
    have hw2 : IntKind.i64.wrap (x3 - x1) = x3 - x1 := IntWalk.i64_in _ (by omega)
    go_wp2_with fail
    generalize w2.alloc (.cells #[.int .i64 rr, .int .i64 rs, .slice A2 res.length c2] 29) = w3 at hm0 b0 ho2 Y2 ha2 ⊢
    have u0 := wg_cell b0.1 (b0.cell 0 rfl)
    have u1 := wg_cell b0.1 (b0.cell 1 rfl)
    have u2 := wg_cell b0.1 (b0.cell 2 rfl)
    have y0 := wg_cell Y2.1 (Y2.cell 0 rfl)
    have y1 := wg_cell Y2.1 (Y2.cell 1 rfl)
    have y2 := wg_cell Y2.1 (Y2.cell 2 rfl)
    have hA1 := fun m os => H1.out (wg w3 m os) (hr.mid (hm0.trans (Mid.ofWg w3 m os)) (Or.inl (Nat.zero_le _)))
    have hA3 := fun m os => H3.out A2 c2 (wg w3 m os) _ _ (ho2.rg.mid (Mid.ofWg w3 m os) (Or.inl (Nat.zero_le _))) hcl2
    refine wp_region_quiet_wg (by kernel_rfl) (by kernel_rfl) ?_
    repeat
      (with_reducible refine wpQuiet_step (fun K hK => ?_))
      go_simp
      first
        | ((with_reducible refine hK _ ?_); clear hK K)
        | (rw [if_neg (by decide)]; (with_reducible refine hK _ ?_); clear hK K)
        | (apply Exists.intro; refine ⟨fun _ => ?_, hK _ ?_⟩; ((first | (go_at_call 38; with_reducible exact Calls.wg_of (hA1 _ _)) | (go_at_call 38; with_reducible exact Calls.wg_of (hA3 _ _)))); clear hK K)
    with_reducible refine wpQuiet_nil ?_
    intro _ hw'
    obtain ⟨⟨nq, osq⟩, hw''⟩ := hw'
    subst hw''
    go_wp2_with fail
    go_ret
    exact ⟨by first | rfl | (rw [hw2]) | (congr 1), hm0.trans (Mid.ofWg w3 nq osq)⟩


def RankDropIs (r0 s0 : Int) (d0 : List Ed) (r1 s1 : Int) (d1 : List Ed) (res0 : Int) : Prop := ∃ rr rs res b, JoinIs r0 s0 d0 r1 s1 d1 rr rs res b ∧ res0 = dropI r0 s0 d0 r1 s1 d1 rr rs res b
theorem RankDropIs_ex (r0 s0 : Int) (d0 : List Ed) (r1 s1 : Int) (d1 : List Ed) (hl0 : d0.length ≤ 1048576) (hl1 : d1.length ≤ 1048576) : ∃ res0, RankDropIs r0 s0 d0 r1 s1 d1 res0 := by
  obtain ⟨rr, rs, res, b, h⟩ := JoinOfIs_ex r0 s0 d0 r1 s1 d1 hl0 hl1
  exact ⟨_, rr, rs, res, b, h, rfl⟩
def ExtraRankIs (r0 s0 : Int) (d0 : List Ed) (res0 : Int) : Prop := ∃ rr rs res b, CoverIs r0 s0 d0 rr rs res b ∧ res0 = extraI r0 s0 d0 rr rs res b
theorem ExtraRankIs_ex (r0 s0 : Int) (d0 : List Ed) (hl0 : d0.length ≤ 1048576) : ∃ res0, ExtraRankIs r0 s0 d0 res0 := by
  obtain ⟨rr, rs, res, b, h⟩ := CoverOfIs_ex r0 s0 d0 hl0
  exact ⟨_, rr, rs, res, b, h, rfl⟩
theorem sspec_RankDrop (r0 s0 : Int) (A0 : Option Addr) (d0 : List Ed) (c0 : Nat) (r1 s1 : Int) (A1 : Option Addr) (d1 : List Ed) (c1 : Nat) (w : World) (lo0 hi0 : Nat) (h0 : OG w lo0 hi0 A0 c0 d0) (hl0 : d0.length ≤ 1048576) (lo1 hi1 : Nat) (h1 : OG w lo1 hi1 A1 c1 d1) (hl1 : d1.length ≤ 1048576) (res0 : Int) (h : RankDropIs r0 s0 d0 r1 s1 d1 res0) :
    Calls Tryz.prog 10 #[.agg #[.int .i64 r0, .int .i64 s0, .slice A0 d0.length c0], .agg #[.int .i64 r1, .int .i64 s1, .slice A1 d1.length c1]] w fun e w' => e = .returned (.int .i64 res0) ∧ Mid 0 0 w w' := by
  obtain ⟨rr, rs, res, b, hj, rfl⟩ := h
  exact spec_RankDrop r0 s0 A0 d0 c0 r1 s1 A1 d1 c1 w lo0 hi0 lo1 hi1 h0.rg h1.rg hl0 hl1 rr rs res b hj
theorem sspec_ExtraRank (r0 s0 : Int) (A0 : Option Addr) (d0 : List Ed) (c0 : Nat) (w : World) (lo0 hi0 : Nat) (h0 : OG w lo0 hi0 A0 c0 d0) (hl0 : d0.length ≤ 1048576) (res0 : Int) (h : ExtraRankIs r0 s0 d0 res0) :
    Calls Tryz.prog 14 #[.agg #[.int .i64 r0, .int .i64 s0, .slice A0 d0.length c0]] w fun e w' => e = .returned (.int .i64 res0) ∧ Mid 0 0 w w' := by
  obtain ⟨rr, rs, res, b, hj, rfl⟩ := h
  exact spec_ExtraRank r0 s0 A0 d0 c0 w lo0 hi0 h0.rg hl0 rr rs res b hj
theorem simpl_RankDrop (r0 s0 : Int) (A0 : Option Addr) (d0 : List Ed) (c0 : Nat) (r1 s1 : Int) (A1 : Option Addr) (d1 : List Ed) (c1 : Nat) (w : World) (lo0 hi0 : Nat) (h0 : OG w lo0 hi0 A0 c0 d0) (hl0 : d0.length ≤ 1048576) (lo1 hi1 : Nat) (h1 : OG w lo1 hi1 A1 c1 d1) (hl1 : d1.length ≤ 1048576) (res0 : Int) (h : RankDropIs r0 s0 d0 r1 s1 d1 res0) :
    Calls Tryz.prog 12 #[.agg #[.int .i64 r0, .int .i64 s0, .slice A0 d0.length c0], .agg #[.int .i64 r1, .int .i64 s1, .slice A1 d1.length c1]] w fun e w' => e = .returned (.int .i64 res0) ∧ Mid 0 0 w w' := by
  obtain ⟨rr, rs, res, b, hj, rfl⟩ := h
  exact impl_RankDrop r0 s0 A0 d0 c0 r1 s1 A1 d1 c1 w lo0 hi0 lo1 hi1 h0.rg h1.rg hl0 hl1 h0.cnt.1 h1.cnt.1 rr rs res b hj
theorem simpl_ExtraRank (r0 s0 : Int) (A0 : Option Addr) (d0 : List Ed) (c0 : Nat) (w : World) (lo0 hi0 : Nat) (h0 : OG w lo0 hi0 A0 c0 d0) (hl0 : d0.length ≤ 1048576) (res0 : Int) (h : ExtraRankIs r0 s0 d0 res0) :
    Calls Tryz.prog 15 #[.agg #[.int .i64 r0, .int .i64 s0, .slice A0 d0.length c0]] w fun e w' => e = .returned (.int .i64 res0) ∧ Mid 0 0 w w' := by
  obtain ⟨rr, rs, res, b, hj, rfl⟩ := h
  exact impl_ExtraRank r0 s0 A0 d0 c0 w lo0 hi0 h0.rg hl0 h0.cnt.1 rr rs res b hj
end Go.Proofs.YtgpljoplnecioaaGreat

/- Opening of a morphism that came in. -/
namespace Go.Proofs.YtgpljoplnecioaaGreat
set_option linter.unusedVariables false
open Go.ChangeShapes Go.WideShapes Go.ChangeAt Go.RowKit
open Go.Joins
theorem cellsSI : Tryz.prog.cellsOf 35 = 1 := by kernel_rfl
end Go.Proofs.YtgpljoplnecioaaGreat

/- Opening of a graph that came in: its edges read as a list. -/
namespace Go.Proofs.YtgpljoplnecioaaGreat
set_option linter.unusedVariables false
set_option linter.unusedSimpArgs false
open Go.ChangeShapes Go.WideShapes Go.ChangeAt Go.RowKit
open Go.Joins Go.Deep

abbrev tEL : TypeId := 74
theorem cellsEL : Tryz.prog.cellsOf 74 = 3 := by kernel_rfl
theorem undSEL : Tryz.prog.underlying 22 = some (.slice 74) := by kernel_rfl
theorem fields3 {H : Type} {enc : TypeId × Value → H} {P : Program} {w : World} {base : Nat} {spare : Nat → Bool} {held : Bool} {t : TypeId} {fs : Array Field} {fuel : Nat} {cs : List Value} {x : DataW H × List MemPlace}
    (ht : P.underlying t = some (.struct fs)) (hone : oneCellFields P fs = true) (h : DataW.trod enc P w base spare held fuel t cs = some x) (hl : cs.length = fs.size) :
    ∃ n, ∀ (j : Nat) (f : Field), fs[j]? = some f → ∃ v y, cs[j]? = some v ∧ DataW.trod enc P w base spare held n f.type [v] = some y := by
  obtain ⟨ys, n', hn', hy, hlen, hyl, hf⟩ := DataW.trod_struct ht h
  refine ⟨n', fun j f hj => ?_⟩
  obtain ⟨ho, hk⟩ := hone_of hone j f hj
  have hjl : j < fs.size := (Array.getElem?_eq_some_iff.1 hj).1
  have h1 := hf j f hj
  rw [ho, hk] at h1
  have h2 : (cs.drop j).take 1 = [cs[j]] := by
    rw [List.drop_eq_getElem_cons (by omega)]
    rfl
  rw [h2] at h1
  exact ⟨cs[j], ys[j], List.getElem?_eq_getElem (by omega), h1.trans (List.getElem?_eq_getElem (by omega))⟩
set_option maxRecDepth 100000 in
theorem edge_cells {H : Type} {enc : TypeId × Value → H} {W : World} {a : Addr} {n : Nat} {cs : List Value} {x : DataW H × List MemPlace}
    (hc : W.cells? 0 a 3 = some cs) (h : DataW.trod enc Tryz.prog W 0 (fun _ => true) true n 74 cs = some x) :
    ∃ e : Ed, W.cell? a = some (.int .i64 e.a) ∧ W.cell? (a.add 1) = some (.int .i64 e.l) ∧ W.cell? (a.add 2) = some (.int .i64 e.b) ∧ OkI (edI [e]) := by
  obtain ⟨_, hcl, hat⟩ := World.cells?_some hc
  obtain ⟨n', hf⟩ := fields3 Tryz.underlying74 (by kernel_rfl) h (by rw [hcl]; rfl)
  have h0 := hf 0 _ rfl
  have h1 := hf 1 _ rfl
  have h2 := hf 2 _ rfl
  obtain ⟨v0, y0, g0, t0⟩ := h0
  obtain ⟨v1, y1, g1, t1⟩ := h1
  obtain ⟨v2, y2, g2, t2⟩ := h2
  obtain ⟨m0, hm0, -, w0⟩ := DataW.trod_int undI t0
  obtain ⟨m1, hm1, -, w1⟩ := DataW.trod_int undI t1
  obtain ⟨m2, hm2, -, w2⟩ := DataW.trod_int undI t2
  simp at hm0 hm1 hm2
  subst hm0 hm1 hm2
  refine ⟨⟨m0, m1, m2⟩, ?_, ?_, ?_, ?_⟩
  · have := hat 0 (by omega)
    rw [show a.add 0 = a by simp [Addr.add]] at this
    rw [this, g0]
  · rw [hat 1 (by omega), g1]
  · rw [hat 2 (by omega), g2]
  · rw [edI_one]
    intro x hx
    simp at hx
    rcases hx with rfl | rfl | rfl
    · exact wf_bounds w0
    · exact wf_bounds w1
    · exact wf_bounds w2
theorem okI_edI {es : List Ed} (h : ∀ e ∈ es, OkI (edI [e])) : OkI (edI es) := by
  induction es with
  | nil => intro x hx; simp [edI] at hx
  | cons e t ih =>
    intro x hx
    rw [show e :: t = [e] ++ t from rfl, edI_append] at hx
    rcases List.mem_append.1 hx with hx | hx
    · exact h e (by simp) x hx
    · exact ih (fun f hf => h f (by simp [hf])) x hx
theorem edges_of_cells {H : Type} {enc : TypeId × Value → H} {W : World} {fuel : Nat} {A : Option Addr} {len c : Nat} {x : DataW H × List MemPlace}
    (h : DataW.trod enc Tryz.prog W 0 (fun _ => true) true fuel 22 [.slice A len c] = some x) : ∃ es : List Ed, len = es.length ∧ RG W 0 W.heap.size A es ∧ OkI (edI es) ∧ es.length ≤ 9223372036854775807 := by
  rcases open_slice undSEL h with ⟨hcs, _⟩ | ⟨a, len', cap, m, n, D, Pl, hcs, _, hl, hm, hmm, -, hi⟩
  · simp at hcs
    obtain ⟨rfl, rfl, rfl⟩ := hcs
    exact ⟨[], rfl, ⟨Nat.le_refl _, fun hn => absurd rfl hn⟩, fun x hx => by simp [edI] at hx, by simp⟩
  · simp at hcs
    obtain ⟨rfl, rfl, rfl⟩ := hcs
    simp at hmm
    subst hmm
    have hx : ∀ i, ∃ e : Ed, i < len → (W.cell? (a.add (i * 3)) = some (.int .i64 e.a) ∧ W.cell? ((a.add (i * 3)).add 1) = some (.int .i64 e.l) ∧ W.cell? ((a.add (i * 3)).add 2) = some (.int .i64 e.b) ∧ OkI (edI [e])) := by
      intro i
      by_cases hil : i < len
      · obtain ⟨cs', hc, ht'⟩ := hi i (by omega)
        rw [cellsEL] at hc
        obtain ⟨e, he⟩ := edge_cells hc ht'
        exact ⟨e, fun _ => he⟩
      · exact ⟨⟨0, 0, 0⟩, fun h => absurd h hil⟩
    obtain ⟨f, hf⟩ := Classical.axiomOfChoice hx
    refine ⟨(List.range len).map f, by simp, ⟨Nat.le_refl _, fun hne => ?_⟩, ?_, by unfold maxLen at hm; simp; omega⟩
    · have hp : 0 < len := by
        rcases Nat.eq_zero_or_pos len with h0 | h0
        · subst h0
          simp [ints, edI] at hne
        · exact h0
      have h0 := (hf 0 hp).1
      obtain ⟨b, off, spot⟩ := a
      have hspot : spot = none := by simpa [Addr.add] using World.cell?_spot h0
      subst hspot
      refine ⟨b, off, rfl, Nat.zero_le _, ?_, fun j u hu => ?_⟩
      · have := World.block_lt_of_cell? _ _ h0
        simpa [Addr.add] using this
      · have hj : j < len * 3 := by
          have := (List.getElem?_eq_some_iff.1 hu).1
          rw [ints_len, edI_len] at this
          simpa using this
        obtain ⟨k, r, hr, rfl⟩ : ∃ k r, r < 3 ∧ j = k * 3 + r := ⟨j / 3, j % 3, by omega, by omega⟩
        obtain ⟨c0, c1, c2, -⟩ := hf k (by omega)
        have hg : ((List.range len).map f)[k]? = some (f k) := by
          rw [List.getElem?_map, List.getElem?_range (by omega)]
          rfl
        obtain ⟨g0, g1, g2⟩ := edI_at hg
        rw [Addr.add_lit] at c0
        rw [Addr.add_lit, Addr.add_lit] at c1 c2
        rw [ints_get] at hu
        rcases r with _ | _ | _ | r
        · rw [Nat.add_zero, g0] at hu
          rw [Nat.add_zero, c0]
          simpa using hu
        · rw [g1] at hu
          rw [← Nat.add_assoc, c1]
          simpa using hu
        · rw [g2] at hu
          rw [← Nat.add_assoc, c2]
          simpa using hu
        · omega
    · refine okI_edI fun e he => ?_
      obtain ⟨i, hi', rfl⟩ := List.mem_map.1 he
      exact (hf i (by simpa using hi')).2.2.2
set_option maxRecDepth 100000 in
theorem open_graph {H : Type} {enc : TypeId × Value → H} {W : World} {r : Reach} {base : Nat} {v : Value} {d : DataW H} {ps : List MemPlace}
    (hok : Value.okWide Tryz.prog W r base 24 v) (h : DataW.Trod enc Tryz.prog W 0 (fun _ => true) true 24 v d ps) :
    ∃ m s A es c, v = .agg #[.int .i64 m, .int .i64 s, .slice A (List.length es) c] ∧ (Lit.int .i64 m).wf = true ∧ (Lit.int .i64 s).wf = true ∧ RG W 0 W.heap.size A es ∧ OkI (edI es) ∧ es.length ≤ 9223372036854775807 := by
  obtain ⟨v0, v1, v2, y0, y1, y2, n, rfl, -, -, h0, h1, h2⟩ := open_agg3 Tryz.underlying24 (by kernel_rfl) (by kernel_rfl) hok h
  have h0' : DataW.trod enc Tryz.prog W 0 (fun _ => true) true n 3 [v0] = some y0 := h0
  have h1' : DataW.trod enc Tryz.prog W 0 (fun _ => true) true n 3 [v1] = some y1 := h1
  have h2' : DataW.trod enc Tryz.prog W 0 (fun _ => true) true n 22 [v2] = some y2 := h2
  clear h0 h1 h2
  obtain ⟨m, hm, -, hw⟩ := DataW.trod_int undI h0'
  obtain ⟨s, hs, -, hw'⟩ := DataW.trod_int undI h1'
  obtain ⟨A, l, c, hsl⟩ := slice_form undSEL h2'
  simp at hm hs hsl
  subst hm hs hsl
  obtain ⟨es, rfl, ha, hb, hc⟩ := edges_of_cells h2'
  exact ⟨m, s, A, es, c, rfl, hw, hw', ha, hb, hc⟩
end Go.Proofs.YtgpljoplnecioaaGreat
