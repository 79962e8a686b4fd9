/- Contracts and lemmas of this seat, many texts in one: see the words ahead of each. No condition beyond those typed in each lemma. -/
import Derived.Test.YtkcfbcbkokabdaaGreatPk3
import Derived.Test.YtkcfbcbkokabdaaGreatPk1
import Derived.Test.YtkcfbcbkokabdaaGreatPk2
import Derived.Deep.Slices
import Derived.Deep.Fields
import Derived.ChangeSame

/- TrimGraph, the program. -/
namespace Go.Proofs.YtkcfbcbkokabdaaGreat
set_option linter.unusedVariables false
set_option linter.unusedSimpArgs false
open Go.RowKit

/-- The size that a graph's box holds. -/
def sizeAt (w : World) (G : Nat) : Nat := match w.cell? ⟨G, 1, none⟩ with | some (.int _ s) => s.toNat | _ => 0
theorem sizeAt_box {w : World} {G : Nat} {r : Value} {n : Nat} {v : Value} (h : Box w G [r, .int .i64 n, v]) : sizeAt w G = n := by
  unfold sizeAt
  rw [h.cell 1 rfl]
  simp
theorem but_in {v n : Nat} {x : Int} (h : x ∈ but v n) : 0 ≤ x ∧ x < (n : Int) := but_range h

set_option maxHeartbeats 6400000 in
set_option maxRecDepth 100000 in
theorem impl_TrimGraph (r : Int) (n : Nat) (A : Option Addr) (es : List Ed) (c : Nat) (w : World) (lo hi : Nat) (hr : RG w lo hi A es) (hg : IsGr r n es) :
    Calls Tryz.prog 73 #[graV r n A es.length c] w fun e w' => ∃ A1 c1 Al nl cl, e = .returned (.tuple #[graV r (trimA 40 ((n : Int), es)).1 A1 (trimA 40 ((n : Int), es)).2.length c1, .slice Al nl cl]) ∧ OG w' w.heap.size w'.heap.size A1 c1 (trimA 40 ((n : Int), es)).2 ∧ Mid 0 0 w w' := by
  have hn40 : n ≤ 40 := by have := hg.size; omega
  have hl := hg.len
  have hm0 : Mid 0 0 w ((w.alloc (.cells #[.int .i64 r, .int .i64 n, .slice A es.length c] 30)).alloc (.cells #[.int .i64 0, .int .i64 0, .slice none 0 0] 30)) := (Mid.alloc _ _).trans (Mid.alloc _ _)
  have b0 := (Box.new w #[.int .i64 r, .int .i64 n, .slice A es.length c] 30).mid (Mid.alloc _ (.cells #[.int .i64 0, .int .i64 0, .slice none 0 0] 30)) (Or.inr (Nat.zero_le _))
  have b2 := Box.new (w.alloc (.cells #[.int .i64 r, .int .i64 n, .slice A es.length c] 30)) #[.int .i64 0, .int .i64 0, .slice none 0 0] 30
  simp only [World.size_alloc] at b2
  have HG := Lib.hid hg
  obtain ⟨T, hT⟩ : ∃ T, trimA 40 ((n : Int), es) = T := ⟨_, rfl⟩
  rw [hT]
  have HT := Lib.hid hT
  clear hg hT
  go_enter Tryz.func73, Tryz.ntmps73
  go_wp2_with fail
  generalize hw1 : ((w.alloc (.cells #[.int .i64 r, .int .i64 n, .slice A es.length c] 30)).alloc (.cells #[.int .i64 0, .int .i64 0, .slice none 0 0] 30)) = w1 at hm0 b0 b2 ⊢
  clear hw1
  with_reducible refine (impl_copyGraph r n A es c _ _ _ (hr.mid hm0 (Or.inl (Nat.zero_le _))) (by omega)).mono ?_
  rintro en w2 ⟨A1, c1, rfl, ho, hm2⟩
  have hsz12 := hm0.size
  have hs2 : w.heap.size + 1 < w1.heap.size := b2.1
  replace b0 := b0.mid hm2 (Or.inr (Nat.zero_le _))
  replace b2 := b2.mid hm2 (Or.inr (Nat.zero_le _))
  replace hm0 := hm0.trans hm2
  have hsz2 := hm2.size
  have hown0 := owns_base (base' := w.heap.size + 2) ho.ov.2.1 hs2
  have hbk0 : Value.ownBlock (.slice A1 es.length c1) ≠ some w2.heap.size := fun h => by have := ho.ov.2.2 _ h; omega
  have hal := (Mid.alloc w2 (.cells #[.int .i64 r, .int .i64 n, .slice A1 es.length c1] 30)).trans (Mid.alloc (w2.alloc (.cells #[.int .i64 r, .int .i64 n, .slice A1 es.length c1] 30)) (.cells #[] 3))
  have Y3 := (Box.new w2 #[.int .i64 r, .int .i64 n, .slice A1 es.length c1] 30).mid (Mid.alloc (w2.alloc (.cells #[.int .i64 r, .int .i64 n, .slice A1 es.length c1] 30)) (.cells #[] 3)) (Or.inr (Nat.zero_le _))
  have O0 := owns_empty (w2.alloc (.cells #[.int .i64 r, .int .i64 n, .slice A1 es.length c1] 30)) 3 1
  rw [World.size_alloc] at O0
  have hbs0 := b0.1
  have p0 := b0.cell 0 rfl
  have p1 := b0.cell 1 rfl
  have p2 := b0.cell 2 rfl
  replace b0 := b0.mid hal (Or.inr (Nat.zero_le _))
  replace b2 := b2.mid hal (Or.inr (Nat.zero_le _))
  replace hown0 := owns_mid hown0 hal (Or.inl (Nat.zero_le _))
  replace hm0 := hm0.trans hal
  go_wp2_with fail
  clear p0 p1 p2
  have hsA : ((w2.alloc (.cells #[.int .i64 r, .int .i64 n, .slice A1 es.length c1] 30)).alloc (.cells #[] 3)).heap.size = w2.heap.size + 2 := by simp
  generalize hw3 : (w2.alloc (.cells #[.int .i64 r, .int .i64 n, .slice A1 es.length c1] 30)).alloc (.cells #[] 3) = w3 at Y3 O0 b0 b2 hown0 hm0 hsA ⊢
  obtain ⟨G, hG⟩ : ∃ G, w2.heap.size = G := ⟨_, rfl⟩
  rw [hG] at Y3 O0 hbk0 hsA hsz2 hbs0 ⊢
  clear hw3 hal hm2 ho hG
  with_reducible refine (impl_IsGraph r n A es c _ _ _ (hr.mid hm0 (Or.inl (Nat.zero_le _))).rv (by omega) true (iff_of_true rfl HG.out)).mono ?_
  rintro en w4 ⟨rfl, hm4⟩
  have hs4 := hm4.size
  replace b0 := b0.mid hm4 (Or.inr (Nat.zero_le _))
  replace b2 := b2.mid hm4 (Or.inr (Nat.zero_le _))
  replace Y3 := Y3.mid hm4 (Or.inr (Nat.zero_le _))
  replace hown0 := owns_mid hown0 hm4 (Or.inl (Nat.zero_le _))
  replace O0 := owns_mid O0 hm4 (Or.inl (Nat.zero_le _))
  replace hm0 := hm0.trans hm4
  have hGw : w.heap.size + 2 ≤ G := by omega
  have hG4 : G + 1 ≤ w4.heap.size := by omega
  clear hm4 hs4 hsA hsz2 hs2 hsz12 hbs0
  go_wp2_with fail
  go_loopw [5, 6] (fun l i wr => ∃ (k : Nat) (Al : Option Addr) (nl cl : Nat), k ≤ n ∧ i = .int .i64 k ∧ l = .slice Al nl cl ∧ Hid ((upto k).length = nl) ∧ wr.ownsRow (G + 1) 3 1 (.slice Al nl cl) nl (ints (upto k)) ∧
      Hid (wr.ownsRow (w.heap.size + 2) 63 3 (.slice A1 es.length c1) es.length (ints (edI es))) ∧ Box wr w.heap.size [.int .i64 r, .int .i64 n, .slice A es.length c] ∧ Box wr (w.heap.size + 1) [.int .i64 0, .int .i64 0, .slice none 0 0] ∧ Box wr G [.int .i64 r, .int .i64 n, .slice A1 es.length c1] ∧ Mid 0 0 w wr) (fun _ i _ => n - (intOf i).toNat)
  case atStart => exact ⟨0, _, 0, 0, Nat.zero_le _, rfl, rfl, Lib.hid rfl, O0, Lib.hid hown0, b0, b2, Y3, hm0⟩
  case round =>
    clear O0 hown0 b0 b2 Y3 hm0
    obtain ⟨wo, hwo⟩ : ∃ wo, wo = wr := ⟨_, rfl⟩
    subst hwo
    obtain ⟨k, Al, nl, cl, hk, rfl, rfl, HN, hleft, HE, b0, b2, Y3, hm⟩ := hrel
    obtain rfl : k = nl := by rw [← HN.out, upto_len]
    have p0 := b0.cell 0 rfl
    have p1 := b0.cell 1 rfl
    have p2 := b0.cell 2 rfl
    by_cases hlt : k < n
    · have hk1 : (k : Int) < (n : Int) := by omega
      have hGo : G + 1 ≤ wo.heap.size := Y3.1
      have HL := Lib.hid hleft
      clear hleft
      go_wp2_with (at_builtin; refine wpList_pushI2 rfl _ _ rfl (G + 1) Al k cl (upto k) rfl HL.out k rfl (by omega) hGo ?_; intro A9 c9 w9 hl9 hgr9 hat9)
      clear hat9
      have hm9 := Mid.of_grownRow HL.out hgr9
      have hE9 := HE.out.kept hgr9 (owns_ne HE.out HL.out (by decide))
      go_roundw
      case rel => exact ⟨k + 1, A9, k + 1, c9, by omega, by go_num, rfl, Lib.hid (by rw [upto_len]), by rw [upto_succ]; exact hl9, Lib.hid hE9, b0.mid hm9 (Or.inl (by omega)), b2.mid hm9 (Or.inl (by omega)), Y3.mid hm9 (Or.inl (by omega)), hm.transNew hm9 (Or.inl (by omega))⟩
      case measure => simp [intOf]; omega
    · obtain rfl : k = n := by omega
      go_wp2_with fail
      clear p0 p1 p2
      have hGo := Y3.1
      go_loopw [5] (fun l wr => ∃ (m s : Nat) (es1 : List Ed) (A2 : Option Addr) (c2 : Nat) (Al : Option Addr) (cl : Nat) (xs : List Int), l = .slice Al s cl ∧ Hid (trimA m ((s : Int), es1) = T) ∧ s ≤ m ∧ Hid (IsGr r s es1) ∧ wr.ownsRow (G + 1) 3 1 (.slice Al s cl) s (ints xs) ∧
          Hid (wr.ownsRow (w.heap.size + 2) 63 3 (.slice A2 es1.length c2) es1.length (ints (edI es1))) ∧ Hid (Value.ownBlock (.slice A2 es1.length c2) ≠ some G) ∧ Box wr (w.heap.size + 1) [.int .i64 0, .int .i64 0, .slice none 0 0] ∧ Box wr G [.int .i64 r, .int .i64 s, .slice A2 es1.length c2] ∧ Mid 0 0 w wr) (fun _ wr => sizeAt wr G)
      case atStart => exact ⟨40, k, es, A1, c1, Al, cl, upto k, rfl, HT, hn40, HG, hleft, HE, Lib.hid hbk0, b2, Y3, hm⟩
      case round =>
        clear hleft HE b0 b2 Y3 hm HN hGo
        obtain ⟨wj, hwj⟩ : ∃ wj, wj = wr := ⟨_, rfl⟩
        subst hwj
        obtain ⟨m, s, es1, A2, c2, Al, cl, xs, rfl, HTm, hsm, HGs, hleft, HE, HBK, b2, Y3, hm⟩ := hrel
        have hs1 : 1 ≤ s := by have := HGs.out.size; omega
        have hs40 : s ≤ 40 := by have := HGs.out.size; omega
        have hl1 := HGs.out.len
        have hlsz := Lib.hid (sizeAt_box Y3)
        have y0 := Y3.cell 0 rfl
        have y1 := Y3.cell 1 rfl
        have y2 := Y3.cell 2 rfl
        have hJ := impl_joined r s 0 A2 es1 c2 wj _ _ (owns_rv HE.out) HGs.out hs1
        rw [show ((0 : Nat) : Int) = 0 from rfl] at hJ
        have HJ := Lib.hid hJ
        clear hJ
        go_wp2_with fail
        with_reducible refine (HJ.out).mono ?_
        rintro en w5 ⟨rfl, vis, hvis, hmem, hm5⟩
        clear HJ
        have hGj : G < wj.heap.size := Y3.1
        have HM := Lib.hid hmem
        obtain ⟨jb, hjb⟩ : ∃ jb, wj.heap.size + 1 = jb := ⟨_, rfl⟩
        rw [hjb] at hvis ⊢
        have hE5 := owns_mid HE.out hm5 (Or.inl (Nat.zero_le _))
        replace HE := Lib.hid hE5
        replace b2 := b2.mid hm5 (Or.inr (Nat.zero_le _))
        replace Y3 := Y3.mid hm5 (Or.inr (Nat.zero_le _))
        replace hleft := owns_mid hleft hm5 (Or.inl (Nat.zero_le _))
        replace hm := hm.trans hm5
        clear y0 y1 y2 hmem hjb hm5 hE5
        have y0 := Y3.cell 0 rfl
        have y1 := Y3.cell 1 rfl
        have y2 := Y3.cell 2 rfl
        go_wp2_with fail
        clear y0 y1 y2
        go_loopw [8, 9] (fun gv kv wr => ∃ (q g : Nat), 1 ≤ q ∧ q ≤ s ∧ kv = .int .i64 q ∧ gv = .int .i64 g ∧ Hid ((g = 0 ∧ ∀ u : Nat, 1 ≤ u → u < q → ¬ Bad es1 u) ∨ (leaf s es1 = some g ∧ 0 < g ∧ g < s)) ∧ Mid 0 0 w5 wr) (fun _ q _ => s - (intOf q).toNat)
        case atStart => exact ⟨1, 0, Nat.le_refl _, hs1, rfl, rfl, Lib.hid (.inl ⟨rfl, fun u h1 h2 => absurd h2 (by omega)⟩), Mid.refl _ _ _⟩
        case round =>
          obtain ⟨q, g, hq1, hq, rfl, rfl, HQ, hmx⟩ := hrel
          replace b2 := b2.mid hmx (Or.inr (Nat.zero_le _))
          replace Y3 := Y3.mid hmx (Or.inr (Nat.zero_le _))
          replace hleft := owns_mid hleft hmx (Or.inl (Nat.zero_le _))
          replace hvis := owns_mid hvis hmx (Or.inl (Nat.zero_le _))
          replace hm := hm.trans hmx
          have hE5 := owns_mid HE.out hmx (Or.inl (Nat.zero_le _))
          replace HE := Lib.hid hE5
          clear hE5
          have y0 := Y3.cell 0 rfl
          have y1 := Y3.cell 1 rfl
          have y2 := Y3.cell 2 rfl
          by_cases hgo : q < s ∧ g = 0
          · obtain ⟨hqs, rfl⟩ := hgo
            have hq3 : (q : Int) < (s : Int) := by omega
            have hq0 : (0 : Int) ≤ (q : Int) := by omega
            have hno : ∀ u : Nat, 1 ≤ u → u < q → ¬ Bad es1 u := by
              rcases HQ.out with h | h
              · exact h.2
              · omega
            have HNO := Lib.hid hno
            have hdl := deg_le es1 q
            clear hno
            go_wp2_with fail
            with_reducible refine (impl_DegreeOf r s A2 es1 c2 q _ _ _ (owns_rv HE.out).rg (by omega)).mono ?_
            rintro en w7 ⟨rfl, hm7⟩
            have hv7 := owns_mid hvis hm7 (Or.inl (Nat.zero_le _))
            have hcv := (hv7.cellAt q (by omega)).trans (seenOf_get hqs)
            by_cases hd : deg es1 q < 2
            · have d1 : decide ((deg es1 q : Int) < 2) = true := by simp; omega
              have HLF := Lib.hid (leaf_some (s := (s : Int)) hq1 hq3 (.inl hd) HNO.out)
              clear hd hcv
              go_wp2_with fail
              go_roundw
              case rel => exact ⟨q + 1, q, by omega, by omega, by go_num, rfl, Lib.hid (.inr ⟨HLF.out, by omega, hqs⟩), hmx.trans hm7⟩
              case measure => simp [intOf]; omega
            · have d1 : decide ((deg es1 q : Int) < 2) = false := by simp; omega
              by_cases hv : (q : Int) ∈ vis
              · rw [decide_eq_true hv] at hcv
                have HNB : Hid (¬ Bad es1 q) := Lib.hid (by
                  rintro (h | h)
                  · exact hd h
                  · exact h ((HM.out _).1 hv))
                clear hd hv
                go_wp2_with fail
                go_roundw
                case rel =>
                  refine ⟨q + 1, 0, by omega, by omega, by go_num, rfl, Lib.hid (.inl ⟨rfl, fun u h1 h2 => ?_⟩), hmx.trans hm7⟩
                  by_cases h : u = q
                  · subst h; exact HNB.out
                  · exact HNO.out u h1 (by omega)
                case measure => simp [intOf]; omega
              · rw [decide_eq_false hv] at hcv
                have HLF := Lib.hid (leaf_some (s := (s : Int)) hq1 hq3 (.inr fun h => hv ((HM.out _).2 h)) HNO.out)
                clear hd hv
                go_wp2_with fail
                go_roundw
                case rel => exact ⟨q + 1, q, by omega, by omega, by go_num, rfl, Lib.hid (.inr ⟨HLF.out, by omega, hqs⟩), hmx.trans hm7⟩
                case measure => simp [intOf]; omega
          · clear hvis
            obtain ⟨wk, hwk⟩ : ∃ wk, wk = wr := ⟨_, rfl⟩
            subst hwk
            have hqg : decide ((q : Int) < (s : Int)) = true ∧ ((g : Int) == 0) = false ∨ decide ((q : Int) < (s : Int)) = false := by
              by_cases h : q < s
              · left
                refine ⟨by simp; omega, ?_⟩
                simp only [beq_eq_false_iff_ne]
                intro h2
                exact hgo ⟨h, by omega⟩
              · right
                simp
                omega
            by_cases hg0 : g = 0
            · subst hg0
              have hqs : q = s := by
                refine Classical.byContradiction fun h => hgo ⟨by omega, rfl⟩
              subst hqs
              have hln : leaf q es1 = none := leaf_none fun u h1 h2 => by
                rcases HQ.out with h | h
                · exact h.2 u h1 (by omega)
                · omega
              have hTT := HTm.out
              rw [trimA_none hln] at hTT
              have HTT := Lib.hid hTT
              have d0 : decide ((q : Int) < (q : Int)) = false := by simp
              have z0 := b2.cell 0 rfl
              have z1 := b2.cell 1 rfl
              have z2 := b2.cell 2 rfl
              have zf := b2.2.2
              have hbs := b2.1
              clear hqg hln hTT hgo
              go_wp2_with fail
              have hcl : (w.heap.size + 1 == G) = false := by simp; omega
              refine bodyPost_ret (v := .tuple #[.agg #[.int .i64 r, .int .i64 q, .slice A2 es1.length c2], .slice Al q cl]) (by simp [results, Tryz.results73, go_sem, z0, z1, z2, zf, y0, y1, y2]) rfl ⟨A2, c2, ⟨Al, q, cl, by rw [← HTT.out]⟩, ?_, ?_⟩
              · rw [← HTT.out]
                have h0 : OG wk (w.heap.size + 2) wk.heap.size A2 c2 es1 := ⟨Nat.le_refl _, HE.out, fun g hg => (HE.out.lt g hg).2⟩
                refine OG.wide (OG.mid h0 (a := w.heap.size + 1) (b := w.heap.size + 2) ?_ (Or.inl (Nat.le_refl _))) (by omega) (by simp) (Nat.le_refl _)
                repeat (first | exact Mid.refl _ _ _ | refine Mid.stored ?_ _ (by simp; try omega) (by simp; try omega))
              · repeat (first | exact hm | refine Mid.storeNew ?_ (by simp; try omega) _)
            · obtain ⟨hlf, hg1, hgs⟩ : leaf s es1 = some g ∧ 0 < g ∧ g < s := by
                rcases HQ.out with h | h
                · exact absurd h.1 hg0
                · exact h
              obtain ⟨m', rfl⟩ : ∃ m', m = m' + 1 := ⟨m - 1, by omega⟩
              have hTT := HTm.out
              rw [trimA_some hlf] at hTT
              have HTT := Lib.hid hTT
              have HCG := Lib.hid (cutV_gr (g := ((s : Int), es1)) HGs.out hg1 (by simpa using hgs))
              have dg : ((g : Int) == 0) = false := by simp only [beq_eq_false_iff_ne]; omega
              have HGO := Lib.hid hgo
              clear hTT hlf hgo hqg
              rcases Nat.lt_or_ge q s with hqn | hqn
              · go_wp2_with fail
                have O10 := owns_empty wk 3 1
                have hal := Mid.alloc wk (.cells #[] 3)
                clear y0 y1 y2
                go_loopw [10, 11] (fun o kv wr => ∃ (kk : Nat) (Ao : Option Addr) (no co : Nat), kk ≤ s ∧ kv = .int .i64 kk ∧ o = .slice Ao no co ∧ Hid ((but g kk).length = no) ∧ wr.ownsRow wk.heap.size 3 1 (.slice Ao no co) no (ints (but g kk)) ∧ Mid 0 0 wk wr) (fun _ kv _ => s - (intOf kv).toNat)
                case atStart => exact ⟨0, _, 0, 0, Nat.zero_le _, rfl, rfl, Lib.hid rfl, O10, hal⟩
                case round =>
                  clear O10 hal
                  obtain ⟨kk, Ao, no, co, hkk, rfl, rfl, HNo, hord, hmy⟩ := hrel
                  have hno : no ≤ 40 := by
                    have h1 : (but g kk).length ≤ kk := by unfold but; rw [List.length_map]; exact Nat.le_trans (List.length_filter_le _ _) (by simp)
                    have h2 := HNo.out
                    omega
                  have Y4 := Y3.mid hmy (Or.inr (Nat.zero_le _))
                  have y0 := Y4.cell 0 rfl
                  have y1 := Y4.cell 1 rfl
                  have y2 := Y4.cell 2 rfl
                  by_cases hlt : kk < s
                  · have hbs := but_succ g kk
                    have hk3 : (kk : Int) < (s : Int) := by omega
                    by_cases hkg : kk = g
                    · have d3 : ((kk : Int) != (g : Int)) = false := by simp; omega
                      rw [if_pos hkg] at hbs
                      have HBS := Lib.hid hbs
                      clear hbs hkg
                      go_wp2_with fail
                      go_roundw
                      case rel => exact ⟨kk + 1, Ao, no, co, by omega, by go_num, rfl, by rw [HBS.out]; exact HNo, by rw [HBS.out]; exact hord, hmy⟩
                      case measure => simp [intOf]; omega
                    · have d3 : ((kk : Int) != (g : Int)) = true := by simp; omega
                      rw [if_neg hkg] at hbs
                      have HBS := Lib.hid hbs
                      have HO := Lib.hid hord
                      have hsz := hmy.size
                      clear hbs hkg hord
                      go_wp2_with (at_builtin; refine wpList_pushI rfl _ _ rfl wk.heap.size Ao no co (but g kk) rfl HO.out kk rfl (by omega) hsz ?_; intro A9 c9 w9 ho9 hm9)
                      go_roundw
                      case rel => exact ⟨kk + 1, A9, no + 1, c9, by omega, by go_num, rfl, Lib.hid (by rw [HBS.out, List.length_append, HNo.out]; rfl), by rw [HBS.out]; exact ho9, hmy.transNew hm9 (Or.inl (Nat.le_refl _))⟩
                      case measure => simp [intOf]; omega
                  · obtain rfl : kk = s := by omega
                    have hln : (but g kk).length = no := HNo.out
                    have HL0 : Hid (no = kk - 1) := Lib.hid (by rw [← hln, but_len g hgs])
                    obtain ⟨es2, hes2⟩ : ∃ es2, partE (but g kk) es1 = es2 := ⟨_, rfl⟩
                    have hcv : cutV ((kk : Int), es1) g = ((no : Int), es2) := by unfold cutV; simp only [Int.toNat_natCast]; rw [hln, hes2]
                    have hE6 := owns_mid HE.out hmy (Or.inl (Nat.zero_le _))
                    have hP := impl_part r kk A2 es1 c2 Ao (but g kk) co wr _ _ _ _ (owns_rv hE6).rg (owns_rv hord) HGs.out (but_nodup g kk) (fun x hx => but_range hx)
                    rw [hln, hes2] at hP
                    have HP := Lib.hid hP
                    have hTT2 := HTT.out
                    rw [hcv] at hTT2
                    have hgr2 := HCG.out
                    rw [hcv] at hgr2
                    have HTT2 := Lib.hid hTT2
                    have HG2 := Lib.hid hgr2
                    have hwks : G + 1 ≤ wk.heap.size := Y3.1
                    clear hP hTT2 hgr2 hcv hes2 hln hord HTT HCG HE hE6
                    go_wp2_with fail
                    with_reducible refine HP.out.mono ?_
                    rintro en w8 ⟨A3, c3, rfl, hog, hm8⟩
                    clear HP
                    replace hog := hog.wide (lo' := wk.heap.size) hmy.size (Nat.le_refl _) (Nat.le_refl _)
                    have hm28 := hmy.trans hm8
                    clear Y4 y0 y1 y2
                    replace b2 := b2.mid hm28 (Or.inr (Nat.zero_le _))
                    replace Y3 := Y3.mid hm28 (Or.inr (Nat.zero_le _))
                    replace hleft := owns_mid hleft hm28 (Or.inl (Nat.zero_le _))
                    replace hm := hm.trans hm28
                    clear hmy hm8 hm28
                    have y0 := Y3.cell 0 rfl
                    have y1 := Y3.cell 1 rfl
                    have y2 := Y3.cell 2 rfl
                    have yf := Y3.2.2
                    go_wp2_with fail
                    have hst := (Mid.setAt w8 G 0 (.int .i64 r)).trans ((Mid.setAt (w8.setCell ⟨G, 0, none⟩ (.int .i64 r)) G 1 (.int .i64 no)).trans (Mid.setAt ((w8.setCell ⟨G, 0, none⟩ (.int .i64 r)).setCell ⟨G, 1, none⟩ (.int .i64 no)) G 2 (.slice A3 es2.length c3)))
                    have Y5 := ((Y3.set 0 (.int .i64 r) (by simp) rfl).set 1 (.int .i64 no) (by simp) rfl).set 2 (.slice A3 es2.length c3) (by simp) rfl
                    have hm5 := ((hm.storeNew (p := ⟨G, 0, none⟩) (by show w.heap.size ≤ G; omega) (.int .i64 r)).storeNew (p := ⟨G, 1, none⟩) (by show w.heap.size ≤ G; omega) (.int .i64 no)).storeNew (p := ⟨G, 2, none⟩) (by show w.heap.size ≤ G; omega) (.slice A3 es2.length c3)
                    replace b2 := b2.mid hst (Or.inl (by omega))
                    replace hleft := owns_mid hleft hst (Or.inl (Nat.le_refl _))
                    replace hog := hog.mid hst (Or.inl hwks)
                    clear Y3 hm y0 y1 y2 yf hst
                    generalize ((w8.setCell ⟨G, 0, none⟩ (.int .i64 r)).setCell ⟨G, 1, none⟩ (.int .i64 no)).setCell ⟨G, 2, none⟩ (.slice A3 es2.length c3) = ws at Y5 hm5 b2 hleft hog ⊢
                    have hmd := Mid.drew1 ws
                    replace b2 := b2.mid hmd (Or.inr (Nat.zero_le _))
                    replace Y5 := Y5.mid hmd (Or.inr (Nat.zero_le _))
                    replace hleft := owns_mid hleft hmd (Or.inl (Nat.zero_le _))
                    replace hog := hog.mid hmd (Or.inl (Nat.zero_le _))
                    replace hm5 := hm5.trans hmd
                    clear hmd
                    obtain ⟨gl, rfl, hgl1, hgl2⟩ := owns_addr hleft (show 0 < kk by omega)
                    have hsc : kk ≤ cl := by
                      obtain ⟨A', c', hv0, hsc, hcm⟩ := owns_shape hleft
                      injection hv0 with _ _ hv0
                      omega
                    have hcut2 := owns_cut hleft (m := g) (by omega)
                    have hxl : (ints xs).length = kk * 1 := hleft.1
                    have hsrc := (Rs.of_own hleft).drop (k := g + 1) (n := kk) (cap := cl) 1 hxl hsc
                    have hdl : ((ints xs).drop ((g + 1) * 1)).length = (kk - (g + 1)) * 1 := by rw [List.length_drop, hxl]; omega
                    have hone : ∀ u ∈ (ints xs).drop ((g + 1) * 1), u.oneCell' = true := fun u hu => one_of_ints xs u (List.mem_of_mem_drop hu)
                    have hml : g + (kk - (g + 1)) ≤ maxLen := by unfold maxLen; omega
                    have hby : (g + (kk - (g + 1))) * 8 ≤ 140737488355328 := by omega
                    have hGs : G + 1 ≤ ws.drew.heap.size := Y5.1
                    have HCU := Lib.hid hcut2
                    have HSR := Lib.hid hsrc
                    have HDL := Lib.hid hdl
                    have HON := Lib.hid hone
                    have HXL := Lib.hid hxl
                    have hgi : (0 : Int) ≤ (g : Int) := by omega
                    have hgi1 : (0 : Int) ≤ (g : Int) + 1 := by omega
                    have hgk : (g : Int) < (kk : Int) := by omega
                    have hgk2 : (g : Int) + 1 ≤ (kk : Int) := by omega
                    have hgn : g ≤ cl := by omega
                    have hgn1 : g + 1 ≤ kk := by omega
                    have hgn2 : g + 1 ≤ cl := by omega
                    have hgc : (g : Int) ≤ (cl : Int) := by omega
                    have hgc2 : (g : Int) + 1 ≤ (cl : Int) := by omega
                    have hwrp : IntKind.i64.wrap ((g : Int) + 1) = (g : Int) + 1 := IntWalk.i64_in _ (by omega)
                    clear hcut2 hsrc hdl hone hxl
                    by_cases hcg : cl = g + 1
                    · rw [if_pos hcg] at HSR
                      have hcgF : (cl = g + 1) = True := eq_true hcg
                      clear hcg
                      refine wp_region_T (S := (fun _ => True)) 8 (by kernel_rfl) trivial ?_
                      generalize World.drew ws = wz at b2 Y5 hleft hog hm5 HCU HSR hGs ⊢
                      refine wpAnyT_take (i := 0) (v := ?_) rfl (by kernel_rfl) (by kernel_rfl) (by kernel_rfl) (by kernel_rfl) (fun _ _ _ h => h) (Or.inl ⟨by rfl, ?_⟩) trivial ?_
                      rotate_left
                      focus (intro w hSw; (try dsimp only at hSw); go_simp; try with_reducible rfl)
                      try simp only [Act.put, List.setIfInBounds_toArray, List.set_cons_zero, List.set_cons_succ, List.getElem_toArray, List.getElem_cons_zero, List.getElem_cons_succ]
                      refine wpAnyT_take (i := 1) (v := ?_) rfl (by kernel_rfl) (by kernel_rfl) (by kernel_rfl) (by kernel_rfl) (fun _ _ _ h => h) (Or.inl ⟨by rfl, ?_⟩) trivial ?_
                      rotate_left
                      focus (intro w hSw; (try dsimp only at hSw); go_simp; try with_reducible rfl)
                      try simp only [Act.put, List.setIfInBounds_toArray, List.set_cons_zero, List.set_cons_succ, List.getElem_toArray, List.getElem_cons_zero, List.getElem_cons_succ]
                      refine wpAnyT_take (i := 2) (v := ?_) rfl (by kernel_rfl) (by kernel_rfl) (by kernel_rfl) (by kernel_rfl) (fun _ _ _ h => h) (Or.inl ⟨by rfl, ?_⟩) trivial ?_
                      rotate_left
                      focus (intro w hSw; (try dsimp only at hSw); go_simp; try with_reducible rfl)
                      try simp only [Act.put, List.setIfInBounds_toArray, List.set_cons_zero, List.set_cons_succ, List.getElem_toArray, List.getElem_cons_zero, List.getElem_cons_succ]
                      refine wpAnyT_take (i := 3) (v := ?_) rfl (by kernel_rfl) (by kernel_rfl) (by kernel_rfl) (by kernel_rfl) (fun _ _ _ h => h) (Or.inl ⟨by rfl, ?_⟩) trivial ?_
                      rotate_left
                      focus (intro w hSw; (try dsimp only at hSw); go_simp; try with_reducible rfl)
                      try simp only [Act.put, List.setIfInBounds_toArray, List.set_cons_zero, List.set_cons_succ, List.getElem_toArray, List.getElem_cons_zero, List.getElem_cons_succ]
                      refine wpAnyT_take (i := 4) (v := ?_) rfl (by kernel_rfl) (by kernel_rfl) (by kernel_rfl) (by kernel_rfl) (fun _ _ _ h => h) (Or.inl ⟨by rfl, ?_⟩) trivial ?_
                      rotate_left
                      focus (intro w hSw; (try dsimp only at hSw); go_simp; try with_reducible rfl)
                      try simp only [Act.put, List.setIfInBounds_toArray, List.set_cons_zero, List.set_cons_succ, List.getElem_toArray, List.getElem_cons_zero, List.getElem_cons_succ]
                      refine wpAnyT_take (i := 5) (v := ?_) rfl (by kernel_rfl) (by kernel_rfl) (by kernel_rfl) (by kernel_rfl) (fun _ _ _ h => h) (Or.inl ⟨by rfl, ?_⟩) trivial ?_
                      rotate_left
                      focus (intro w hSw; (try dsimp only at hSw); go_simp; try with_reducible rfl)
                      try simp only [Act.put, List.setIfInBounds_toArray, List.set_cons_zero, List.set_cons_succ, List.getElem_toArray, List.getElem_cons_zero, List.getElem_cons_succ]
                      refine wpAnyT_take (i := 6) (v := ?_) rfl (by kernel_rfl) (by kernel_rfl) (by kernel_rfl) (by kernel_rfl) (fun _ _ _ h => h) (Or.inl ⟨by rfl, ?_⟩) trivial ?_
                      rotate_left
                      focus (intro w hSw; (try dsimp only at hSw); go_simp; try with_reducible rfl)
                      try simp only [Act.put, List.setIfInBounds_toArray, List.set_cons_zero, List.set_cons_succ, List.getElem_toArray, List.getElem_cons_zero, List.getElem_cons_succ]
                      refine wpAnyT_ready (rs := [7]) (by kernel_rfl) (by simp) (AllReadyT.cons rfl (fun K hK => ?_) AllReadyT.nil)
                      (refine step_cat (by rfl) (.tmp 77) (.tmp 81) 37 (by rfl) (G + 1) 3 (.int .i64 0) 1 8 undSI infoI rfl (by decide) (.slice (some ⟨gl, 0, none⟩) g cl) g _ (by rfl) HCU.out _ (kk - (g + 1)) _ _ ((ints xs).drop ((g + 1) * 1)) (by rfl) HSR.out HDL.out HON.out hml hby hGs ?_; intro v9 w9 ho9 hgr9 hat9; obtain ⟨A9, c9, rfl, -, -⟩ := owns_shape ho9)
                      refine hK.out _ _ (Or.inr trivial) (fun _ => ?_)
                      clear hK K
                      try simp only [Act.put, List.setIfInBounds_toArray, List.set_cons_zero, List.set_cons_succ, List.getElem_toArray, List.getElem_cons_zero, List.getElem_cons_succ]
                      refine wpAnyT_ready (rs := [8]) (by kernel_rfl) (by simp) (AllReadyT.cons rfl (fun K hK => ?_) AllReadyT.nil)
                      (go_simp)
                      refine hK.out _ _ (Or.inl rfl) (fun _ => ?_)
                      clear hK K
                      try simp only [Act.put, List.setIfInBounds_toArray, List.set_cons_zero, List.set_cons_succ, List.getElem_toArray, List.getElem_cons_zero, List.getElem_cons_succ]
                      refine wpAnyT_done (by kernel_rfl) ?_ _
                      go_wp2_with fail
                      go_roundw
                      case rel =>
                        have hm9 := Mid.of_grownRow HCU.out hgr9
                        have h0 := hog.ov.2.1.kept hgr9 (owns_ne hog.ov.2.1 HCU.out (by decide))
                        have hnl2 : g + (kk - (g + 1)) = no := by have := HL0.out; omega
                        have hb9 : Value.ownBlock (.slice A3 es2.length c3) ≠ some G := fun h => by have := (hog.ov.2.1.lt _ h).1; omega
                        have hxe : (ints xs).take (g * 1) ++ (ints xs).drop ((g + 1) * 1) = ints (xs.take g ++ xs.drop (g + 1)) := by simp [ints]
                        rw [hxe, hnl2] at ho9
                        exact ⟨m', no, es2, A3, c3, A9, c9, xs.take g ++ xs.drop (g + 1), by rw [hnl2], HTT2, by have := HL0.out; omega, HG2, ho9, Lib.hid (owns_base h0 (by omega)), Lib.hid hb9, b2.mid hm9 (Or.inl (by omega)), Y5.mid hm9 (Or.inl (by omega)), hm5.transNew hm9 (Or.inl (by omega))⟩
                      case measure =>
                        have h1 := sizeAt_box (Y5.mid (Mid.of_grownRow HCU.out hgr9) (Or.inl (by omega)))
                        have h2 := hlsz.out
                        have h3 := HL0.out
                        simp only [h1, h2]
                        omega
                    · rw [if_neg hcg] at HSR
                      have hcgF : (cl = g + 1) = False := eq_false hcg
                      clear hcg
                      replace HSR : Hid (Rs ws.drew ws.drew.heap.size (some ⟨gl, g + 1, none⟩) ((ints xs).drop ((g + 1) * 1))) := Lib.hid (by
                        have h := HSR.out
                        rw [show Option.map (fun x => x.add ((g + 1) * 1)) (some (⟨gl, 0, none⟩ : Addr)) = some ⟨gl, g + 1, none⟩ by simp [Addr.add]] at h
                        exact h)
                      refine wp_region_T (S := (fun _ => True)) 8 (by kernel_rfl) trivial ?_
                      generalize World.drew ws = wz at b2 Y5 hleft hog hm5 HCU HSR hGs ⊢
                      refine wpAnyT_take (i := 0) (v := ?_) rfl (by kernel_rfl) (by kernel_rfl) (by kernel_rfl) (by kernel_rfl) (fun _ _ _ h => h) (Or.inl ⟨by rfl, ?_⟩) trivial ?_
                      rotate_left
                      focus (intro w hSw; (try dsimp only at hSw); go_simp; try with_reducible rfl)
                      try simp only [Act.put, List.setIfInBounds_toArray, List.set_cons_zero, List.set_cons_succ, List.getElem_toArray, List.getElem_cons_zero, List.getElem_cons_succ]
                      refine wpAnyT_take (i := 1) (v := ?_) rfl (by kernel_rfl) (by kernel_rfl) (by kernel_rfl) (by kernel_rfl) (fun _ _ _ h => h) (Or.inl ⟨by rfl, ?_⟩) trivial ?_
                      rotate_left
                      focus (intro w hSw; (try dsimp only at hSw); go_simp; try with_reducible rfl)
                      try simp only [Act.put, List.setIfInBounds_toArray, List.set_cons_zero, List.set_cons_succ, List.getElem_toArray, List.getElem_cons_zero, List.getElem_cons_succ]
                      refine wpAnyT_take (i := 2) (v := ?_) rfl (by kernel_rfl) (by kernel_rfl) (by kernel_rfl) (by kernel_rfl) (fun _ _ _ h => h) (Or.inl ⟨by rfl, ?_⟩) trivial ?_
                      rotate_left
                      focus (intro w hSw; (try dsimp only at hSw); go_simp; try with_reducible rfl)
                      try simp only [Act.put, List.setIfInBounds_toArray, List.set_cons_zero, List.set_cons_succ, List.getElem_toArray, List.getElem_cons_zero, List.getElem_cons_succ]
                      refine wpAnyT_take (i := 3) (v := ?_) rfl (by kernel_rfl) (by kernel_rfl) (by kernel_rfl) (by kernel_rfl) (fun _ _ _ h => h) (Or.inl ⟨by rfl, ?_⟩) trivial ?_
                      rotate_left
                      focus (intro w hSw; (try dsimp only at hSw); go_simp; try with_reducible rfl)
                      try simp only [Act.put, List.setIfInBounds_toArray, List.set_cons_zero, List.set_cons_succ, List.getElem_toArray, List.getElem_cons_zero, List.getElem_cons_succ]
                      refine wpAnyT_take (i := 4) (v := ?_) rfl (by kernel_rfl) (by kernel_rfl) (by kernel_rfl) (by kernel_rfl) (fun _ _ _ h => h) (Or.inl ⟨by rfl, ?_⟩) trivial ?_
                      rotate_left
                      focus (intro w hSw; (try dsimp only at hSw); go_simp; try with_reducible rfl)
                      try simp only [Act.put, List.setIfInBounds_toArray, List.set_cons_zero, List.set_cons_succ, List.getElem_toArray, List.getElem_cons_zero, List.getElem_cons_succ]
                      refine wpAnyT_take (i := 5) (v := ?_) rfl (by kernel_rfl) (by kernel_rfl) (by kernel_rfl) (by kernel_rfl) (fun _ _ _ h => h) (Or.inl ⟨by rfl, ?_⟩) trivial ?_
                      rotate_left
                      focus (intro w hSw; (try dsimp only at hSw); go_simp; try with_reducible rfl)
                      try simp only [Act.put, List.setIfInBounds_toArray, List.set_cons_zero, List.set_cons_succ, List.getElem_toArray, List.getElem_cons_zero, List.getElem_cons_succ]
                      refine wpAnyT_take (i := 6) (v := ?_) rfl (by kernel_rfl) (by kernel_rfl) (by kernel_rfl) (by kernel_rfl) (fun _ _ _ h => h) (Or.inl ⟨by rfl, ?_⟩) trivial ?_
                      rotate_left
                      focus (intro w hSw; (try dsimp only at hSw); go_simp; try with_reducible rfl)
                      try simp only [Act.put, List.setIfInBounds_toArray, List.set_cons_zero, List.set_cons_succ, List.getElem_toArray, List.getElem_cons_zero, List.getElem_cons_succ]
                      refine wpAnyT_ready (rs := [7]) (by kernel_rfl) (by simp) (AllReadyT.cons rfl (fun K hK => ?_) AllReadyT.nil)
                      (refine step_cat (by rfl) (.tmp 77) (.tmp 81) 37 (by rfl) (G + 1) 3 (.int .i64 0) 1 8 undSI infoI rfl (by decide) (.slice (some ⟨gl, 0, none⟩) g cl) g _ (by rfl) HCU.out _ (kk - (g + 1)) _ _ ((ints xs).drop ((g + 1) * 1)) (by rfl) HSR.out HDL.out HON.out hml hby hGs ?_; intro v9 w9 ho9 hgr9 hat9; obtain ⟨A9, c9, rfl, -, -⟩ := owns_shape ho9)
                      refine hK.out _ _ (Or.inr trivial) (fun _ => ?_)
                      clear hK K
                      try simp only [Act.put, List.setIfInBounds_toArray, List.set_cons_zero, List.set_cons_succ, List.getElem_toArray, List.getElem_cons_zero, List.getElem_cons_succ]
                      refine wpAnyT_ready (rs := [8]) (by kernel_rfl) (by simp) (AllReadyT.cons rfl (fun K hK => ?_) AllReadyT.nil)
                      (go_simp)
                      refine hK.out _ _ (Or.inl rfl) (fun _ => ?_)
                      clear hK K
                      try simp only [Act.put, List.setIfInBounds_toArray, List.set_cons_zero, List.set_cons_succ, List.getElem_toArray, List.getElem_cons_zero, List.getElem_cons_succ]
                      refine wpAnyT_done (by kernel_rfl) ?_ _
                      go_wp2_with fail
                      go_roundw
                      case rel =>
                        have hm9 := Mid.of_grownRow HCU.out hgr9
                        have h0 := hog.ov.2.1.kept hgr9 (owns_ne hog.ov.2.1 HCU.out (by decide))
                        have hnl2 : g + (kk - (g + 1)) = no := by have := HL0.out; omega
                        have hb9 : Value.ownBlock (.slice A3 es2.length c3) ≠ some G := fun h => by have := (hog.ov.2.1.lt _ h).1; omega
                        have hxe : (ints xs).take (g * 1) ++ (ints xs).drop ((g + 1) * 1) = ints (xs.take g ++ xs.drop (g + 1)) := by simp [ints]
                        rw [hxe, hnl2] at ho9
                        exact ⟨m', no, es2, A3, c3, A9, c9, xs.take g ++ xs.drop (g + 1), by rw [hnl2], HTT2, by have := HL0.out; omega, HG2, ho9, Lib.hid (owns_base h0 (by omega)), Lib.hid hb9, b2.mid hm9 (Or.inl (by omega)), Y5.mid hm9 (Or.inl (by omega)), hm5.transNew hm9 (Or.inl (by omega))⟩
                      case measure =>
                        have h1 := sizeAt_box (Y5.mid (Mid.of_grownRow HCU.out hgr9) (Or.inl (by omega)))
                        have h2 := hlsz.out
                        have h3 := HL0.out
                        simp only [h1, h2]
                        omega
              · obtain rfl : q = s := by omega
                go_wp2_with fail
                have O10 := owns_empty wk 3 1
                have hal := Mid.alloc wk (.cells #[] 3)
                clear y0 y1 y2
                go_loopw [10, 11] (fun o kv wr => ∃ (kk : Nat) (Ao : Option Addr) (no co : Nat), kk ≤ q ∧ kv = .int .i64 kk ∧ o = .slice Ao no co ∧ Hid ((but g kk).length = no) ∧ wr.ownsRow wk.heap.size 3 1 (.slice Ao no co) no (ints (but g kk)) ∧ Mid 0 0 wk wr) (fun _ kv _ => q - (intOf kv).toNat)
                case atStart => exact ⟨0, _, 0, 0, Nat.zero_le _, rfl, rfl, Lib.hid rfl, O10, hal⟩
                case round =>
                  clear O10 hal
                  obtain ⟨kk, Ao, no, co, hkk, rfl, rfl, HNo, hord, hmy⟩ := hrel
                  have hno : no ≤ 40 := by
                    have h1 : (but g kk).length ≤ kk := by unfold but; rw [List.length_map]; exact Nat.le_trans (List.length_filter_le _ _) (by simp)
                    have h2 := HNo.out
                    omega
                  have Y4 := Y3.mid hmy (Or.inr (Nat.zero_le _))
                  have y0 := Y4.cell 0 rfl
                  have y1 := Y4.cell 1 rfl
                  have y2 := Y4.cell 2 rfl
                  by_cases hlt : kk < q
                  · have hbs := but_succ g kk
                    have hk3 : (kk : Int) < (q : Int) := by omega
                    by_cases hkg : kk = g
                    · have d3 : ((kk : Int) != (g : Int)) = false := by simp; omega
                      rw [if_pos hkg] at hbs
                      have HBS := Lib.hid hbs
                      clear hbs hkg
                      go_wp2_with fail
                      go_roundw
                      case rel => exact ⟨kk + 1, Ao, no, co, by omega, by go_num, rfl, by rw [HBS.out]; exact HNo, by rw [HBS.out]; exact hord, hmy⟩
                      case measure => simp [intOf]; omega
                    · have d3 : ((kk : Int) != (g : Int)) = true := by simp; omega
                      rw [if_neg hkg] at hbs
                      have HBS := Lib.hid hbs
                      have HO := Lib.hid hord
                      have hsz := hmy.size
                      clear hbs hkg hord
                      go_wp2_with (at_builtin; refine wpList_pushI rfl _ _ rfl wk.heap.size Ao no co (but g kk) rfl HO.out kk rfl (by omega) hsz ?_; intro A9 c9 w9 ho9 hm9)
                      go_roundw
                      case rel => exact ⟨kk + 1, A9, no + 1, c9, by omega, by go_num, rfl, Lib.hid (by rw [HBS.out, List.length_append, HNo.out]; rfl), by rw [HBS.out]; exact ho9, hmy.transNew hm9 (Or.inl (Nat.le_refl _))⟩
                      case measure => simp [intOf]; omega
                  · obtain rfl : kk = q := by omega
                    have hln : (but g kk).length = no := HNo.out
                    have HL0 : Hid (no = kk - 1) := Lib.hid (by rw [← hln, but_len g hgs])
                    obtain ⟨es2, hes2⟩ : ∃ es2, partE (but g kk) es1 = es2 := ⟨_, rfl⟩
                    have hcv : cutV ((kk : Int), es1) g = ((no : Int), es2) := by unfold cutV; simp only [Int.toNat_natCast]; rw [hln, hes2]
                    have hE6 := owns_mid HE.out hmy (Or.inl (Nat.zero_le _))
                    have hP := impl_part r kk A2 es1 c2 Ao (but g kk) co wr _ _ _ _ (owns_rv hE6).rg (owns_rv hord) HGs.out (but_nodup g kk) (fun x hx => but_range hx)
                    rw [hln, hes2] at hP
                    have HP := Lib.hid hP
                    have hTT2 := HTT.out
                    rw [hcv] at hTT2
                    have hgr2 := HCG.out
                    rw [hcv] at hgr2
                    have HTT2 := Lib.hid hTT2
                    have HG2 := Lib.hid hgr2
                    have hwks : G + 1 ≤ wk.heap.size := Y3.1
                    clear hP hTT2 hgr2 hcv hes2 hln hord HTT HCG HE hE6
                    go_wp2_with fail
                    with_reducible refine HP.out.mono ?_
                    rintro en w8 ⟨A3, c3, rfl, hog, hm8⟩
                    clear HP
                    replace hog := hog.wide (lo' := wk.heap.size) hmy.size (Nat.le_refl _) (Nat.le_refl _)
                    have hm28 := hmy.trans hm8
                    clear Y4 y0 y1 y2
                    replace b2 := b2.mid hm28 (Or.inr (Nat.zero_le _))
                    replace Y3 := Y3.mid hm28 (Or.inr (Nat.zero_le _))
                    replace hleft := owns_mid hleft hm28 (Or.inl (Nat.zero_le _))
                    replace hm := hm.trans hm28
                    clear hmy hm8 hm28
                    have y0 := Y3.cell 0 rfl
                    have y1 := Y3.cell 1 rfl
                    have y2 := Y3.cell 2 rfl
                    have yf := Y3.2.2
                    go_wp2_with fail
                    have hst := (Mid.setAt w8 G 0 (.int .i64 r)).trans ((Mid.setAt (w8.setCell ⟨G, 0, none⟩ (.int .i64 r)) G 1 (.int .i64 no)).trans (Mid.setAt ((w8.setCell ⟨G, 0, none⟩ (.int .i64 r)).setCell ⟨G, 1, none⟩ (.int .i64 no)) G 2 (.slice A3 es2.length c3)))
                    have Y5 := ((Y3.set 0 (.int .i64 r) (by simp) rfl).set 1 (.int .i64 no) (by simp) rfl).set 2 (.slice A3 es2.length c3) (by simp) rfl
                    have hm5 := ((hm.storeNew (p := ⟨G, 0, none⟩) (by show w.heap.size ≤ G; omega) (.int .i64 r)).storeNew (p := ⟨G, 1, none⟩) (by show w.heap.size ≤ G; omega) (.int .i64 no)).storeNew (p := ⟨G, 2, none⟩) (by show w.heap.size ≤ G; omega) (.slice A3 es2.length c3)
                    replace b2 := b2.mid hst (Or.inl (by omega))
                    replace hleft := owns_mid hleft hst (Or.inl (Nat.le_refl _))
                    replace hog := hog.mid hst (Or.inl hwks)
                    clear Y3 hm y0 y1 y2 yf hst
                    generalize ((w8.setCell ⟨G, 0, none⟩ (.int .i64 r)).setCell ⟨G, 1, none⟩ (.int .i64 no)).setCell ⟨G, 2, none⟩ (.slice A3 es2.length c3) = ws at Y5 hm5 b2 hleft hog ⊢
                    have hmd := Mid.drew1 ws
                    replace b2 := b2.mid hmd (Or.inr (Nat.zero_le _))
                    replace Y5 := Y5.mid hmd (Or.inr (Nat.zero_le _))
                    replace hleft := owns_mid hleft hmd (Or.inl (Nat.zero_le _))
                    replace hog := hog.mid hmd (Or.inl (Nat.zero_le _))
                    replace hm5 := hm5.trans hmd
                    clear hmd
                    obtain ⟨gl, rfl, hgl1, hgl2⟩ := owns_addr hleft (show 0 < kk by omega)
                    have hsc : kk ≤ cl := by
                      obtain ⟨A', c', hv0, hsc, hcm⟩ := owns_shape hleft
                      injection hv0 with _ _ hv0
                      omega
                    have hcut2 := owns_cut hleft (m := g) (by omega)
                    have hxl : (ints xs).length = kk * 1 := hleft.1
                    have hsrc := (Rs.of_own hleft).drop (k := g + 1) (n := kk) (cap := cl) 1 hxl hsc
                    have hdl : ((ints xs).drop ((g + 1) * 1)).length = (kk - (g + 1)) * 1 := by rw [List.length_drop, hxl]; omega
                    have hone : ∀ u ∈ (ints xs).drop ((g + 1) * 1), u.oneCell' = true := fun u hu => one_of_ints xs u (List.mem_of_mem_drop hu)
                    have hml : g + (kk - (g + 1)) ≤ maxLen := by unfold maxLen; omega
                    have hby : (g + (kk - (g + 1))) * 8 ≤ 140737488355328 := by omega
                    have hGs : G + 1 ≤ ws.drew.heap.size := Y5.1
                    have HCU := Lib.hid hcut2
                    have HSR := Lib.hid hsrc
                    have HDL := Lib.hid hdl
                    have HON := Lib.hid hone
                    have HXL := Lib.hid hxl
                    have hgi : (0 : Int) ≤ (g : Int) := by omega
                    have hgi1 : (0 : Int) ≤ (g : Int) + 1 := by omega
                    have hgk : (g : Int) < (kk : Int) := by omega
                    have hgk2 : (g : Int) + 1 ≤ (kk : Int) := by omega
                    have hgn : g ≤ cl := by omega
                    have hgn1 : g + 1 ≤ kk := by omega
                    have hgn2 : g + 1 ≤ cl := by omega
                    have hgc : (g : Int) ≤ (cl : Int) := by omega
                    have hgc2 : (g : Int) + 1 ≤ (cl : Int) := by omega
                    have hwrp : IntKind.i64.wrap ((g : Int) + 1) = (g : Int) + 1 := IntWalk.i64_in _ (by omega)
                    clear hcut2 hsrc hdl hone hxl
                    by_cases hcg : cl = g + 1
                    · rw [if_pos hcg] at HSR
                      have hcgF : (cl = g + 1) = True := eq_true hcg
                      clear hcg
                      refine wp_region_T (S := (fun _ => True)) 8 (by kernel_rfl) trivial ?_
                      generalize World.drew ws = wz at b2 Y5 hleft hog hm5 HCU HSR hGs ⊢
                      refine wpAnyT_take (i := 0) (v := ?_) rfl (by kernel_rfl) (by kernel_rfl) (by kernel_rfl) (by kernel_rfl) (fun _ _ _ h => h) (Or.inl ⟨by rfl, ?_⟩) trivial ?_
                      rotate_left
                      focus (intro w hSw; (try dsimp only at hSw); go_simp; try with_reducible rfl)
                      try simp only [Act.put, List.setIfInBounds_toArray, List.set_cons_zero, List.set_cons_succ, List.getElem_toArray, List.getElem_cons_zero, List.getElem_cons_succ]
                      refine wpAnyT_take (i := 1) (v := ?_) rfl (by kernel_rfl) (by kernel_rfl) (by kernel_rfl) (by kernel_rfl) (fun _ _ _ h => h) (Or.inl ⟨by rfl, ?_⟩) trivial ?_
                      rotate_left
                      focus (intro w hSw; (try dsimp only at hSw); go_simp; try with_reducible rfl)
                      try simp only [Act.put, List.setIfInBounds_toArray, List.set_cons_zero, List.set_cons_succ, List.getElem_toArray, List.getElem_cons_zero, List.getElem_cons_succ]
                      refine wpAnyT_take (i := 2) (v := ?_) rfl (by kernel_rfl) (by kernel_rfl) (by kernel_rfl) (by kernel_rfl) (fun _ _ _ h => h) (Or.inl ⟨by rfl, ?_⟩) trivial ?_
                      rotate_left
                      focus (intro w hSw; (try dsimp only at hSw); go_simp; try with_reducible rfl)
                      try simp only [Act.put, List.setIfInBounds_toArray, List.set_cons_zero, List.set_cons_succ, List.getElem_toArray, List.getElem_cons_zero, List.getElem_cons_succ]
                      refine wpAnyT_take (i := 3) (v := ?_) rfl (by kernel_rfl) (by kernel_rfl) (by kernel_rfl) (by kernel_rfl) (fun _ _ _ h => h) (Or.inl ⟨by rfl, ?_⟩) trivial ?_
                      rotate_left
                      focus (intro w hSw; (try dsimp only at hSw); go_simp; try with_reducible rfl)
                      try simp only [Act.put, List.setIfInBounds_toArray, List.set_cons_zero, List.set_cons_succ, List.getElem_toArray, List.getElem_cons_zero, List.getElem_cons_succ]
                      refine wpAnyT_take (i := 4) (v := ?_) rfl (by kernel_rfl) (by kernel_rfl) (by kernel_rfl) (by kernel_rfl) (fun _ _ _ h => h) (Or.inl ⟨by rfl, ?_⟩) trivial ?_
                      rotate_left
                      focus (intro w hSw; (try dsimp only at hSw); go_simp; try with_reducible rfl)
                      try simp only [Act.put, List.setIfInBounds_toArray, List.set_cons_zero, List.set_cons_succ, List.getElem_toArray, List.getElem_cons_zero, List.getElem_cons_succ]
                      refine wpAnyT_take (i := 5) (v := ?_) rfl (by kernel_rfl) (by kernel_rfl) (by kernel_rfl) (by kernel_rfl) (fun _ _ _ h => h) (Or.inl ⟨by rfl, ?_⟩) trivial ?_
                      rotate_left
                      focus (intro w hSw; (try dsimp only at hSw); go_simp; try with_reducible rfl)
                      try simp only [Act.put, List.setIfInBounds_toArray, List.set_cons_zero, List.set_cons_succ, List.getElem_toArray, List.getElem_cons_zero, List.getElem_cons_succ]
                      refine wpAnyT_take (i := 6) (v := ?_) rfl (by kernel_rfl) (by kernel_rfl) (by kernel_rfl) (by kernel_rfl) (fun _ _ _ h => h) (Or.inl ⟨by rfl, ?_⟩) trivial ?_
                      rotate_left
                      focus (intro w hSw; (try dsimp only at hSw); go_simp; try with_reducible rfl)
                      try simp only [Act.put, List.setIfInBounds_toArray, List.set_cons_zero, List.set_cons_succ, List.getElem_toArray, List.getElem_cons_zero, List.getElem_cons_succ]
                      refine wpAnyT_ready (rs := [7]) (by kernel_rfl) (by simp) (AllReadyT.cons rfl (fun K hK => ?_) AllReadyT.nil)
                      (refine step_cat (by rfl) (.tmp 77) (.tmp 81) 37 (by rfl) (G + 1) 3 (.int .i64 0) 1 8 undSI infoI rfl (by decide) (.slice (some ⟨gl, 0, none⟩) g cl) g _ (by rfl) HCU.out _ (kk - (g + 1)) _ _ ((ints xs).drop ((g + 1) * 1)) (by rfl) HSR.out HDL.out HON.out hml hby hGs ?_; intro v9 w9 ho9 hgr9 hat9; obtain ⟨A9, c9, rfl, -, -⟩ := owns_shape ho9)
                      refine hK.out _ _ (Or.inr trivial) (fun _ => ?_)
                      clear hK K
                      try simp only [Act.put, List.setIfInBounds_toArray, List.set_cons_zero, List.set_cons_succ, List.getElem_toArray, List.getElem_cons_zero, List.getElem_cons_succ]
                      refine wpAnyT_ready (rs := [8]) (by kernel_rfl) (by simp) (AllReadyT.cons rfl (fun K hK => ?_) AllReadyT.nil)
                      (go_simp)
                      refine hK.out _ _ (Or.inl rfl) (fun _ => ?_)
                      clear hK K
                      try simp only [Act.put, List.setIfInBounds_toArray, List.set_cons_zero, List.set_cons_succ, List.getElem_toArray, List.getElem_cons_zero, List.getElem_cons_succ]
                      refine wpAnyT_done (by kernel_rfl) ?_ _
                      go_wp2_with fail
                      go_roundw
                      case rel =>
                        have hm9 := Mid.of_grownRow HCU.out hgr9
                        have h0 := hog.ov.2.1.kept hgr9 (owns_ne hog.ov.2.1 HCU.out (by decide))
                        have hnl2 : g + (kk - (g + 1)) = no := by have := HL0.out; omega
                        have hb9 : Value.ownBlock (.slice A3 es2.length c3) ≠ some G := fun h => by have := (hog.ov.2.1.lt _ h).1; omega
                        have hxe : (ints xs).take (g * 1) ++ (ints xs).drop ((g + 1) * 1) = ints (xs.take g ++ xs.drop (g + 1)) := by simp [ints]
                        rw [hxe, hnl2] at ho9
                        exact ⟨m', no, es2, A3, c3, A9, c9, xs.take g ++ xs.drop (g + 1), by rw [hnl2], HTT2, by have := HL0.out; omega, HG2, ho9, Lib.hid (owns_base h0 (by omega)), Lib.hid hb9, b2.mid hm9 (Or.inl (by omega)), Y5.mid hm9 (Or.inl (by omega)), hm5.transNew hm9 (Or.inl (by omega))⟩
                      case measure =>
                        have h1 := sizeAt_box (Y5.mid (Mid.of_grownRow HCU.out hgr9) (Or.inl (by omega)))
                        have h2 := hlsz.out
                        have h3 := HL0.out
                        simp only [h1, h2]
                        omega
                    · rw [if_neg hcg] at HSR
                      have hcgF : (cl = g + 1) = False := eq_false hcg
                      clear hcg
                      replace HSR : Hid (Rs ws.drew ws.drew.heap.size (some ⟨gl, g + 1, none⟩) ((ints xs).drop ((g + 1) * 1))) := Lib.hid (by
                        have h := HSR.out
                        rw [show Option.map (fun x => x.add ((g + 1) * 1)) (some (⟨gl, 0, none⟩ : Addr)) = some ⟨gl, g + 1, none⟩ by simp [Addr.add]] at h
                        exact h)
                      refine wp_region_T (S := (fun _ => True)) 8 (by kernel_rfl) trivial ?_
                      generalize World.drew ws = wz at b2 Y5 hleft hog hm5 HCU HSR hGs ⊢
                      refine wpAnyT_take (i := 0) (v := ?_) rfl (by kernel_rfl) (by kernel_rfl) (by kernel_rfl) (by kernel_rfl) (fun _ _ _ h => h) (Or.inl ⟨by rfl, ?_⟩) trivial ?_
                      rotate_left
                      focus (intro w hSw; (try dsimp only at hSw); go_simp; try with_reducible rfl)
                      try simp only [Act.put, List.setIfInBounds_toArray, List.set_cons_zero, List.set_cons_succ, List.getElem_toArray, List.getElem_cons_zero, List.getElem_cons_succ]
                      refine wpAnyT_take (i := 1) (v := ?_) rfl (by kernel_rfl) (by kernel_rfl) (by kernel_rfl) (by kernel_rfl) (fun _ _ _ h => h) (Or.inl ⟨by rfl, ?_⟩) trivial ?_
                      rotate_left
                      focus (intro w hSw; (try dsimp only at hSw); go_simp; try with_reducible rfl)
                      try simp only [Act.put, List.setIfInBounds_toArray, List.set_cons_zero, List.set_cons_succ, List.getElem_toArray, List.getElem_cons_zero, List.getElem_cons_succ]
                      refine wpAnyT_take (i := 2) (v := ?_) rfl (by kernel_rfl) (by kernel_rfl) (by kernel_rfl) (by kernel_rfl) (fun _ _ _ h => h) (Or.inl ⟨by rfl, ?_⟩) trivial ?_
                      rotate_left
                      focus (intro w hSw; (try dsimp only at hSw); go_simp; try with_reducible rfl)
                      try simp only [Act.put, List.setIfInBounds_toArray, List.set_cons_zero, List.set_cons_succ, List.getElem_toArray, List.getElem_cons_zero, List.getElem_cons_succ]
                      refine wpAnyT_take (i := 3) (v := ?_) rfl (by kernel_rfl) (by kernel_rfl) (by kernel_rfl) (by kernel_rfl) (fun _ _ _ h => h) (Or.inl ⟨by rfl, ?_⟩) trivial ?_
                      rotate_left
                      focus (intro w hSw; (try dsimp only at hSw); go_simp; try with_reducible rfl)
                      try simp only [Act.put, List.setIfInBounds_toArray, List.set_cons_zero, List.set_cons_succ, List.getElem_toArray, List.getElem_cons_zero, List.getElem_cons_succ]
                      refine wpAnyT_take (i := 4) (v := ?_) rfl (by kernel_rfl) (by kernel_rfl) (by kernel_rfl) (by kernel_rfl) (fun _ _ _ h => h) (Or.inl ⟨by rfl, ?_⟩) trivial ?_
                      rotate_left
                      focus (intro w hSw; (try dsimp only at hSw); go_simp; try with_reducible rfl)
                      try simp only [Act.put, List.setIfInBounds_toArray, List.set_cons_zero, List.set_cons_succ, List.getElem_toArray, List.getElem_cons_zero, List.getElem_cons_succ]
                      refine wpAnyT_take (i := 5) (v := ?_) rfl (by kernel_rfl) (by kernel_rfl) (by kernel_rfl) (by kernel_rfl) (fun _ _ _ h => h) (Or.inl ⟨by rfl, ?_⟩) trivial ?_
                      rotate_left
                      focus (intro w hSw; (try dsimp only at hSw); go_simp; try with_reducible rfl)
                      try simp only [Act.put, List.setIfInBounds_toArray, List.set_cons_zero, List.set_cons_succ, List.getElem_toArray, List.getElem_cons_zero, List.getElem_cons_succ]
                      refine wpAnyT_take (i := 6) (v := ?_) rfl (by kernel_rfl) (by kernel_rfl) (by kernel_rfl) (by kernel_rfl) (fun _ _ _ h => h) (Or.inl ⟨by rfl, ?_⟩) trivial ?_
                      rotate_left
                      focus (intro w hSw; (try dsimp only at hSw); go_simp; try with_reducible rfl)
                      try simp only [Act.put, List.setIfInBounds_toArray, List.set_cons_zero, List.set_cons_succ, List.getElem_toArray, List.getElem_cons_zero, List.getElem_cons_succ]
                      refine wpAnyT_ready (rs := [7]) (by kernel_rfl) (by simp) (AllReadyT.cons rfl (fun K hK => ?_) AllReadyT.nil)
                      (refine step_cat (by rfl) (.tmp 77) (.tmp 81) 37 (by rfl) (G + 1) 3 (.int .i64 0) 1 8 undSI infoI rfl (by decide) (.slice (some ⟨gl, 0, none⟩) g cl) g _ (by rfl) HCU.out _ (kk - (g + 1)) _ _ ((ints xs).drop ((g + 1) * 1)) (by rfl) HSR.out HDL.out HON.out hml hby hGs ?_; intro v9 w9 ho9 hgr9 hat9; obtain ⟨A9, c9, rfl, -, -⟩ := owns_shape ho9)
                      refine hK.out _ _ (Or.inr trivial) (fun _ => ?_)
                      clear hK K
                      try simp only [Act.put, List.setIfInBounds_toArray, List.set_cons_zero, List.set_cons_succ, List.getElem_toArray, List.getElem_cons_zero, List.getElem_cons_succ]
                      refine wpAnyT_ready (rs := [8]) (by kernel_rfl) (by simp) (AllReadyT.cons rfl (fun K hK => ?_) AllReadyT.nil)
                      (go_simp)
                      refine hK.out _ _ (Or.inl rfl) (fun _ => ?_)
                      clear hK K
                      try simp only [Act.put, List.setIfInBounds_toArray, List.set_cons_zero, List.set_cons_succ, List.getElem_toArray, List.getElem_cons_zero, List.getElem_cons_succ]
                      refine wpAnyT_done (by kernel_rfl) ?_ _
                      go_wp2_with fail
                      go_roundw
                      case rel =>
                        have hm9 := Mid.of_grownRow HCU.out hgr9
                        have h0 := hog.ov.2.1.kept hgr9 (owns_ne hog.ov.2.1 HCU.out (by decide))
                        have hnl2 : g + (kk - (g + 1)) = no := by have := HL0.out; omega
                        have hb9 : Value.ownBlock (.slice A3 es2.length c3) ≠ some G := fun h => by have := (hog.ov.2.1.lt _ h).1; omega
                        have hxe : (ints xs).take (g * 1) ++ (ints xs).drop ((g + 1) * 1) = ints (xs.take g ++ xs.drop (g + 1)) := by simp [ints]
                        rw [hxe, hnl2] at ho9
                        exact ⟨m', no, es2, A3, c3, A9, c9, xs.take g ++ xs.drop (g + 1), by rw [hnl2], HTT2, by have := HL0.out; omega, HG2, ho9, Lib.hid (owns_base h0 (by omega)), Lib.hid hb9, b2.mid hm9 (Or.inl (by omega)), Y5.mid hm9 (Or.inl (by omega)), hm5.transNew hm9 (Or.inl (by omega))⟩
                      case measure =>
                        have h1 := sizeAt_box (Y5.mid (Mid.of_grownRow HCU.out hgr9) (Or.inl (by omega)))
                        have h2 := hlsz.out
                        have h3 := HL0.out
                        simp only [h1, h2]
                        omega
end Go.Proofs.YtkcfbcbkokabdaaGreat

/- IsCore, IsSubgroup, RankOf. -/
namespace Go.Proofs.YtkcfbcbkokabdaaGreat
set_option linter.unusedVariables false
set_option linter.unusedSimpArgs false
open Go.RowKit

theorem IsGr.nat {r s : Int} {es : List Ed} (h : IsGr r s es) : ∃ k n : Nat, r = k ∧ s = n := by
  have h1 := h.rank
  have h2 := h.size
  exact ⟨r.toNat, s.toNat, by omega, by omega⟩

set_option maxHeartbeats 3200000 in
set_option maxRecDepth 20000 in
theorem impl_IsCore (r s : Int) (A : Option Addr) (es : List Ed) (c : Nat) (w : World) (lo hi : Nat) (hr : RG w lo hi A es) (hl : es.length ≤ 1048576) (hcl : es.length ≤ c) (b : Bool) (hb : b = true ↔ IsCor r s es) :
    Calls Tryz.prog 48 #[graV r s A es.length c] w fun e w' => e = .returned (.bool b) ∧ Mid 0 0 w w' := by
  have HB := Lib.hid hb
  clear hb
  have hm0 : Mid 0 0 w (w.alloc (.cells #[.int .i64 r, .int .i64 s, .slice A es.length c] 30)) := Mid.alloc _ _
  have b0 := Box.new w #[.int .i64 r, .int .i64 s, .slice A es.length c] 30
  by_cases hf : IsFol r s es
  · obtain ⟨r, n, rfl, rfl⟩ := hf.gr.nat
    have hn1 : 0 < n := by have := hf.gr.size; omega
    have HF := Lib.hid hf
    obtain ⟨T, hT⟩ : ∃ T, trimA 40 ((n : Int), es) = T := ⟨_, rfl⟩
    have HTS : Hid (T.1 = n ↔ leaf n es = none) := Lib.hid (by rw [← hT]; exact trimA_same (g := ((n : Int), es)) (by omega))
    have hTg : IsGr r T.1 T.2 := by rw [← hT]; exact trimA_gr 40 (g := ((n : Int), es)) hf.gr
    obtain ⟨tr, tn, -, htn⟩ := hTg.nat
    obtain ⟨ts, te⟩ := T
    simp only at htn HTS
    subst htn
    have htl := hTg.len
    have HTR := Lib.hid hT
    clear hf hT hTg
    have hTRIM := fun W h => impl_TrimGraph r n A es c W lo hi h HF.out.gr
    simp only [HTR.out] at hTRIM
    have HTRIM := Lib.hid hTRIM
    clear hTRIM HTR
    go_enter Tryz.func48, Tryz.ntmps48
    go_wp2_with fail
    with_reducible refine (impl_IsFolded r n A es c _ _ _ (hr.mid hm0 (Or.inl (Nat.zero_le _))) hl hcl true (iff_of_true rfl HF.out)).mono ?_
    rintro en w1 ⟨rfl, hm1⟩
    replace b0 := b0.mid hm1 (Or.inr (Nat.zero_le _))
    replace hm0 := hm0.trans hm1
    have p0 := b0.cell 0 rfl
    have p1 := b0.cell 1 rfl
    have p2 := b0.cell 2 rfl
    go_wp2_with fail
    with_reducible refine (HTRIM.out _ (hr.mid hm0 (Or.inl (Nat.zero_le _)))).mono ?_
    rintro en w2 ⟨A1, c1, Al, nl, cl, rfl, hog, hm2⟩
    replace b0 := b0.mid hm2 (Or.inr (Nat.zero_le _))
    replace hm0 := hm0.trans hm2
    have hal := Mid.alloc w2 (.cells #[.int .i64 r, .int .i64 tn, .slice A1 te.length c1] 30)
    have bt := Box.new w2 #[.int .i64 r, .int .i64 tn, .slice A1 te.length c1] 30
    replace b0 := b0.mid hal (Or.inr (Nat.zero_le _))
    replace hm0 := hm0.trans hal
    clear p0 p1 p2 HTRIM
    go_wp2_with fail
    generalize w2.alloc (.cells #[.int .i64 r, .int .i64 tn, .slice A1 te.length c1] 30) = w3 at b0 bt hm0 ⊢
    by_cases hts : (tn : Int) = n
    · have hlf := HTS.out.1 hts
      obtain rfl : tn = n := by omega
      obtain ⟨C, hC⟩ : ∃ C, canonG r ((tn : Int), es) = C := ⟨_, rfl⟩
      have hCg : IsGr r C.1 C.2 := by rw [← hC]; exact canonG_gr (g := ((tn : Int), es)) HF.out.gr
      have HB2 : Hid (b = true ↔ (r : Int) = r ∧ C.1 = tn ∧ C.2 = es) := Lib.hid (by
        rw [HB.out]
        constructor
        · intro h
          have h1 := h.canon
          rw [hC] at h1
          exact ⟨rfl, by rw [h1], by rw [h1]⟩
        · rintro ⟨-, h1, h2⟩
          exact ⟨HF.out, hlf, by rw [hC]; exact Prod.ext h1 h2⟩)
      have hcl2 := hCg.len
      have hmd := Mid.drew1 w3
      replace b0 := b0.mid hmd (Or.inr (Nat.zero_le _))
      replace bt := bt.mid hmd (Or.inr (Nat.zero_le _))
      replace hm0 := hm0.trans hmd
      have p0 := b0.cell 0 rfl
      have p1 := b0.cell 1 rfl
      have p2 := b0.cell 2 rfl
      have q1 := bt.cell 1 rfl
      have hCAN := fun W h => impl_CanonicalGraph r tn A es c W lo hi h hcl HF.out.gr
      simp only [hC] at hCAN
      have HCAN := Lib.hid hCAN
      clear hCAN hC hCg HB hlf HTS hts hmd
      refine wp_region_T (S := (fun w' => w'.cell? ⟨w.heap.size, 0, none⟩ = some (.int .i64 r) ∧ w'.cell? ⟨w.heap.size, 1, none⟩ = some (.int .i64 tn) ∧ w'.cell? ⟨w.heap.size, 2, none⟩ = some (.slice A es.length c) ∧ w'.cell? ⟨w2.heap.size, 1, none⟩ = some (.int .i64 tn))) 11 (by kernel_rfl) ⟨p0, p1, p2, q1⟩ ?_
      generalize World.drew w3 = wz at b0 bt hm0 p0 p1 p2 q1 ⊢
      have hS : wz.cell? ⟨w.heap.size, 0, none⟩ = some (.int .i64 r) ∧ wz.cell? ⟨w.heap.size, 1, none⟩ = some (.int .i64 tn) ∧ wz.cell? ⟨w.heap.size, 2, none⟩ = some (.slice A es.length c) ∧ wz.cell? ⟨w2.heap.size, 1, none⟩ = some (.int .i64 tn) := ⟨p0, p1, p2, q1⟩
      refine wpAnyT_take (i := 0) (v := ?_) rfl (by kernel_rfl) (by kernel_rfl) (by kernel_rfl) (by kernel_rfl) (fun _ _ _ h => h) (Or.inl ⟨by rfl, ?_⟩) hS ?_
      rotate_left
      focus (intro w hSw; (try dsimp only at hSw); go_simp; try with_reducible rfl)
      try simp only [Act.put, List.setIfInBounds_toArray, List.set_cons_zero, List.set_cons_succ, List.getElem_toArray, List.getElem_cons_zero, List.getElem_cons_succ]
      refine wpAnyT_take (i := 1) (v := ?_) rfl (by kernel_rfl) (by kernel_rfl) (by kernel_rfl) (by kernel_rfl) (fun _ _ _ h => h) (Or.inl ⟨by rfl, ?_⟩) hS ?_
      rotate_left
      focus (intro w hSw; (try dsimp only at hSw); go_simp; try with_reducible rfl)
      try simp only [Act.put, List.setIfInBounds_toArray, List.set_cons_zero, List.set_cons_succ, List.getElem_toArray, List.getElem_cons_zero, List.getElem_cons_succ]
      refine wpAnyT_take (i := 2) (v := ?_) rfl (by kernel_rfl) (by kernel_rfl) (by kernel_rfl) (by kernel_rfl) (fun _ _ _ h => h) (Or.inl ⟨by rfl, ?_⟩) hS ?_
      rotate_left
      focus (intro w hSw; (try dsimp only at hSw); go_simp; try with_reducible rfl)
      try simp only [Act.put, List.setIfInBounds_toArray, List.set_cons_zero, List.set_cons_succ, List.getElem_toArray, List.getElem_cons_zero, List.getElem_cons_succ]
      refine wpAnyT_take (i := 3) (v := ?_) rfl (by kernel_rfl) (by kernel_rfl) (by kernel_rfl) (by kernel_rfl) (fun _ _ _ h => h) (Or.inl ⟨by rfl, ?_⟩) hS ?_
      rotate_left
      focus (intro w hSw; (try dsimp only at hSw); go_simp; try with_reducible rfl)
      try simp only [Act.put, List.setIfInBounds_toArray, List.set_cons_zero, List.set_cons_succ, List.getElem_toArray, List.getElem_cons_zero, List.getElem_cons_succ]
      refine wpAnyT_take (i := 4) (v := ?_) rfl (by kernel_rfl) (by kernel_rfl) (by kernel_rfl) (by kernel_rfl) (fun _ _ _ h => h) (Or.inl ⟨by rfl, ?_⟩) hS ?_
      rotate_left
      focus (intro w hSw; (try dsimp only at hSw); go_simp; try with_reducible rfl)
      try simp only [Act.put, List.setIfInBounds_toArray, List.set_cons_zero, List.set_cons_succ, List.getElem_toArray, List.getElem_cons_zero, List.getElem_cons_succ]
      refine wpAnyT_take (i := 5) (v := ?_) rfl (by kernel_rfl) (by kernel_rfl) (by kernel_rfl) (by kernel_rfl) (fun _ _ _ h => h) (Or.inl ⟨by rfl, ?_⟩) hS ?_
      rotate_left
      focus (intro w hSw; (try dsimp only at hSw); go_simp; try with_reducible rfl)
      try simp only [Act.put, List.setIfInBounds_toArray, List.set_cons_zero, List.set_cons_succ, List.getElem_toArray, List.getElem_cons_zero, List.getElem_cons_succ]
      refine wpAnyT_take (i := 6) (v := ?_) rfl (by kernel_rfl) (by kernel_rfl) (by kernel_rfl) (by kernel_rfl) (fun _ _ _ h => h) (Or.inl ⟨by rfl, ?_⟩) hS ?_
      rotate_left
      focus (intro w hSw; (try dsimp only at hSw); go_simp; try with_reducible rfl)
      try simp only [Act.put, List.setIfInBounds_toArray, List.set_cons_zero, List.set_cons_succ, List.getElem_toArray, List.getElem_cons_zero, List.getElem_cons_succ]
      refine wpAnyT_take (i := 8) (v := ?_) rfl (by kernel_rfl) (by kernel_rfl) (by kernel_rfl) (by kernel_rfl) (fun _ _ _ h => h) (Or.inl ⟨by rfl, ?_⟩) hS ?_
      rotate_left
      focus (intro w hSw; (try dsimp only at hSw); go_simp; try with_reducible rfl)
      try simp only [Act.put, List.setIfInBounds_toArray, List.set_cons_zero, List.set_cons_succ, List.getElem_toArray, List.getElem_cons_zero, List.getElem_cons_succ]
      refine wpAnyT_ready (rs := [7]) (by kernel_rfl) (by simp) (AllReadyT.cons rfl (fun K hK => ?_) AllReadyT.nil)
      (go_simp; refine (HCAN.out _ (hr.mid hm0 (Or.inl (Nat.zero_le _)))).mono ?_; rintro en w4 ⟨A4, c4, rfl, hog4, hm4⟩; have b0' := b0.mid hm4 (Or.inr (Nat.zero_le _)); have bt' := bt.mid hm4 (Or.inr (Nat.zero_le _)); go_wp2_with fail)
      refine hK.out _ _ (Or.inr ⟨b0'.cell 0 rfl, b0'.cell 1 rfl, b0'.cell 2 rfl, bt'.cell 1 rfl⟩) (fun _ => ?_)
      clear hK K
      try simp only [Act.put, List.setIfInBounds_toArray, List.set_cons_zero, List.set_cons_succ, List.getElem_toArray, List.getElem_cons_zero, List.getElem_cons_succ]
      replace hm0 := hm0.trans hm4
      have hE := impl_EqualGraphs r C.1 A4 C.2 c4 r tn A es c w4 _ _ _ _ hog4.rg (hr.mid hm0 (Or.inl (Nat.zero_le _))) (by omega) hl b (by have h := HB2.out; simpa using h)
      have HE := Lib.hid hE
      clear hS p0 p1 p2 q1 b0 bt HCAN HB2 hE hm4
      refine wpAnyT_ready (rs := [9]) (by kernel_rfl) (by simp) (AllReadyT.cons rfl (fun K hK => ?_) AllReadyT.nil)
      (go_simp; refine HE.out.mono ?_; rintro en w5 ⟨rfl, hm5⟩; have b0 := b0'.mid hm5 (Or.inr (Nat.zero_le _)); have bt := bt'.mid hm5 (Or.inr (Nat.zero_le _)); go_wp2_with fail)
      refine hK.out _ _ (Or.inr ⟨b0.cell 0 rfl, b0.cell 1 rfl, b0.cell 2 rfl, bt.cell 1 rfl⟩) (fun _ => ?_)
      clear hK K
      try simp only [Act.put, List.setIfInBounds_toArray, List.set_cons_zero, List.set_cons_succ, List.getElem_toArray, List.getElem_cons_zero, List.getElem_cons_succ]
      have hS2 : w5.cell? ⟨w.heap.size, 0, none⟩ = some (.int .i64 r) ∧ w5.cell? ⟨w.heap.size, 1, none⟩ = some (.int .i64 tn) ∧ w5.cell? ⟨w.heap.size, 2, none⟩ = some (.slice A es.length c) ∧ w5.cell? ⟨w2.heap.size, 1, none⟩ = some (.int .i64 tn) := ⟨b0.cell 0 rfl, b0.cell 1 rfl, b0.cell 2 rfl, bt.cell 1 rfl⟩
      have hmm := hm0.trans hm5
      clear HE b0' bt'
      refine wpAnyT_take (i := 10) (v := ?_) rfl (by kernel_rfl) (by kernel_rfl) (by kernel_rfl) (by kernel_rfl) (fun _ _ _ h => h) (Or.inl ⟨by rfl, ?_⟩) hS2 ?_
      rotate_left
      focus (intro w hSw; (try dsimp only at hSw); go_simp; try with_reducible rfl)
      try simp only [Act.put, List.setIfInBounds_toArray, List.set_cons_zero, List.set_cons_succ, List.getElem_toArray, List.getElem_cons_zero, List.getElem_cons_succ]
      refine wpAnyT_ready (rs := [11]) (by kernel_rfl) (by simp) (AllReadyT.cons rfl (fun K hK => ?_) AllReadyT.nil)
      (go_simp)
      refine hK.out _ _ (Or.inl rfl) (fun _ => ?_)
      clear hK K
      try simp only [Act.put, List.setIfInBounds_toArray, List.set_cons_zero, List.set_cons_succ, List.getElem_toArray, List.getElem_cons_zero, List.getElem_cons_succ]
      refine wpAnyT_done (by kernel_rfl) ?_ _
      go_wp2_with fail
      go_ret
      exact ⟨rfl, hmm⟩
    · obtain rfl : b = false := bool_no HB.out fun h => hts (HTS.out.2 h.leaf)
      have d1 : ((tn : Int) == (n : Int)) = false := by simpa only [beq_eq_false_iff_ne] using hts
      have d2 : ¬ tn = n := fun h => hts (by rw [h])
      have u0 := wg_cell b0.1 (b0.cell 0 rfl)
      have u1 := wg_cell b0.1 (b0.cell 1 rfl)
      have u2 := wg_cell b0.1 (b0.cell 2 rfl)
      have v1 := wg_cell bt.1 (bt.cell 1 rfl)
      clear HB HTS hts
      refine wp_region_quiet_wg (by kernel_rfl) (by kernel_rfl) ?_
      repeat
        (with_reducible refine wpQuiet_step (fun K hK => ?_))
        go_simp
        first
          | ((with_reducible refine hK _ ?_); clear hK K)
          | (rw [if_neg (by decide)]; (with_reducible refine hK _ ?_); clear hK K)
          | (apply Exists.intro; refine ⟨fun _ => ?_, hK _ ?_⟩; (fail); clear hK K)
      with_reducible refine wpQuiet_nil ?_
      intro _ hw'
      obtain ⟨⟨nq, osq⟩, hw''⟩ := hw'
      subst hw''
      go_wp2_with fail
      go_ret
      exact ⟨rfl, hm0.trans (Mid.ofWg w3 nq osq)⟩
  · obtain rfl : b = false := bool_no HB.out fun h => hf h.fol
    have HF := Lib.hid hf
    clear hf HB
    go_enter Tryz.func48, Tryz.ntmps48
    go_wp2_with fail
    with_reducible refine (impl_IsFolded r s A es c _ _ _ (hr.mid hm0 (Or.inl (Nat.zero_le _))) hl hcl false (iff_of_false Bool.false_ne_true HF.out)).mono ?_
    rintro en w1 ⟨rfl, hm1⟩
    go_wp2_with fail
    go_ret
    exact ⟨rfl, hm0.trans hm1⟩

set_option maxHeartbeats 3200000 in
set_option maxRecDepth 20000 in
theorem spec_IsCore (r s : Int) (A : Option Addr) (es : List Ed) (c : Nat) (w : World) (lo hi : Nat) (hr : RG w lo hi A es) (hl : es.length ≤ 1048576) (b : Bool) (hb : b = true ↔ IsCor r s es) :
    Calls Tryz.prog 64 #[graV r s A es.length c] w fun e w' => e = .returned (.bool b) ∧ Mid 0 0 w w' := by
  have HB := Lib.hid hb
  clear hb
  have hm0 : Mid 0 0 w (w.alloc (.cells #[.int .i64 r, .int .i64 s, .slice A es.length c] 30)) := Mid.alloc _ _
  have b0 := Box.new w #[.int .i64 r, .int .i64 s, .slice A es.length c] 30
  by_cases hf : IsFol r s es
  · obtain ⟨r, n, rfl, rfl⟩ := hf.gr.nat
    have HF := Lib.hid hf
    clear hf
    have hFol := fun W h => spec_IsFolded r n A es c W lo hi h hl true (iff_of_true rfl HF.out)
    have hLeaf := fun W h => spec_l8Leaf r n A es c W lo hi h HF.out.gr
    obtain ⟨lf, hlf⟩ : ∃ lf, leafI n es = lf := ⟨_, rfl⟩
    have HLF := Lib.hid hlf
    simp only [hlf] at hLeaf
    clear hlf
    have HFol := Lib.hid hFol
    have HLeaf := Lib.hid hLeaf
    clear hFol hLeaf
    by_cases hln : leaf n es = none
    · have hlf0 : lf = -1 := by rw [← HLF.out, leafI_none hln]
      subst hlf0
      obtain ⟨C, hC⟩ : ∃ C, canonG r ((n : Int), es) = C := ⟨_, rfl⟩
      have hCg : IsGr r C.1 C.2 := by rw [← hC]; exact canonG_gr (g := ((n : Int), es)) HF.out.gr
      have HB2 : Hid (b = true ↔ (r : Int) = r ∧ C.1 = n ∧ C.2 = es) := Lib.hid (by
        rw [HB.out]
        constructor
        · intro h
          have h1 := h.canon
          rw [hC] at h1
          exact ⟨rfl, by rw [h1], by rw [h1]⟩
        · rintro ⟨-, h1, h2⟩
          exact ⟨HF.out, hln, by rw [hC]; exact Prod.ext h1 h2⟩)
      have hcl2 := hCg.len
      have hCAN := fun W h => spec_CanonicalGraph r n A es c W lo hi h HF.out.gr
      simp only [hC] at hCAN
      have HCAN := Lib.hid hCAN
      clear hCAN hC hCg HB hln HLF
      go_enter Tryz.func64, Tryz.ntmps64
      go_wp2_with fail
      generalize w.alloc (.cells #[.int .i64 r, .int .i64 n, .slice A es.length c] 30) = w3 at b0 hm0 ⊢
      have hmd := Mid.drew1 w3
      replace b0 := b0.mid hmd (Or.inr (Nat.zero_le _))
      replace hm0 := hm0.trans hmd
      have p0 := b0.cell 0 rfl
      have p1 := b0.cell 1 rfl
      have p2 := b0.cell 2 rfl
      clear hmd
      refine wp_region_T (S := (fun w' => w'.cell? ⟨w.heap.size, 0, none⟩ = some (.int .i64 r) ∧ w'.cell? ⟨w.heap.size, 1, none⟩ = some (.int .i64 n) ∧ w'.cell? ⟨w.heap.size, 2, none⟩ = some (.slice A es.length c))) 13 (by kernel_rfl) ⟨p0, p1, p2⟩ ?_
      generalize World.drew w3 = wz at b0 hm0 p0 p1 p2 ⊢
      have hS : wz.cell? ⟨w.heap.size, 0, none⟩ = some (.int .i64 r) ∧ wz.cell? ⟨w.heap.size, 1, none⟩ = some (.int .i64 n) ∧ wz.cell? ⟨w.heap.size, 2, none⟩ = some (.slice A es.length c) := ⟨p0, p1, p2⟩
      refine wpAnyT_take (i := 0) (v := ?_) rfl (by kernel_rfl) (by kernel_rfl) (by kernel_rfl) (by kernel_rfl) (fun _ _ _ h => h) (Or.inl ⟨by rfl, ?_⟩) hS ?_
      rotate_left
      focus (intro w hSw; (try dsimp only at hSw); go_simp; try with_reducible rfl)
      try simp only [Act.put, List.setIfInBounds_toArray, List.set_cons_zero, List.set_cons_succ, List.getElem_toArray, List.getElem_cons_zero, List.getElem_cons_succ]
      refine wpAnyT_ready (rs := [1]) (by kernel_rfl) (by simp) (AllReadyT.cons rfl (fun K hK => ?_) AllReadyT.nil)
      (go_simp; refine (HFol.out _ (hr.mid hm0 (Or.inl (Nat.zero_le _)))).mono ?_; rintro en w4 ⟨rfl, hm4⟩; have b1 := b0.mid hm4 (Or.inr (Nat.zero_le _)); go_wp2_with fail)
      refine hK.out _ _ (Or.inr ⟨b1.cell 0 rfl, b1.cell 1 rfl, b1.cell 2 rfl⟩) (fun _ => ?_)
      clear hK K
      try simp only [Act.put, List.setIfInBounds_toArray, List.set_cons_zero, List.set_cons_succ, List.getElem_toArray, List.getElem_cons_zero, List.getElem_cons_succ]
      replace hm0 := hm0.trans hm4
      have hS4 : w4.cell? ⟨w.heap.size, 0, none⟩ = some (.int .i64 r) ∧ w4.cell? ⟨w.heap.size, 1, none⟩ = some (.int .i64 n) ∧ w4.cell? ⟨w.heap.size, 2, none⟩ = some (.slice A es.length c) := ⟨b1.cell 0 rfl, b1.cell 1 rfl, b1.cell 2 rfl⟩
      clear b0 hS p0 p1 p2 hm4 HFol
      refine wpAnyT_take (i := 2) (v := ?_) rfl (by kernel_rfl) (by kernel_rfl) (by kernel_rfl) (by kernel_rfl) (fun _ _ _ h => h) (Or.inl ⟨by rfl, ?_⟩) hS4 ?_
      rotate_left
      focus (intro w hSw; (try dsimp only at hSw); go_simp; try with_reducible rfl)
      try simp only [Act.put, List.setIfInBounds_toArray, List.set_cons_zero, List.set_cons_succ, List.getElem_toArray, List.getElem_cons_zero, List.getElem_cons_succ]
      refine wpAnyT_take (i := 3) (v := ?_) rfl (by kernel_rfl) (by kernel_rfl) (by kernel_rfl) (by kernel_rfl) (fun _ _ _ h => h) (Or.inl ⟨by rfl, ?_⟩) hS4 ?_
      rotate_left
      focus (intro w hSw; (try dsimp only at hSw); go_simp; try with_reducible rfl)
      try simp only [Act.put, List.setIfInBounds_toArray, List.set_cons_zero, List.set_cons_succ, List.getElem_toArray, List.getElem_cons_zero, List.getElem_cons_succ]
      refine wpAnyT_ready (rs := [4]) (by kernel_rfl) (by simp) (AllReadyT.cons rfl (fun K hK => ?_) AllReadyT.nil)
      (go_simp; refine (HLeaf.out _ (hr.mid hm0 (Or.inl (Nat.zero_le _)))).mono ?_; rintro en w5 ⟨rfl, hm5⟩; have b2 := b1.mid hm5 (Or.inr (Nat.zero_le _)); go_wp2_with fail)
      refine hK.out _ _ (Or.inr ⟨b2.cell 0 rfl, b2.cell 1 rfl, b2.cell 2 rfl⟩) (fun _ => ?_)
      clear hK K
      try simp only [Act.put, List.setIfInBounds_toArray, List.set_cons_zero, List.set_cons_succ, List.getElem_toArray, List.getElem_cons_zero, List.getElem_cons_succ]
      replace hm0 := hm0.trans hm5
      have hS5 : w5.cell? ⟨w.heap.size, 0, none⟩ = some (.int .i64 r) ∧ w5.cell? ⟨w.heap.size, 1, none⟩ = some (.int .i64 n) ∧ w5.cell? ⟨w.heap.size, 2, none⟩ = some (.slice A es.length c) := ⟨b2.cell 0 rfl, b2.cell 1 rfl, b2.cell 2 rfl⟩
      clear b1 hS4 hm5 HLeaf
      refine wpAnyT_take (i := 5) (v := ?_) rfl (by kernel_rfl) (by kernel_rfl) (by kernel_rfl) (by kernel_rfl) (fun _ _ _ h => h) (Or.inl ⟨by rfl, ?_⟩) hS5 ?_
      rotate_left
      focus (intro w hSw; (try dsimp only at hSw); go_simp; try with_reducible rfl)
      try simp only [Act.put, List.setIfInBounds_toArray, List.set_cons_zero, List.set_cons_succ, List.getElem_toArray, List.getElem_cons_zero, List.getElem_cons_succ]
      refine wpAnyT_take (i := 6) (v := ?_) rfl (by kernel_rfl) (by kernel_rfl) (by kernel_rfl) (by kernel_rfl) (fun _ _ _ h => h) (Or.inl ⟨by rfl, ?_⟩) hS5 ?_
      rotate_left
      focus (intro w hSw; (try dsimp only at hSw); go_simp; try with_reducible rfl)
      try simp only [Act.put, List.setIfInBounds_toArray, List.set_cons_zero, List.set_cons_succ, List.getElem_toArray, List.getElem_cons_zero, List.getElem_cons_succ]
      refine wpAnyT_take (i := 7) (v := ?_) rfl (by kernel_rfl) (by kernel_rfl) (by kernel_rfl) (by kernel_rfl) (fun _ _ _ h => h) (Or.inl ⟨by rfl, ?_⟩) hS5 ?_
      rotate_left
      focus (intro w hSw; (try dsimp only at hSw); go_simp; try with_reducible rfl)
      try simp only [Act.put, List.setIfInBounds_toArray, List.set_cons_zero, List.set_cons_succ, List.getElem_toArray, List.getElem_cons_zero, List.getElem_cons_succ]
      refine wpAnyT_take (i := 8) (v := ?_) rfl (by kernel_rfl) (by kernel_rfl) (by kernel_rfl) (by kernel_rfl) (fun _ _ _ h => h) (Or.inl ⟨by rfl, ?_⟩) hS5 ?_
      rotate_left
      focus (intro w hSw; (try dsimp only at hSw); go_simp; try with_reducible rfl)
      try simp only [Act.put, List.setIfInBounds_toArray, List.set_cons_zero, List.set_cons_succ, List.getElem_toArray, List.getElem_cons_zero, List.getElem_cons_succ]
      refine wpAnyT_take (i := 10) (v := ?_) rfl (by kernel_rfl) (by kernel_rfl) (by kernel_rfl) (by kernel_rfl) (fun _ _ _ h => h) (Or.inl ⟨by rfl, ?_⟩) hS5 ?_
      rotate_left
      focus (intro w hSw; (try dsimp only at hSw); go_simp; try with_reducible rfl)
      try simp only [Act.put, List.setIfInBounds_toArray, List.set_cons_zero, List.set_cons_succ, List.getElem_toArray, List.getElem_cons_zero, List.getElem_cons_succ]
      refine wpAnyT_ready (rs := [9]) (by kernel_rfl) (by simp) (AllReadyT.cons rfl (fun K hK => ?_) AllReadyT.nil)
      (go_simp; refine (HCAN.out _ (hr.mid hm0 (Or.inl (Nat.zero_le _)))).mono ?_; rintro en w6 ⟨A6, c6, rfl, hog6, hm6⟩; have b3 := b2.mid hm6 (Or.inr (Nat.zero_le _)); go_wp2_with fail)
      refine hK.out _ _ (Or.inr ⟨b3.cell 0 rfl, b3.cell 1 rfl, b3.cell 2 rfl⟩) (fun _ => ?_)
      clear hK K
      try simp only [Act.put, List.setIfInBounds_toArray, List.set_cons_zero, List.set_cons_succ, List.getElem_toArray, List.getElem_cons_zero, List.getElem_cons_succ]
      replace hm0 := hm0.trans hm6
      have hE := spec_EqualGraphs r C.1 A6 C.2 c6 r n A es c w6 _ _ _ _ hog6.rg (hr.mid hm0 (Or.inl (Nat.zero_le _))) (by omega) hl b (by have h := HB2.out; simpa using h)
      have HE := Lib.hid hE
      clear hS5 b2 HCAN HB2 hE hm6
      refine wpAnyT_ready (rs := [11]) (by kernel_rfl) (by simp) (AllReadyT.cons rfl (fun K hK => ?_) AllReadyT.nil)
      (go_simp; refine HE.out.mono ?_; rintro en w7 ⟨rfl, hm7⟩; have b4 := b3.mid hm7 (Or.inr (Nat.zero_le _)); go_wp2_with fail)
      refine hK.out _ _ (Or.inr ⟨b4.cell 0 rfl, b4.cell 1 rfl, b4.cell 2 rfl⟩) (fun _ => ?_)
      clear hK K
      try simp only [Act.put, List.setIfInBounds_toArray, List.set_cons_zero, List.set_cons_succ, List.getElem_toArray, List.getElem_cons_zero, List.getElem_cons_succ]
      have hS7 : w7.cell? ⟨w.heap.size, 0, none⟩ = some (.int .i64 r) ∧ w7.cell? ⟨w.heap.size, 1, none⟩ = some (.int .i64 n) ∧ w7.cell? ⟨w.heap.size, 2, none⟩ = some (.slice A es.length c) := ⟨b4.cell 0 rfl, b4.cell 1 rfl, b4.cell 2 rfl⟩
      have hmm := hm0.trans hm7
      clear HE b3
      refine wpAnyT_take (i := 12) (v := ?_) rfl (by kernel_rfl) (by kernel_rfl) (by kernel_rfl) (by kernel_rfl) (fun _ _ _ h => h) (Or.inl ⟨by rfl, ?_⟩) hS7 ?_
      rotate_left
      focus (intro w hSw; (try dsimp only at hSw); go_simp; try with_reducible rfl)
      try simp only [Act.put, List.setIfInBounds_toArray, List.set_cons_zero, List.set_cons_succ, List.getElem_toArray, List.getElem_cons_zero, List.getElem_cons_succ]
      refine wpAnyT_ready (rs := [13]) (by kernel_rfl) (by simp) (AllReadyT.cons rfl (fun K hK => ?_) AllReadyT.nil)
      (go_simp)
      refine hK.out _ _ (Or.inl rfl) (fun _ => ?_)
      clear hK K
      try simp only [Act.put, List.setIfInBounds_toArray, List.set_cons_zero, List.set_cons_succ, List.getElem_toArray, List.getElem_cons_zero, List.getElem_cons_succ]
      refine wpAnyT_done (by kernel_rfl) ?_ _
      go_wp2_with fail
      go_ret
      exact ⟨rfl, hmm⟩
    · obtain rfl : b = false := bool_no HB.out fun h => hln h.leaf
      obtain ⟨v, hv⟩ : ∃ v : Nat, leaf n es = some v := by
        cases h : leaf n es with
        | none => exact absurd h hln
        | some v => exact ⟨v, rfl⟩
      have hlf0 : lf = v := by rw [← HLF.out, leafI_some hv]
      subst hlf0
      have d1 : decide ((v : Int) < 0) = false := by simp
      clear HB hln hv HLF
      go_enter Tryz.func64, Tryz.ntmps64
      go_wp2_with fail
      generalize w.alloc (.cells #[.int .i64 r, .int .i64 n, .slice A es.length c] 30) = w3 at b0 hm0 ⊢
      have u0 := wg_cell b0.1 (b0.cell 0 rfl)
      have u1 := wg_cell b0.1 (b0.cell 1 rfl)
      have u2 := wg_cell b0.1 (b0.cell 2 rfl)
      have hA1 := fun m os => HFol.out (wg w3 m os) (hr.mid (hm0.trans (Mid.ofWg w3 m os)) (Or.inl (Nat.zero_le _)))
      have hA2 := fun m os => HLeaf.out (wg w3 m os) (hr.mid (hm0.trans (Mid.ofWg w3 m os)) (Or.inl (Nat.zero_le _)))
      refine wp_region_quiet_wg (by kernel_rfl) (by kernel_rfl) ?_
      repeat
        (with_reducible refine wpQuiet_step (fun K hK => ?_))
        go_simp
        first
          | ((with_reducible refine hK _ ?_); clear hK K)
          | (rw [if_neg (by decide)]; (with_reducible refine hK _ ?_); clear hK K)
          | (apply Exists.intro; refine ⟨fun _ => ?_, hK _ ?_⟩; ((first | (go_at_call 59; exact Calls.wg_of (hA1 _ _)) | (go_at_call 84; exact Calls.wg_of (hA2 _ _)))); clear hK K)
      with_reducible refine wpQuiet_nil ?_
      intro _ hw'
      obtain ⟨⟨nq, osq⟩, hw''⟩ := hw'
      subst hw''
      go_wp2_with fail
      go_ret
      exact ⟨rfl, hm0.trans (Mid.ofWg w3 nq osq)⟩
  · obtain rfl : b = false := bool_no HB.out fun h => hf h.fol
    have hFol := fun W h => spec_IsFolded r s A es c W lo hi h hl false (iff_of_false Bool.false_ne_true hf)
    have HFol := Lib.hid hFol
    clear hf HB hFol
    go_enter Tryz.func64, Tryz.ntmps64
    go_wp2_with fail
    generalize w.alloc (.cells #[.int .i64 r, .int .i64 s, .slice A es.length c] 30) = w3 at b0 hm0 ⊢
    have u0 := wg_cell b0.1 (b0.cell 0 rfl)
    have u1 := wg_cell b0.1 (b0.cell 1 rfl)
    have u2 := wg_cell b0.1 (b0.cell 2 rfl)
    have hA1 := fun m os => HFol.out (wg w3 m os) (hr.mid (hm0.trans (Mid.ofWg w3 m os)) (Or.inl (Nat.zero_le _)))
    refine wp_region_quiet_wg (by kernel_rfl) (by kernel_rfl) ?_
    repeat
      (with_reducible refine wpQuiet_step (fun K hK => ?_))
      go_simp
      first
        | ((with_reducible refine hK _ ?_); clear hK K)
        | (rw [if_neg (by decide)]; (with_reducible refine hK _ ?_); clear hK K)
        | (apply Exists.intro; refine ⟨fun _ => ?_, hK _ ?_⟩; ((go_at_call 59; exact Calls.wg_of (hA1 _ _))); clear hK K)
    with_reducible refine wpQuiet_nil ?_
    intro _ hw'
    obtain ⟨⟨nq, osq⟩, hw''⟩ := hw'
    subst hw''
    go_wp2_with fail
    go_ret
    exact ⟨rfl, hm0.trans (Mid.ofWg w3 nq osq)⟩

set_option maxHeartbeats 1600000 in
theorem spec_IsSubgroup (r s : Int) (A : Option Addr) (es : List Ed) (c : Nat) (w : World) (lo hi : Nat) (hr : RG w lo hi A es) (hl : es.length ≤ 1048576) (b : Bool) (hb : b = true ↔ IsCor r s es) :
    Calls Tryz.prog 45 #[graV r s A es.length c] w fun e w' => e = .returned (.bool b) ∧ Mid 0 0 w w' := by
  have hm0 : Mid 0 0 w (w.alloc (.cells #[.int .i64 r, .int .i64 s, .slice A es.length c] 30)) := Mid.alloc _ _
  have HB := Lib.hid hb
  clear hb
  go_enter Tryz.func45, Tryz.ntmps45
  go_wp2_with fail
  with_reducible refine (spec_IsCore r s A es c _ _ _ (hr.mid hm0 (Or.inl (Nat.zero_le _))) hl b HB.out).mono ?_
  rintro en w1 ⟨rfl, hm1⟩
  go_wp2_with fail
  go_ret
  exact ⟨rfl, hm0.trans hm1⟩

open Classical in
/-- The rank of the subgroup, -1 if it is none. -/
noncomputable def rankI (r s : Int) (es : List Ed) : Int := if IsCor r s es then (es.length : Int) - s + 1 else -1

end Go.Proofs.YtkcfbcbkokabdaaGreat

/- Opening of a morphism that came in. -/
namespace Go.Proofs.YtkcfbcbkokabdaaGreat
set_option linter.unusedVariables false
open Go.ChangeShapes Go.WideShapes Go.ChangeAt Go.RowKit
open Go.Joins
theorem cellsSI : Tryz.prog.cellsOf 37 = 1 := by kernel_rfl
end Go.Proofs.YtkcfbcbkokabdaaGreat

/- Opening of a graph that came in: its edges read as a list. -/
namespace Go.Proofs.YtkcfbcbkokabdaaGreat
set_option linter.unusedVariables false
set_option linter.unusedSimpArgs false
open Go.ChangeShapes Go.WideShapes Go.ChangeAt Go.RowKit
open Go.Joins Go.Deep

abbrev tEL : TypeId := 65
theorem cellsEL : Tryz.prog.cellsOf 65 = 3 := by kernel_rfl
theorem undSEL : Tryz.prog.underlying 22 = some (.slice 65) := by kernel_rfl
theorem fields3 {H : Type} {enc : TypeId × Value → H} {P : Program} {w : World} {base : Nat} {spare : Nat → Bool} {held : Bool} {t : TypeId} {fs : Array Field} {fuel : Nat} {cs : List Value} {x : DataW H × List MemPlace}
    (ht : P.underlying t = some (.struct fs)) (hone : oneCellFields P fs = true) (h : DataW.trod enc P w base spare held fuel t cs = some x) (hl : cs.length = fs.size) :
    ∃ n, ∀ (j : Nat) (f : Field), fs[j]? = some f → ∃ v y, cs[j]? = some v ∧ DataW.trod enc P w base spare held n f.type [v] = some y := by
  obtain ⟨ys, n', hn', hy, hlen, hyl, hf⟩ := DataW.trod_struct ht h
  refine ⟨n', fun j f hj => ?_⟩
  obtain ⟨ho, hk⟩ := hone_of hone j f hj
  have hjl : j < fs.size := (Array.getElem?_eq_some_iff.1 hj).1
  have h1 := hf j f hj
  rw [ho, hk] at h1
  have h2 : (cs.drop j).take 1 = [cs[j]] := by
    rw [List.drop_eq_getElem_cons (by omega)]
    rfl
  rw [h2] at h1
  exact ⟨cs[j], ys[j], List.getElem?_eq_getElem (by omega), h1.trans (List.getElem?_eq_getElem (by omega))⟩
set_option maxRecDepth 100000 in
theorem edge_cells {H : Type} {enc : TypeId × Value → H} {W : World} {a : Addr} {n : Nat} {cs : List Value} {x : DataW H × List MemPlace}
    (hc : W.cells? 0 a 3 = some cs) (h : DataW.trod enc Tryz.prog W 0 (fun _ => true) true n 65 cs = some x) :
    ∃ e : Ed, W.cell? a = some (.int .i64 e.a) ∧ W.cell? (a.add 1) = some (.int .i64 e.l) ∧ W.cell? (a.add 2) = some (.int .i64 e.b) ∧ OkI (edI [e]) := by
  obtain ⟨_, hcl, hat⟩ := World.cells?_some hc
  obtain ⟨n', hf⟩ := fields3 Tryz.underlying65 (by kernel_rfl) h (by rw [hcl]; rfl)
  have h0 := hf 0 _ rfl
  have h1 := hf 1 _ rfl
  have h2 := hf 2 _ rfl
  obtain ⟨v0, y0, g0, t0⟩ := h0
  obtain ⟨v1, y1, g1, t1⟩ := h1
  obtain ⟨v2, y2, g2, t2⟩ := h2
  obtain ⟨m0, hm0, -, w0⟩ := DataW.trod_int undI t0
  obtain ⟨m1, hm1, -, w1⟩ := DataW.trod_int undI t1
  obtain ⟨m2, hm2, -, w2⟩ := DataW.trod_int undI t2
  simp at hm0 hm1 hm2
  subst hm0 hm1 hm2
  refine ⟨⟨m0, m1, m2⟩, ?_, ?_, ?_, ?_⟩
  · have := hat 0 (by omega)
    rw [show a.add 0 = a by simp [Addr.add]] at this
    rw [this, g0]
  · rw [hat 1 (by omega), g1]
  · rw [hat 2 (by omega), g2]
  · rw [edI_one]
    intro x hx
    simp at hx
    rcases hx with rfl | rfl | rfl
    · exact wf_bounds w0
    · exact wf_bounds w1
    · exact wf_bounds w2
theorem okI_edI {es : List Ed} (h : ∀ e ∈ es, OkI (edI [e])) : OkI (edI es) := by
  induction es with
  | nil => intro x hx; simp [edI] at hx
  | cons e t ih =>
    intro x hx
    rw [show e :: t = [e] ++ t from rfl, edI_append] at hx
    rcases List.mem_append.1 hx with hx | hx
    · exact h e (by simp) x hx
    · exact ih (fun f hf => h f (by simp [hf])) x hx
theorem edges_of_cells {H : Type} {enc : TypeId × Value → H} {W : World} {fuel : Nat} {A : Option Addr} {len c : Nat} {x : DataW H × List MemPlace}
    (h : DataW.trod enc Tryz.prog W 0 (fun _ => true) true fuel 22 [.slice A len c] = some x) : ∃ es : List Ed, len = es.length ∧ RG W 0 W.heap.size A es ∧ OkI (edI es) ∧ es.length ≤ 9223372036854775807 := by
  rcases open_slice undSEL h with ⟨hcs, _⟩ | ⟨a, len', cap, m, n, D, Pl, hcs, _, hl, hm, hmm, -, hi⟩
  · simp at hcs
    obtain ⟨rfl, rfl, rfl⟩ := hcs
    exact ⟨[], rfl, ⟨Nat.le_refl _, fun hn => absurd rfl hn⟩, fun x hx => by simp [edI] at hx, by simp⟩
  · simp at hcs
    obtain ⟨rfl, rfl, rfl⟩ := hcs
    simp at hmm
    subst hmm
    have hx : ∀ i, ∃ e : Ed, i < len → (W.cell? (a.add (i * 3)) = some (.int .i64 e.a) ∧ W.cell? ((a.add (i * 3)).add 1) = some (.int .i64 e.l) ∧ W.cell? ((a.add (i * 3)).add 2) = some (.int .i64 e.b) ∧ OkI (edI [e])) := by
      intro i
      by_cases hil : i < len
      · obtain ⟨cs', hc, ht'⟩ := hi i (by omega)
        rw [cellsEL] at hc
        obtain ⟨e, he⟩ := edge_cells hc ht'
        exact ⟨e, fun _ => he⟩
      · exact ⟨⟨0, 0, 0⟩, fun h => absurd h hil⟩
    obtain ⟨f, hf⟩ := Classical.axiomOfChoice hx
    refine ⟨(List.range len).map f, by simp, ⟨Nat.le_refl _, fun hne => ?_⟩, ?_, by unfold maxLen at hm; simp; omega⟩
    · have hp : 0 < len := by
        rcases Nat.eq_zero_or_pos len with h0 | h0
        · subst h0
          simp [ints, edI] at hne
        · exact h0
      have h0 := (hf 0 hp).1
      obtain ⟨b, off, spot⟩ := a
      have hspot : spot = none := by simpa [Addr.add] using World.cell?_spot h0
      subst hspot
      refine ⟨b, off, rfl, Nat.zero_le _, ?_, fun j u hu => ?_⟩
      · have := World.block_lt_of_cell? _ _ h0
        simpa [Addr.add] using this
      · have hj : j < len * 3 := by
          have := (List.getElem?_eq_some_iff.1 hu).1
          rw [ints_len, edI_len] at this
          simpa using this
        obtain ⟨k, r, hr, rfl⟩ : ∃ k r, r < 3 ∧ j = k * 3 + r := ⟨j / 3, j % 3, by omega, by omega⟩
        obtain ⟨c0, c1, c2, -⟩ := hf k (by omega)
        have hg : ((List.range len).map f)[k]? = some (f k) := by
          rw [List.getElem?_map, List.getElem?_range (by omega)]
          rfl
        obtain ⟨g0, g1, g2⟩ := edI_at hg
        rw [Addr.add_lit] at c0
        rw [Addr.add_lit, Addr.add_lit] at c1 c2
        rw [ints_get] at hu
        rcases r with _ | _ | _ | r
        · rw [Nat.add_zero, g0] at hu
          rw [Nat.add_zero, c0]
          simpa using hu
        · rw [g1] at hu
          rw [← Nat.add_assoc, c1]
          simpa using hu
        · rw [g2] at hu
          rw [← Nat.add_assoc, c2]
          simpa using hu
        · omega
    · refine okI_edI fun e he => ?_
      obtain ⟨i, hi', rfl⟩ := List.mem_map.1 he
      exact (hf i (by simpa using hi')).2.2.2
set_option maxRecDepth 100000 in
theorem open_graph {H : Type} {enc : TypeId × Value → H} {W : World} {r : Reach} {base : Nat} {v : Value} {d : DataW H} {ps : List MemPlace}
    (hok : Value.okWide Tryz.prog W r base 24 v) (h : DataW.Trod enc Tryz.prog W 0 (fun _ => true) true 24 v d ps) :
    ∃ m s A es c, v = .agg #[.int .i64 m, .int .i64 s, .slice A (List.length es) c] ∧ (Lit.int .i64 m).wf = true ∧ (Lit.int .i64 s).wf = true ∧ RG W 0 W.heap.size A es ∧ OkI (edI es) ∧ es.length ≤ 9223372036854775807 := by
  obtain ⟨v0, v1, v2, y0, y1, y2, n, rfl, -, -, h0, h1, h2⟩ := open_agg3 Tryz.underlying24 (by kernel_rfl) (by kernel_rfl) hok h
  have h0' : DataW.trod enc Tryz.prog W 0 (fun _ => true) true n 3 [v0] = some y0 := h0
  have h1' : DataW.trod enc Tryz.prog W 0 (fun _ => true) true n 3 [v1] = some y1 := h1
  have h2' : DataW.trod enc Tryz.prog W 0 (fun _ => true) true n 22 [v2] = some y2 := h2
  clear h0 h1 h2
  obtain ⟨m, hm, -, hw⟩ := DataW.trod_int undI h0'
  obtain ⟨s, hs, -, hw'⟩ := DataW.trod_int undI h1'
  obtain ⟨A, l, c, hsl⟩ := slice_form undSEL h2'
  simp at hm hs hsl
  subst hm hs hsl
  obtain ⟨es, rfl, ha, hb, hc⟩ := edges_of_cells h2'
  exact ⟨m, s, A, es, c, rfl, hw, hw', ha, hb, hc⟩
end Go.Proofs.YtkcfbcbkokabdaaGreat
