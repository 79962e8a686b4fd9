/- Contracts and lemmas of this seat, many texts in one: see the words ahead of each. No condition beyond those typed in each lemma. -/
import Derived.Test.YtimmnnncgnnkgaaPk5
import Derived.Test.YtimmnnncgnnkgaaPk2

/- TrimGraph, the program. -/
namespace Go.Proofs.Ytimmnnncgnnkgaa
set_option linter.unusedVariables false
set_option linter.unusedSimpArgs false
open Go.RowKit

/-- The size that a graph's box holds. -/
def sizeAt (w : World) (G : Nat) : Nat := match w.cell? ⟨G, 1, none⟩ with | some (.int _ s) => s.toNat | _ => 0
theorem sizeAt_box {w : World} {G : Nat} {r : Value} {n : Nat} {v : Value} (h : Box w G [r, .int .i64 n, v]) : sizeAt w G = n := by
  unfold sizeAt
  rw [h.cell 1 rfl]
  simp
theorem but_in {v n : Nat} {x : Int} (h : x ∈ but v n) : 0 ≤ x ∧ x < (n : Int) := but_range h

set_option maxHeartbeats 6400000 in
set_option maxRecDepth 100000 in
theorem impl_TrimGraph (r : Int) (n : Nat) (A : Option Addr) (es : List Ed) (c : Nat) (w : World) (lo hi : Nat) (hr : RG w lo hi A es) (hg : IsGr r n es) :
    Calls Try.prog 92 #[graV r n A es.length c] w fun e w' => ∃ A1 c1 Al nl cl, e = .returned (.tuple #[graV r (trimA 40 ((n : Int), es)).1 A1 (trimA 40 ((n : Int), es)).2.length c1, .slice Al nl cl]) ∧ OG w' w.heap.size w'.heap.size A1 c1 (trimA 40 ((n : Int), es)).2 ∧ Mid 0 0 w w' := by
  have hn40 : n ≤ 40 := by have := hg.size; omega
  have hl := hg.len
  have hm0 : Mid 0 0 w ((w.alloc (.cells #[.int .i64 r, .int .i64 n, .slice A es.length c] 28)).alloc (.cells #[.int .i64 0, .int .i64 0, .slice none 0 0] 28)) := (Mid.alloc _ _).trans (Mid.alloc _ _)
  have b0 := (Box.new w #[.int .i64 r, .int .i64 n, .slice A es.length c] 28).mid (Mid.alloc _ (.cells #[.int .i64 0, .int .i64 0, .slice none 0 0] 28)) (Or.inr (Nat.zero_le _))
  have b2 := Box.new (w.alloc (.cells #[.int .i64 r, .int .i64 n, .slice A es.length c] 28)) #[.int .i64 0, .int .i64 0, .slice none 0 0] 28
  simp only [World.size_alloc] at b2
  have HG := Lib.hid hg
  obtain ⟨T, hT⟩ : ∃ T, trimA 40 ((n : Int), es) = T := ⟨_, rfl⟩
  rw [hT]
  have HT := Lib.hid hT
  clear hg hT
  go_enter Try.func92, Try.ntmps92
  go_wp2_with fail
  generalize hw1 : ((w.alloc (.cells #[.int .i64 r, .int .i64 n, .slice A es.length c] 28)).alloc (.cells #[.int .i64 0, .int .i64 0, .slice none 0 0] 28)) = w1 at hm0 b0 b2 ⊢
  clear hw1
  with_reducible refine (impl_copyGraph r n A es c _ _ _ (hr.mid hm0 (Or.inl (Nat.zero_le _))) (by omega)).mono ?_
  rintro en w2 ⟨A1, c1, rfl, ho, hm2⟩
  have hsz12 := hm0.size
  have hs2 : w.heap.size + 1 < w1.heap.size := b2.1
  replace b0 := b0.mid hm2 (Or.inr (Nat.zero_le _))
  replace b2 := b2.mid hm2 (Or.inr (Nat.zero_le _))
  replace hm0 := hm0.trans hm2
  have hsz2 := hm2.size
  have hown0 := owns_base (base' := w.heap.size + 2) ho.ov.2.1 hs2
  have hbk0 : Value.ownBlock (.slice A1 es.length c1) ≠ some w2.heap.size := fun h => by have := ho.ov.2.2 _ h; omega
  have hal := (Mid.alloc w2 (.cells #[.int .i64 r, .int .i64 n, .slice A1 es.length c1] 28)).trans (Mid.alloc (w2.alloc (.cells #[.int .i64 r, .int .i64 n, .slice A1 es.length c1] 28)) (.cells #[] 3))
  have Y3 := (Box.new w2 #[.int .i64 r, .int .i64 n, .slice A1 es.length c1] 28).mid (Mid.alloc (w2.alloc (.cells #[.int .i64 r, .int .i64 n, .slice A1 es.length c1] 28)) (.cells #[] 3)) (Or.inr (Nat.zero_le _))
  have O0 := owns_empty (w2.alloc (.cells #[.int .i64 r, .int .i64 n, .slice A1 es.length c1] 28)) 3 1
  rw [World.size_alloc] at O0
  have hbs0 := b0.1
  have p0 := b0.cell 0 rfl
  have p1 := b0.cell 1 rfl
  have p2 := b0.cell 2 rfl
  replace b0 := b0.mid hal (Or.inr (Nat.zero_le _))
  replace b2 := b2.mid hal (Or.inr (Nat.zero_le _))
  replace hown0 := owns_mid hown0 hal (Or.inl (Nat.zero_le _))
  replace hm0 := hm0.trans hal
  go_wp2_with fail
  clear p0 p1 p2
  have hsA : ((w2.alloc (.cells #[.int .i64 r, .int .i64 n, .slice A1 es.length c1] 28)).alloc (.cells #[] 3)).heap.size = w2.heap.size + 2 := by simp
  generalize hw3 : (w2.alloc (.cells #[.int .i64 r, .int .i64 n, .slice A1 es.length c1] 28)).alloc (.cells #[] 3) = w3 at Y3 O0 b0 b2 hown0 hm0 hsA ⊢
  obtain ⟨G, hG⟩ : ∃ G, w2.heap.size = G := ⟨_, rfl⟩
  rw [hG] at Y3 O0 hbk0 hsA hsz2 hbs0 ⊢
  clear hw3 hal hm2 ho hG
  with_reducible refine (impl_IsGraph r n A es c _ _ _ (hr.mid hm0 (Or.inl (Nat.zero_le _))).rv (by omega) true (iff_of_true rfl HG.out)).mono ?_
  rintro en w4 ⟨rfl, hm4⟩
  have hs4 := hm4.size
  replace b0 := b0.mid hm4 (Or.inr (Nat.zero_le _))
  replace b2 := b2.mid hm4 (Or.inr (Nat.zero_le _))
  replace Y3 := Y3.mid hm4 (Or.inr (Nat.zero_le _))
  replace hown0 := owns_mid hown0 hm4 (Or.inl (Nat.zero_le _))
  replace O0 := owns_mid O0 hm4 (Or.inl (Nat.zero_le _))
  replace hm0 := hm0.trans hm4
  have hGw : w.heap.size + 2 ≤ G := by omega
  have hG4 : G + 1 ≤ w4.heap.size := by omega
  clear hm4 hs4 hsA hsz2 hs2 hsz12 hbs0
  go_wp2_with fail
  go_loopw [5, 6] (fun l i wr => ∃ (k : Nat) (Al : Option Addr) (nl cl : Nat), k ≤ n ∧ i = .int .i64 k ∧ l = .slice Al nl cl ∧ Hid ((upto k).length = nl) ∧ wr.ownsRow (G + 1) 3 1 (.slice Al nl cl) nl (ints (upto k)) ∧
      Hid (wr.ownsRow (w.heap.size + 2) 70 3 (.slice A1 es.length c1) es.length (ints (edI es))) ∧ Box wr w.heap.size [.int .i64 r, .int .i64 n, .slice A es.length c] ∧ Box wr (w.heap.size + 1) [.int .i64 0, .int .i64 0, .slice none 0 0] ∧ Box wr G [.int .i64 r, .int .i64 n, .slice A1 es.length c1] ∧ Mid 0 0 w wr) (fun _ i _ => n - (intOf i).toNat)
  case atStart => exact ⟨0, _, 0, 0, Nat.zero_le _, rfl, rfl, Lib.hid rfl, O0, Lib.hid hown0, b0, b2, Y3, hm0⟩
  case round =>
    clear O0 hown0 b0 b2 Y3 hm0
    obtain ⟨wo, hwo⟩ : ∃ wo, wo = wr := ⟨_, rfl⟩
    subst hwo
    obtain ⟨k, Al, nl, cl, hk, rfl, rfl, HN, hleft, HE, b0, b2, Y3, hm⟩ := hrel
    obtain rfl : k = nl := by rw [← HN.out, upto_len]
    have p0 := b0.cell 0 rfl
    have p1 := b0.cell 1 rfl
    have p2 := b0.cell 2 rfl
    by_cases hlt : k < n
    · have hk1 : (k : Int) < (n : Int) := by omega
      have hGo : G + 1 ≤ wo.heap.size := Y3.1
      have HL := Lib.hid hleft
      clear hleft
      go_wp2_with (at_builtin; refine wpList_pushI2 rfl _ _ rfl (G + 1) Al k cl (upto k) rfl HL.out k rfl (by omega) hGo ?_; intro A9 c9 w9 hl9 hgr9 hat9)
      clear hat9
      have hm9 := Mid.of_grownRow HL.out hgr9
      have hE9 := HE.out.kept hgr9 (owns_ne HE.out HL.out (by decide))
      go_roundw
      case rel => exact ⟨k + 1, A9, k + 1, c9, by omega, by go_num, rfl, Lib.hid (by rw [upto_len]), by rw [upto_succ]; exact hl9, Lib.hid hE9, b0.mid hm9 (Or.inl (by omega)), b2.mid hm9 (Or.inl (by omega)), Y3.mid hm9 (Or.inl (by omega)), hm.transNew hm9 (Or.inl (by omega))⟩
      case measure => simp [intOf]; omega
    · obtain rfl : k = n := by omega
      go_wp2_with fail
      clear p0 p1 p2
      have hGo := Y3.1
      go_loopw [5] (fun l wr => ∃ (m s : Nat) (es1 : List Ed) (A2 : Option Addr) (c2 : Nat) (Al : Option Addr) (cl : Nat) (xs : List Int), l = .slice Al s cl ∧ Hid (trimA m ((s : Int), es1) = T) ∧ s ≤ m ∧ Hid (IsGr r s es1) ∧ wr.ownsRow (G + 1) 3 1 (.slice Al s cl) s (ints xs) ∧
          Hid (wr.ownsRow (w.heap.size + 2) 70 3 (.slice A2 es1.length c2) es1.length (ints (edI es1))) ∧ Hid (Value.ownBlock (.slice A2 es1.length c2) ≠ some G) ∧ Box wr (w.heap.size + 1) [.int .i64 0, .int .i64 0, .slice none 0 0] ∧ Box wr G [.int .i64 r, .int .i64 s, .slice A2 es1.length c2] ∧ Mid 0 0 w wr) (fun _ wr => sizeAt wr G)
      case atStart => exact ⟨40, k, es, A1, c1, Al, cl, upto k, rfl, HT, hn40, HG, hleft, HE, Lib.hid hbk0, b2, Y3, hm⟩
      case round =>
        clear hleft HE b0 b2 Y3 hm HN hGo
        obtain ⟨wj, hwj⟩ : ∃ wj, wj = wr := ⟨_, rfl⟩
        subst hwj
        obtain ⟨m, s, es1, A2, c2, Al, cl, xs, rfl, HTm, hsm, HGs, hleft, HE, HBK, b2, Y3, hm⟩ := hrel
        have hs1 : 1 ≤ s := by have := HGs.out.size; omega
        have hs40 : s ≤ 40 := by have := HGs.out.size; omega
        have hl1 := HGs.out.len
        have hlsz := Lib.hid (sizeAt_box Y3)
        have y0 := Y3.cell 0 rfl
        have y1 := Y3.cell 1 rfl
        have y2 := Y3.cell 2 rfl
        have hJ := impl_joined r s 0 A2 es1 c2 wj _ _ (owns_rv HE.out) HGs.out hs1
        rw [show ((0 : Nat) : Int) = 0 from rfl] at hJ
        have HJ := Lib.hid hJ
        clear hJ
        go_wp2_with fail
        with_reducible refine (HJ.out).mono ?_
        rintro en w5 ⟨rfl, vis, hvis, hmem, hm5⟩
        clear HJ
        have hGj : G < wj.heap.size := Y3.1
        have HM := Lib.hid hmem
        obtain ⟨jb, hjb⟩ : ∃ jb, wj.heap.size + 1 = jb := ⟨_, rfl⟩
        rw [hjb] at hvis ⊢
        have hE5 := owns_mid HE.out hm5 (Or.inl (Nat.zero_le _))
        replace HE := Lib.hid hE5
        replace b2 := b2.mid hm5 (Or.inr (Nat.zero_le _))
        replace Y3 := Y3.mid hm5 (Or.inr (Nat.zero_le _))
        replace hleft := owns_mid hleft hm5 (Or.inl (Nat.zero_le _))
        replace hm := hm.trans hm5
        clear y0 y1 y2 hmem hjb hm5 hE5
        have y0 := Y3.cell 0 rfl
        have y1 := Y3.cell 1 rfl
        have y2 := Y3.cell 2 rfl
        go_wp2_with fail
        clear y0 y1 y2
        go_loopw [8, 9] (fun gv kv wr => ∃ (q g : Nat), 1 ≤ q ∧ q ≤ s ∧ kv = .int .i64 q ∧ gv = .int .i64 g ∧ Hid ((g = 0 ∧ ∀ u : Nat, 1 ≤ u → u < q → ¬ Bad es1 u) ∨ (leaf s es1 = some g ∧ 0 < g ∧ g < s)) ∧ Mid 0 0 w5 wr) (fun _ q _ => s - (intOf q).toNat)
        case atStart => exact ⟨1, 0, Nat.le_refl _, hs1, rfl, rfl, Lib.hid (.inl ⟨rfl, fun u h1 h2 => absurd h2 (by omega)⟩), Mid.refl _ _ _⟩
        case round =>
          obtain ⟨q, g, hq1, hq, rfl, rfl, HQ, hmx⟩ := hrel
          replace b2 := b2.mid hmx (Or.inr (Nat.zero_le _))
          replace Y3 := Y3.mid hmx (Or.inr (Nat.zero_le _))
          replace hleft := owns_mid hleft hmx (Or.inl (Nat.zero_le _))
          replace hvis := owns_mid hvis hmx (Or.inl (Nat.zero_le _))
          replace hm := hm.trans hmx
          have hE5 := owns_mid HE.out hmx (Or.inl (Nat.zero_le _))
          replace HE := Lib.hid hE5
          clear hE5
          have y0 := Y3.cell 0 rfl
          have y1 := Y3.cell 1 rfl
          have y2 := Y3.cell 2 rfl
          by_cases hgo : q < s ∧ g = 0
          · obtain ⟨hqs, rfl⟩ := hgo
            have hq3 : (q : Int) < (s : Int) := by omega
            have hq0 : (0 : Int) ≤ (q : Int) := by omega
            have hno : ∀ u : Nat, 1 ≤ u → u < q → ¬ Bad es1 u := by
              rcases HQ.out with h | h
              · exact h.2
              · omega
            have HNO := Lib.hid hno
            have hdl := deg_le es1 q
            clear hno
            go_wp2_with fail
            with_reducible refine (impl_DegreeOf r s A2 es1 c2 q _ _ _ (owns_rv HE.out).rg (by omega)).mono ?_
            rintro en w7 ⟨rfl, hm7⟩
            have hv7 := owns_mid hvis hm7 (Or.inl (Nat.zero_le _))
            have hcv := (hv7.cellAt q (by omega)).trans (seenOf_get hqs)
            by_cases hd : deg es1 q < 2
            · have d1 : decide ((deg es1 q : Int) < 2) = true := by simp; omega
              have HLF := Lib.hid (leaf_some (s := (s : Int)) hq1 hq3 (.inl hd) HNO.out)
              clear hd hcv
              go_wp2_with fail
              go_roundw
              case rel => exact ⟨q + 1, q, by omega, by omega, by go_num, rfl, Lib.hid (.inr ⟨HLF.out, by omega, hqs⟩), hmx.trans hm7⟩
              case measure => simp [intOf]; omega
            · have d1 : decide ((deg es1 q : Int) < 2) = false := by simp; omega
              by_cases hv : (q : Int) ∈ vis
              · rw [decide_eq_true hv] at hcv
                have HNB : Hid (¬ Bad es1 q) := Lib.hid (by
                  rintro (h | h)
                  · exact hd h
                  · exact h ((HM.out _).1 hv))
                clear hd hv
                go_wp2_with fail
                go_roundw
                case rel =>
                  refine ⟨q + 1, 0, by omega, by omega, by go_num, rfl, Lib.hid (.inl ⟨rfl, fun u h1 h2 => ?_⟩), hmx.trans hm7⟩
                  by_cases h : u = q
                  · subst h; exact HNB.out
                  · exact HNO.out u h1 (by omega)
                case measure => simp [intOf]; omega
              · rw [decide_eq_false hv] at hcv
                have HLF := Lib.hid (leaf_some (s := (s : Int)) hq1 hq3 (.inr fun h => hv ((HM.out _).2 h)) HNO.out)
                clear hd hv
                go_wp2_with fail
                go_roundw
                case rel => exact ⟨q + 1, q, by omega, by omega, by go_num, rfl, Lib.hid (.inr ⟨HLF.out, by omega, hqs⟩), hmx.trans hm7⟩
                case measure => simp [intOf]; omega
          · clear hvis
            obtain ⟨wk, hwk⟩ : ∃ wk, wk = wr := ⟨_, rfl⟩
            subst hwk
            have hqg : decide ((q : Int) < (s : Int)) = true ∧ ((g : Int) == 0) = false ∨ decide ((q : Int) < (s : Int)) = false := by
              by_cases h : q < s
              · left
                refine ⟨by simp; omega, ?_⟩
                simp only [beq_eq_false_iff_ne]
                intro h2
                exact hgo ⟨h, by omega⟩
              · right
                simp
                omega
            by_cases hg0 : g = 0
            · subst hg0
              have hqs : q = s := by
                refine Classical.byContradiction fun h => hgo ⟨by omega, rfl⟩
              subst hqs
              have hln : leaf q es1 = none := leaf_none fun u h1 h2 => by
                rcases HQ.out with h | h
                · exact h.2 u h1 (by omega)
                · omega
              have hTT := HTm.out
              rw [trimA_none hln] at hTT
              have HTT := Lib.hid hTT
              have d0 : decide ((q : Int) < (q : Int)) = false := by simp
              have z0 := b2.cell 0 rfl
              have z1 := b2.cell 1 rfl
              have z2 := b2.cell 2 rfl
              have zf := b2.2.2
              have hbs := b2.1
              clear hqg hln hTT hgo
              go_wp2_with fail
              have hcl : (w.heap.size + 1 == G) = false := by simp; omega
              refine bodyPost_ret (v := .tuple #[.agg #[.int .i64 r, .int .i64 q, .slice A2 es1.length c2], .slice Al q cl]) (by simp [results, Try.results92, go_sem, z0, z1, z2, zf, y0, y1, y2]) rfl ⟨A2, c2, ⟨Al, q, cl, by rw [← HTT.out]⟩, ?_, ?_⟩
              · rw [← HTT.out]
                have h0 : OG wk (w.heap.size + 2) wk.heap.size A2 c2 es1 := ⟨Nat.le_refl _, HE.out, fun g hg => (HE.out.lt g hg).2⟩
                refine OG.wide (OG.mid h0 (a := w.heap.size + 1) (b := w.heap.size + 2) ?_ (Or.inl (Nat.le_refl _))) (by omega) (by simp) (Nat.le_refl _)
                repeat (first | exact Mid.refl _ _ _ | refine Mid.stored ?_ _ (by simp; try omega) (by simp; try omega))
              · repeat (first | exact hm | refine Mid.storeNew ?_ (by simp; try omega) _)
            · obtain ⟨hlf, hg1, hgs⟩ : leaf s es1 = some g ∧ 0 < g ∧ g < s := by
                rcases HQ.out with h | h
                · exact absurd h.1 hg0
                · exact h
              obtain ⟨m', rfl⟩ : ∃ m', m = m' + 1 := ⟨m - 1, by omega⟩
              have hTT := HTm.out
              rw [trimA_some hlf] at hTT
              have HTT := Lib.hid hTT
              have HCG := Lib.hid (cutV_gr (g := ((s : Int), es1)) HGs.out hg1 (by simpa using hgs))
              have dg : ((g : Int) == 0) = false := by simp only [beq_eq_false_iff_ne]; omega
              have HGO := Lib.hid hgo
              clear hTT hlf hgo hqg
              rcases Nat.lt_or_ge q s with hqn | hqn
              · go_wp2_with fail
                have O10 := owns_empty wk 3 1
                have hal := Mid.alloc wk (.cells #[] 3)
                clear y0 y1 y2
                go_loopw [10, 11] (fun o kv wr => ∃ (kk : Nat) (Ao : Option Addr) (no co : Nat), kk ≤ s ∧ kv = .int .i64 kk ∧ o = .slice Ao no co ∧ Hid ((but g kk).length = no) ∧ wr.ownsRow wk.heap.size 3 1 (.slice Ao no co) no (ints (but g kk)) ∧ Mid 0 0 wk wr) (fun _ kv _ => s - (intOf kv).toNat)
                case atStart => exact ⟨0, _, 0, 0, Nat.zero_le _, rfl, rfl, Lib.hid rfl, O10, hal⟩
                case round =>
                  clear O10 hal
                  obtain ⟨kk, Ao, no, co, hkk, rfl, rfl, HNo, hord, hmy⟩ := hrel
                  have hno : no ≤ 40 := by
                    have h1 : (but g kk).length ≤ kk := by unfold but; rw [List.length_map]; exact Nat.le_trans (List.length_filter_le _ _) (by simp)
                    have h2 := HNo.out
                    omega
                  have Y4 := Y3.mid hmy (Or.inr (Nat.zero_le _))
                  have y0 := Y4.cell 0 rfl
                  have y1 := Y4.cell 1 rfl
                  have y2 := Y4.cell 2 rfl
                  by_cases hlt : kk < s
                  · have hbs := but_succ g kk
                    have hk3 : (kk : Int) < (s : Int) := by omega
                    by_cases hkg : kk = g
                    · have d3 : ((kk : Int) != (g : Int)) = false := by simp; omega
                      rw [if_pos hkg] at hbs
                      have HBS := Lib.hid hbs
                      clear hbs hkg
                      go_wp2_with fail
                      go_roundw
                      case rel => exact ⟨kk + 1, Ao, no, co, by omega, by go_num, rfl, by rw [HBS.out]; exact HNo, by rw [HBS.out]; exact hord, hmy⟩
                      case measure => simp [intOf]; omega
                    · have d3 : ((kk : Int) != (g : Int)) = true := by simp; omega
                      rw [if_neg hkg] at hbs
                      have HBS := Lib.hid hbs
                      have HO := Lib.hid hord
                      have hsz := hmy.size
                      clear hbs hkg hord
                      go_wp2_with (at_builtin; refine wpList_pushI rfl _ _ rfl wk.heap.size Ao no co (but g kk) rfl HO.out kk rfl (by omega) hsz ?_; intro A9 c9 w9 ho9 hm9)
                      go_roundw
                      case rel => exact ⟨kk + 1, A9, no + 1, c9, by omega, by go_num, rfl, Lib.hid (by rw [HBS.out, List.length_append, HNo.out]; rfl), by rw [HBS.out]; exact ho9, hmy.transNew hm9 (Or.inl (Nat.le_refl _))⟩
                      case measure => simp [intOf]; omega
                  · obtain rfl : kk = s := by omega
                    have hln : (but g kk).length = no := HNo.out
                    have HL0 : Hid (no = kk - 1) := Lib.hid (by rw [← hln, but_len g hgs])
                    obtain ⟨es2, hes2⟩ : ∃ es2, partE (but g kk) es1 = es2 := ⟨_, rfl⟩
                    have hcv : cutV ((kk : Int), es1) g = ((no : Int), es2) := by unfold cutV; simp only [Int.toNat_natCast]; rw [hln, hes2]
                    have hE6 := owns_mid HE.out hmy (Or.inl (Nat.zero_le _))
                    have hP := impl_part r kk A2 es1 c2 Ao (but g kk) co wr _ _ _ _ (owns_rv hE6).rg (owns_rv hord) HGs.out (but_nodup g kk) (fun x hx => but_range hx)
                    rw [hln, hes2] at hP
                    have HP := Lib.hid hP
                    have hTT2 := HTT.out
                    rw [hcv] at hTT2
                    have hgr2 := HCG.out
                    rw [hcv] at hgr2
                    have HTT2 := Lib.hid hTT2
                    have HG2 := Lib.hid hgr2
                    have hwks : G + 1 ≤ wk.heap.size := Y3.1
                    clear hP hTT2 hgr2 hcv hes2 hln hord HTT HCG HE hE6
                    go_wp2_with fail
                    with_reducible refine HP.out.mono ?_
                    rintro en w8 ⟨A3, c3, rfl, hog, hm8⟩
                    clear HP
                    replace hog := hog.wide (lo' := wk.heap.size) hmy.size (Nat.le_refl _) (Nat.le_refl _)
                    have hm28 := hmy.trans hm8
                    clear Y4 y0 y1 y2
                    replace b2 := b2.mid hm28 (Or.inr (Nat.zero_le _))
                    replace Y3 := Y3.mid hm28 (Or.inr (Nat.zero_le _))
                    replace hleft := owns_mid hleft hm28 (Or.inl (Nat.zero_le _))
                    replace hm := hm.trans hm28
                    clear hmy hm8 hm28
                    have y0 := Y3.cell 0 rfl
                    have y1 := Y3.cell 1 rfl
                    have y2 := Y3.cell 2 rfl
                    have yf := Y3.2.2
                    go_wp2_with fail
                    have hst := (Mid.setAt w8 G 0 (.int .i64 r)).trans ((Mid.setAt (w8.setCell ⟨G, 0, none⟩ (.int .i64 r)) G 1 (.int .i64 no)).trans (Mid.setAt ((w8.setCell ⟨G, 0, none⟩ (.int .i64 r)).setCell ⟨G, 1, none⟩ (.int .i64 no)) G 2 (.slice A3 es2.length c3)))
                    have Y5 := ((Y3.set 0 (.int .i64 r) (by simp) rfl).set 1 (.int .i64 no) (by simp) rfl).set 2 (.slice A3 es2.length c3) (by simp) rfl
                    have hm5 := ((hm.storeNew (p := ⟨G, 0, none⟩) (by show w.heap.size ≤ G; omega) (.int .i64 r)).storeNew (p := ⟨G, 1, none⟩) (by show w.heap.size ≤ G; omega) (.int .i64 no)).storeNew (p := ⟨G, 2, none⟩) (by show w.heap.size ≤ G; omega) (.slice A3 es2.length c3)
                    replace b2 := b2.mid hst (Or.inl (by omega))
                    replace hleft := owns_mid hleft hst (Or.inl (Nat.le_refl _))
                    replace hog := hog.mid hst (Or.inl hwks)
                    clear Y3 hm y0 y1 y2 yf hst
                    generalize ((w8.setCell ⟨G, 0, none⟩ (.int .i64 r)).setCell ⟨G, 1, none⟩ (.int .i64 no)).setCell ⟨G, 2, none⟩ (.slice A3 es2.length c3) = ws at Y5 hm5 b2 hleft hog ⊢
                    have hmd := Mid.drew1 ws
                    replace b2 := b2.mid hmd (Or.inr (Nat.zero_le _))
                    replace Y5 := Y5.mid hmd (Or.inr (Nat.zero_le _))
                    replace hleft := owns_mid hleft hmd (Or.inl (Nat.zero_le _))
                    replace hog := hog.mid hmd (Or.inl (Nat.zero_le _))
                    replace hm5 := hm5.trans hmd
                    clear hmd
                    obtain ⟨gl, rfl, hgl1, hgl2⟩ := owns_addr hleft (show 0 < kk by omega)
                    have hsc : kk ≤ cl := by
                      obtain ⟨A', c', hv0, hsc, hcm⟩ := owns_shape hleft
                      injection hv0 with _ _ hv0
                      omega
                    have hcut2 := owns_cut hleft (m := g) (by omega)
                    have hxl : (ints xs).length = kk * 1 := hleft.1
                    have hsrc := (Rs.of_own hleft).drop (k := g + 1) (n := kk) (cap := cl) 1 hxl hsc
                    have hdl : ((ints xs).drop ((g + 1) * 1)).length = (kk - (g + 1)) * 1 := by rw [List.length_drop, hxl]; omega
                    have hone : ∀ u ∈ (ints xs).drop ((g + 1) * 1), u.oneCell' = true := fun u hu => one_of_ints xs u (List.mem_of_mem_drop hu)
                    have hml : g + (kk - (g + 1)) ≤ maxLen := by unfold maxLen; omega
                    have hby : (g + (kk - (g + 1))) * 8 ≤ 140737488355328 := by omega
                    have hGs : G + 1 ≤ ws.drew.heap.size := Y5.1
                    have HCU := Lib.hid hcut2
                    have HSR := Lib.hid hsrc
                    have HDL := Lib.hid hdl
                    have HON := Lib.hid hone
                    have HXL := Lib.hid hxl
                    have hgi : (0 : Int) ≤ (g : Int) := by omega
                    have hgi1 : (0 : Int) ≤ (g : Int) + 1 := by omega
                    have hgk : (g : Int) < (kk : Int) := by omega
                    have hgk2 : (g : Int) + 1 ≤ (kk : Int) := by omega
                    have hgn : g ≤ cl := by omega
                    have hgn1 : g + 1 ≤ kk := by omega
                    have hgn2 : g + 1 ≤ cl := by omega
                    have hgc : (g : Int) ≤ (cl : Int) := by omega
                    have hgc2 : (g : Int) + 1 ≤ (cl : Int) := by omega
                    have hwrp : IntKind.i64.wrap ((g : Int) + 1) = (g : Int) + 1 := IntWalk.i64_in _ (by omega)
                    clear hcut2 hsrc hdl hone hxl
                    by_cases hcg : cl = g + 1
                    · rw [if_pos hcg] at HSR
                      have hcgF : (cl = g + 1) = True := eq_true hcg
                      clear hcg
                      refine wp_region_T (S := (fun _ => True)) 8 (by kernel_rfl) trivial ?_
                      generalize World.drew ws = wz at b2 Y5 hleft hog hm5 HCU HSR hGs ⊢
                      refine wpAnyT_take (i := 0) (v := ?_) rfl (by kernel_rfl) (by kernel_rfl) (by kernel_rfl) (by kernel_rfl) (fun _ _ _ h => h) (Or.inl ⟨by rfl, ?_⟩) trivial ?_
                      rotate_left
                      focus (intro w hSw; (try dsimp only at hSw); go_simp; try with_reducible rfl)
                      try simp only [Act.put, List.setIfInBounds_toArray, List.set_cons_zero, List.set_cons_succ, List.getElem_toArray, List.getElem_cons_zero, List.getElem_cons_succ]
                      refine wpAnyT_take (i := 1) (v := ?_) rfl (by kernel_rfl) (by kernel_rfl) (by kernel_rfl) (by kernel_rfl) (fun _ _ _ h => h) (Or.inl ⟨by rfl, ?_⟩) trivial ?_
                      rotate_left
                      focus (intro w hSw; (try dsimp only at hSw); go_simp; try with_reducible rfl)
                      try simp only [Act.put, List.setIfInBounds_toArray, List.set_cons_zero, List.set_cons_succ, List.getElem_toArray, List.getElem_cons_zero, List.getElem_cons_succ]
                      refine wpAnyT_take (i := 2) (v := ?_) rfl (by kernel_rfl) (by kernel_rfl) (by kernel_rfl) (by kernel_rfl) (fun _ _ _ h => h) (Or.inl ⟨by rfl, ?_⟩) trivial ?_
                      rotate_left
                      focus (intro w hSw; (try dsimp only at hSw); go_simp; try with_reducible rfl)
                      try simp only [Act.put, List.setIfInBounds_toArray, List.set_cons_zero, List.set_cons_succ, List.getElem_toArray, List.getElem_cons_zero, List.getElem_cons_succ]
                      refine wpAnyT_take (i := 3) (v := ?_) rfl (by kernel_rfl) (by kernel_rfl) (by kernel_rfl) (by kernel_rfl) (fun _ _ _ h => h) (Or.inl ⟨by rfl, ?_⟩) trivial ?_
                      rotate_left
                      focus (intro w hSw; (try dsimp only at hSw); go_simp; try with_reducible rfl)
                      try simp only [Act.put, List.setIfInBounds_toArray, List.set_cons_zero, List.set_cons_succ, List.getElem_toArray, List.getElem_cons_zero, List.getElem_cons_succ]
                      refine wpAnyT_take (i := 4) (v := ?_) rfl (by kernel_rfl) (by kernel_rfl) (by kernel_rfl) (by kernel_rfl) (fun _ _ _ h => h) (Or.inl ⟨by rfl, ?_⟩) trivial ?_
                      rotate_left
                      focus (intro w hSw; (try dsimp only at hSw); go_simp; try with_reducible rfl)
                      try simp only [Act.put, List.setIfInBounds_toArray, List.set_cons_zero, List.set_cons_succ, List.getElem_toArray, List.getElem_cons_zero, List.getElem_cons_succ]
                      refine wpAnyT_take (i := 5) (v := ?_) rfl (by kernel_rfl) (by kernel_rfl) (by kernel_rfl) (by kernel_rfl) (fun _ _ _ h => h) (Or.inl ⟨by rfl, ?_⟩) trivial ?_
                      rotate_left
                      focus (intro w hSw; (try dsimp only at hSw); go_simp; try with_reducible rfl)
                      try simp only [Act.put, List.setIfInBounds_toArray, List.set_cons_zero, List.set_cons_succ, List.getElem_toArray, List.getElem_cons_zero, List.getElem_cons_succ]
                      refine wpAnyT_take (i := 6) (v := ?_) rfl (by kernel_rfl) (by kernel_rfl) (by kernel_rfl) (by kernel_rfl) (fun _ _ _ h => h) (Or.inl ⟨by rfl, ?_⟩) trivial ?_
                      rotate_left
                      focus (intro w hSw; (try dsimp only at hSw); go_simp; try with_reducible rfl)
                      try simp only [Act.put, List.setIfInBounds_toArray, List.set_cons_zero, List.set_cons_succ, List.getElem_toArray, List.getElem_cons_zero, List.getElem_cons_succ]
                      refine wpAnyT_ready (rs := [7]) (by kernel_rfl) (by simp) (AllReadyT.cons rfl (fun K hK => ?_) AllReadyT.nil)
                      (refine step_cat (by rfl) (.tmp 77) (.tmp 81) 37 (by rfl) (G + 1) 3 (.int .i64 0) 1 8 undSI infoI rfl (by decide) (.slice (some ⟨gl, 0, none⟩) g cl) g _ (by rfl) HCU.out _ (kk - (g + 1)) _ _ ((ints xs).drop ((g + 1) * 1)) (by rfl) HSR.out HDL.out HON.out hml hby hGs ?_; intro v9 w9 ho9 hgr9 hat9; obtain ⟨A9, c9, rfl, -, -⟩ := owns_shape ho9)
                      refine hK.out _ _ (Or.inr trivial) (fun _ => ?_)
                      clear hK K
                      try simp only [Act.put, List.setIfInBounds_toArray, List.set_cons_zero, List.set_cons_succ, List.getElem_toArray, List.getElem_cons_zero, List.getElem_cons_succ]
                      refine wpAnyT_ready (rs := [8]) (by kernel_rfl) (by simp) (AllReadyT.cons rfl (fun K hK => ?_) AllReadyT.nil)
                      (go_simp)
                      refine hK.out _ _ (Or.inl rfl) (fun _ => ?_)
                      clear hK K
                      try simp only [Act.put, List.setIfInBounds_toArray, List.set_cons_zero, List.set_cons_succ, List.getElem_toArray, List.getElem_cons_zero, List.getElem_cons_succ]
                      refine wpAnyT_done (by kernel_rfl) ?_ _
                      go_wp2_with fail
                      go_roundw
                      case rel =>
                        have hm9 := Mid.of_grownRow HCU.out hgr9
                        have h0 := hog.ov.2.1.kept hgr9 (owns_ne hog.ov.2.1 HCU.out (by decide))
                        have hnl2 : g + (kk - (g + 1)) = no := by have := HL0.out; omega
                        have hb9 : Value.ownBlock (.slice A3 es2.length c3) ≠ some G := fun h => by have := (hog.ov.2.1.lt _ h).1; omega
                        have hxe : (ints xs).take (g * 1) ++ (ints xs).drop ((g + 1) * 1) = ints (xs.take g ++ xs.drop (g + 1)) := by simp [ints]
                        rw [hxe, hnl2] at ho9
                        exact ⟨m', no, es2, A3, c3, A9, c9, xs.take g ++ xs.drop (g + 1), by rw [hnl2], HTT2, by have := HL0.out; omega, HG2, ho9, Lib.hid (owns_base h0 (by omega)), Lib.hid hb9, b2.mid hm9 (Or.inl (by omega)), Y5.mid hm9 (Or.inl (by omega)), hm5.transNew hm9 (Or.inl (by omega))⟩
                      case measure =>
                        have h1 := sizeAt_box (Y5.mid (Mid.of_grownRow HCU.out hgr9) (Or.inl (by omega)))
                        have h2 := hlsz.out
                        have h3 := HL0.out
                        simp only [h1, h2]
                        omega
                    · rw [if_neg hcg] at HSR
                      have hcgF : (cl = g + 1) = False := eq_false hcg
                      clear hcg
                      replace HSR : Hid (Rs ws.drew ws.drew.heap.size (some ⟨gl, g + 1, none⟩) ((ints xs).drop ((g + 1) * 1))) := Lib.hid (by
                        have h := HSR.out
                        rw [show Option.map (fun x => x.add ((g + 1) * 1)) (some (⟨gl, 0, none⟩ : Addr)) = some ⟨gl, g + 1, none⟩ by simp [Addr.add]] at h
                        exact h)
                      refine wp_region_T (S := (fun _ => True)) 8 (by kernel_rfl) trivial ?_
                      generalize World.drew ws = wz at b2 Y5 hleft hog hm5 HCU HSR hGs ⊢
                      refine wpAnyT_take (i := 0) (v := ?_) rfl (by kernel_rfl) (by kernel_rfl) (by kernel_rfl) (by kernel_rfl) (fun _ _ _ h => h) (Or.inl ⟨by rfl, ?_⟩) trivial ?_
                      rotate_left
                      focus (intro w hSw; (try dsimp only at hSw); go_simp; try with_reducible rfl)
                      try simp only [Act.put, List.setIfInBounds_toArray, List.set_cons_zero, List.set_cons_succ, List.getElem_toArray, List.getElem_cons_zero, List.getElem_cons_succ]
                      refine wpAnyT_take (i := 1) (v := ?_) rfl (by kernel_rfl) (by kernel_rfl) (by kernel_rfl) (by kernel_rfl) (fun _ _ _ h => h) (Or.inl ⟨by rfl, ?_⟩) trivial ?_
                      rotate_left
                      focus (intro w hSw; (try dsimp only at hSw); go_simp; try with_reducible rfl)
                      try simp only [Act.put, List.setIfInBounds_toArray, List.set_cons_zero, List.set_cons_succ, List.getElem_toArray, List.getElem_cons_zero, List.getElem_cons_succ]
                      refine wpAnyT_take (i := 2) (v := ?_) rfl (by kernel_rfl) (by kernel_rfl) (by kernel_rfl) (by kernel_rfl) (fun _ _ _ h => h) (Or.inl ⟨by rfl, ?_⟩) trivial ?_
                      rotate_left
                      focus (intro w hSw; (try dsimp only at hSw); go_simp; try with_reducible rfl)
                      try simp only [Act.put, List.setIfInBounds_toArray, List.set_cons_zero, List.set_cons_succ, List.getElem_toArray, List.getElem_cons_zero, List.getElem_cons_succ]
                      refine wpAnyT_take (i := 3) (v := ?_) rfl (by kernel_rfl) (by kernel_rfl) (by kernel_rfl) (by kernel_rfl) (fun _ _ _ h => h) (Or.inl ⟨by rfl, ?_⟩) trivial ?_
                      rotate_left
                      focus (intro w hSw; (try dsimp only at hSw); go_simp; try with_reducible rfl)
                      try simp only [Act.put, List.setIfInBounds_toArray, List.set_cons_zero, List.set_cons_succ, List.getElem_toArray, List.getElem_cons_zero, List.getElem_cons_succ]
                      refine wpAnyT_take (i := 4) (v := ?_) rfl (by kernel_rfl) (by kernel_rfl) (by kernel_rfl) (by kernel_rfl) (fun _ _ _ h => h) (Or.inl ⟨by rfl, ?_⟩) trivial ?_
                      rotate_left
                      focus (intro w hSw; (try dsimp only at hSw); go_simp; try with_reducible rfl)
                      try simp only [Act.put, List.setIfInBounds_toArray, List.set_cons_zero, List.set_cons_succ, List.getElem_toArray, List.getElem_cons_zero, List.getElem_cons_succ]
                      refine wpAnyT_take (i := 5) (v := ?_) rfl (by kernel_rfl) (by kernel_rfl) (by kernel_rfl) (by kernel_rfl) (fun _ _ _ h => h) (Or.inl ⟨by rfl, ?_⟩) trivial ?_
                      rotate_left
                      focus (intro w hSw; (try dsimp only at hSw); go_simp; try with_reducible rfl)
                      try simp only [Act.put, List.setIfInBounds_toArray, List.set_cons_zero, List.set_cons_succ, List.getElem_toArray, List.getElem_cons_zero, List.getElem_cons_succ]
                      refine wpAnyT_take (i := 6) (v := ?_) rfl (by kernel_rfl) (by kernel_rfl) (by kernel_rfl) (by kernel_rfl) (fun _ _ _ h => h) (Or.inl ⟨by rfl, ?_⟩) trivial ?_
                      rotate_left
                      focus (intro w hSw; (try dsimp only at hSw); go_simp; try with_reducible rfl)
                      try simp only [Act.put, List.setIfInBounds_toArray, List.set_cons_zero, List.set_cons_succ, List.getElem_toArray, List.getElem_cons_zero, List.getElem_cons_succ]
                      refine wpAnyT_ready (rs := [7]) (by kernel_rfl) (by simp) (AllReadyT.cons rfl (fun K hK => ?_) AllReadyT.nil)
                      (refine step_cat (by rfl) (.tmp 77) (.tmp 81) 37 (by rfl) (G + 1) 3 (.int .i64 0) 1 8 undSI infoI rfl (by decide) (.slice (some ⟨gl, 0, none⟩) g cl) g _ (by rfl) HCU.out _ (kk - (g + 1)) _ _ ((ints xs).drop ((g + 1) * 1)) (by rfl) HSR.out HDL.out HON.out hml hby hGs ?_; intro v9 w9 ho9 hgr9 hat9; obtain ⟨A9, c9, rfl, -, -⟩ := owns_shape ho9)
                      refine hK.out _ _ (Or.inr trivial) (fun _ => ?_)
                      clear hK K
                      try simp only [Act.put, List.setIfInBounds_toArray, List.set_cons_zero, List.set_cons_succ, List.getElem_toArray, List.getElem_cons_zero, List.getElem_cons_succ]
                      refine wpAnyT_ready (rs := [8]) (by kernel_rfl) (by simp) (AllReadyT.cons rfl (fun K hK => ?_) AllReadyT.nil)
                      (go_simp)
                      refine hK.out _ _ (Or.inl rfl) (fun _ => ?_)
                      clear hK K
                      try simp only [Act.put, List.setIfInBounds_toArray, List.set_cons_zero, List.set_cons_succ, List.getElem_toArray, List.getElem_cons_zero, List.getElem_cons_succ]
                      refine wpAnyT_done (by kernel_rfl) ?_ _
                      go_wp2_with fail
                      go_roundw
                      case rel =>
                        have hm9 := Mid.of_grownRow HCU.out hgr9
                        have h0 := hog.ov.2.1.kept hgr9 (owns_ne hog.ov.2.1 HCU.out (by decide))
                        have hnl2 : g + (kk - (g + 1)) = no := by have := HL0.out; omega
                        have hb9 : Value.ownBlock (.slice A3 es2.length c3) ≠ some G := fun h => by have := (hog.ov.2.1.lt _ h).1; omega
                        have hxe : (ints xs).take (g * 1) ++ (ints xs).drop ((g + 1) * 1) = ints (xs.take g ++ xs.drop (g + 1)) := by simp [ints]
                        rw [hxe, hnl2] at ho9
                        exact ⟨m', no, es2, A3, c3, A9, c9, xs.take g ++ xs.drop (g + 1), by rw [hnl2], HTT2, by have := HL0.out; omega, HG2, ho9, Lib.hid (owns_base h0 (by omega)), Lib.hid hb9, b2.mid hm9 (Or.inl (by omega)), Y5.mid hm9 (Or.inl (by omega)), hm5.transNew hm9 (Or.inl (by omega))⟩
                      case measure =>
                        have h1 := sizeAt_box (Y5.mid (Mid.of_grownRow HCU.out hgr9) (Or.inl (by omega)))
                        have h2 := hlsz.out
                        have h3 := HL0.out
                        simp only [h1, h2]
                        omega
              · obtain rfl : q = s := by omega
                go_wp2_with fail
                have O10 := owns_empty wk 3 1
                have hal := Mid.alloc wk (.cells #[] 3)
                clear y0 y1 y2
                go_loopw [10, 11] (fun o kv wr => ∃ (kk : Nat) (Ao : Option Addr) (no co : Nat), kk ≤ q ∧ kv = .int .i64 kk ∧ o = .slice Ao no co ∧ Hid ((but g kk).length = no) ∧ wr.ownsRow wk.heap.size 3 1 (.slice Ao no co) no (ints (but g kk)) ∧ Mid 0 0 wk wr) (fun _ kv _ => q - (intOf kv).toNat)
                case atStart => exact ⟨0, _, 0, 0, Nat.zero_le _, rfl, rfl, Lib.hid rfl, O10, hal⟩
                case round =>
                  clear O10 hal
                  obtain ⟨kk, Ao, no, co, hkk, rfl, rfl, HNo, hord, hmy⟩ := hrel
                  have hno : no ≤ 40 := by
                    have h1 : (but g kk).length ≤ kk := by unfold but; rw [List.length_map]; exact Nat.le_trans (List.length_filter_le _ _) (by simp)
                    have h2 := HNo.out
                    omega
                  have Y4 := Y3.mid hmy (Or.inr (Nat.zero_le _))
                  have y0 := Y4.cell 0 rfl
                  have y1 := Y4.cell 1 rfl
                  have y2 := Y4.cell 2 rfl
                  by_cases hlt : kk < q
                  · have hbs := but_succ g kk
                    have hk3 : (kk : Int) < (q : Int) := by omega
                    by_cases hkg : kk = g
                    · have d3 : ((kk : Int) != (g : Int)) = false := by simp; omega
                      rw [if_pos hkg] at hbs
                      have HBS := Lib.hid hbs
                      clear hbs hkg
                      go_wp2_with fail
                      go_roundw
                      case rel => exact ⟨kk + 1, Ao, no, co, by omega, by go_num, rfl, by rw [HBS.out]; exact HNo, by rw [HBS.out]; exact hord, hmy⟩
                      case measure => simp [intOf]; omega
                    · have d3 : ((kk : Int) != (g : Int)) = true := by simp; omega
                      rw [if_neg hkg] at hbs
                      have HBS := Lib.hid hbs
                      have HO := Lib.hid hord
                      have hsz := hmy.size
                      clear hbs hkg hord
                      go_wp2_with (at_builtin; refine wpList_pushI rfl _ _ rfl wk.heap.size Ao no co (but g kk) rfl HO.out kk rfl (by omega) hsz ?_; intro A9 c9 w9 ho9 hm9)
                      go_roundw
                      case rel => exact ⟨kk + 1, A9, no + 1, c9, by omega, by go_num, rfl, Lib.hid (by rw [HBS.out, List.length_append, HNo.out]; rfl), by rw [HBS.out]; exact ho9, hmy.transNew hm9 (Or.inl (Nat.le_refl _))⟩
                      case measure => simp [intOf]; omega
                  · obtain rfl : kk = q := by omega
                    have hln : (but g kk).length = no := HNo.out
                    have HL0 : Hid (no = kk - 1) := Lib.hid (by rw [← hln, but_len g hgs])
                    obtain ⟨es2, hes2⟩ : ∃ es2, partE (but g kk) es1 = es2 := ⟨_, rfl⟩
                    have hcv : cutV ((kk : Int), es1) g = ((no : Int), es2) := by unfold cutV; simp only [Int.toNat_natCast]; rw [hln, hes2]
                    have hE6 := owns_mid HE.out hmy (Or.inl (Nat.zero_le _))
                    have hP := impl_part r kk A2 es1 c2 Ao (but g kk) co wr _ _ _ _ (owns_rv hE6).rg (owns_rv hord) HGs.out (but_nodup g kk) (fun x hx => but_range hx)
                    rw [hln, hes2] at hP
                    have HP := Lib.hid hP
                    have hTT2 := HTT.out
                    rw [hcv] at hTT2
                    have hgr2 := HCG.out
                    rw [hcv] at hgr2
                    have HTT2 := Lib.hid hTT2
                    have HG2 := Lib.hid hgr2
                    have hwks : G + 1 ≤ wk.heap.size := Y3.1
                    clear hP hTT2 hgr2 hcv hes2 hln hord HTT HCG HE hE6
                    go_wp2_with fail
                    with_reducible refine HP.out.mono ?_
                    rintro en w8 ⟨A3, c3, rfl, hog, hm8⟩
                    clear HP
                    replace hog := hog.wide (lo' := wk.heap.size) hmy.size (Nat.le_refl _) (Nat.le_refl _)
                    have hm28 := hmy.trans hm8
                    clear Y4 y0 y1 y2
                    replace b2 := b2.mid hm28 (Or.inr (Nat.zero_le _))
                    replace Y3 := Y3.mid hm28 (Or.inr (Nat.zero_le _))
                    replace hleft := owns_mid hleft hm28 (Or.inl (Nat.zero_le _))
                    replace hm := hm.trans hm28
                    clear hmy hm8 hm28
                    have y0 := Y3.cell 0 rfl
                    have y1 := Y3.cell 1 rfl
                    have y2 := Y3.cell 2 rfl
                    have yf := Y3.2.2
                    go_wp2_with fail
                    have hst := (Mid.setAt w8 G 0 (.int .i64 r)).trans ((Mid.setAt (w8.setCell ⟨G, 0, none⟩ (.int .i64 r)) G 1 (.int .i64 no)).trans (Mid.setAt ((w8.setCell ⟨G, 0, none⟩ (.int .i64 r)).setCell ⟨G, 1, none⟩ (.int .i64 no)) G 2 (.slice A3 es2.length c3)))
                    have Y5 := ((Y3.set 0 (.int .i64 r) (by simp) rfl).set 1 (.int .i64 no) (by simp) rfl).set 2 (.slice A3 es2.length c3) (by simp) rfl
                    have hm5 := ((hm.storeNew (p := ⟨G, 0, none⟩) (by show w.heap.size ≤ G; omega) (.int .i64 r)).storeNew (p := ⟨G, 1, none⟩) (by show w.heap.size ≤ G; omega) (.int .i64 no)).storeNew (p := ⟨G, 2, none⟩) (by show w.heap.size ≤ G; omega) (.slice A3 es2.length c3)
                    replace b2 := b2.mid hst (Or.inl (by omega))
                    replace hleft := owns_mid hleft hst (Or.inl (Nat.le_refl _))
                    replace hog := hog.mid hst (Or.inl hwks)
                    clear Y3 hm y0 y1 y2 yf hst
                    generalize ((w8.setCell ⟨G, 0, none⟩ (.int .i64 r)).setCell ⟨G, 1, none⟩ (.int .i64 no)).setCell ⟨G, 2, none⟩ (.slice A3 es2.length c3) = ws at Y5 hm5 b2 hleft hog ⊢
                    have hmd := Mid.drew1 ws
                    replace b2 := b2.mid hmd (Or.inr (Nat.zero_le _))
                    replace Y5 := Y5.mid hmd (Or.inr (Nat.zero_le _))
                    replace hleft := owns_mid hleft hmd (Or.inl (Nat.zero_le _))
                    replace hog := hog.mid hmd (Or.inl (Nat.zero_le _))
                    replace hm5 := hm5.trans hmd
                    clear hmd
                    obtain ⟨gl, rfl, hgl1, hgl2⟩ := owns_addr hleft (show 0 < kk by omega)
                    have hsc : kk ≤ cl := by
                      obtain ⟨A', c', hv0, hsc, hcm⟩ := owns_shape hleft
                      injection hv0 with _ _ hv0
                      omega
                    have hcut2 := owns_cut hleft (m := g) (by omega)
                    have hxl : (ints xs).length = kk * 1 := hleft.1
                    have hsrc := (Rs.of_own hleft).drop (k := g + 1) (n := kk) (cap := cl) 1 hxl hsc
                    have hdl : ((ints xs).drop ((g + 1) * 1)).length = (kk - (g + 1)) * 1 := by rw [List.length_drop, hxl]; omega
                    have hone : ∀ u ∈ (ints xs).drop ((g + 1) * 1), u.oneCell' = true := fun u hu => one_of_ints xs u (List.mem_of_mem_drop hu)
                    have hml : g + (kk - (g + 1)) ≤ maxLen := by unfold maxLen; omega
                    have hby : (g + (kk - (g + 1))) * 8 ≤ 140737488355328 := by omega
                    have hGs : G + 1 ≤ ws.drew.heap.size := Y5.1
                    have HCU := Lib.hid hcut2
                    have HSR := Lib.hid hsrc
                    have HDL := Lib.hid hdl
                    have HON := Lib.hid hone
                    have HXL := Lib.hid hxl
                    have hgi : (0 : Int) ≤ (g : Int) := by omega
                    have hgi1 : (0 : Int) ≤ (g : Int) + 1 := by omega
                    have hgk : (g : Int) < (kk : Int) := by omega
                    have hgk2 : (g : Int) + 1 ≤ (kk : Int) := by omega
                    have hgn : g ≤ cl := by omega
                    have hgn1 : g + 1 ≤ kk := by omega
                    have hgn2 : g + 1 ≤ cl := by omega
                    have hgc : (g : Int) ≤ (cl : Int) := by omega
                    have hgc2 : (g : Int) + 1 ≤ (cl : Int) := by omega
                    have hwrp : IntKind.i64.wrap ((g : Int) + 1) = (g : Int) + 1 := IntWalk.i64_in _ (by omega)
                    clear hcut2 hsrc hdl hone hxl
                    by_cases hcg : cl = g + 1
                    · rw [if_pos hcg] at HSR
                      have hcgF : (cl = g + 1) = True := eq_true hcg
                      clear hcg
                      refine wp_region_T (S := (fun _ => True)) 8 (by kernel_rfl) trivial ?_
                      generalize World.drew ws = wz at b2 Y5 hleft hog hm5 HCU HSR hGs ⊢
                      refine wpAnyT_take (i := 0) (v := ?_) rfl (by kernel_rfl) (by kernel_rfl) (by kernel_rfl) (by kernel_rfl) (fun _ _ _ h => h) (Or.inl ⟨by rfl, ?_⟩) trivial ?_
                      rotate_left
                      focus (intro w hSw; (try dsimp only at hSw); go_simp; try with_reducible rfl)
                      try simp only [Act.put, List.setIfInBounds_toArray, List.set_cons_zero, List.set_cons_succ, List.getElem_toArray, List.getElem_cons_zero, List.getElem_cons_succ]
                      refine wpAnyT_take (i := 1) (v := ?_) rfl (by kernel_rfl) (by kernel_rfl) (by kernel_rfl) (by kernel_rfl) (fun _ _ _ h => h) (Or.inl ⟨by rfl, ?_⟩) trivial ?_
                      rotate_left
                      focus (intro w hSw; (try dsimp only at hSw); go_simp; try with_reducible rfl)
                      try simp only [Act.put, List.setIfInBounds_toArray, List.set_cons_zero, List.set_cons_succ, List.getElem_toArray, List.getElem_cons_zero, List.getElem_cons_succ]
                      refine wpAnyT_take (i := 2) (v := ?_) rfl (by kernel_rfl) (by kernel_rfl) (by kernel_rfl) (by kernel_rfl) (fun _ _ _ h => h) (Or.inl ⟨by rfl, ?_⟩) trivial ?_
                      rotate_left
                      focus (intro w hSw; (try dsimp only at hSw); go_simp; try with_reducible rfl)
                      try simp only [Act.put, List.setIfInBounds_toArray, List.set_cons_zero, List.set_cons_succ, List.getElem_toArray, List.getElem_cons_zero, List.getElem_cons_succ]
                      refine wpAnyT_take (i := 3) (v := ?_) rfl (by kernel_rfl) (by kernel_rfl) (by kernel_rfl) (by kernel_rfl) (fun _ _ _ h => h) (Or.inl ⟨by rfl, ?_⟩) trivial ?_
                      rotate_left
                      focus (intro w hSw; (try dsimp only at hSw); go_simp; try with_reducible rfl)
                      try simp only [Act.put, List.setIfInBounds_toArray, List.set_cons_zero, List.set_cons_succ, List.getElem_toArray, List.getElem_cons_zero, List.getElem_cons_succ]
                      refine wpAnyT_take (i := 4) (v := ?_) rfl (by kernel_rfl) (by kernel_rfl) (by kernel_rfl) (by kernel_rfl) (fun _ _ _ h => h) (Or.inl ⟨by rfl, ?_⟩) trivial ?_
                      rotate_left
                      focus (intro w hSw; (try dsimp only at hSw); go_simp; try with_reducible rfl)
                      try simp only [Act.put, List.setIfInBounds_toArray, List.set_cons_zero, List.set_cons_succ, List.getElem_toArray, List.getElem_cons_zero, List.getElem_cons_succ]
                      refine wpAnyT_take (i := 5) (v := ?_) rfl (by kernel_rfl) (by kernel_rfl) (by kernel_rfl) (by kernel_rfl) (fun _ _ _ h => h) (Or.inl ⟨by rfl, ?_⟩) trivial ?_
                      rotate_left
                      focus (intro w hSw; (try dsimp only at hSw); go_simp; try with_reducible rfl)
                      try simp only [Act.put, List.setIfInBounds_toArray, List.set_cons_zero, List.set_cons_succ, List.getElem_toArray, List.getElem_cons_zero, List.getElem_cons_succ]
                      refine wpAnyT_take (i := 6) (v := ?_) rfl (by kernel_rfl) (by kernel_rfl) (by kernel_rfl) (by kernel_rfl) (fun _ _ _ h => h) (Or.inl ⟨by rfl, ?_⟩) trivial ?_
                      rotate_left
                      focus (intro w hSw; (try dsimp only at hSw); go_simp; try with_reducible rfl)
                      try simp only [Act.put, List.setIfInBounds_toArray, List.set_cons_zero, List.set_cons_succ, List.getElem_toArray, List.getElem_cons_zero, List.getElem_cons_succ]
                      refine wpAnyT_ready (rs := [7]) (by kernel_rfl) (by simp) (AllReadyT.cons rfl (fun K hK => ?_) AllReadyT.nil)
                      (refine step_cat (by rfl) (.tmp 77) (.tmp 81) 37 (by rfl) (G + 1) 3 (.int .i64 0) 1 8 undSI infoI rfl (by decide) (.slice (some ⟨gl, 0, none⟩) g cl) g _ (by rfl) HCU.out _ (kk - (g + 1)) _ _ ((ints xs).drop ((g + 1) * 1)) (by rfl) HSR.out HDL.out HON.out hml hby hGs ?_; intro v9 w9 ho9 hgr9 hat9; obtain ⟨A9, c9, rfl, -, -⟩ := owns_shape ho9)
                      refine hK.out _ _ (Or.inr trivial) (fun _ => ?_)
                      clear hK K
                      try simp only [Act.put, List.setIfInBounds_toArray, List.set_cons_zero, List.set_cons_succ, List.getElem_toArray, List.getElem_cons_zero, List.getElem_cons_succ]
                      refine wpAnyT_ready (rs := [8]) (by kernel_rfl) (by simp) (AllReadyT.cons rfl (fun K hK => ?_) AllReadyT.nil)
                      (go_simp)
                      refine hK.out _ _ (Or.inl rfl) (fun _ => ?_)
                      clear hK K
                      try simp only [Act.put, List.setIfInBounds_toArray, List.set_cons_zero, List.set_cons_succ, List.getElem_toArray, List.getElem_cons_zero, List.getElem_cons_succ]
                      refine wpAnyT_done (by kernel_rfl) ?_ _
                      go_wp2_with fail
                      go_roundw
                      case rel =>
                        have hm9 := Mid.of_grownRow HCU.out hgr9
                        have h0 := hog.ov.2.1.kept hgr9 (owns_ne hog.ov.2.1 HCU.out (by decide))
                        have hnl2 : g + (kk - (g + 1)) = no := by have := HL0.out; omega
                        have hb9 : Value.ownBlock (.slice A3 es2.length c3) ≠ some G := fun h => by have := (hog.ov.2.1.lt _ h).1; omega
                        have hxe : (ints xs).take (g * 1) ++ (ints xs).drop ((g + 1) * 1) = ints (xs.take g ++ xs.drop (g + 1)) := by simp [ints]
                        rw [hxe, hnl2] at ho9
                        exact ⟨m', no, es2, A3, c3, A9, c9, xs.take g ++ xs.drop (g + 1), by rw [hnl2], HTT2, by have := HL0.out; omega, HG2, ho9, Lib.hid (owns_base h0 (by omega)), Lib.hid hb9, b2.mid hm9 (Or.inl (by omega)), Y5.mid hm9 (Or.inl (by omega)), hm5.transNew hm9 (Or.inl (by omega))⟩
                      case measure =>
                        have h1 := sizeAt_box (Y5.mid (Mid.of_grownRow HCU.out hgr9) (Or.inl (by omega)))
                        have h2 := hlsz.out
                        have h3 := HL0.out
                        simp only [h1, h2]
                        omega
                    · rw [if_neg hcg] at HSR
                      have hcgF : (cl = g + 1) = False := eq_false hcg
                      clear hcg
                      replace HSR : Hid (Rs ws.drew ws.drew.heap.size (some ⟨gl, g + 1, none⟩) ((ints xs).drop ((g + 1) * 1))) := Lib.hid (by
                        have h := HSR.out
                        rw [show Option.map (fun x => x.add ((g + 1) * 1)) (some (⟨gl, 0, none⟩ : Addr)) = some ⟨gl, g + 1, none⟩ by simp [Addr.add]] at h
                        exact h)
                      refine wp_region_T (S := (fun _ => True)) 8 (by kernel_rfl) trivial ?_
                      generalize World.drew ws = wz at b2 Y5 hleft hog hm5 HCU HSR hGs ⊢
                      refine wpAnyT_take (i := 0) (v := ?_) rfl (by kernel_rfl) (by kernel_rfl) (by kernel_rfl) (by kernel_rfl) (fun _ _ _ h => h) (Or.inl ⟨by rfl, ?_⟩) trivial ?_
                      rotate_left
                      focus (intro w hSw; (try dsimp only at hSw); go_simp; try with_reducible rfl)
                      try simp only [Act.put, List.setIfInBounds_toArray, List.set_cons_zero, List.set_cons_succ, List.getElem_toArray, List.getElem_cons_zero, List.getElem_cons_succ]
                      refine wpAnyT_take (i := 1) (v := ?_) rfl (by kernel_rfl) (by kernel_rfl) (by kernel_rfl) (by kernel_rfl) (fun _ _ _ h => h) (Or.inl ⟨by rfl, ?_⟩) trivial ?_
                      rotate_left
                      focus (intro w hSw; (try dsimp only at hSw); go_simp; try with_reducible rfl)
                      try simp only [Act.put, List.setIfInBounds_toArray, List.set_cons_zero, List.set_cons_succ, List.getElem_toArray, List.getElem_cons_zero, List.getElem_cons_succ]
                      refine wpAnyT_take (i := 2) (v := ?_) rfl (by kernel_rfl) (by kernel_rfl) (by kernel_rfl) (by kernel_rfl) (fun _ _ _ h => h) (Or.inl ⟨by rfl, ?_⟩) trivial ?_
                      rotate_left
                      focus (intro w hSw; (try dsimp only at hSw); go_simp; try with_reducible rfl)
                      try simp only [Act.put, List.setIfInBounds_toArray, List.set_cons_zero, List.set_cons_succ, List.getElem_toArray, List.getElem_cons_zero, List.getElem_cons_succ]
                      refine wpAnyT_take (i := 3) (v := ?_) rfl (by kernel_rfl) (by kernel_rfl) (by kernel_rfl) (by kernel_rfl) (fun _ _ _ h => h) (Or.inl ⟨by rfl, ?_⟩) trivial ?_
                      rotate_left
                      focus (intro w hSw; (try dsimp only at hSw); go_simp; try with_reducible rfl)
                      try simp only [Act.put, List.setIfInBounds_toArray, List.set_cons_zero, List.set_cons_succ, List.getElem_toArray, List.getElem_cons_zero, List.getElem_cons_succ]
                      refine wpAnyT_take (i := 4) (v := ?_) rfl (by kernel_rfl) (by kernel_rfl) (by kernel_rfl) (by kernel_rfl) (fun _ _ _ h => h) (Or.inl ⟨by rfl, ?_⟩) trivial ?_
                      rotate_left
                      focus (intro w hSw; (try dsimp only at hSw); go_simp; try with_reducible rfl)
                      try simp only [Act.put, List.setIfInBounds_toArray, List.set_cons_zero, List.set_cons_succ, List.getElem_toArray, List.getElem_cons_zero, List.getElem_cons_succ]
                      refine wpAnyT_take (i := 5) (v := ?_) rfl (by kernel_rfl) (by kernel_rfl) (by kernel_rfl) (by kernel_rfl) (fun _ _ _ h => h) (Or.inl ⟨by rfl, ?_⟩) trivial ?_
                      rotate_left
                      focus (intro w hSw; (try dsimp only at hSw); go_simp; try with_reducible rfl)
                      try simp only [Act.put, List.setIfInBounds_toArray, List.set_cons_zero, List.set_cons_succ, List.getElem_toArray, List.getElem_cons_zero, List.getElem_cons_succ]
                      refine wpAnyT_take (i := 6) (v := ?_) rfl (by kernel_rfl) (by kernel_rfl) (by kernel_rfl) (by kernel_rfl) (fun _ _ _ h => h) (Or.inl ⟨by rfl, ?_⟩) trivial ?_
                      rotate_left
                      focus (intro w hSw; (try dsimp only at hSw); go_simp; try with_reducible rfl)
                      try simp only [Act.put, List.setIfInBounds_toArray, List.set_cons_zero, List.set_cons_succ, List.getElem_toArray, List.getElem_cons_zero, List.getElem_cons_succ]
                      refine wpAnyT_ready (rs := [7]) (by kernel_rfl) (by simp) (AllReadyT.cons rfl (fun K hK => ?_) AllReadyT.nil)
                      (refine step_cat (by rfl) (.tmp 77) (.tmp 81) 37 (by rfl) (G + 1) 3 (.int .i64 0) 1 8 undSI infoI rfl (by decide) (.slice (some ⟨gl, 0, none⟩) g cl) g _ (by rfl) HCU.out _ (kk - (g + 1)) _ _ ((ints xs).drop ((g + 1) * 1)) (by rfl) HSR.out HDL.out HON.out hml hby hGs ?_; intro v9 w9 ho9 hgr9 hat9; obtain ⟨A9, c9, rfl, -, -⟩ := owns_shape ho9)
                      refine hK.out _ _ (Or.inr trivial) (fun _ => ?_)
                      clear hK K
                      try simp only [Act.put, List.setIfInBounds_toArray, List.set_cons_zero, List.set_cons_succ, List.getElem_toArray, List.getElem_cons_zero, List.getElem_cons_succ]
                      refine wpAnyT_ready (rs := [8]) (by kernel_rfl) (by simp) (AllReadyT.cons rfl (fun K hK => ?_) AllReadyT.nil)
                      (go_simp)
                      refine hK.out _ _ (Or.inl rfl) (fun _ => ?_)
                      clear hK K
                      try simp only [Act.put, List.setIfInBounds_toArray, List.set_cons_zero, List.set_cons_succ, List.getElem_toArray, List.getElem_cons_zero, List.getElem_cons_succ]
                      refine wpAnyT_done (by kernel_rfl) ?_ _
                      go_wp2_with fail
                      go_roundw
                      case rel =>
                        have hm9 := Mid.of_grownRow HCU.out hgr9
                        have h0 := hog.ov.2.1.kept hgr9 (owns_ne hog.ov.2.1 HCU.out (by decide))
                        have hnl2 : g + (kk - (g + 1)) = no := by have := HL0.out; omega
                        have hb9 : Value.ownBlock (.slice A3 es2.length c3) ≠ some G := fun h => by have := (hog.ov.2.1.lt _ h).1; omega
                        have hxe : (ints xs).take (g * 1) ++ (ints xs).drop ((g + 1) * 1) = ints (xs.take g ++ xs.drop (g + 1)) := by simp [ints]
                        rw [hxe, hnl2] at ho9
                        exact ⟨m', no, es2, A3, c3, A9, c9, xs.take g ++ xs.drop (g + 1), by rw [hnl2], HTT2, by have := HL0.out; omega, HG2, ho9, Lib.hid (owns_base h0 (by omega)), Lib.hid hb9, b2.mid hm9 (Or.inl (by omega)), Y5.mid hm9 (Or.inl (by omega)), hm5.transNew hm9 (Or.inl (by omega))⟩
                      case measure =>
                        have h1 := sizeAt_box (Y5.mid (Mid.of_grownRow HCU.out hgr9) (Or.inl (by omega)))
                        have h2 := hlsz.out
                        have h3 := HL0.out
                        simp only [h1, h2]
                        omega
end Go.Proofs.Ytimmnnncgnnkgaa

/- IsCore, IsSubgroup, RankOf. -/
namespace Go.Proofs.Ytimmnnncgnnkgaa
set_option linter.unusedVariables false
set_option linter.unusedSimpArgs false
open Go.RowKit

theorem IsGr.nat {r s : Int} {es : List Ed} (h : IsGr r s es) : ∃ k n : Nat, r = k ∧ s = n := by
  have h1 := h.rank
  have h2 := h.size
  exact ⟨r.toNat, s.toNat, by omega, by omega⟩

set_option maxHeartbeats 3200000 in
set_option maxRecDepth 20000 in
theorem impl_IsCore (r s : Int) (A : Option Addr) (es : List Ed) (c : Nat) (w : World) (lo hi : Nat) (hr : RG w lo hi A es) (hl : es.length ≤ 1048576) (hcl : es.length ≤ c) (b : Bool) (hb : b = true ↔ IsCor r s es) :
    Calls Try.prog 57 #[graV r s A es.length c] w fun e w' => e = .returned (.bool b) ∧ Mid 0 0 w w' := by
  have HB := Lib.hid hb
  clear hb
  have hm0 : Mid 0 0 w (w.alloc (.cells #[.int .i64 r, .int .i64 s, .slice A es.length c] 28)) := Mid.alloc _ _
  have b0 := Box.new w #[.int .i64 r, .int .i64 s, .slice A es.length c] 28
  by_cases hf : IsFol r s es
  · obtain ⟨r, n, rfl, rfl⟩ := hf.gr.nat
    have hn1 : 0 < n := by have := hf.gr.size; omega
    have HF := Lib.hid hf
    obtain ⟨T, hT⟩ : ∃ T, trimA 40 ((n : Int), es) = T := ⟨_, rfl⟩
    have HTS : Hid (T.1 = n ↔ leaf n es = none) := Lib.hid (by rw [← hT]; exact trimA_same (g := ((n : Int), es)) (by omega))
    have hTg : IsGr r T.1 T.2 := by rw [← hT]; exact trimA_gr 40 (g := ((n : Int), es)) hf.gr
    obtain ⟨tr, tn, -, htn⟩ := hTg.nat
    obtain ⟨ts, te⟩ := T
    simp only at htn HTS
    subst htn
    have htl := hTg.len
    have HTR := Lib.hid hT
    clear hf hT hTg
    have hTRIM := fun W h => impl_TrimGraph r n A es c W lo hi h HF.out.gr
    simp only [HTR.out] at hTRIM
    have HTRIM := Lib.hid hTRIM
    clear hTRIM HTR
    go_enter Try.func57, Try.ntmps57
    go_wp2_with fail
    with_reducible refine (impl_IsFolded r n A es c _ _ _ (hr.mid hm0 (Or.inl (Nat.zero_le _))) hl hcl true (iff_of_true rfl HF.out)).mono ?_
    rintro en w1 ⟨rfl, hm1⟩
    replace b0 := b0.mid hm1 (Or.inr (Nat.zero_le _))
    replace hm0 := hm0.trans hm1
    have p0 := b0.cell 0 rfl
    have p1 := b0.cell 1 rfl
    have p2 := b0.cell 2 rfl
    go_wp2_with fail
    with_reducible refine (HTRIM.out _ (hr.mid hm0 (Or.inl (Nat.zero_le _)))).mono ?_
    rintro en w2 ⟨A1, c1, Al, nl, cl, rfl, hog, hm2⟩
    replace b0 := b0.mid hm2 (Or.inr (Nat.zero_le _))
    replace hm0 := hm0.trans hm2
    have hal := Mid.alloc w2 (.cells #[.int .i64 r, .int .i64 tn, .slice A1 te.length c1] 28)
    have bt := Box.new w2 #[.int .i64 r, .int .i64 tn, .slice A1 te.length c1] 28
    replace b0 := b0.mid hal (Or.inr (Nat.zero_le _))
    replace hm0 := hm0.trans hal
    clear p0 p1 p2 HTRIM
    go_wp2_with fail
    generalize w2.alloc (.cells #[.int .i64 r, .int .i64 tn, .slice A1 te.length c1] 28) = w3 at b0 bt hm0 ⊢
    by_cases hts : (tn : Int) = n
    · have hlf := HTS.out.1 hts
      obtain rfl : tn = n := by omega
      obtain ⟨C, hC⟩ : ∃ C, canonG r ((tn : Int), es) = C := ⟨_, rfl⟩
      have hCg : IsGr r C.1 C.2 := by rw [← hC]; exact canonG_gr (g := ((tn : Int), es)) HF.out.gr
      have HB2 : Hid (b = true ↔ (r : Int) = r ∧ C.1 = tn ∧ C.2 = es) := Lib.hid (by
        rw [HB.out]
        constructor
        · intro h
          have h1 := h.canon
          rw [hC] at h1
          exact ⟨rfl, by rw [h1], by rw [h1]⟩
        · rintro ⟨-, h1, h2⟩
          exact ⟨HF.out, hlf, by rw [hC]; exact Prod.ext h1 h2⟩)
      have hcl2 := hCg.len
      have hmd := Mid.drew1 w3
      replace b0 := b0.mid hmd (Or.inr (Nat.zero_le _))
      replace bt := bt.mid hmd (Or.inr (Nat.zero_le _))
      replace hm0 := hm0.trans hmd
      have p0 := b0.cell 0 rfl
      have p1 := b0.cell 1 rfl
      have p2 := b0.cell 2 rfl
      have q1 := bt.cell 1 rfl
      have hCAN := fun W h => impl_CanonicalGraph r tn A es c W lo hi h hcl HF.out.gr
      simp only [hC] at hCAN
      have HCAN := Lib.hid hCAN
      clear hCAN hC hCg HB hlf HTS hts hmd
      refine wp_region_T (S := (fun w' => w'.cell? ⟨w.heap.size, 0, none⟩ = some (.int .i64 r) ∧ w'.cell? ⟨w.heap.size, 1, none⟩ = some (.int .i64 tn) ∧ w'.cell? ⟨w.heap.size, 2, none⟩ = some (.slice A es.length c) ∧ w'.cell? ⟨w2.heap.size, 1, none⟩ = some (.int .i64 tn))) 11 (by kernel_rfl) ⟨p0, p1, p2, q1⟩ ?_
      generalize World.drew w3 = wz at b0 bt hm0 p0 p1 p2 q1 ⊢
      have hS : wz.cell? ⟨w.heap.size, 0, none⟩ = some (.int .i64 r) ∧ wz.cell? ⟨w.heap.size, 1, none⟩ = some (.int .i64 tn) ∧ wz.cell? ⟨w.heap.size, 2, none⟩ = some (.slice A es.length c) ∧ wz.cell? ⟨w2.heap.size, 1, none⟩ = some (.int .i64 tn) := ⟨p0, p1, p2, q1⟩
      refine wpAnyT_take (i := 0) (v := ?_) rfl (by kernel_rfl) (by kernel_rfl) (by kernel_rfl) (by kernel_rfl) (fun _ _ _ h => h) (Or.inl ⟨by rfl, ?_⟩) hS ?_
      rotate_left
      focus (intro w hSw; (try dsimp only at hSw); go_simp; try with_reducible rfl)
      try simp only [Act.put, List.setIfInBounds_toArray, List.set_cons_zero, List.set_cons_succ, List.getElem_toArray, List.getElem_cons_zero, List.getElem_cons_succ]
      refine wpAnyT_take (i := 1) (v := ?_) rfl (by kernel_rfl) (by kernel_rfl) (by kernel_rfl) (by kernel_rfl) (fun _ _ _ h => h) (Or.inl ⟨by rfl, ?_⟩) hS ?_
      rotate_left
      focus (intro w hSw; (try dsimp only at hSw); go_simp; try with_reducible rfl)
      try simp only [Act.put, List.setIfInBounds_toArray, List.set_cons_zero, List.set_cons_succ, List.getElem_toArray, List.getElem_cons_zero, List.getElem_cons_succ]
      refine wpAnyT_take (i := 2) (v := ?_) rfl (by kernel_rfl) (by kernel_rfl) (by kernel_rfl) (by kernel_rfl) (fun _ _ _ h => h) (Or.inl ⟨by rfl, ?_⟩) hS ?_
      rotate_left
      focus (intro w hSw; (try dsimp only at hSw); go_simp; try with_reducible rfl)
      try simp only [Act.put, List.setIfInBounds_toArray, List.set_cons_zero, List.set_cons_succ, List.getElem_toArray, List.getElem_cons_zero, List.getElem_cons_succ]
      refine wpAnyT_take (i := 3) (v := ?_) rfl (by kernel_rfl) (by kernel_rfl) (by kernel_rfl) (by kernel_rfl) (fun _ _ _ h => h) (Or.inl ⟨by rfl, ?_⟩) hS ?_
      rotate_left
      focus (intro w hSw; (try dsimp only at hSw); go_simp; try with_reducible rfl)
      try simp only [Act.put, List.setIfInBounds_toArray, List.set_cons_zero, List.set_cons_succ, List.getElem_toArray, List.getElem_cons_zero, List.getElem_cons_succ]
      refine wpAnyT_take (i := 4) (v := ?_) rfl (by kernel_rfl) (by kernel_rfl) (by kernel_rfl) (by kernel_rfl) (fun _ _ _ h => h) (Or.inl ⟨by rfl, ?_⟩) hS ?_
      rotate_left
      focus (intro w hSw; (try dsimp only at hSw); go_simp; try with_reducible rfl)
      try simp only [Act.put, List.setIfInBounds_toArray, List.set_cons_zero, List.set_cons_succ, List.getElem_toArray, List.getElem_cons_zero, List.getElem_cons_succ]
      refine wpAnyT_take (i := 5) (v := ?_) rfl (by kernel_rfl) (by kernel_rfl) (by kernel_rfl) (by kernel_rfl) (fun _ _ _ h => h) (Or.inl ⟨by rfl, ?_⟩) hS ?_
      rotate_left
      focus (intro w hSw; (try dsimp only at hSw); go_simp; try with_reducible rfl)
      try simp only [Act.put, List.setIfInBounds_toArray, List.set_cons_zero, List.set_cons_succ, List.getElem_toArray, List.getElem_cons_zero, List.getElem_cons_succ]
      refine wpAnyT_take (i := 6) (v := ?_) rfl (by kernel_rfl) (by kernel_rfl) (by kernel_rfl) (by kernel_rfl) (fun _ _ _ h => h) (Or.inl ⟨by rfl, ?_⟩) hS ?_
      rotate_left
      focus (intro w hSw; (try dsimp only at hSw); go_simp; try with_reducible rfl)
      try simp only [Act.put, List.setIfInBounds_toArray, List.set_cons_zero, List.set_cons_succ, List.getElem_toArray, List.getElem_cons_zero, List.getElem_cons_succ]
      refine wpAnyT_take (i := 8) (v := ?_) rfl (by kernel_rfl) (by kernel_rfl) (by kernel_rfl) (by kernel_rfl) (fun _ _ _ h => h) (Or.inl ⟨by rfl, ?_⟩) hS ?_
      rotate_left
      focus (intro w hSw; (try dsimp only at hSw); go_simp; try with_reducible rfl)
      try simp only [Act.put, List.setIfInBounds_toArray, List.set_cons_zero, List.set_cons_succ, List.getElem_toArray, List.getElem_cons_zero, List.getElem_cons_succ]
      refine wpAnyT_ready (rs := [7]) (by kernel_rfl) (by simp) (AllReadyT.cons rfl (fun K hK => ?_) AllReadyT.nil)
      (go_simp; refine (HCAN.out _ (hr.mid hm0 (Or.inl (Nat.zero_le _)))).mono ?_; rintro en w4 ⟨A4, c4, rfl, hog4, hm4⟩; have b0' := b0.mid hm4 (Or.inr (Nat.zero_le _)); have bt' := bt.mid hm4 (Or.inr (Nat.zero_le _)); go_wp2_with fail)
      refine hK.out _ _ (Or.inr ⟨b0'.cell 0 rfl, b0'.cell 1 rfl, b0'.cell 2 rfl, bt'.cell 1 rfl⟩) (fun _ => ?_)
      clear hK K
      try simp only [Act.put, List.setIfInBounds_toArray, List.set_cons_zero, List.set_cons_succ, List.getElem_toArray, List.getElem_cons_zero, List.getElem_cons_succ]
      replace hm0 := hm0.trans hm4
      have hE := impl_EqualGraphs r C.1 A4 C.2 c4 r tn A es c w4 _ _ _ _ hog4.rg (hr.mid hm0 (Or.inl (Nat.zero_le _))) (by omega) hl b (by have h := HB2.out; simpa using h)
      have HE := Lib.hid hE
      clear hS p0 p1 p2 q1 b0 bt HCAN HB2 hE hm4
      refine wpAnyT_ready (rs := [9]) (by kernel_rfl) (by simp) (AllReadyT.cons rfl (fun K hK => ?_) AllReadyT.nil)
      (go_simp; refine HE.out.mono ?_; rintro en w5 ⟨rfl, hm5⟩; have b0 := b0'.mid hm5 (Or.inr (Nat.zero_le _)); have bt := bt'.mid hm5 (Or.inr (Nat.zero_le _)); go_wp2_with fail)
      refine hK.out _ _ (Or.inr ⟨b0.cell 0 rfl, b0.cell 1 rfl, b0.cell 2 rfl, bt.cell 1 rfl⟩) (fun _ => ?_)
      clear hK K
      try simp only [Act.put, List.setIfInBounds_toArray, List.set_cons_zero, List.set_cons_succ, List.getElem_toArray, List.getElem_cons_zero, List.getElem_cons_succ]
      have hS2 : w5.cell? ⟨w.heap.size, 0, none⟩ = some (.int .i64 r) ∧ w5.cell? ⟨w.heap.size, 1, none⟩ = some (.int .i64 tn) ∧ w5.cell? ⟨w.heap.size, 2, none⟩ = some (.slice A es.length c) ∧ w5.cell? ⟨w2.heap.size, 1, none⟩ = some (.int .i64 tn) := ⟨b0.cell 0 rfl, b0.cell 1 rfl, b0.cell 2 rfl, bt.cell 1 rfl⟩
      have hmm := hm0.trans hm5
      clear HE b0' bt'
      refine wpAnyT_take (i := 10) (v := ?_) rfl (by kernel_rfl) (by kernel_rfl) (by kernel_rfl) (by kernel_rfl) (fun _ _ _ h => h) (Or.inl ⟨by rfl, ?_⟩) hS2 ?_
      rotate_left
      focus (intro w hSw; (try dsimp only at hSw); go_simp; try with_reducible rfl)
      try simp only [Act.put, List.setIfInBounds_toArray, List.set_cons_zero, List.set_cons_succ, List.getElem_toArray, List.getElem_cons_zero, List.getElem_cons_succ]
      refine wpAnyT_ready (rs := [11]) (by kernel_rfl) (by simp) (AllReadyT.cons rfl (fun K hK => ?_) AllReadyT.nil)
      (go_simp)
      refine hK.out _ _ (Or.inl rfl) (fun _ => ?_)
      clear hK K
      try simp only [Act.put, List.setIfInBounds_toArray, List.set_cons_zero, List.set_cons_succ, List.getElem_toArray, List.getElem_cons_zero, List.getElem_cons_succ]
      refine wpAnyT_done (by kernel_rfl) ?_ _
      go_wp2_with fail
      go_ret
      exact ⟨rfl, hmm⟩
    · obtain rfl : b = false := bool_no HB.out fun h => hts (HTS.out.2 h.leaf)
      have d1 : ((tn : Int) == (n : Int)) = false := by simpa only [beq_eq_false_iff_ne] using hts
      have d2 : ¬ tn = n := fun h => hts (by rw [h])
      have u0 := wg_cell b0.1 (b0.cell 0 rfl)
      have u1 := wg_cell b0.1 (b0.cell 1 rfl)
      have u2 := wg_cell b0.1 (b0.cell 2 rfl)
      have v1 := wg_cell bt.1 (bt.cell 1 rfl)
      clear HB HTS hts
      refine wp_region_quiet_wg (by kernel_rfl) (by kernel_rfl) ?_
      repeat
        (with_reducible refine wpQuiet_step (fun K hK => ?_))
        go_simp
        first
          | ((with_reducible refine hK _ ?_); clear hK K)
          | (rw [if_neg (by decide)]; (with_reducible refine hK _ ?_); clear hK K)
          | (apply Exists.intro; refine ⟨fun _ => ?_, hK _ ?_⟩; (fail); clear hK K)
      with_reducible refine wpQuiet_nil ?_
      intro _ hw'
      obtain ⟨⟨nq, osq⟩, hw''⟩ := hw'
      subst hw''
      go_wp2_with fail
      go_ret
      exact ⟨rfl, hm0.trans (Mid.ofWg w3 nq osq)⟩
  · obtain rfl : b = false := bool_no HB.out fun h => hf h.fol
    have HF := Lib.hid hf
    clear hf HB
    go_enter Try.func57, Try.ntmps57
    go_wp2_with fail
    with_reducible refine (impl_IsFolded r s A es c _ _ _ (hr.mid hm0 (Or.inl (Nat.zero_le _))) hl hcl false (iff_of_false Bool.false_ne_true HF.out)).mono ?_
    rintro en w1 ⟨rfl, hm1⟩
    go_wp2_with fail
    go_ret
    exact ⟨rfl, hm0.trans hm1⟩

set_option maxHeartbeats 3200000 in
set_option maxRecDepth 20000 in
theorem spec_IsCore (r s : Int) (A : Option Addr) (es : List Ed) (c : Nat) (w : World) (lo hi : Nat) (hr : RG w lo hi A es) (hl : es.length ≤ 1048576) (b : Bool) (hb : b = true ↔ IsCor r s es) :
    Calls Try.prog 91 #[graV r s A es.length c] w fun e w' => e = .returned (.bool b) ∧ Mid 0 0 w w' := by
  have HB := Lib.hid hb
  clear hb
  have hm0 : Mid 0 0 w (w.alloc (.cells #[.int .i64 r, .int .i64 s, .slice A es.length c] 28)) := Mid.alloc _ _
  have b0 := Box.new w #[.int .i64 r, .int .i64 s, .slice A es.length c] 28
  by_cases hf : IsFol r s es
  · obtain ⟨r, n, rfl, rfl⟩ := hf.gr.nat
    have HF := Lib.hid hf
    clear hf
    have hFol := fun W h => spec_IsFolded r n A es c W lo hi h hl true (iff_of_true rfl HF.out)
    have hLeaf := fun W h => spec_l8Leaf r n A es c W lo hi h HF.out.gr
    obtain ⟨lf, hlf⟩ : ∃ lf, leafI n es = lf := ⟨_, rfl⟩
    have HLF := Lib.hid hlf
    simp only [hlf] at hLeaf
    clear hlf
    have HFol := Lib.hid hFol
    have HLeaf := Lib.hid hLeaf
    clear hFol hLeaf
    by_cases hln : leaf n es = none
    · have hlf0 : lf = -1 := by rw [← HLF.out, leafI_none hln]
      subst hlf0
      obtain ⟨C, hC⟩ : ∃ C, canonG r ((n : Int), es) = C := ⟨_, rfl⟩
      have hCg : IsGr r C.1 C.2 := by rw [← hC]; exact canonG_gr (g := ((n : Int), es)) HF.out.gr
      have HB2 : Hid (b = true ↔ (r : Int) = r ∧ C.1 = n ∧ C.2 = es) := Lib.hid (by
        rw [HB.out]
        constructor
        · intro h
          have h1 := h.canon
          rw [hC] at h1
          exact ⟨rfl, by rw [h1], by rw [h1]⟩
        · rintro ⟨-, h1, h2⟩
          exact ⟨HF.out, hln, by rw [hC]; exact Prod.ext h1 h2⟩)
      have hcl2 := hCg.len
      have hCAN := fun W h => spec_CanonicalGraph r n A es c W lo hi h HF.out.gr
      simp only [hC] at hCAN
      have HCAN := Lib.hid hCAN
      clear hCAN hC hCg HB hln HLF
      go_enter Try.func91, Try.ntmps91
      go_wp2_with fail
      generalize w.alloc (.cells #[.int .i64 r, .int .i64 n, .slice A es.length c] 28) = w3 at b0 hm0 ⊢
      have hmd := Mid.drew1 w3
      replace b0 := b0.mid hmd (Or.inr (Nat.zero_le _))
      replace hm0 := hm0.trans hmd
      have p0 := b0.cell 0 rfl
      have p1 := b0.cell 1 rfl
      have p2 := b0.cell 2 rfl
      clear hmd
      refine wp_region_T (S := (fun w' => w'.cell? ⟨w.heap.size, 0, none⟩ = some (.int .i64 r) ∧ w'.cell? ⟨w.heap.size, 1, none⟩ = some (.int .i64 n) ∧ w'.cell? ⟨w.heap.size, 2, none⟩ = some (.slice A es.length c))) 13 (by kernel_rfl) ⟨p0, p1, p2⟩ ?_
      generalize World.drew w3 = wz at b0 hm0 p0 p1 p2 ⊢
      have hS : wz.cell? ⟨w.heap.size, 0, none⟩ = some (.int .i64 r) ∧ wz.cell? ⟨w.heap.size, 1, none⟩ = some (.int .i64 n) ∧ wz.cell? ⟨w.heap.size, 2, none⟩ = some (.slice A es.length c) := ⟨p0, p1, p2⟩
      refine wpAnyT_take (i := 0) (v := ?_) rfl (by kernel_rfl) (by kernel_rfl) (by kernel_rfl) (by kernel_rfl) (fun _ _ _ h => h) (Or.inl ⟨by rfl, ?_⟩) hS ?_
      rotate_left
      focus (intro w hSw; (try dsimp only at hSw); go_simp; try with_reducible rfl)
      try simp only [Act.put, List.setIfInBounds_toArray, List.set_cons_zero, List.set_cons_succ, List.getElem_toArray, List.getElem_cons_zero, List.getElem_cons_succ]
      refine wpAnyT_ready (rs := [1]) (by kernel_rfl) (by simp) (AllReadyT.cons rfl (fun K hK => ?_) AllReadyT.nil)
      (go_simp; refine (HFol.out _ (hr.mid hm0 (Or.inl (Nat.zero_le _)))).mono ?_; rintro en w4 ⟨rfl, hm4⟩; have b1 := b0.mid hm4 (Or.inr (Nat.zero_le _)); go_wp2_with fail)
      refine hK.out _ _ (Or.inr ⟨b1.cell 0 rfl, b1.cell 1 rfl, b1.cell 2 rfl⟩) (fun _ => ?_)
      clear hK K
      try simp only [Act.put, List.setIfInBounds_toArray, List.set_cons_zero, List.set_cons_succ, List.getElem_toArray, List.getElem_cons_zero, List.getElem_cons_succ]
      replace hm0 := hm0.trans hm4
      have hS4 : w4.cell? ⟨w.heap.size, 0, none⟩ = some (.int .i64 r) ∧ w4.cell? ⟨w.heap.size, 1, none⟩ = some (.int .i64 n) ∧ w4.cell? ⟨w.heap.size, 2, none⟩ = some (.slice A es.length c) := ⟨b1.cell 0 rfl, b1.cell 1 rfl, b1.cell 2 rfl⟩
      clear b0 hS p0 p1 p2 hm4 HFol
      refine wpAnyT_take (i := 2) (v := ?_) rfl (by kernel_rfl) (by kernel_rfl) (by kernel_rfl) (by kernel_rfl) (fun _ _ _ h => h) (Or.inl ⟨by rfl, ?_⟩) hS4 ?_
      rotate_left
      focus (intro w hSw; (try dsimp only at hSw); go_simp; try with_reducible rfl)
      try simp only [Act.put, List.setIfInBounds_toArray, List.set_cons_zero, List.set_cons_succ, List.getElem_toArray, List.getElem_cons_zero, List.getElem_cons_succ]
      refine wpAnyT_take (i := 3) (v := ?_) rfl (by kernel_rfl) (by kernel_rfl) (by kernel_rfl) (by kernel_rfl) (fun _ _ _ h => h) (Or.inl ⟨by rfl, ?_⟩) hS4 ?_
      rotate_left
      focus (intro w hSw; (try dsimp only at hSw); go_simp; try with_reducible rfl)
      try simp only [Act.put, List.setIfInBounds_toArray, List.set_cons_zero, List.set_cons_succ, List.getElem_toArray, List.getElem_cons_zero, List.getElem_cons_succ]
      refine wpAnyT_ready (rs := [4]) (by kernel_rfl) (by simp) (AllReadyT.cons rfl (fun K hK => ?_) AllReadyT.nil)
      (go_simp; refine (HLeaf.out _ (hr.mid hm0 (Or.inl (Nat.zero_le _)))).mono ?_; rintro en w5 ⟨rfl, hm5⟩; have b2 := b1.mid hm5 (Or.inr (Nat.zero_le _)); go_wp2_with fail)
      refine hK.out _ _ (Or.inr ⟨b2.cell 0 rfl, b2.cell 1 rfl, b2.cell 2 rfl⟩) (fun _ => ?_)
      clear hK K
      try simp only [Act.put, List.setIfInBounds_toArray, List.set_cons_zero, List.set_cons_succ, List.getElem_toArray, List.getElem_cons_zero, List.getElem_cons_succ]
      replace hm0 := hm0.trans hm5
      have hS5 : w5.cell? ⟨w.heap.size, 0, none⟩ = some (.int .i64 r) ∧ w5.cell? ⟨w.heap.size, 1, none⟩ = some (.int .i64 n) ∧ w5.cell? ⟨w.heap.size, 2, none⟩ = some (.slice A es.length c) := ⟨b2.cell 0 rfl, b2.cell 1 rfl, b2.cell 2 rfl⟩
      clear b1 hS4 hm5 HLeaf
      refine wpAnyT_take (i := 5) (v := ?_) rfl (by kernel_rfl) (by kernel_rfl) (by kernel_rfl) (by kernel_rfl) (fun _ _ _ h => h) (Or.inl ⟨by rfl, ?_⟩) hS5 ?_
      rotate_left
      focus (intro w hSw; (try dsimp only at hSw); go_simp; try with_reducible rfl)
      try simp only [Act.put, List.setIfInBounds_toArray, List.set_cons_zero, List.set_cons_succ, List.getElem_toArray, List.getElem_cons_zero, List.getElem_cons_succ]
      refine wpAnyT_take (i := 6) (v := ?_) rfl (by kernel_rfl) (by kernel_rfl) (by kernel_rfl) (by kernel_rfl) (fun _ _ _ h => h) (Or.inl ⟨by rfl, ?_⟩) hS5 ?_
      rotate_left
      focus (intro w hSw; (try dsimp only at hSw); go_simp; try with_reducible rfl)
      try simp only [Act.put, List.setIfInBounds_toArray, List.set_cons_zero, List.set_cons_succ, List.getElem_toArray, List.getElem_cons_zero, List.getElem_cons_succ]
      refine wpAnyT_take (i := 7) (v := ?_) rfl (by kernel_rfl) (by kernel_rfl) (by kernel_rfl) (by kernel_rfl) (fun _ _ _ h => h) (Or.inl ⟨by rfl, ?_⟩) hS5 ?_
      rotate_left
      focus (intro w hSw; (try dsimp only at hSw); go_simp; try with_reducible rfl)
      try simp only [Act.put, List.setIfInBounds_toArray, List.set_cons_zero, List.set_cons_succ, List.getElem_toArray, List.getElem_cons_zero, List.getElem_cons_succ]
      refine wpAnyT_take (i := 8) (v := ?_) rfl (by kernel_rfl) (by kernel_rfl) (by kernel_rfl) (by kernel_rfl) (fun _ _ _ h => h) (Or.inl ⟨by rfl, ?_⟩) hS5 ?_
      rotate_left
      focus (intro w hSw; (try dsimp only at hSw); go_simp; try with_reducible rfl)
      try simp only [Act.put, List.setIfInBounds_toArray, List.set_cons_zero, List.set_cons_succ, List.getElem_toArray, List.getElem_cons_zero, List.getElem_cons_succ]
      refine wpAnyT_take (i := 10) (v := ?_) rfl (by kernel_rfl) (by kernel_rfl) (by kernel_rfl) (by kernel_rfl) (fun _ _ _ h => h) (Or.inl ⟨by rfl, ?_⟩) hS5 ?_
      rotate_left
      focus (intro w hSw; (try dsimp only at hSw); go_simp; try with_reducible rfl)
      try simp only [Act.put, List.setIfInBounds_toArray, List.set_cons_zero, List.set_cons_succ, List.getElem_toArray, List.getElem_cons_zero, List.getElem_cons_succ]
      refine wpAnyT_ready (rs := [9]) (by kernel_rfl) (by simp) (AllReadyT.cons rfl (fun K hK => ?_) AllReadyT.nil)
      (go_simp; refine (HCAN.out _ (hr.mid hm0 (Or.inl (Nat.zero_le _)))).mono ?_; rintro en w6 ⟨A6, c6, rfl, hog6, hm6⟩; have b3 := b2.mid hm6 (Or.inr (Nat.zero_le _)); go_wp2_with fail)
      refine hK.out _ _ (Or.inr ⟨b3.cell 0 rfl, b3.cell 1 rfl, b3.cell 2 rfl⟩) (fun _ => ?_)
      clear hK K
      try simp only [Act.put, List.setIfInBounds_toArray, List.set_cons_zero, List.set_cons_succ, List.getElem_toArray, List.getElem_cons_zero, List.getElem_cons_succ]
      replace hm0 := hm0.trans hm6
      have hE := spec_EqualGraphs r C.1 A6 C.2 c6 r n A es c w6 _ _ _ _ hog6.rg (hr.mid hm0 (Or.inl (Nat.zero_le _))) (by omega) hl b (by have h := HB2.out; simpa using h)
      have HE := Lib.hid hE
      clear hS5 b2 HCAN HB2 hE hm6
      refine wpAnyT_ready (rs := [11]) (by kernel_rfl) (by simp) (AllReadyT.cons rfl (fun K hK => ?_) AllReadyT.nil)
      (go_simp; refine HE.out.mono ?_; rintro en w7 ⟨rfl, hm7⟩; have b4 := b3.mid hm7 (Or.inr (Nat.zero_le _)); go_wp2_with fail)
      refine hK.out _ _ (Or.inr ⟨b4.cell 0 rfl, b4.cell 1 rfl, b4.cell 2 rfl⟩) (fun _ => ?_)
      clear hK K
      try simp only [Act.put, List.setIfInBounds_toArray, List.set_cons_zero, List.set_cons_succ, List.getElem_toArray, List.getElem_cons_zero, List.getElem_cons_succ]
      have hS7 : w7.cell? ⟨w.heap.size, 0, none⟩ = some (.int .i64 r) ∧ w7.cell? ⟨w.heap.size, 1, none⟩ = some (.int .i64 n) ∧ w7.cell? ⟨w.heap.size, 2, none⟩ = some (.slice A es.length c) := ⟨b4.cell 0 rfl, b4.cell 1 rfl, b4.cell 2 rfl⟩
      have hmm := hm0.trans hm7
      clear HE b3
      refine wpAnyT_take (i := 12) (v := ?_) rfl (by kernel_rfl) (by kernel_rfl) (by kernel_rfl) (by kernel_rfl) (fun _ _ _ h => h) (Or.inl ⟨by rfl, ?_⟩) hS7 ?_
      rotate_left
      focus (intro w hSw; (try dsimp only at hSw); go_simp; try with_reducible rfl)
      try simp only [Act.put, List.setIfInBounds_toArray, List.set_cons_zero, List.set_cons_succ, List.getElem_toArray, List.getElem_cons_zero, List.getElem_cons_succ]
      refine wpAnyT_ready (rs := [13]) (by kernel_rfl) (by simp) (AllReadyT.cons rfl (fun K hK => ?_) AllReadyT.nil)
      (go_simp)
      refine hK.out _ _ (Or.inl rfl) (fun _ => ?_)
      clear hK K
      try simp only [Act.put, List.setIfInBounds_toArray, List.set_cons_zero, List.set_cons_succ, List.getElem_toArray, List.getElem_cons_zero, List.getElem_cons_succ]
      refine wpAnyT_done (by kernel_rfl) ?_ _
      go_wp2_with fail
      go_ret
      exact ⟨rfl, hmm⟩
    · obtain rfl : b = false := bool_no HB.out fun h => hln h.leaf
      obtain ⟨v, hv⟩ : ∃ v : Nat, leaf n es = some v := by
        cases h : leaf n es with
        | none => exact absurd h hln
        | some v => exact ⟨v, rfl⟩
      have hlf0 : lf = v := by rw [← HLF.out, leafI_some hv]
      subst hlf0
      have d1 : decide ((v : Int) < 0) = false := by simp
      clear HB hln hv HLF
      go_enter Try.func91, Try.ntmps91
      go_wp2_with fail
      generalize w.alloc (.cells #[.int .i64 r, .int .i64 n, .slice A es.length c] 28) = w3 at b0 hm0 ⊢
      have u0 := wg_cell b0.1 (b0.cell 0 rfl)
      have u1 := wg_cell b0.1 (b0.cell 1 rfl)
      have u2 := wg_cell b0.1 (b0.cell 2 rfl)
      have hA1 := fun m os => HFol.out (wg w3 m os) (hr.mid (hm0.trans (Mid.ofWg w3 m os)) (Or.inl (Nat.zero_le _)))
      have hA2 := fun m os => HLeaf.out (wg w3 m os) (hr.mid (hm0.trans (Mid.ofWg w3 m os)) (Or.inl (Nat.zero_le _)))
      refine wp_region_quiet_wg (by kernel_rfl) (by kernel_rfl) ?_
      repeat
        (with_reducible refine wpQuiet_step (fun K hK => ?_))
        go_simp
        first
          | ((with_reducible refine hK _ ?_); clear hK K)
          | (rw [if_neg (by decide)]; (with_reducible refine hK _ ?_); clear hK K)
          | (apply Exists.intro; refine ⟨fun _ => ?_, hK _ ?_⟩; ((first | (go_at_call 40; exact Calls.wg_of (hA1 _ _)) | (go_at_call 117; exact Calls.wg_of (hA2 _ _)))); clear hK K)
      with_reducible refine wpQuiet_nil ?_
      intro _ hw'
      obtain ⟨⟨nq, osq⟩, hw''⟩ := hw'
      subst hw''
      go_wp2_with fail
      go_ret
      exact ⟨rfl, hm0.trans (Mid.ofWg w3 nq osq)⟩
  · obtain rfl : b = false := bool_no HB.out fun h => hf h.fol
    have hFol := fun W h => spec_IsFolded r s A es c W lo hi h hl false (iff_of_false Bool.false_ne_true hf)
    have HFol := Lib.hid hFol
    clear hf HB hFol
    go_enter Try.func91, Try.ntmps91
    go_wp2_with fail
    generalize w.alloc (.cells #[.int .i64 r, .int .i64 s, .slice A es.length c] 28) = w3 at b0 hm0 ⊢
    have u0 := wg_cell b0.1 (b0.cell 0 rfl)
    have u1 := wg_cell b0.1 (b0.cell 1 rfl)
    have u2 := wg_cell b0.1 (b0.cell 2 rfl)
    have hA1 := fun m os => HFol.out (wg w3 m os) (hr.mid (hm0.trans (Mid.ofWg w3 m os)) (Or.inl (Nat.zero_le _)))
    refine wp_region_quiet_wg (by kernel_rfl) (by kernel_rfl) ?_
    repeat
      (with_reducible refine wpQuiet_step (fun K hK => ?_))
      go_simp
      first
        | ((with_reducible refine hK _ ?_); clear hK K)
        | (rw [if_neg (by decide)]; (with_reducible refine hK _ ?_); clear hK K)
        | (apply Exists.intro; refine ⟨fun _ => ?_, hK _ ?_⟩; ((go_at_call 40; exact Calls.wg_of (hA1 _ _))); clear hK K)
    with_reducible refine wpQuiet_nil ?_
    intro _ hw'
    obtain ⟨⟨nq, osq⟩, hw''⟩ := hw'
    subst hw''
    go_wp2_with fail
    go_ret
    exact ⟨rfl, hm0.trans (Mid.ofWg w3 nq osq)⟩

set_option maxHeartbeats 1600000 in
theorem spec_IsSubgroup (r s : Int) (A : Option Addr) (es : List Ed) (c : Nat) (w : World) (lo hi : Nat) (hr : RG w lo hi A es) (hl : es.length ≤ 1048576) (b : Bool) (hb : b = true ↔ IsCor r s es) :
    Calls Try.prog 56 #[graV r s A es.length c] w fun e w' => e = .returned (.bool b) ∧ Mid 0 0 w w' := by
  have hm0 : Mid 0 0 w (w.alloc (.cells #[.int .i64 r, .int .i64 s, .slice A es.length c] 28)) := Mid.alloc _ _
  have HB := Lib.hid hb
  clear hb
  go_enter Try.func56, Try.ntmps56
  go_wp2_with fail
  with_reducible refine (spec_IsCore r s A es c _ _ _ (hr.mid hm0 (Or.inl (Nat.zero_le _))) hl b HB.out).mono ?_
  rintro en w1 ⟨rfl, hm1⟩
  go_wp2_with fail
  go_ret
  exact ⟨rfl, hm0.trans hm1⟩

open Classical in
/-- The rank of the subgroup, -1 if it is none. -/
noncomputable def rankI (r s : Int) (es : List Ed) : Int := if IsCor r s es then (es.length : Int) - s + 1 else -1

end Go.Proofs.Ytimmnnncgnnkgaa

/- ComponentRanks, both sides. -/
namespace Go.Proofs.Ytimmnnncgnnkgaa
set_option linter.unusedVariables false
set_option linter.unusedSimpArgs false
open Go.RowKit

def CompOk (r s : Int) (es : List Ed) (r' s' : Int) (es' : List Ed) : Prop := IsCor r s es ∧ IsCor r' s' es' ∧ r = r'
def CompIs (r s : Int) (es : List Ed) (r' s' : Int) (es' : List Ed) (res : List Int) : Prop :=
  (CompOk r s es r' s' es' ∧ res = (compSt es es' r.toNat s'.toNat (s.toNat * s'.toNat)).2) ∨ (¬ CompOk r s es r' s' es' ∧ res = [])
theorem CompIs_ex (r s : Int) (es : List Ed) (r' s' : Int) (es' : List Ed) : ∃ res, CompIs r s es r' s' es' res := by
  by_cases h : CompOk r s es r' s' es'
  · exact ⟨_, .inl ⟨h, rfl⟩⟩
  · exact ⟨_, .inr ⟨h, rfl⟩⟩
theorem CompIs.no {r s : Int} {es : List Ed} {r' s' : Int} {es' : List Ed} {res : List Int} (h : CompIs r s es r' s' es' res) (hn : ¬ CompOk r s es r' s' es') : res = [] := by
  rcases h with ⟨h, -⟩ | ⟨-, h⟩
  · exact absurd h hn
  · exact h
theorem CompIs.yes {r s : Int} {es : List Ed} {r' s' : Int} {es' : List Ed} {res : List Int} (h : CompIs r s es r' s' es' res) (hn : CompOk r s es r' s' es') : res = (compSt es es' r.toNat s'.toNat (s.toNat * s'.toNat)).2 := by
  rcases h with ⟨-, h⟩ | ⟨h, -⟩
  · exact h
  · exact absurd hn h
theorem CompIs.lens {r s : Int} {es : List Ed} {r' s' : Int} {es' : List Ed} {res : List Int} (h : CompIs r s es r' s' es' res) : res.length ≤ 1600 := by
  rcases h with ⟨h, e⟩ | ⟨-, e⟩
  · rw [e]
    have h1 := compSt_len es es' r.toNat s'.toNat (s.toNat * s'.toNat)
    have h2 := h.1.gr.size
    have h3 := h.2.1.gr.size
    have h4 : s.toNat * s'.toNat ≤ 40 * 40 := Nat.mul_le_mul (by omega) (by omega)
    omega
  · rw [e]
    simp
theorem pbRank_bd {ea eb : List Ed} {r : Nat} {P : PS} (hr : r ≤ 3) (hP : P.length ≤ 1600) : -1600 ≤ pbRank ea eb r P ∧ pbRank ea eb r P ≤ 4801 := by
  have h1 := pbAll_len ea eb r P P.length
  have h2 : P.length * r ≤ 1600 * 3 := Nat.mul_le_mul hP hr
  unfold pbRank
  omega
theorem RV.pc {w : World} {lo hi : Nat} {A : Option Addr} {ps : List Pc} {k : Nat} (h : RV w lo hi A (pcV ps)) (hk : k < ps.length) :
    ∃ b off p, A = some ⟨b, off, none⟩ ∧ b < hi ∧ ps[k]? = some p ∧ w.cell? ⟨b, off + k * 5, none⟩ = some (.int .i64 p.u) ∧ w.cell? ⟨b, off + k * 5 + 1, none⟩ = some (.int .i64 p.v) ∧ w.cell? ⟨b, off + k * 5 + 2, none⟩ = some (.int .i64 p.n) ∧ w.cell? ⟨b, off + k * 5 + 3, none⟩ = some (.int .i64 p.m) ∧ w.cell? ⟨b, off + k * 5 + 4, none⟩ = some (.bool p.e) := by
  obtain ⟨p, hp⟩ := get_of_lt ps hk
  obtain ⟨b, off, e, -, hb, hc⟩ := h.2 (by intro h0; have := congrArg List.length h0; rw [pcV_len] at this; simp at this; omega)
  refine ⟨b, off, p, e, hb, hp, hc (k * 5) _ (pcV_at (i := 0) hp rfl), hc (k * 5 + 1) _ (pcV_at (i := 1) hp rfl), hc (k * 5 + 2) _ (pcV_at (i := 2) hp rfl), hc (k * 5 + 3) _ (pcV_at (i := 3) hp rfl), hc (k * 5 + 4) _ (pcV_at (i := 4) hp rfl)⟩

set_option maxHeartbeats 6400000 in
set_option maxRecDepth 100000 in
theorem impl_ComponentRanks (r s : Int) (A : Option Addr) (es : List Ed) (c : Nat) (r' s' : Int) (B : Option Addr) (es' : List Ed) (d : Nat) (w : World) (lo hi lo2 hi2 : Nat)
    (hr : RG w lo hi A es) (hr2 : RG w lo2 hi2 B es') (hl : es.length ≤ 1048576) (hl2 : es'.length ≤ 1048576) (hcl : es.length ≤ c) (hcl2 : es'.length ≤ d) (res : List Int) (hres : CompIs r s es r' s' es' res) :
    Calls Try.prog 19 #[graV r s A es.length c, graV r' s' B es'.length d] w fun e w' => ∃ A1 c1, e = .returned (.slice A1 res.length c1) ∧ OI w' w.heap.size w'.heap.size A1 c1 res ∧ Mid 0 0 w w' := by
  have HR := Lib.hid hres
  clear hres
  obtain ⟨b1, hb1⟩ := bool_of (IsCor r s es)
  have H1 := Lib.hid hb1
  obtain ⟨b2, hb2⟩ := bool_of (IsCor r' s' es')
  have H2 := Lib.hid hb2
  clear hb1 hb2
  have hm0 : Mid 0 0 w (((w.alloc (.cells #[.int .i64 r, .int .i64 s, .slice A es.length c] 28)).alloc (.cells #[.int .i64 r', .int .i64 s', .slice B es'.length d] 28)).alloc (.cells #[] 3)) := ((Mid.alloc _ _).trans (Mid.alloc _ _)).trans (Mid.alloc _ _)
  have B0 := ((Box.new w #[.int .i64 r, .int .i64 s, .slice A es.length c] 28).mid (Mid.alloc _ (.cells #[.int .i64 r', .int .i64 s', .slice B es'.length d] 28)) (Or.inr (Nat.zero_le _))).mid (Mid.alloc _ (.cells #[] 3)) (Or.inr (Nat.zero_le _))
  have B1 := (Box.new (w.alloc (.cells #[.int .i64 r, .int .i64 s, .slice A es.length c] 28)) #[.int .i64 r', .int .i64 s', .slice B es'.length d] 28).mid (Mid.alloc _ (.cells #[] 3)) (Or.inr (Nat.zero_le _))
  have O0 := owns_empty ((w.alloc (.cells #[.int .i64 r, .int .i64 s, .slice A es.length c] 28)).alloc (.cells #[.int .i64 r', .int .i64 s', .slice B es'.length d] 28)) 3 1
  simp only [World.size_alloc] at B1 O0
  go_enter Try.func19, Try.ntmps19
  go_wp2_with fail
  generalize hw1 : ((w.alloc (.cells #[.int .i64 r, .int .i64 s, .slice A es.length c] 28)).alloc (.cells #[.int .i64 r', .int .i64 s', .slice B es'.length d] 28)).alloc (.cells #[] 3) = w1 at hm0 B0 B1 O0 ⊢
  have hs1 : w.heap.size + 1 + 1 < w1.heap.size := by rw [← hw1]; simp
  clear hw1
  with_reducible refine (impl_IsCore r s A es c _ _ _ (hr.mid hm0 (Or.inl (Nat.zero_le _))) hl hcl b1 H1.out).mono ?_
  rintro en w2 ⟨rfl, hm2⟩
  replace B0 := B0.mid hm2 (Or.inr (Nat.zero_le _))
  replace B1 := B1.mid hm2 (Or.inr (Nat.zero_le _))
  replace O0 := owns_mid O0 hm2 (Or.inl (Nat.zero_le _))
  replace hm0 := hm0.trans hm2
  have hs2 := hm2.size
  have p0 := B0.cell 0 rfl
  have p1 := B0.cell 1 rfl
  have p2 := B0.cell 2 rfl
  have k0 := B1.cell 0 rfl
  have k1 := B1.cell 1 rfl
  have k2 := B1.cell 2 rfl
  cases b1 with
  | false =>
    have hno : ¬ CompOk r s es r' s' es' := fun h => by
      have := H1.out.2 h.1; cases this
    obtain rfl := HR.out.no hno
    go_wp2_with fail
    go_ret
    exact ⟨_, _, rfl, ⟨Nat.le_refl _, owns_base O0 (by omega), fun g hg => (O0.lt g hg).2⟩, hm0⟩
  | true =>
  have F1 := Lib.hid (H1.out.1 rfl)
  clear H1
  go_wp2_with fail
  with_reducible refine (impl_IsCore r' s' B es' d _ _ _ (hr2.mid hm0 (Or.inl (Nat.zero_le _))) hl2 hcl2 b2 H2.out).mono ?_
  rintro en w3 ⟨rfl, hm3⟩
  replace B0 := B0.mid hm3 (Or.inr (Nat.zero_le _))
  replace B1 := B1.mid hm3 (Or.inr (Nat.zero_le _))
  replace O0 := owns_mid O0 hm3 (Or.inl (Nat.zero_le _))
  replace hm0 := hm0.trans hm3
  have hs3 := hm3.size
  clear p0 p1 p2 k0 k1 k2
  have p0 := B0.cell 0 rfl
  have p1 := B0.cell 1 rfl
  have p2 := B0.cell 2 rfl
  have k0 := B1.cell 0 rfl
  have k1 := B1.cell 1 rfl
  have k2 := B1.cell 2 rfl
  cases b2 with
  | false =>
    have hno : ¬ CompOk r s es r' s' es' := fun h => by
      have := H2.out.2 h.2.1; cases this
    obtain rfl := HR.out.no hno
    go_wp2_with fail
    go_ret
    exact ⟨_, _, rfl, ⟨Nat.le_refl _, owns_base O0 (by omega), fun g hg => (O0.lt g hg).2⟩, hm0⟩
  | true =>
  have F2 := Lib.hid (H2.out.1 rfl)
  have g1 := F1.out.gr.rank
  have g2 := F1.out.gr.size
  have g3 := F2.out.gr.size
  have g4 := F1.out.gr.len
  have g5 := F2.out.gr.len
  clear H2
  rcases (Decidable.em (r = r')).symm with hrk | hrk
  · have h1a : (r != r') = true := by simpa using hrk
    have hrk' := Lib.hid hrk
    have hno : ¬ CompOk r s es r' s' es' := fun h => by
      exact hrk'.out h.2.2
    obtain rfl := HR.out.no hno
    go_wp2_with fail
    go_ret
    exact ⟨_, _, rfl, ⟨Nat.le_refl _, owns_base O0 (by omega), fun g hg => (O0.lt g hg).2⟩, hm0⟩
  subst hrk
  obtain ⟨rn, rfl⟩ : ∃ n : Nat, r = n := ⟨r.toNat, by omega⟩
  obtain ⟨sn, rfl⟩ : ∃ n : Nat, s = n := ⟨s.toNat, by omega⟩
  obtain ⟨tn, rfl⟩ : ∃ n : Nat, s' = n := ⟨s'.toNat, by omega⟩
  have hre := HR.out.yes ⟨F1.out, F2.out, rfl⟩
  rw [Int.toNat_natCast, Int.toNat_natCast, Int.toNat_natCast] at hre
  have HRE : Sec (res = (compSt es es' rn tn (sn * tn)).2) := ⟨hre⟩
  have hst16 : sn * tn ≤ 40 * 40 := Nat.mul_le_mul (by omega) (by omega)
  have HST := Lib.hid hst16
  have HSW : Hid (w.heap.size + 1 + 1 < w3.heap.size) := Lib.hid (by omega)
  clear hre HR hst16
  go_wp2_with fail
  with_reducible refine (impl_pieces rn sn tn A es c B es' d _ _ _ _ _ (hr.mid hm0 (Or.inl (Nat.zero_le _))) (hr2.mid hm0 (Or.inl (Nat.zero_le _))) F1.out.fol F2.out.fol).mono ?_
  rintro en w5 ⟨A5, c5, ps, V, rfl, hps, hrv, hm5⟩
  have O0' := O0
  replace B0 := B0.mid hm5 (Or.inr (Nat.zero_le _))
  replace B1 := B1.mid hm5 (Or.inr (Nat.zero_le _))
  replace O0 := owns_mid O0 hm5 (Or.inl (Nat.zero_le _))
  replace hm0 := hm0.trans hm5
  have hs5 := hm5.size
  have HRV := Lib.hid hrv
  have HPS := Lib.hid hps
  have hpl := hps.len
  have HRK : Sec (ps.map (fun p => p.m - p.n + 1) = (compSt es es' rn tn (sn * tn)).2) := ⟨hps.rk⟩
  have HBD := Lib.hid hps.bd
  have hpl16 : ps.length ≤ 1600 := by have := HST.out; omega
  generalize (some (⟨w.heap.size + 1 + 1, 0, none⟩ : Addr)) = AO at O0 O0' ⊢
  clear hm5 hrv hps hpl p0 p1 p2 k0 k1 k2 HPS
  obtain ⟨L, hL⟩ : ∃ L, ps.length = L := ⟨_, rfl⟩
  have HL := Lib.hid hL
  rw [hL] at hpl16 ⊢
  clear hL
  go_wp2_with fail
  have hd1 : ∀ g, Value.ownBlock (.slice AO 0 0) = some g → g < w3.heap.size ∨ w5.heap.size ≤ g := fun g hg => Or.inl (O0'.lt g hg).2
  have HD0 := Lib.hid hd1
  have HO0 := Lib.hid O0
  generalize w3.heap.size = Lq at HRV HD0 hs5 HSW
  generalize w5.heap.size = Hq at HRV HD0 hs5
  clear O0 O0' hd1 B0 B1
  go_loopw [5, 35] (fun ov iv wr => ∃ (k : Nat) (A1 : Option Addr) (c1 : Nat), Hid (k ≤ L) ∧ iv = .int .i64 k ∧ ov = .slice A1 k c1 ∧ Hid (wr.ownsRow (w.heap.size + 1 + 1) 3 1 (.slice A1 k c1) k (ints ((ps.map (fun p => p.m - p.n + 1)).take k))) ∧ Hid (RV wr Lq Hq A5 (pcV ps)) ∧ Hid (∀ g, Value.ownBlock (.slice A1 k c1) = some g → g < Lq ∨ Hq ≤ g) ∧ Mid 0 0 w wr) (fun _ iv _ => L - (intOf iv).toNat)
  case atStart => exact ⟨0, AO, 0, Lib.hid (Nat.zero_le _), rfl, rfl, HO0, HRV, HD0, hm0⟩
  case round =>
    clear HO0 HRV HD0 hm0
    obtain ⟨wo, hwo⟩ : ∃ wo, wo = wr := ⟨_, rfl⟩
    subst hwo
    obtain ⟨k, A1, c1, HK, rfl, rfl, HO, HRV, HD, hm⟩ := hrel
    have hkL := HK.out
    by_cases hlt : k < L
    · obtain ⟨B5, off, p, hA5, hB5, hp, e0, e1, e2, e3, e4⟩ := HRV.out.pc (k := k) (by rw [HL.out]; exact hlt)
      subst hA5
      have hbd := HBD.out p (List.mem_of_getElem? hp)
      have HP := Lib.hid hp
      obtain ⟨pu, pv, pn, pm, pe⟩ := p
      simp only at e0 e1 e2 e3 e4 hbd
      have hk0 : (0 : Int) ≤ (k : Int) := by omega
      have hk1 : (k : Int) < (L : Int) := by omega
      have hb5 : B5 < wo.heap.size := Nat.lt_of_lt_of_le hB5 HRV.out.1
      have hal := Mid.alloc wo (.cells #[.int .i64 pu, .int .i64 pv, .int .i64 pn, .int .i64 pm, .bool pe] 87)
      have ZE := Box.new wo #[.int .i64 pu, .int .i64 pv, .int .i64 pn, .int .i64 pm, .bool pe] 87
      have HO1 := Lib.hid (HO.out.alloc (.cells #[.int .i64 pu, .int .i64 pv, .int .i64 pn, .int .i64 pm, .bool pe] 87))
      have HRV1 := Lib.hid (HRV.out.mid hal (Or.inl (Nat.zero_le _)))
      have hm1 := hm.trans hal
      have z2 := ZE.cell 2 rfl
      have z3 := ZE.cell 3 rfl
      clear hp HO HRV hm hal ZE
      go_wp2_with (at_builtin; refine MarkerX.to ?_)
      unfold MarkerX
      generalize hw8 : wo.alloc (.cells #[.int .i64 pu, .int .i64 pv, .int .i64 pn, .int .i64 pm, .bool pe] 87) = w8 at HO1 HRV1 hm1 ⊢
      have hs8 : wo.heap.size + 1 = w8.heap.size := by rw [← hw8]; simp
      rw [hs8]
      have hwo2 := hm1.size
      have hb8 : w.heap.size + 1 + 1 ≤ w8.heap.size := by have h1 := HSW.out; have h2 := HRV1.out.1; omega
      clear hw8 z2 z3 e0 e1 e2 e3 e4
      refine wpList_pushI2 rfl _ _ rfl (w.heap.size + 1 + 1) _ k _ _ rfl HO1.out (pm - pn + 1) rfl (by omega) hb8 ?_
      intro A2 c2 w12 ho12 hgr12 hat12
      have hm12 := Mid.of_grownRow HO1.out hgr12
      have hs12 := hm12.size
      have HRV2 := Lib.hid (HRV1.out.grown hgr12 HD.out)
      have hHq : Hq ≤ w8.heap.size := HRV1.out.1
      have HD2 : Hid (∀ g, Value.ownBlock (.slice A2 (k + 1) c2) = some g → g < Lq ∨ Hq ≤ g) := Lib.hid (by
        intro g hg
        rcases hat12 with h | h
        · exact HD.out g (h.symm.trans hg)
        · rw [h] at hg
          injection hg with hg
          omega)
      have htk : (ps.map (fun p => p.m - p.n + 1)).take (k + 1) = (ps.map (fun p => p.m - p.n + 1)).take k ++ [pm - pn + 1] := by
        refine take_succ_of _ ?_
        rw [List.getElem?_map, HP.out]
        rfl
      rw [← htk] at ho12
      have HO2 := Lib.hid ho12
      have hm2' := hm1.transNew hm12 (Or.inl (by omega))
      clear ho12 hgr12 hat12 hm12 htk HRV1 HO1 HD hm1
      go_wp2_with fail
      go_roundw
      case rel => exact ⟨k + 1, A2, c2, Lib.hid (by omega), by go_num, rfl, HO2, HRV2, HD2, hm2'⟩
      case measure => simp [intOf]; omega
    · obtain rfl : L = k := by omega
      have htk : (ps.map (fun p => p.m - p.n + 1)).take L = res := by rw [HRE.out, ← HRK.out]; exact List.take_of_length_le (by rw [List.length_map, HL.out]; exact Nat.le_refl _)
      have hlen : res.length = L := by rw [← htk, List.length_take, List.length_map, HL.out]; omega
      rw [htk] at HO
      have HLEN := Lib.hid hlen
      clear htk hlen HRE HRK
      go_wp2_with fail
      go_ret
      exact ⟨A1, c1, by rw [HLEN.out]; rfl, ⟨Nat.le_refl _, by rw [HLEN.out]; exact owns_base HO.out (by omega), fun g hg => by rw [HLEN.out] at hg; exact (HO.out.lt g hg).2⟩, hm⟩

set_option maxHeartbeats 6400000 in
set_option maxRecDepth 100000 in
theorem spec_ComponentRanks (r s : Int) (A : Option Addr) (es : List Ed) (c : Nat) (r' s' : Int) (B : Option Addr) (es' : List Ed) (d : Nat) (w : World) (lo hi lo2 hi2 : Nat)
    (hr : RG w lo hi A es) (hr2 : RG w lo2 hi2 B es') (hl : es.length ≤ 1048576) (hl2 : es'.length ≤ 1048576) (res : List Int) (hres : CompIs r s es r' s' es' res) :
    Calls Try.prog 18 #[graV r s A es.length c, graV r' s' B es'.length d] w fun e w' => ∃ A1 c1, e = .returned (.slice A1 res.length c1) ∧ OI w' w.heap.size w'.heap.size A1 c1 res ∧ Mid 0 0 w w' := by
  have HR := Lib.hid hres
  clear hres
  obtain ⟨b1, hb1⟩ := bool_of (IsCor r s es)
  have H1 := Lib.hid hb1
  obtain ⟨b2, hb2⟩ := bool_of (IsCor r' s' es')
  have H2 := Lib.hid hb2
  clear hb1 hb2
  have hm0 : Mid 0 0 w (((w.alloc (.cells #[.int .i64 r, .int .i64 s, .slice A es.length c] 28)).alloc (.cells #[.int .i64 r', .int .i64 s', .slice B es'.length d] 28)).alloc (.cells #[] 3)) := ((Mid.alloc _ _).trans (Mid.alloc _ _)).trans (Mid.alloc _ _)
  have B0 := ((Box.new w #[.int .i64 r, .int .i64 s, .slice A es.length c] 28).mid (Mid.alloc _ (.cells #[.int .i64 r', .int .i64 s', .slice B es'.length d] 28)) (Or.inr (Nat.zero_le _))).mid (Mid.alloc _ (.cells #[] 3)) (Or.inr (Nat.zero_le _))
  have B1 := (Box.new (w.alloc (.cells #[.int .i64 r, .int .i64 s, .slice A es.length c] 28)) #[.int .i64 r', .int .i64 s', .slice B es'.length d] 28).mid (Mid.alloc _ (.cells #[] 3)) (Or.inr (Nat.zero_le _))
  have O0 := owns_empty ((w.alloc (.cells #[.int .i64 r, .int .i64 s, .slice A es.length c] 28)).alloc (.cells #[.int .i64 r', .int .i64 s', .slice B es'.length d] 28)) 3 1
  simp only [World.size_alloc] at B1 O0
  go_enter Try.func18, Try.ntmps18
  go_wp2_with fail
  generalize hw1 : ((w.alloc (.cells #[.int .i64 r, .int .i64 s, .slice A es.length c] 28)).alloc (.cells #[.int .i64 r', .int .i64 s', .slice B es'.length d] 28)).alloc (.cells #[] 3) = w1 at hm0 B0 B1 O0 ⊢
  have hs1 : w.heap.size + 1 + 1 < w1.heap.size := by rw [← hw1]; simp
  clear hw1
  with_reducible refine (spec_IsSubgroup r s A es c _ _ _ (hr.mid hm0 (Or.inl (Nat.zero_le _))) hl b1 H1.out).mono ?_
  rintro en w2 ⟨rfl, hm2⟩
  replace B0 := B0.mid hm2 (Or.inr (Nat.zero_le _))
  replace B1 := B1.mid hm2 (Or.inr (Nat.zero_le _))
  replace O0 := owns_mid O0 hm2 (Or.inl (Nat.zero_le _))
  replace hm0 := hm0.trans hm2
  have hs2 := hm2.size
  have p0 := B0.cell 0 rfl
  have p1 := B0.cell 1 rfl
  have p2 := B0.cell 2 rfl
  have k0 := B1.cell 0 rfl
  have k1 := B1.cell 1 rfl
  have k2 := B1.cell 2 rfl
  cases b1 with
  | false =>
    have hno : ¬ CompOk r s es r' s' es' := fun h => by
      have := H1.out.2 h.1; cases this
    obtain rfl := HR.out.no hno
    go_wp2_with fail
    go_ret
    exact ⟨_, _, rfl, ⟨Nat.le_refl _, owns_base O0 (by omega), fun g hg => (O0.lt g hg).2⟩, hm0⟩
  | true =>
  have F1 := Lib.hid (H1.out.1 rfl)
  clear H1
  go_wp2_with fail
  with_reducible refine (spec_IsSubgroup r' s' B es' d _ _ _ (hr2.mid hm0 (Or.inl (Nat.zero_le _))) hl2 b2 H2.out).mono ?_
  rintro en w3 ⟨rfl, hm3⟩
  replace B0 := B0.mid hm3 (Or.inr (Nat.zero_le _))
  replace B1 := B1.mid hm3 (Or.inr (Nat.zero_le _))
  replace O0 := owns_mid O0 hm3 (Or.inl (Nat.zero_le _))
  replace hm0 := hm0.trans hm3
  have hs3 := hm3.size
  clear p0 p1 p2 k0 k1 k2
  have p0 := B0.cell 0 rfl
  have p1 := B0.cell 1 rfl
  have p2 := B0.cell 2 rfl
  have k0 := B1.cell 0 rfl
  have k1 := B1.cell 1 rfl
  have k2 := B1.cell 2 rfl
  cases b2 with
  | false =>
    have hno : ¬ CompOk r s es r' s' es' := fun h => by
      have := H2.out.2 h.2.1; cases this
    obtain rfl := HR.out.no hno
    go_wp2_with fail
    go_ret
    exact ⟨_, _, rfl, ⟨Nat.le_refl _, owns_base O0 (by omega), fun g hg => (O0.lt g hg).2⟩, hm0⟩
  | true =>
  have F2 := Lib.hid (H2.out.1 rfl)
  have g1 := F1.out.gr.rank
  have g2 := F1.out.gr.size
  have g3 := F2.out.gr.size
  have g4 := F1.out.gr.len
  have g5 := F2.out.gr.len
  clear H2
  rcases (Decidable.em (r = r')).symm with hrk | hrk
  · have h1a : (r != r') = true := by simpa using hrk
    have hrk' := Lib.hid hrk
    have hno : ¬ CompOk r s es r' s' es' := fun h => by
      exact hrk'.out h.2.2
    obtain rfl := HR.out.no hno
    go_wp2_with fail
    go_ret
    exact ⟨_, _, rfl, ⟨Nat.le_refl _, owns_base O0 (by omega), fun g hg => (O0.lt g hg).2⟩, hm0⟩
  subst hrk
  obtain ⟨rn, rfl⟩ : ∃ n : Nat, r = n := ⟨r.toNat, by omega⟩
  obtain ⟨sn, rfl⟩ : ∃ n : Nat, s = n := ⟨s.toNat, by omega⟩
  obtain ⟨tn, rfl⟩ : ∃ n : Nat, s' = n := ⟨s'.toNat, by omega⟩
  have hre := HR.out.yes ⟨F1.out, F2.out, rfl⟩
  rw [Int.toNat_natCast, Int.toNat_natCast, Int.toNat_natCast] at hre
  have HRE : Sec (res = (compSt es es' rn tn (sn * tn)).2) := ⟨hre⟩
  have hst16 : sn * tn ≤ 40 * 40 := Nat.mul_le_mul (by omega) (by omega)
  have HST := Lib.hid hst16
  have HSW : Hid (w.heap.size + 1 + 1 < w3.heap.size) := Lib.hid (by omega)
  clear hre HR hst16
  obtain ⟨N, hN⟩ : ∃ N : Nat, (sn : Int) * (tn : Int) = (N : Int) := ⟨sn * tn, by simp⟩
  have hNN : sn * tn = N := by exact_mod_cast hN
  have hN16 : N ≤ 1600 := by have := HST.out; omega
  have hmx : N ≤ maxLen := by unfold maxLen; omega
  have HNN := Lib.hid hN
  have HNM := Lib.hid hNN
  rw [hNN] at HRE
  have htn0 : ¬ tn = 0 := by omega
  clear hNN p0 p1 p2 k0 k1 k2
  have p0 := B0.cell 0 rfl
  have p1 := B0.cell 1 rfl
  have p2 := B0.cell 2 rfl
  have k0 := B1.cell 0 rfl
  have k1 := B1.cell 1 rfl
  have k2 := B1.cell 2 rfl
  go_wp2_with (at_make; refine MarkerX.to ?_)
  unfold MarkerX
  refine wpList_mk rfl _ _ 82 rfl 4 (.bool false) 1 undSB infoB rfl .i64 .i64 _ _ N rfl rfl rfl rfl (by omega) hmx ?_
  intro w5 hown5 hgr5 hsz5
  have hmg := Mid.of_grown (lo := 0) (hi := 0) hgr5 (by intro g h; cases h)
  replace hm0 := hm0.trans hmg
  replace B0 := B0.mid hmg (Or.inr (Nat.zero_le _))
  replace B1 := B1.mid hmg (Or.inr (Nat.zero_le _))
  have O1 := owns_mid O0 hmg (Or.inl (Nat.zero_le _))
  have hO3 : ∀ g, Value.ownBlock (.slice (some (⟨w.heap.size + 1 + 1, 0, none⟩ : Addr)) 0 0) = some g → g ≠ w3.heap.size := fun g hg => Nat.ne_of_lt (O0.lt g hg).2
  have hsb : w.heap.size + 1 + 1 < w3.heap.size := HSW.out
  obtain ⟨Sb, hSb⟩ : ∃ Sb, w3.heap.size = Sb := ⟨_, rfl⟩
  rw [hSb] at hown5 hsz5 hO3 hsb ⊢
  rw [← seenOf_nil] at hown5
  have HO1 := Lib.hid O1
  have HS1 := Lib.hid hown5
  have HD1 := Lib.hid hO3
  generalize (some (⟨w.heap.size + 1 + 1, 0, none⟩ : Addr)) = AO at HO1 HD1 ⊢
  clear hown5 hgr5 hmg O0 O1 hO3 hSb hN p0 p1 p2 k0 k1 k2 hm2 hm3 hs2 hs3 hs1 HSW
  have hc0 : (compSt es es' rn tn 0).1.map (pcode tn) = [] := rfl
  rw [← hc0] at HS1
  have hlen0 : Hid ((compSt es es' rn tn 0).2.length = 0) := Lib.hid rfl
  have hres0 : ints (compSt es es' rn tn 0).2 = [] := rfl
  rw [← hres0] at HO1
  clear hc0 hres0
  go_wp2_with fail
  go_loopw [5, 7] (fun ov iv wr => ∃ (i n1 : Nat) (A1 : Option Addr) (c1 : Nat), Hid (i ≤ N) ∧ iv = .int .i64 i ∧ ov = .slice A1 n1 c1 ∧ Hid ((compSt es es' rn tn i).2.length = n1) ∧ Hid (wr.ownsRow (w.heap.size + 1 + 1) 3 1 (.slice A1 n1 c1) n1 (ints (compSt es es' rn tn i).2)) ∧ Hid (∀ g, Value.ownBlock (.slice A1 n1 c1) = some g → g ≠ Sb) ∧ Hid (wr.ownsRow Sb 4 1 (.slice (some ⟨Sb, 0, none⟩) N N) N (seenOf N ((compSt es es' rn tn i).1.map (pcode tn)))) ∧ Box wr w.heap.size [.int .i64 rn, .int .i64 sn, .slice A es.length c] ∧ Box wr (w.heap.size + 1) [.int .i64 rn, .int .i64 tn, .slice B es'.length d] ∧ Mid 0 0 w wr) (fun _ iv _ => N - (intOf iv).toNat)
  case atStart => exact ⟨0, 0, AO, 0, Lib.hid (Nat.zero_le _), rfl, rfl, hlen0, HO1, HD1, HS1, B0, B1, hm0⟩
  case round =>
    clear HO1 HD1 HS1 B0 B1 hm0 hlen0
    obtain ⟨wo, hwo⟩ : ∃ wo, wo = wr := ⟨_, rfl⟩
    subst hwo
    obtain ⟨i, n1, A1, c1, HI, rfl, rfl, HN1, HO, HD, HS, B0, B1, hm⟩ := hrel
    have hiN := HI.out
    have hn1 : n1 ≤ 1600 := by have h1 := compSt_len es es' rn tn i; have h2 := HN1.out; omega
    by_cases hlt : i < N
    · have hi0 : (0 : Int) ≤ (i : Int) := by omega
      have hi1 : (i : Int) < (N : Int) := by omega
      have hpin : PIn sn tn (pairAt tn i) := pairAt_in (by rw [HNM.out]; exact hlt)
      have hpc := pairAt_code tn i
      obtain ⟨q, a, b, mm, hpab, ha, hb, -, -, hq, hpcq, -, hqd, hqm⟩ := pcode_nat HNN.out hpin
      have hqi : q = i := by rw [hpc] at hpcq; omega
      subst hqi
      have HPAB := Lib.hid hpab
      have HPIN := Lib.hid hpin
      obtain ⟨S0, hS0⟩ : ∃ S0, (compSt es es' rn tn q).1 = S0 := ⟨_, rfl⟩
      have hSok := compSt_ok (r := rn) F1.out.gr F2.out.gr q (by rw [HNM.out]; exact Nat.le_of_lt hlt)
      rw [hS0] at hSok HS
      have HS0 : Sec ((compSt es es' rn tn q).1 = S0) := ⟨hS0⟩
      have hPB : ((q : Int) ∈ S0.map (pcode tn)) ↔ pairAt tn q ∈ S0 := by
        constructor
        · intro h
          obtain ⟨p, hp, he⟩ := List.mem_map.1 h
          have h2 := pcode_inj (hSok.rng p hp) hpin (he.trans hpc.symm)
          rw [← h2]
          exact hp
        · exact fun h => List.mem_map.2 ⟨_, h, hpc⟩
      have HPB := Lib.hid hPB
      have HSO := Lib.hid hSok
      clear hPB hSok hS0 hpc hpcq hpab hpin
      have hcs := (HS.out.cellAt q (by omega)).trans (seenOf_get hq)
      obtain ⟨bb, hbb⟩ : ∃ bb : Bool, decide ((q : Int) ∈ S0.map (pcode tn)) = bb := ⟨_, rfl⟩
      rw [hbb] at hcs
      have HBB := Lib.hid hbb
      clear hbb
      cases bb with
      | true =>
        have hin : pairAt tn q ∈ (compSt es es' rn tn q).1 := by rw [HS0.out]; exact HPB.out.1 (of_decide_eq_true HBB.out)
        have hc := compSt_in hin
        rw [← HS0.out, ← hc] at HS
        rw [← hc] at HO HN1
        clear hin hc
        go_wp2_with fail
        go_roundw
        case rel => exact ⟨q + 1, n1, A1, c1, Lib.hid (by omega), by go_num, rfl, HN1, HO, HD, HS, B0, B1, hm⟩
        case measure => simp [intOf]; omega
      | false =>
        have hnin : pairAt tn q ∉ (compSt es es' rn tn q).1 := by
          rw [HS0.out]
          exact fun h => absurd (HPB.out.2 h) (of_decide_eq_false HBB.out)
        have hcx := compSt_new (ea := es) (eb := es') (r := rn) (sb := tn) (i := q) hnin
        have HCX : Sec (compSt es es' rn tn (q + 1) = ((compSt es es' rn tn q).1 ++ pairsOf es es' (lets rn) (pairAt tn q), (compSt es es' rn tn q).2 ++ [pbRank es es' rn (pairsOf es es' (lets rn) (pairAt tn q))])) := ⟨hcx⟩
        have p1 := B0.cell 1 rfl
        have p0 := B0.cell 0 rfl
        have p2 := B0.cell 2 rfl
        have k0 := B1.cell 0 rfl
        have k1 := B1.cell 1 rfl
        have k2 := B1.cell 2 rfl
        clear hnin hcx HBB
        have hwa : IntKind.i64.wrap (a : Int) = (a : Int) := IntWalk.i64_in _ (by omega)
        have hwb : IntKind.i64.wrap (b : Int) = (b : Int) := IntWalk.i64_in _ (by omega)
        go_wp2_with fail
        have hmd := Mid.drew1 wo
        replace HO := Lib.hid (owns_mid HO.out hmd (Or.inl (Nat.zero_le _)))
        replace HS := Lib.hid (owns_mid HS.out hmd (Or.inl (Nat.zero_le _)))
        replace B0 := B0.mid hmd (Or.inr (Nat.zero_le _))
        replace B1 := B1.mid hmd (Or.inr (Nat.zero_le _))
        replace hm := hm.trans hmd
        clear p0 p1 p2 k0 k1 k2 hmd
        have p0 := B0.cell 0 rfl
        have p1 := B0.cell 1 rfl
        have p2 := B0.cell 2 rfl
        have k0 := B1.cell 0 rfl
        have k1 := B1.cell 1 rfl
        have k2 := B1.cell 2 rfl
        refine wp_region_still_tail 10 (by kernel_rfl) (by kernel_rfl) ?_
        simp only [List.take_succ_cons, List.take_zero, List.drop_succ_cons, List.drop_zero]
        change wpStill _ _ (World.drew wo) (fun a' => wpList _ _ _ _ a' (World.drew wo)) _ _
        generalize World.drew wo = wz at HO HS B0 B1 hm p0 p1 p2 k0 k1 k2 ⊢
        repeat
          (with_reducible refine wpStill_step (fun K hK => ?_))
          go_simp
          first
            | ((with_reducible refine hK _ ?_); clear hK K)
        with_reducible refine wpStill_nil ?_
        go_wp2_with fail
        with_reducible refine (spec_l14PairsO rn sn tn a b A B es es' c d _ _ _ _ _ (hr.mid hm (Or.inl (Nat.zero_le _))) (hr2.mid hm (Or.inl (Nat.zero_le _))) F1.out.gr F2.out.gr ha hb).mono ?_
        rintro en w6 ⟨A6, c6, rfl, hP6, hm6⟩
        have hO6 : ∀ g, Value.ownBlock (.slice A1 n1 c1) = some g → g < wz.heap.size := fun g hg => (HO.out.lt g hg).2
        have hSbz : Sb < wz.heap.size := (HS.out.lt Sb rfl).2
        replace HO := Lib.hid (owns_mid HO.out hm6 (Or.inl (Nat.zero_le _)))
        replace HS := Lib.hid (owns_mid HS.out hm6 (Or.inl (Nat.zero_le _)))
        replace B0 := B0.mid hm6 (Or.inr (Nat.zero_le _))
        replace B1 := B1.mid hm6 (Or.inr (Nat.zero_le _))
        replace hm := hm.trans hm6
        rw [HPAB.out] at HCX
        obtain ⟨P, hPP⟩ : ∃ P, pairsOf es es' (lets rn) ((a : Int), (b : Int)) = P := ⟨_, rfl⟩
        obtain ⟨PL, hPL⟩ : ∃ n, P.length = n := ⟨_, rfl⟩
        have hp0 : PIn sn tn ((a : Int), (b : Int)) := by rw [← HPAB.out]; exact HPIN.out
        have hPok := pairs_ok (lets rn) F1.out.gr.all F2.out.gr.all hp0
        have hPle := pairs_len (lets rn) F1.out.gr F2.out.gr hp0
        rw [hPP] at hPok hPle hP6 HCX ⊢
        rw [hPL] at hPle ⊢
        have HPL := Lib.hid hPL
        have HPK := Lib.hid hPok
        have HP6 := Lib.hid hP6
        have HO6 := Lib.hid hO6
        have hz6 := hm6.size
        clear hPP hPL hPok hP6 hO6 p0 p1 p2 k0 k1 k2 hp0 hm6
        generalize wz.heap.size = Lz at HP6 HO6 hSbz hz6
        have HS' : Hid (w6.ownsRow Sb 4 1 (.slice (some ⟨Sb, 0, none⟩) N N) N (seenOf N ((S0 ++ P.take 0).map (pcode tn)))) := by rw [List.take_zero, List.append_nil]; exact HS
        clear HS
        go_wp2_with fail
        go_loopw [9] (fun kv wr => ∃ k : Nat, Hid (k ≤ PL) ∧ kv = .int .i64 k ∧ Hid (wr.ownsRow Sb 4 1 (.slice (some ⟨Sb, 0, none⟩) N N) N (seenOf N ((S0 ++ P.take k).map (pcode tn)))) ∧ Hid (RV wr Lz w6.heap.size A6 (ints (P.map (pcode tn)))) ∧ Hid (wr.ownsRow (w.heap.size + 1 + 1) 3 1 (.slice A1 n1 c1) n1 (ints (compSt es es' rn tn q).2)) ∧ Box wr w.heap.size [.int .i64 rn, .int .i64 sn, .slice A es.length c] ∧ Box wr (w.heap.size + 1) [.int .i64 rn, .int .i64 tn, .slice B es'.length d] ∧ Mid 0 0 w wr) (fun kv _ => PL - (intOf kv).toNat)
        case atStart => exact ⟨0, Lib.hid (Nat.zero_le _), rfl, HS', HP6, HO, B0, B1, hm⟩
        case round =>
          clear HS' HP6 HO B0 B1 hm
          obtain ⟨wp, hwp⟩ : ∃ wp, wp = wr := ⟨_, rfl⟩
          subst hwp
          obtain ⟨k, HK, rfl, HS, HP6, HO, B0, B1, hm⟩ := hrel
          have hkP := HK.out
          by_cases hlt2 : k < PL
          · obtain ⟨pk, hpk⟩ := get_of_lt P (show k < P.length by rw [HPL.out]; exact hlt2)
            obtain ⟨qk, ak, bk, mk, -, -, -, -, -, hqk, hck, -, -, -⟩ := pcode_nat HNN.out (HPK.out.rng pk (List.mem_of_getElem? hpk))
            obtain ⟨B6, o6, x, hA6, hB6, hx, hcx⟩ := HP6.out.at (k := k) (by rw [List.length_map, HPL.out]; exact hlt2)
            subst hA6
            have hxq : x = (qk : Int) := by
              rw [List.getElem?_map, hpk] at hx
              injection hx with hx
              exact hx.symm.trans hck
            subst hxq
            have hk0 : (0 : Int) ≤ (k : Int) := by omega
            have hk1 : (k : Int) < (PL : Int) := by omega
            have hb6 : B6 < wp.heap.size := Nat.lt_of_lt_of_le hB6 HP6.out.1
            obtain ⟨u0, -, hcs⟩ := owns_cell HS.out hqk
            have hfz := HS.out.frozenAt qk
            have hst := Mid.setAt wp Sb qk (.bool true)
            have hse := owns_set HS.out qk (.bool true) (seenOf_set hqk)
            have hmap : (S0 ++ P.take k).map (pcode tn) ++ [(qk : Int)] = (S0 ++ P.take (k + 1)).map (pcode tn) := by
              simp [take_succ_of P hpk, hck]
            rw [hmap] at hse
            have HS2 := Lib.hid hse
            have HP2 := Lib.hid (HP6.out.mid hst (Or.inl (by omega)))
            have HO2 := Lib.hid (owns_other HO.out (grown_of_setCell wp Sb qk (.bool true)) (fun h => HD.out Sb h rfl))
            have C0 := B0.mid hst (Or.inl (by omega))
            have C1 := B1.mid hst (Or.inl (by omega))
            have hm2 := hm.transNew hst (Or.inl (by omega))
            have hq0 : (0 : Int) ≤ (qk : Int) := by omega
            have hq1 : (qk : Int) < (N : Int) := by omega
            clear hpk hx hck hst hse hmap HS HP6 HO B0 B1 hm
            go_wp2_with fail
            go_roundw
            case rel => exact ⟨k + 1, Lib.hid (by omega), by go_num, HS2, HP2, HO2, C0, C1, hm2⟩
            case measure => simp [intOf]; omega
          · obtain rfl : PL = k := by omega
            rw [List.take_of_length_le (by rw [HPL.out]; exact Nat.le_refl _)] at HS
            have p0 := B0.cell 0 rfl
            have p1 := B0.cell 1 rfl
            have p2 := B0.cell 2 rfl
            have k0 := B1.cell 0 rfl
            have k1 := B1.cell 1 rfl
            have k2 := B1.cell 2 rfl
            go_wp2_with fail
            with_reducible refine (spec_l14Edges rn sn tn A B A6 es es' P c d c6 PL _ _ _ _ _ _ _ (hr.mid hm (Or.inl (Nat.zero_le _))) (hr2.mid hm (Or.inl (Nat.zero_le _))) HP6.out F1.out.gr F2.out.gr HPK.out.rng HPL.out hPle).mono ?_
            rintro en w7 ⟨rfl, hm7⟩
            have hpal := pbAll_len es es' rn P PL
            have hpl3 : PL * rn ≤ 1600 * 3 := Nat.mul_le_mul hPle (by omega)
            obtain ⟨m, hmE⟩ : ∃ n, (pbAll es es' rn P PL).length = n := ⟨_, rfl⟩
            rw [hmE] at hpal ⊢
            have HME : Sec ((pbAll es es' rn P PL).length = m) := ⟨hmE⟩
            have hm48 : m ≤ 4800 := by omega
            replace HO := Lib.hid (owns_mid HO.out hm7 (Or.inl (Nat.zero_le _)))
            replace HS := Lib.hid (owns_mid HS.out hm7 (Or.inl (Nat.zero_le _)))
            replace B0 := B0.mid hm7 (Or.inr (Nat.zero_le _))
            replace B1 := B1.mid hm7 (Or.inr (Nat.zero_le _))
            replace hm := hm.trans hm7
            have hSb7 : Sb < w7.heap.size := (HS.out.lt Sb rfl).2
            have hb7 : w.heap.size + 1 + 1 ≤ w7.heap.size := by omega
            clear hmE hpal hpl3 p0 p1 p2 k0 k1 k2 hm7 HP6
            go_wp2_with (at_builtin; refine MarkerX.to ?_)
            unfold MarkerX
            refine wpList_pushI2 rfl _ _ rfl (w.heap.size + 1 + 1) _ n1 _ _ rfl HO.out ((m : Int) - (PL : Int) + 1) rfl (by omega) hb7 ?_
            intro A2 c2 w12 ho12 hgr12 hat12
            have hm12 := Mid.of_grownRow HO.out hgr12
            have HS2 := Lib.hid (HS.out.kept hgr12 (owns_ne HS.out HO.out (by decide)))
            have HD2 : Hid (∀ g, Value.ownBlock (.slice A2 (n1 + 1) c2) = some g → g ≠ Sb) := Lib.hid (by
              intro g hg
              rcases hat12 with h | h
              · exact HD.out g (h.symm.trans hg)
              · rw [h] at hg
                injection hg with hg
                omega)
            have h2 : (compSt es es' rn tn (q + 1)).2 = (compSt es es' rn tn q).2 ++ [(m : Int) - (PL : Int) + 1] := by
              rw [HCX.out]
              show _ ++ [pbRank es es' rn P] = _
              unfold pbRank
              rw [HPL.out, HME.out]
            have h1 : (compSt es es' rn tn (q + 1)).1 = S0 ++ P := by rw [HCX.out, HS0.out]
            rw [← h2] at ho12
            rw [← h1] at HS2
            have HO2 := Lib.hid ho12
            have HN2 : Hid ((compSt es es' rn tn (q + 1)).2.length = n1 + 1) := Lib.hid (by rw [h2, List.length_append, HN1.out]; rfl)
            replace B0 := B0.mid hm12 (Or.inl (by omega))
            replace B1 := B1.mid hm12 (Or.inl (by omega))
            replace hm := hm.transNew hm12 (Or.inl (by omega))
            clear ho12 hgr12 hat12 hm12 h1 h2 HO HS HD HCX HS0 HME
            go_wp2_with fail
            go_roundw
            case rel => exact ⟨q + 1, n1 + 1, A2, c2, Lib.hid (by omega), by go_num, rfl, HN2, HO2, HD2, HS2, B0, B1, hm⟩
            case measure => simp [intOf]; omega
    · obtain rfl : N = i := by omega
      rw [← HRE.out] at HO HN1
      have HLEN := HN1
      go_wp2_with fail
      go_ret
      exact ⟨A1, c1, by rw [HLEN.out]; rfl, ⟨Nat.le_refl _, by rw [HLEN.out]; exact owns_base HO.out (by omega), fun g hg => by rw [HLEN.out] at hg; exact (HO.out.lt g hg).2⟩, hm⟩
end Go.Proofs.Ytimmnnncgnnkgaa

/- NeumannSum, both sides. -/
namespace Go.Proofs.Ytimmnnncgnnkgaa
set_option linter.unusedVariables false
set_option linter.unusedSimpArgs false
open Go.RowKit

theorem compSt_bd {ra rb : Int} {sa sb : Nat} {ea eb : List Ed} {r : Nat} (ha : IsGr ra sa ea) (hb : IsGr rb sb eb) (hr : r ≤ 3) : ∀ i, i ≤ sa * sb → ∀ x ∈ (compSt ea eb r sb i).2, -1600 ≤ x ∧ x ≤ 4801
  | 0, _, x, hx => by simp [compSt] at hx
  | i + 1, hi, x, hx => by
    by_cases h : pairAt sb i ∈ (compSt ea eb r sb i).1
    · rw [compSt_in h] at hx
      exact compSt_bd ha hb hr i (by omega) x hx
    · rw [compSt_new h] at hx
      rcases List.mem_append.1 hx with hx | hx
      · exact compSt_bd ha hb hr i (by omega) x hx
      · rw [List.mem_singleton] at hx
        rw [hx]
        exact pbRank_bd hr (pairs_len (lets r) ha hb (pairAt_in (by omega)))
theorem CompIs.bd {r s : Int} {es : List Ed} {r' s' : Int} {es' : List Ed} {res : List Int} (h : CompIs r s es r' s' es' res) : ∀ x ∈ res, -1600 ≤ x ∧ x ≤ 4801 := by
  rcases h with ⟨h, e⟩ | ⟨-, e⟩
  · rw [e]
    have h1 := h.1.gr.rank
    have h2 := h.1.gr.size
    have h3 := h.2.1.gr.size
    have ga := h.1.gr
    have gb := h.2.1.gr
    obtain ⟨n, rfl⟩ : ∃ n : Nat, s = n := ⟨s.toNat, by omega⟩
    obtain ⟨m, rfl⟩ : ∃ m : Nat, s' = m := ⟨s'.toNat, by omega⟩
    exact compSt_bd ga gb (by omega) _ (Nat.le_refl _)
  · rw [e]
    simp
def neuS : List Int → Int
  | [] => 0
  | x :: t => max 0 (x - 1) + neuS t
theorem neuS_snoc (l : List Int) (x : Int) : neuS (l ++ [x]) = neuS l + max 0 (x - 1) := by
  induction l with
  | nil => simp [neuS]
  | cons y t ih =>
    show max 0 (y - 1) + neuS (t ++ [x]) = max 0 (y - 1) + neuS t + max 0 (x - 1)
    rw [ih]
    omega
theorem neuS_take {l : List Int} {k : Nat} {x : Int} (h : l[k]? = some x) : neuS (l.take (k + 1)) = neuS (l.take k) + max 0 (x - 1) := by rw [take_succ_of l h, neuS_snoc]
theorem neuS_bd : ∀ {l : List Int}, (∀ x ∈ l, -1600 ≤ x ∧ x ≤ 4801) → 0 ≤ neuS l ∧ neuS l ≤ 4801 * (l.length : Int)
  | [], _ => by simp [neuS]
  | x :: t, h => by
    have h1 := neuS_bd (l := t) fun y hy => h y (by simp [hy])
    have h2 := h x (by simp)
    simp only [neuS, List.length_cons]
    omega
def NeumIs (r s : Int) (es : List Ed) (r' s' : Int) (es' : List Ed) (res : Int) : Prop := ∃ l, CompIs r s es r' s' es' l ∧ res = neuS l
theorem NeumIs_ex (r s : Int) (es : List Ed) (r' s' : Int) (es' : List Ed) : ∃ res, NeumIs r s es r' s' es' res := by
  obtain ⟨l, hl⟩ := CompIs_ex r s es r' s' es'
  exact ⟨_, l, hl, rfl⟩

set_option maxHeartbeats 1600000 in
set_option maxRecDepth 20000 in
theorem impl_NeumannSum (r s : Int) (A : Option Addr) (es : List Ed) (c : Nat) (r' s' : Int) (B : Option Addr) (es' : List Ed) (d : Nat) (w : World) (lo hi lo2 hi2 : Nat)
    (hr : RG w lo hi A es) (hr2 : RG w lo2 hi2 B es') (hl : es.length ≤ 1048576) (hl2 : es'.length ≤ 1048576) (hcl : es.length ≤ c) (hcl2 : es'.length ≤ d) (res : Int) (hres : NeumIs r s es r' s' es' res) :
    Calls Try.prog 17 #[graV r s A es.length c, graV r' s' B es'.length d] w fun e w' => e = .returned (.int .i64 res) ∧ Mid 0 0 w w' := by
  obtain ⟨l, hl0, hres⟩ := hres
  have HC := Lib.hid hl0
  have HRES : Sec (res = neuS l) := ⟨hres⟩
  have HBD := Lib.hid hl0.bd
  have hlen := hl0.lens
  clear hl0 hres
  have hm0 : Mid 0 0 w ((w.alloc (.cells #[.int .i64 r, .int .i64 s, .slice A es.length c] 28)).alloc (.cells #[.int .i64 r', .int .i64 s', .slice B es'.length d] 28)) := (Mid.alloc _ _).trans (Mid.alloc _ _)
  have B0 := (Box.new w #[.int .i64 r, .int .i64 s, .slice A es.length c] 28).mid (Mid.alloc _ (.cells #[.int .i64 r', .int .i64 s', .slice B es'.length d] 28)) (Or.inr (Nat.zero_le _))
  have B1 := Box.new (w.alloc (.cells #[.int .i64 r, .int .i64 s, .slice A es.length c] 28)) #[.int .i64 r', .int .i64 s', .slice B es'.length d] 28
  rw [World.size_alloc] at B1
  go_enter Try.func17, Try.ntmps17
  go_wp2_with fail
  generalize hw1 : (w.alloc (.cells #[.int .i64 r, .int .i64 s, .slice A es.length c] 28)).alloc (.cells #[.int .i64 r', .int .i64 s', .slice B es'.length d] 28) = w1 at hm0 B0 B1 ⊢
  clear hw1
  with_reducible refine (impl_ComponentRanks r s A es c r' s' B es' d _ _ _ _ _ (hr.mid hm0 (Or.inl (Nat.zero_le _))) (hr2.mid hm0 (Or.inl (Nat.zero_le _))) hl hl2 hcl hcl2 l HC.out).mono ?_
  rintro en w5 ⟨A5, c5, rfl, ho5, hm5⟩
  have HRV : Hid (RV w5 w1.heap.size w5.heap.size A5 (ints l)) := Lib.hid (OV.rv ho5)
  obtain ⟨L, hL⟩ : ∃ L, l.length = L := ⟨_, rfl⟩
  have HL := Lib.hid hL
  rw [hL] at hlen ⊢
  have hm := hm0.trans hm5
  clear hL ho5 hm0 hm5 B0 B1
  have hn0 : neuS (l.take 0) = 0 := rfl
  have HN0 := Lib.hid hn0
  clear hn0
  go_wp2_with fail
  go_loopw [5, 12] (fun nv iv wr => ∃ (k : Nat) (m : Int), Hid (k ≤ L) ∧ iv = .int .i64 k ∧ nv = .int .i64 m ∧ Hid (m = neuS (l.take k)) ∧ Mid 0 0 w wr ∧ wr = w5) (fun _ iv _ => L - (intOf iv).toNat)
  case atStart => exact ⟨0, 0, Lib.hid (Nat.zero_le _), rfl, rfl, Lib.hid rfl, hm, rfl⟩
  case round =>
    obtain ⟨k, m, HK, rfl, rfl, HM, -, rfl⟩ := hrel
    have hkL := HK.out
    have hmb : 0 ≤ m ∧ m ≤ 4801 * 1600 := by
      have h1 := neuS_bd (l := l.take k) fun x hx => HBD.out x (List.mem_of_mem_take hx)
      have h2 := HM.out
      have h3 : (l.take k).length ≤ 1600 := by rw [List.length_take]; omega
      omega
    by_cases hlt : k < L
    · obtain ⟨B5, o5, x, hA5, hB5, hx, hcx⟩ := HRV.out.at (k := k) (by rw [HL.out]; exact hlt)
      subst hA5
      have hxb := HBD.out x (List.mem_of_getElem? hx)
      have hk0 : (0 : Int) ≤ (k : Int) := by omega
      have hk1 : (k : Int) < (L : Int) := by omega
      have hb5 : B5 < wr.heap.size := Nat.lt_of_lt_of_le hB5 HRV.out.1
      have HM2 : Hid (m + max 0 (x - 1) = neuS (l.take (k + 1))) := Lib.hid (by rw [neuS_take hx, HM.out])
      have e1 : IntKind.i64.wrap (x - 1) = x - 1 := IntWalk.i64_in _ (by omega)
      have e2 : IntKind.i64.wrap (m + max 0 (x - 1)) = m + max 0 (x - 1) := IntWalk.i64_in _ (by omega)
      have e3 : wrap64 (x - 1) = x - 1 := by unfold wrap64; omega
      have e4 : wrap64 (m + max 0 (x - 1)) = m + max 0 (x - 1) := by unfold wrap64; omega
      clear hx
      go_wp2_with fail
      exact ⟨⟨k + 1, _, Lib.hid (by omega), by go_num, rfl, HM2, hm, trivial⟩, by simp [intOf]; omega⟩
    · obtain rfl : L = k := by omega
      have hfin : m = res := by rw [HM.out, HRES.out, List.take_of_length_le (by rw [HL.out]; exact Nat.le_refl _)]
      subst hfin
      go_wp2_with fail
      go_ret
      exact ⟨rfl, hm⟩

set_option maxHeartbeats 1600000 in
set_option maxRecDepth 20000 in
theorem spec_NeumannSum (r s : Int) (A : Option Addr) (es : List Ed) (c : Nat) (r' s' : Int) (B : Option Addr) (es' : List Ed) (d : Nat) (w : World) (lo hi lo2 hi2 : Nat)
    (hr : RG w lo hi A es) (hr2 : RG w lo2 hi2 B es') (hl : es.length ≤ 1048576) (hl2 : es'.length ≤ 1048576) (res : Int) (hres : NeumIs r s es r' s' es' res) :
    Calls Try.prog 16 #[graV r s A es.length c, graV r' s' B es'.length d] w fun e w' => e = .returned (.int .i64 res) ∧ Mid 0 0 w w' := by
  obtain ⟨l, hl0, hres⟩ := hres
  have HC := Lib.hid hl0
  have HRES : Sec (res = neuS l) := ⟨hres⟩
  have HBD := Lib.hid hl0.bd
  have hlen := hl0.lens
  clear hl0 hres
  have hm0 : Mid 0 0 w ((w.alloc (.cells #[.int .i64 r, .int .i64 s, .slice A es.length c] 28)).alloc (.cells #[.int .i64 r', .int .i64 s', .slice B es'.length d] 28)) := (Mid.alloc _ _).trans (Mid.alloc _ _)
  have B0 := (Box.new w #[.int .i64 r, .int .i64 s, .slice A es.length c] 28).mid (Mid.alloc _ (.cells #[.int .i64 r', .int .i64 s', .slice B es'.length d] 28)) (Or.inr (Nat.zero_le _))
  have B1 := Box.new (w.alloc (.cells #[.int .i64 r, .int .i64 s, .slice A es.length c] 28)) #[.int .i64 r', .int .i64 s', .slice B es'.length d] 28
  rw [World.size_alloc] at B1
  go_enter Try.func16, Try.ntmps16
  go_wp2_with fail
  generalize hw1 : (w.alloc (.cells #[.int .i64 r, .int .i64 s, .slice A es.length c] 28)).alloc (.cells #[.int .i64 r', .int .i64 s', .slice B es'.length d] 28) = w1 at hm0 B0 B1 ⊢
  clear hw1
  with_reducible refine (spec_ComponentRanks r s A es c r' s' B es' d _ _ _ _ _ (hr.mid hm0 (Or.inl (Nat.zero_le _))) (hr2.mid hm0 (Or.inl (Nat.zero_le _))) hl hl2 l HC.out).mono ?_
  rintro en w5 ⟨A5, c5, rfl, ho5, hm5⟩
  have HRV : Hid (RV w5 w1.heap.size w5.heap.size A5 (ints l)) := Lib.hid (OV.rv ho5)
  obtain ⟨L, hL⟩ : ∃ L, l.length = L := ⟨_, rfl⟩
  have HL := Lib.hid hL
  rw [hL] at hlen ⊢
  have hm := hm0.trans hm5
  clear hL ho5 hm0 hm5 B0 B1
  have hn0 : neuS (l.take 0) = 0 := rfl
  have HN0 := Lib.hid hn0
  clear hn0
  go_wp2_with fail
  go_loopw [6, 7] (fun nv iv wr => ∃ (k : Nat) (m : Int), Hid (k ≤ L) ∧ iv = .int .i64 k ∧ nv = .int .i64 m ∧ Hid (m = neuS (l.take k)) ∧ Mid 0 0 w wr ∧ wr = w5) (fun _ iv _ => L - (intOf iv).toNat)
  case atStart => exact ⟨0, 0, Lib.hid (Nat.zero_le _), rfl, rfl, Lib.hid rfl, hm, rfl⟩
  case round =>
    obtain ⟨k, m, HK, rfl, rfl, HM, -, rfl⟩ := hrel
    have hkL := HK.out
    have hmb : 0 ≤ m ∧ m ≤ 4801 * 1600 := by
      have h1 := neuS_bd (l := l.take k) fun x hx => HBD.out x (List.mem_of_mem_take hx)
      have h2 := HM.out
      have h3 : (l.take k).length ≤ 1600 := by rw [List.length_take]; omega
      omega
    by_cases hlt : k < L
    · obtain ⟨B5, o5, x, hA5, hB5, hx, hcx⟩ := HRV.out.at (k := k) (by rw [HL.out]; exact hlt)
      subst hA5
      have hxb := HBD.out x (List.mem_of_getElem? hx)
      have hk0 : (0 : Int) ≤ (k : Int) := by omega
      have hk1 : (k : Int) < (L : Int) := by omega
      have hb5 : B5 < wr.heap.size := Nat.lt_of_lt_of_le hB5 HRV.out.1
      have HM2 : Hid (m + max 0 (x - 1) = neuS (l.take (k + 1))) := Lib.hid (by rw [neuS_take hx, HM.out])
      have e1 : IntKind.i64.wrap (x - 1) = x - 1 := IntWalk.i64_in _ (by omega)
      have e2 : IntKind.i64.wrap (m + max 0 (x - 1)) = m + max 0 (x - 1) := IntWalk.i64_in _ (by omega)
      have e3 : wrap64 (x - 1) = x - 1 := by unfold wrap64; omega
      have e4 : wrap64 (m + max 0 (x - 1)) = m + max 0 (x - 1) := by unfold wrap64; omega
      clear hx
      go_wp2_with fail
      exact ⟨⟨k + 1, _, Lib.hid (by omega), by go_num, rfl, HM2, hm, trivial⟩, by simp [intOf]; omega⟩
    · obtain rfl : L = k := by omega
      have hfin : m = res := by rw [HM.out, HRES.out, List.take_of_length_le (by rw [HL.out]; exact Nat.le_refl _)]
      subst hfin
      go_wp2_with fail
      go_ret
      exact ⟨rfl, hm⟩
end Go.Proofs.Ytimmnnncgnnkgaa

/- The laws on ComponentRanks and NeumannSum: their data. -/
namespace Go.Proofs.Ytimmnnncgnnkgaa
set_option linter.unusedVariables false
open Go.RowKit
def ComponentRanksIs (r0 s0 : Int) (d0 : List Ed) (r1 s1 : Int) (d1 : List Ed) (res0 : List Int) : Prop := CompIs r0 s0 d0 r1 s1 d1 res0
theorem ComponentRanksIs_ex (r0 s0 : Int) (d0 : List Ed) (r1 s1 : Int) (d1 : List Ed) (hl0 : d0.length ≤ 1048576) (hl1 : d1.length ≤ 1048576) : ∃ res0, ComponentRanksIs r0 s0 d0 r1 s1 d1 res0 := CompIs_ex r0 s0 d0 r1 s1 d1
theorem ComponentRanksIs_len {r0 s0 : Int} {d0 : List Ed} {r1 s1 : Int} {d1 : List Ed} {res0 : List Int} (h : ComponentRanksIs r0 s0 d0 r1 s1 d1 res0) (hl0 : d0.length ≤ 1048576) (hl1 : d1.length ≤ 1048576) : res0.length ≤ 1048576 := by
  have := CompIs.lens h
  omega
def NeumannSumIs (r0 s0 : Int) (d0 : List Ed) (r1 s1 : Int) (d1 : List Ed) (res0 : Int) : Prop := NeumIs r0 s0 d0 r1 s1 d1 res0
theorem NeumannSumIs_ex (r0 s0 : Int) (d0 : List Ed) (r1 s1 : Int) (d1 : List Ed) (hl0 : d0.length ≤ 1048576) (hl1 : d1.length ≤ 1048576) : ∃ res0, NeumannSumIs r0 s0 d0 r1 s1 d1 res0 := NeumIs_ex r0 s0 d0 r1 s1 d1
theorem sspec_ComponentRanks (r0 s0 : Int) (A0 : Option Addr) (d0 : List Ed) (c0 : Nat) (r1 s1 : Int) (A1 : Option Addr) (d1 : List Ed) (c1 : Nat) (w : World) (lo0 hi0 : Nat) (h0 : OG w lo0 hi0 A0 c0 d0) (hl0 : d0.length ≤ 1048576) (lo1 hi1 : Nat) (h1 : OG w lo1 hi1 A1 c1 d1) (hl1 : d1.length ≤ 1048576) (res0 : List Int) (h : ComponentRanksIs r0 s0 d0 r1 s1 d1 res0) :
    Calls Try.prog 18 #[.agg #[.int .i64 r0, .int .i64 s0, .slice A0 d0.length c0], .agg #[.int .i64 r1, .int .i64 s1, .slice A1 d1.length c1]] w fun e w' => ∃ (A : Option Addr) (c : Nat), e = .returned (.slice A res0.length c) ∧ OI w' w.heap.size w'.heap.size A c res0 ∧ Mid 0 0 w w' :=
  spec_ComponentRanks r0 s0 A0 d0 c0 r1 s1 A1 d1 c1 w lo0 hi0 lo1 hi1 h0.rg h1.rg hl0 hl1 res0 h
theorem sspec_NeumannSum (r0 s0 : Int) (A0 : Option Addr) (d0 : List Ed) (c0 : Nat) (r1 s1 : Int) (A1 : Option Addr) (d1 : List Ed) (c1 : Nat) (w : World) (lo0 hi0 : Nat) (h0 : OG w lo0 hi0 A0 c0 d0) (hl0 : d0.length ≤ 1048576) (lo1 hi1 : Nat) (h1 : OG w lo1 hi1 A1 c1 d1) (hl1 : d1.length ≤ 1048576) (res0 : Int) (h : NeumannSumIs r0 s0 d0 r1 s1 d1 res0) :
    Calls Try.prog 16 #[.agg #[.int .i64 r0, .int .i64 s0, .slice A0 d0.length c0], .agg #[.int .i64 r1, .int .i64 s1, .slice A1 d1.length c1]] w fun e w' => e = .returned (.int .i64 res0) ∧ Mid 0 0 w w' :=
  spec_NeumannSum r0 s0 A0 d0 c0 r1 s1 A1 d1 c1 w lo0 hi0 lo1 hi1 h0.rg h1.rg hl0 hl1 res0 h
theorem simpl_ComponentRanks (r0 s0 : Int) (A0 : Option Addr) (d0 : List Ed) (c0 : Nat) (r1 s1 : Int) (A1 : Option Addr) (d1 : List Ed) (c1 : Nat) (w : World) (lo0 hi0 : Nat) (h0 : OG w lo0 hi0 A0 c0 d0) (hl0 : d0.length ≤ 1048576) (lo1 hi1 : Nat) (h1 : OG w lo1 hi1 A1 c1 d1) (hl1 : d1.length ≤ 1048576) (res0 : List Int) (h : ComponentRanksIs r0 s0 d0 r1 s1 d1 res0) :
    Calls Try.prog 19 #[.agg #[.int .i64 r0, .int .i64 s0, .slice A0 d0.length c0], .agg #[.int .i64 r1, .int .i64 s1, .slice A1 d1.length c1]] w fun e w' => ∃ (A : Option Addr) (c : Nat), e = .returned (.slice A res0.length c) ∧ OI w' w.heap.size w'.heap.size A c res0 ∧ Mid 0 0 w w' :=
  impl_ComponentRanks r0 s0 A0 d0 c0 r1 s1 A1 d1 c1 w lo0 hi0 lo1 hi1 h0.rg h1.rg hl0 hl1 h0.cnt.1 h1.cnt.1 res0 h
theorem simpl_NeumannSum (r0 s0 : Int) (A0 : Option Addr) (d0 : List Ed) (c0 : Nat) (r1 s1 : Int) (A1 : Option Addr) (d1 : List Ed) (c1 : Nat) (w : World) (lo0 hi0 : Nat) (h0 : OG w lo0 hi0 A0 c0 d0) (hl0 : d0.length ≤ 1048576) (lo1 hi1 : Nat) (h1 : OG w lo1 hi1 A1 c1 d1) (hl1 : d1.length ≤ 1048576) (res0 : Int) (h : NeumannSumIs r0 s0 d0 r1 s1 d1 res0) :
    Calls Try.prog 17 #[.agg #[.int .i64 r0, .int .i64 s0, .slice A0 d0.length c0], .agg #[.int .i64 r1, .int .i64 s1, .slice A1 d1.length c1]] w fun e w' => e = .returned (.int .i64 res0) ∧ Mid 0 0 w w' :=
  impl_NeumannSum r0 s0 A0 d0 c0 r1 s1 A1 d1 c1 w lo0 hi0 lo1 hi1 h0.rg h1.rg hl0 hl1 h0.cnt.1 h1.cnt.1 res0 h
end Go.Proofs.Ytimmnnncgnnkgaa
