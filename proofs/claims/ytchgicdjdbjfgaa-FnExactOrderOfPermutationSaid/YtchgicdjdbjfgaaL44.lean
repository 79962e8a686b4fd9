/- CycleType of the reference. -/
import Derived.Test.YtchgicdjdbjfgaaL43
import Derived.Test.YtchgicdjdbjfgaaM9
namespace Go.Proofs.Ytchgicdjdbjfgaa
set_option linter.unusedVariables false
set_option linter.unusedSimpArgs false
open Go.RowKit

set_option maxRecDepth 100000 in
set_option maxHeartbeats 6400000 in
theorem spec_CycleType (A : Option Addr) (p : List Int) (c B : Nat) (w : World) (hr : Rs w B A (ints p)) (hB : B ≤ w.heap.size) (hlp : p.length ≤ 1048576) (res : List Int) (hres : CycIs p res) :
    Calls Try.prog 20 #[.slice A p.length c] w fun e w' => RetI 3 res w e w' := by
  have HRES := Lib.hid hres
  clear hres
  have hmx : p.length ≤ maxLen := by unfold maxLen; omega
  have hb0 := (Below.refl w.heap.size w).alloc (Nat.le_refl _) (.cells #[] 3)
  have ho0 := owns_empty w 3 1
  have hsa : w.heap.size < (w.alloc (.cells #[] 3)).heap.size := by simp
  by_cases hp : IsPerm p
  · have HP := Lib.hid hp
    clear hp
    go_enter Try.func20, Try.ntmps20
    go_wp2_with (at_make; refine wpList_mk rfl _ _ 72 rfl 4 (.bool false) 1 undSB infoB rfl .i64 .i64 _ _ p.length rfl rfl rfl rfl (by omega) hmx ?_; intro w2 hown2 hgr2 hsz2)
    have hb2 := hb0.grown hgr2 hb0.size (by intro g h; cases h)
    have ho2 := ho0.kept hgr2 (.inr (by simp [Value.ownBlock]))
    have hs2 := hb2.size
    obtain ⟨gs, hgs⟩ : ∃ gs, gs = (w.alloc (.cells #[] 3)).heap.size := ⟨_, rfl⟩
    have hgs1 : w.heap.size ≤ gs := by rw [hgs]; simp
    simp only [← hgs] at hown2
    have HG := Lib.hid hgs
    simp only [World.size_alloc] at hgs
    subst hgs
    clear ho0 hgr2 HG hsz2 hsa
    go_loopw [3, 5, 6, 7] (fun v i _ _ wr => ∃ (k : Nat) (vis out : List Int) (Ao : Option Addr) (co : Nat), k ≤ p.length ∧ i = .int .i64 k ∧ v = .slice Ao out.length co ∧ CycOut p k vis out ∧ wr.ownsRow w.heap.size 3 1 (.slice Ao out.length co) out.length (ints out) ∧ wr.ownsRow (w.heap.size + 1) 4 1 (.slice (some ⟨w.heap.size + 1, 0, none⟩) p.length p.length) p.length (seenOf p.length vis) ∧ Below w.heap.size w wr) (fun _ i _ _ _ => p.length - (intOf i).toNat)
    case atStart => exact ⟨0, [], [], _, _, Nat.zero_le _, rfl, rfl, CycOut.zero p, by simpa [ints] using ho2, by rw [seenOf_nil]; exact hown2, hb2⟩
    case round =>
      clear ho2 hown2 hb2 hs2
      obtain ⟨k, vis, out, Ao, co, hk, rfl, rfl, hco, hown, hseen, hb⟩ := hrel
      have HCO := Lib.hid hco
      have hol := hco.len
      clear hco
      have hsz := hb.size
      by_cases hlt : k < p.length
      · have hlt3 : (k : Int) < (p.length : Int) := by omega
        go_wp2_with fail
        with_reducible refine (spec_IsPermutation A p c _ _ ((hr.more hB).below hb) hlp true (iff_of_true rfl HP.out)).mono ?_
        rintro e w' ⟨rfl, nd, rfl⟩
        have hown' := owns_drewN hown nd
        have hseen' := owns_drewN hseen nd
        have hb' := below_drewN hb nd
        go_wp2_with fail
        go_loopw [6, 7] (fun nv xv wr2 => ∃ (f : Nat) (vis' : List Int) (x n : Nat), nv = .int .i64 n ∧ xv = .int .i64 x ∧ CycAt p vis k f vis' x n ∧ wr2.ownsRow w.heap.size 3 1 (.slice Ao out.length co) out.length (ints out) ∧ wr2.ownsRow (w.heap.size + 1) 4 1 (.slice (some ⟨w.heap.size + 1, 0, none⟩) p.length p.length) p.length (seenOf p.length vis') ∧ Below w.heap.size w wr2) (fun nv _ _ => p.length + 1 - (intOf nv).toNat)
        case atStart => exact ⟨p.length + 1, vis, k, 0, rfl, rfl, CycAt.start HCO.out.hv hlt, hown', hseen', hb'⟩
        case round =>
          clear hown hseen hb hsz hown' hseen' hb'
          obtain ⟨f, vis', x, n, rfl, rfl, hat, hown, hseen, hb⟩ := hrel
          have HAT := Lib.hid hat
          have hxl := hat.hx
          have hnl : n ≤ p.length := by have := hat.cnt; have := hat.hv.le; omega
          clear hat
          have hsz := hb.size
          have hx0 : (0 : Int) ≤ (x : Int) := by omega
          have hxl3 : (x : Int) < (p.length : Int) := by omega
          have hfz := hseen.frozenAt x
          by_cases hm : (x : Int) ∈ vis'
          · have hcs := (hseen.cellAt x (by omega)).trans (seenOf_get hxl)
            rw [decide_eq_true hm] at hcs
            have HM := Lib.hid hm
            clear hm
            have HN := Lib.hid (HCO.out.succ HAT.out HM.out)
            by_cases hn0 : 0 < n
            · have hn3 : (0 : Int) < (n : Int) := by omega
              have hn4 : ¬ (n : Int) ≤ 0 := by omega
              go_wp2_with (at_builtin; refine wpList_push rfl _ _ 27 rfl w.heap.size 3 (.int .i64 0) 1 8 undSI infoI rfl (by decide) _ _ _ rfl hown 1 [.int .i64 n] rfl rfl (one_of_ints [(n : Int)]) ?c2 ?c3 hsz ?n1)
              case c2 => unfold maxLen; omega
              case c3 => omega
              case n1 =>
                intro v' w3 hown3 hgr3 _
                obtain ⟨A3, c3, rfl, -, -⟩ := owns_shape hown3
                go_wp2_with fail
                go_roundw
                case rel =>
                  have h2 := HN.out
                  rw [if_pos hn0] at h2
                  refine ⟨k + 1, vis', out ++ [(n : Int)], A3, c3, by omega, by go_num, by simp, h2, ?_, ?_, hb.grown hgr3 hsz (fun g hg => (hown.lt g hg).1)⟩
                  · rw [ints_append, List.length_append]; exact hown3
                  · exact hseen.kept hgr3 (owns_ne hseen hown (by decide))
                case measure => simp [intOf]; omega
            · obtain rfl : n = 0 := by omega
              go_wp2_with fail
              go_roundw
              case rel =>
                have h2 := HN.out
                rw [if_neg hn0] at h2
                exact ⟨k + 1, vis', out, Ao, co, by omega, by go_num, rfl, h2, hown, hseen, hb⟩
              case measure => simp [intOf]; omega
          · have hcs := (hseen.cellAt x (by omega)).trans (seenOf_get hxl)
            rw [decide_eq_false hm] at hcs
            obtain ⟨f', rfl, hst⟩ := HAT.out.step HP.out.2.1 hm
            have HST := Lib.hid hst
            have hnl2 : n + 1 ≤ p.length := by have := hst.cnt; have := hst.hv.le; omega
            clear hm hst
            obtain ⟨b, off, y, rfl, hbB, hy, hc⟩ := ((hr.more hB).below hb).int hxl
            have hyr := HP.out.2.1 y (List.mem_of_getElem? hy)
            obtain ⟨m, rfl⟩ : ∃ m : Nat, y = (m : Int) := ⟨y.toNat, by omega⟩
            have hgd : (p.getD x 0).toNat = m := by rw [List.getD_eq_getElem?_getD, hy]; simp
            have HGD := Lib.hid hgd
            have hset := owns_set hseen x (.bool true) (seenOf_set hxl)
            have hbs := hb.setCell (Nat.le_succ w.heap.size) (.bool true) (p := ⟨w.heap.size + 1, x, none⟩)
            have hos := hown.kept (grown_of_setCell wr (w.heap.size + 1) x (.bool true)) (owns_ne hown hseen (by decide))
            have hcp : (wr.setCell ⟨w.heap.size + 1, x, none⟩ (.bool true)).cell? ⟨b, off + x, none⟩ = some (.int .i64 m) := (World.cell?_setCell_other wr _ _ _ (by intro e; injection e with e; omega)).trans hc
            clear hy hgd
            go_wp2_with fail
            go_roundw
            case rel => exact ⟨f', vis' ++ [(x : Int)], m, n + 1, by go_num, rfl, by rw [← HGD.out]; exact HST.out, hos, hset, hbs⟩
            case measure => simp [intOf]; omega
      · obtain rfl : k = p.length := by omega
        have hres2 : res = cyc p := HRES.out.1 HP.out
        have hcy : cyc p = downL out := by unfold cyc; rw [HCO.out.st]
        have HCY := Lib.hid (hres2.trans hcy)
        have hout : out.length ≤ 1048576 := by omega
        clear hres2 hcy hseen
        go_wp2_with fail
        go_loopw [8, 9, 10] (fun i _ _ wr2 => ∃ (a : Nat) (ys : List Int), a ≤ out.length ∧ i = .int .i64 a ∧ ExAt out a ys ∧ wr2.ownsRow w.heap.size 3 1 (.slice Ao out.length co) out.length (ints ys) ∧ Below w.heap.size w wr2) (fun i _ _ _ => out.length - (intOf i).toNat)
        case atStart => exact ⟨0, out, Nat.zero_le _, rfl, ExAt.zero out, hown, hb⟩
        case round =>
          clear hown hb hsz
          obtain ⟨a, ys, ha, rfl, hex, hown, hb⟩ := hrel
          have HEX := Lib.hid hex
          have hyl := hex.len
          have HYL := Lib.hid hyl
          clear hex hyl
          have hsz := hb.size
          by_cases hla : a < out.length
          · have hla3 : (a : Int) < (out.length : Int) := by omega
            go_wp2_with fail
            go_loopw [9, 10] (fun j _ wr3 => ∃ (b : Nat) (zs : List Int), a < b ∧ b ≤ out.length ∧ j = .int .i64 b ∧ ExIn out a b zs ∧ wr3.ownsRow w.heap.size 3 1 (.slice Ao out.length co) out.length (ints zs) ∧ Below w.heap.size w wr3) (fun j _ _ => out.length - (intOf j).toNat)
            case atStart => exact ⟨a + 1, ys, Nat.lt_succ_self _, hla, by go_num, ExIn.start HEX.out, hown, hb⟩
            case round =>
              clear hown hb hsz
              obtain ⟨b, zs, hab, hbl, rfl, hin, hown, hb⟩ := hrel
              have HIN := Lib.hid hin
              have hzl := hin.at'.len
              have HZL := Lib.hid hzl
              have hsz := hb.size
              by_cases hlb : b < out.length
              · obtain ⟨ya, hya⟩ := get_of_lt zs (show a < zs.length by omega)
                obtain ⟨yb, hyb⟩ := get_of_lt zs (show b < zs.length by omega)
                obtain ⟨g, rfl, hg1, hg2⟩ := owns_addr hown (by omega)
                have hca := (hown.cellAt a (by omega)).trans (by rw [ints_get, hya]; rfl : (ints zs)[a]? = some (.int .i64 ya))
                have hcb := (hown.cellAt b (by omega)).trans (by rw [ints_get, hyb]; rfl : (ints zs)[b]? = some (.int .i64 yb))
                have hfa := hown.frozenAt a
                have hfb := hown.frozenAt b
                have HYA := Lib.hid hya
                have HYB := Lib.hid hyb
                have hlb3 : (b : Int) < (out.length : Int) := by omega
                have ha0 : (0 : Int) ≤ (a : Int) := by omega
                have hb00 : (0 : Int) ≤ (b : Int) := by omega
                clear hin hzl hya hyb
                by_cases hgt : ya < yb
                · have hne : (wr.setCell ⟨g, b, none⟩ (.int .i64 ya)).frozen? ⟨g, a, none⟩ = false := by rw [World.frozen?_setCell]; exact hfa
                  have hs1 := owns_set hown b (.int .i64 ya) rfl
                  have hcu := (hs1.cellAt a (by omega)).trans (by rw [List.getElem?_set_ne (by omega), ints_get, HYA.out]; rfl : ((ints zs).set b (.int .i64 ya))[a]? = some (.int .i64 ya))
                  have hs2 := owns_set hs1 a (.int .i64 yb) (ys := ints ((zs.set b ya).set a yb)) (by simp [ints, List.map_set])
                  have HS2 := Lib.hid hs2
                  clear hs1 hs2
                  go_wp2_with fail
                  go_quiet (fail)
                  go_wp2_with fail
                  go_roundw
                  case rel => exact ⟨b + 1, (zs.set b ya).set a yb, by omega, hlb, by go_num, HIN.out.swap hab HYA.out HYB.out hgt, by first | exact owns_drewN HS2.out _ | exact HS2.out, by first | exact below_drewN ((hb.setCell hg1 _).setCell hg1 _) _ | exact (below_drewN hb _).setCell hg1 _ |>.setCell hg1 _⟩
                  case measure => simp [intOf]; omega
                · go_wp2_with fail
                  go_quiet (fail)
                  go_wp2_with fail
                  go_roundw
                  case rel => exact ⟨b + 1, zs, by omega, hlb, by go_num, HIN.out.keep HYA.out HYB.out (by omega), owns_drewN hown _, below_drewN hb _⟩
                  case measure => simp [intOf]; omega
              · obtain rfl : b = out.length := by omega
                go_wp2_with fail
                go_roundw
                case rel =>
                  have h3 := HIN.out
                  rw [← HZL.out] at h3
                  exact ⟨a + 1, zs, by omega, by go_num, h3.done, hown, hb⟩
                case measure => simp [intOf]; omega
          · obtain rfl : a = out.length := by omega
            go_wp2_with fail
            go_ret
            have h3 := HEX.out
            rw [← HYL.out] at h3
            have h4 := h3.done
            rw [h4, ← HCY.out] at hown
            have hln := hown.1
            rw [ints_len] at hln
            exact RetI.mk (by omega) hown hb
  · have HN := Lib.hid hp
    obtain rfl : res = [] := HRES.out.2 hp
    have hpl : 0 < p.length := by
      rcases Nat.eq_zero_or_pos p.length with h | h
      · have := List.eq_nil_of_length_eq_zero h
        subst this
        exact absurd ⟨by simp, by simp, by simp⟩ hp
      · exact h
    have hpl3 : (0 : Int) < (p.length : Int) := by omega
    clear hp HRES
    go_enter Try.func20, Try.ntmps20
    go_wp2_with (at_make; refine wpList_mk rfl _ _ 72 rfl 4 (.bool false) 1 undSB infoB rfl .i64 .i64 _ _ p.length rfl rfl rfl rfl (by omega) hmx ?_; intro w2 hown2 hgr2 hsz2)
    have hb2 := hb0.grown hgr2 hb0.size (by intro g h; cases h)
    have ho2 := ho0.kept hgr2 (.inr (by simp [Value.ownBlock]))
    clear hown2 hgr2 hsz2 ho0 hb0
    go_loopw [3, 5, 6, 7] (fun v i _ _ wr => v = .slice (some ⟨w.heap.size, 0, none⟩) 0 0 ∧ i = .int .i64 0 ∧ wr.ownsRow w.heap.size 3 1 (.slice (some ⟨w.heap.size, 0, none⟩) 0 0) 0 [] ∧ Below w.heap.size w wr) (fun _ i _ _ _ => p.length - (intOf i).toNat)
    case atStart => exact ⟨rfl, rfl, ho2, hb2⟩
    case round =>
      clear ho2 hb2
      obtain ⟨rfl, rfl, ho, hb⟩ := hrel
      go_wp2_with fail
      with_reducible refine (spec_IsPermutation A p c _ _ ((hr.more hB).below hb) hlp false (iff_of_false Bool.false_ne_true HN.out)).mono ?_
      rintro e w' ⟨rfl, nd, rfl⟩
      have ho' := owns_drewN ho nd
      have hb' := below_drewN hb nd
      go_wp2_with fail
      go_loopw [8, 9, 10] (fun i _ _ wr2 => i = .int .i64 0 ∧ wr2.ownsRow w.heap.size 3 1 (.slice (some ⟨w.heap.size, 0, none⟩) 0 0) 0 [] ∧ Below w.heap.size w wr2) (fun i _ _ _ => 0)
      case atStart => exact ⟨rfl, ho', hb'⟩
      case round =>
        obtain ⟨rfl, ho2, hb2⟩ := hrel
        go_wp2_with fail
        go_ret
        exact RetI.mk rfl ho2 hb2
end Go.Proofs.Ytchgicdjdbjfgaa
