/- CycleType of the program. -/
import Derived.Test.YtchgicdjdbjfgaaL42
import Derived.Test.YtchgicdjdbjfgaaL3
namespace Go.Proofs.Ytchgicdjdbjfgaa
set_option linter.unusedVariables false
set_option linter.unusedSimpArgs false
open Go.RowKit

theorem sortN (A : Option Addr) (xs ys : List Int) (n c : Nat) (w : World) (lo : Nat) (ho : w.ownsRow lo 3 1 (.slice A n c) n (ints xs)) (hl : n ≤ 1048576) (hy : (xs.mergeSort fun x y => decide (x ≤ y)) = ys) :
    Calls Try.prog 67 #[.slice A n c] w fun e w' => e = .returned (.tuple #[]) ∧ w'.ownsRow lo 3 1 (.slice A n c) n (ints ys) ∧ w.grownBy w' (Value.ownBlock (.slice A n c)) := by
  have hn : xs.length = n := by have := ho.1; rw [ints_len] at this; omega
  subst hn hy
  have h := sortI A xs c w lo ho hl
  unfold Turned at h
  rw [List.length_mergeSort] at h
  exact h
theorem reverseN (A : Option Addr) (xs ys : List Int) (n c : Nat) (w : World) (lo : Nat) (ho : w.ownsRow lo 3 1 (.slice A n c) n (ints xs)) (hl : n ≤ 1048576) (hy : xs.reverse = ys) :
    Calls Try.prog 68 #[.slice A n c] w fun e w' => e = .returned (.tuple #[]) ∧ w'.ownsRow lo 3 1 (.slice A n c) n (ints ys) ∧ w.grownBy w' (Value.ownBlock (.slice A n c)) := by
  have hn : xs.length = n := by have := ho.1; rw [ints_len] at this; omega
  subst hn hy
  have h := reverseI A xs c w lo ho hl
  unfold Turned at h
  rw [List.length_reverse] at h
  exact h
def CycIs (p res : List Int) : Prop := (IsPerm p → res = cyc p) ∧ (¬ IsPerm p → res = [])
theorem cyc_len {p : List Int} (h : IsPerm p) : (cyc p).length ≤ p.length := by
  obtain ⟨vis, out, h2⟩ := CycOut.get h.2.1 p.length (Nat.le_refl _)
  unfold cyc
  rw [h2.st, downL_len]
  exact h2.len

set_option maxHeartbeats 3200000 in
theorem impl_CycleType (A : Option Addr) (p : List Int) (c B : Nat) (w : World) (hr : Rs w B A (ints p)) (hB : B ≤ w.heap.size) (hlp : p.length ≤ 1048576) (res : List Int) (hres : CycIs p res) :
    Calls Try.prog 22 #[.slice A p.length c] w fun e w' => RetI 3 res w e w' := by
  have HRES := Lib.hid hres
  clear hres
  have hmx : p.length ≤ maxLen := by unfold maxLen; omega
  have hb0 := (Below.refl w.heap.size w).alloc (Nat.le_refl _) (.cells #[] 3)
  have ho0 := owns_empty w 3 1
  by_cases hp : IsPerm p
  · have HP := Lib.hid hp
    clear hp
    go_enter Try.func22, Try.ntmps22
    go_wp2_with fail
    with_reducible refine (impl_IsPermutation A p c B _ (hr.alloc hB _) (by simp; omega) hlp true (iff_of_true rfl HP.out)).mono ?_
    rintro e w1 ⟨rfl, hbp⟩
    have hb1 := hb0.trans (hbp.mono hb0.size)
    have hs1 := hb1.size
    have hoe1 := owns_belowS ho0 hbp
    go_wp2_with (at_make; refine wpList_mk rfl _ _ 72 rfl 4 (.bool false) 1 undSB infoB rfl .i64 .i64 _ _ p.length rfl rfl rfl rfl (by omega) hmx ?_; intro w2 hown2 hgr2 hsz2)
    have hb2 := hb1.grown hgr2 hs1 (by intro g h; cases h)
    have ho2 := hoe1.kept hgr2 (.inr (by simp [Value.ownBlock]))
    have hs2 := hb2.size
    clear hoe1 hgr2
    go_loopw [3, 5, 6, 7, 18] (fun v _ _ _ i wr => ∃ (k : Nat) (vis out : List Int) (Ao : Option Addr) (co : Nat), k ≤ p.length ∧ i = .int .i64 k ∧ v = .slice Ao out.length co ∧ CycOut p k vis out ∧ wr.ownsRow w.heap.size 3 1 (.slice Ao out.length co) out.length (ints out) ∧ wr.ownsRow w1.heap.size 4 1 (.slice (some ⟨w1.heap.size, 0, none⟩) p.length p.length) p.length (seenOf p.length vis) ∧ Below w.heap.size w wr) (fun _ _ _ _ i _ => p.length - (intOf i).toNat)
    case atStart => exact ⟨0, [], [], _, _, Nat.zero_le _, rfl, rfl, CycOut.zero p, by simpa [ints] using ho2, by rw [seenOf_nil]; exact hown2, hb2⟩
    case round =>
      clear ho2 hown2 hb2 hs2
      obtain ⟨k, vis, out, Ao, co, hk, rfl, rfl, hco, hown, hseen, hb⟩ := hrel
      have HCO := Lib.hid hco
      have hol := hco.len
      clear hco
      have hsz := hb.size
      by_cases hlt : k < p.length
      · have hlt3 : (k : Int) < (p.length : Int) := by omega
        go_wp2_with fail
        go_loopw [6, 7] (fun nv xv wr2 => ∃ (f : Nat) (vis' : List Int) (x n : Nat), nv = .int .i64 n ∧ xv = .int .i64 x ∧ CycAt p vis k f vis' x n ∧ wr2.ownsRow w.heap.size 3 1 (.slice Ao out.length co) out.length (ints out) ∧ wr2.ownsRow w1.heap.size 4 1 (.slice (some ⟨w1.heap.size, 0, none⟩) p.length p.length) p.length (seenOf p.length vis') ∧ Below w.heap.size w wr2) (fun nv _ _ => p.length + 1 - (intOf nv).toNat)
        case atStart => exact ⟨p.length + 1, vis, k, 0, rfl, rfl, CycAt.start HCO.out.hv hlt, hown, hseen, hb⟩
        case round =>
          clear hown hseen hb hsz
          obtain ⟨f, vis', x, n, rfl, rfl, hat, hown, hseen, hb⟩ := hrel
          have HAT := Lib.hid hat
          have hxl := hat.hx
          have hnl : n ≤ p.length := by have := hat.cnt; have := hat.hv.le; omega
          clear hat
          have hsz := hb.size
          have hx0 : (0 : Int) ≤ (x : Int) := by omega
          have hxl3 : (x : Int) < (p.length : Int) := by omega
          have hfz := hseen.frozenAt x
          by_cases hm : (x : Int) ∈ vis'
          · have hcs := (hseen.cellAt x (by omega)).trans (seenOf_get hxl)
            rw [decide_eq_true hm] at hcs
            have HM := Lib.hid hm
            clear hm
            have HN := Lib.hid (HCO.out.succ HAT.out HM.out)
            by_cases hn0 : 0 < n
            · have hn3 : (0 : Int) < (n : Int) := by omega
              have hn4 : ¬ (n : Int) ≤ 0 := by omega
              go_wp2_with (at_builtin; refine wpList_push rfl _ _ 27 rfl w.heap.size 3 (.int .i64 0) 1 8 undSI infoI rfl (by decide) _ _ _ rfl hown 1 [.int .i64 n] rfl rfl (one_of_ints [(n : Int)]) ?c2 ?c3 hsz ?n1)
              case c2 => unfold maxLen; omega
              case c3 => omega
              case n1 =>
                intro v' w3 hown3 hgr3 _
                obtain ⟨A3, c3, rfl, -, -⟩ := owns_shape hown3
                go_wp2_with fail
                go_roundw
                case rel =>
                  have h2 := HN.out
                  rw [if_pos hn0] at h2
                  refine ⟨k + 1, vis', out ++ [(n : Int)], A3, c3, by omega, by go_num, by simp, h2, ?_, ?_, hb.grown hgr3 hsz (fun g hg => (hown.lt g hg).1)⟩
                  · rw [ints_append, List.length_append]; exact hown3
                  · exact hseen.kept hgr3 (owns_ne hseen hown (by decide))
                case measure => simp [intOf]; omega
            · obtain rfl : n = 0 := by omega
              go_wp2_with fail
              go_roundw
              case rel =>
                have h2 := HN.out
                rw [if_neg hn0] at h2
                exact ⟨k + 1, vis', out, Ao, co, by omega, by go_num, rfl, h2, hown, hseen, hb⟩
              case measure => simp [intOf]; omega
          · have hcs := (hseen.cellAt x (by omega)).trans (seenOf_get hxl)
            rw [decide_eq_false hm] at hcs
            obtain ⟨f', rfl, hst⟩ := HAT.out.step HP.out.2.1 hm
            have HST := Lib.hid hst
            have hnl2 : n + 1 ≤ p.length := by have := hst.cnt; have := hst.hv.le; omega
            clear hm hst
            obtain ⟨b, off, y, rfl, hbB, hy, hc⟩ := ((hr.more hB).below hb).int hxl
            have hyr := HP.out.2.1 y (List.mem_of_getElem? hy)
            obtain ⟨m, rfl⟩ : ∃ m : Nat, y = (m : Int) := ⟨y.toNat, by omega⟩
            have hgd : (p.getD x 0).toNat = m := by rw [List.getD_eq_getElem?_getD, hy]; simp
            have HGD := Lib.hid hgd
            have hset := owns_set hseen x (.bool true) (seenOf_set hxl)
            have hbs := hb.setCell hs1 (.bool true) (p := ⟨w1.heap.size, x, none⟩)
            have hos := hown.kept (grown_of_setCell wr w1.heap.size x (.bool true)) (owns_ne hown hseen (by decide))
            have hcp : (wr.setCell ⟨w1.heap.size, x, none⟩ (.bool true)).cell? ⟨b, off + x, none⟩ = some (.int .i64 m) := (World.cell?_setCell_other wr _ _ _ (by intro e; injection e with e; omega)).trans hc
            clear hy hgd
            go_wp2_with fail
            go_roundw
            case rel => exact ⟨f', vis' ++ [(x : Int)], m, n + 1, by go_num, rfl, by rw [← HGD.out]; exact HST.out, hos, hset, hbs⟩
            case measure => simp [intOf]; omega
      · obtain rfl : k = p.length := by omega
        skip
        have hres2 : res = cyc p := HRES.out.1 HP.out
        have hcy : cyc p = (out.mergeSort fun x y => decide (x ≤ y)).reverse := by unfold cyc; rw [HCO.out.st]; rfl
        have HCY := Lib.hid (hres2.trans hcy)
        clear hres2 hcy
        go_wp2_with fail
        with_reducible refine (sortN Ao out _ out.length co _ _ hown (by omega) rfl).mono ?_
        rintro e w3 ⟨rfl, ho3, hg3⟩
        have hb3 := hb.grown hg3 hsz (fun g hg => (hown.lt g hg).1)
        go_wp2_with fail
        with_reducible refine (reverseN Ao _ _ out.length co _ _ ho3 (by omega) rfl).mono ?_
        rintro e w4 ⟨rfl, ho4, hg4⟩
        have hb4 := hb3.grown hg4 hb3.size (fun g hg => (ho3.lt g hg).1)
        go_wp2_with fail
        go_ret
        rw [← HCY.out] at ho4
        exact RetI.mk (by have := ho4.1; rw [ints_len] at this; omega) ho4 hb4
  · have HN := Lib.hid hp
    obtain rfl : res = [] := HRES.out.2 hp
    clear hp HRES
    go_enter Try.func22, Try.ntmps22
    go_wp2_with fail
    with_reducible refine (impl_IsPermutation A p c B _ (hr.alloc hB _) (by simp; omega) hlp false (iff_of_false Bool.false_ne_true HN.out)).mono ?_
    rintro e w1 ⟨rfl, hbp⟩
    go_wp2_with fail
    go_ret
    exact RetI.mk rfl (owns_belowS ho0 hbp) (hb0.trans (hbp.mono hb0.size))
end Go.Proofs.Ytchgicdjdbjfgaa
