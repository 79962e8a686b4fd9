/- Contracts: ComposePermutations of the reference. -/
import Derived.Test.YtpgbpdnijpjfjaaL4
namespace Go.Proofs.Ytpgbpdnijpjfjaa
open Go.RowKit

set_option maxHeartbeats 1600000 in
theorem spec_Compose_good (A : Option Addr) (p : List Int) (c B : Nat) (A' : Option Addr) (q : List Int) (c' B' : Nat) (w : World) (hr : Rs w B A (ints p)) (hB : B ≤ w.heap.size) (hr' : Rs w B' A' (ints q)) (hB' : B' ≤ w.heap.size)
    (hp : IsPerm p) (hq : IsPerm q) (hlen : p.length = q.length) :
    Calls Try.prog 16 #[.slice A p.length c, .slice A' q.length c'] w fun e w' => RetI 3 (composeP p q) w e w' := by
  have hp40 := hp.1
  have hq40 := hq.1
  have hne : ((p.length : Int) == (q.length : Int)) = true := by simp; omega
  have hle1 : p.length ≤ q.length := by omega
  have hle2 : q.length ≤ p.length := by omega
  have HP := Lib.hid hp
  have HQ := Lib.hid hq
  clear hlen hp hq
  go_enter Try.func16, Try.ntmps16
  go_wp2_with fail
  have hb0 := (Below.refl w.heap.size w).alloc (Nat.le_refl _) (.cells #[] 3)
  have ho0 := owns_empty w 3 1
  go_loopw [5, 6] (fun v i wr => ∃ k : Nat, k ≤ p.length ∧ i = .int .i64 k ∧ wr.ownsRow w.heap.size 3 1 v k (ints (composeP (p.take k) q)) ∧ Below w.heap.size w wr)
    (fun _ i _ => p.length - (intOf i).toNat)
  case atStart => exact ⟨0, Nat.zero_le _, rfl, ho0, hb0⟩
  case round =>
    obtain ⟨k, hk, rfl, hown, hb⟩ := hrel
    have hsz := hb.size
    by_cases hlt : k < p.length
    · obtain ⟨b, off, x, hA, -, hx, hc⟩ := ((hr.more hB).below hb).int hlt
      have hxi := HP.out.2.1 x (mem_of_get hx)
      obtain ⟨m, rfl⟩ : ∃ m : Nat, x = m := ⟨x.toNat, by omega⟩
      have hm : m < q.length := by omega
      obtain ⟨b', off', y, hA', -, hy, hc'⟩ := ((hr'.more hB').below hb).int hm
      subst hA
      subst hA'
      have HX := Lib.hid hx
      have HY := Lib.hid hy
      clear hx hy hxi
      go_wp2_with fail
      with_reducible refine (spec_IsPermutation _ p c B _ ((hr.belowM hb hB)) (by omega) true (by simp [HP.out])).mono ?_
      rintro e w1 ⟨rfl, n1, rfl⟩
      go_wp2_with fail
      with_reducible refine (spec_IsPermutation _ q c' B' _ ((hr'.belowM hb hB').drewN n1) (by omega) true (by simp [HQ.out])).mono ?_
      rintro e w1 ⟨rfl, n2, rfl⟩
      go_wp2_with (at_builtin; refine wpList_push rfl _ _ 22 rfl w.heap.size 3 (.int .i64 0) 1 8 undSI infoI rfl (by decide) _ _ _ rfl (owns_drewN hown _) 1 [.int .i64 y] rfl rfl ?c1 ?c2 ?c3 hsz ?next)
      case c1 => exact one_of_ints [y]
      case c2 => unfold maxLen; omega
      case c3 => omega
      case next =>
        intro v' w3 hown1 hgr _
        go_wp2_with fail
        go_roundw
        case rel =>
          refine ⟨k + 1, by omega, by go_num, ?_, hb.grown (owns_row hgr) hsz (fun g hg => (hown.lt g hg).1)⟩
          rw [composeP, take_succ_of p HX.out, List.map_append, ints_append]
          simpa [ints, HY.out, composeP] using hown1
        case measure => simp [intOf]; omega
    · go_wp2_with fail
      go_ret
      have hkl : k = p.length := by omega
      subst hkl
      rw [List.take_length] at hown
      exact RetI.mk (by simp [composeP]) hown hb

set_option maxHeartbeats 1600000 in
theorem spec_Compose_bad (A : Option Addr) (p : List Int) (c B : Nat) (A' : Option Addr) (q : List Int) (c' B' : Nat) (w : World) (hr : Rs w B A (ints p)) (hB : B ≤ w.heap.size) (hr' : Rs w B' A' (ints q)) (hB' : B' ≤ w.heap.size)
    (hlp : p.length ≤ 1048576) (hlq : q.length ≤ 1048576) (hbad : ¬ (IsPerm p ∧ IsPerm q ∧ p.length = q.length)) :
    Calls Try.prog 16 #[.slice A p.length c, .slice A' q.length c'] w fun e w' => RetI 3 [] w e w' := by
  have hb0 := (Below.refl w.heap.size w).alloc (Nat.le_refl _) (.cells #[] 3)
  have ho0 := owns_empty w 3 1
  by_cases hlen : p.length = q.length
  · have hne : ((p.length : Int) == (q.length : Int)) = true := by simp; omega
    have HL := Lib.hid hlen
    clear hlen
    by_cases hp : IsPerm p
    · by_cases hq : IsPerm q
      · exact absurd ⟨hp, hq, HL.out⟩ hbad
      · have HP := Lib.hid hp
        have HQ := Lib.hid hq
        clear hp hq hbad
        go_enter Try.func16, Try.ntmps16
        go_wp2_with fail
        refine wp_loop_rounds 1 ?_
        rw [rounds_succ]
        by_cases h0 : 0 < p.length
        · go_wp2_with fail
          with_reducible refine (spec_IsPermutation A p c B _ (hr.alloc hB _) (by omega) true (by simp [HP.out])).mono ?_
          rintro e w1 ⟨rfl, n1, rfl⟩
          go_wp2_with fail
          with_reducible refine (spec_IsPermutation A' q c' B' _ ((hr'.alloc hB' _).drewN n1) (by omega) false (by simp [HQ.out])).mono ?_
          rintro e w1 ⟨rfl, n2, rfl⟩
          go_wp2_with fail
          go_ret
          exact RetI.mk (xs := []) rfl (owns_drewN ho0 _) (below_drewN hb0 _)
        · go_wp2_with fail
          go_ret
          exact RetI.mk (xs := []) rfl ho0 hb0
    · have HP := Lib.hid hp
      clear hp hbad
      go_enter Try.func16, Try.ntmps16
      go_wp2_with fail
      refine wp_loop_rounds 1 ?_
      rw [rounds_succ]
      by_cases h0 : 0 < p.length
      · go_wp2_with fail
        with_reducible refine (spec_IsPermutation A p c B _ (hr.alloc hB _) (by omega) false (by simp [HP.out])).mono ?_
        rintro e w1 ⟨rfl, n1, rfl⟩
        go_wp2_with fail
        go_ret
        exact RetI.mk (xs := []) rfl (owns_drewN ho0 _) (below_drewN hb0 _)
      · go_wp2_with fail
        go_ret
        exact RetI.mk (xs := []) rfl ho0 hb0
  · have hne : ((p.length : Int) == (q.length : Int)) = false := by simp; omega
    clear hlen hbad
    go_enter Try.func16, Try.ntmps16
    go_wp2_with fail
    refine wp_loop_rounds 1 ?_
    rw [rounds_succ]
    by_cases h0 : 0 < p.length
    · go_wp2_with fail
      go_ret
      exact RetI.mk (xs := []) rfl ho0 hb0
    · go_wp2_with fail
      go_ret
      exact RetI.mk (xs := []) rfl ho0 hb0

/-- What ComposePermutations hands back. -/
def ComposeIs (p q res : List Int) : Prop := ((IsPerm p ∧ IsPerm q ∧ p.length = q.length) → res = composeP p q) ∧ (¬ (IsPerm p ∧ IsPerm q ∧ p.length = q.length) → res = [])

theorem impl_Compose (A : Option Addr) (p : List Int) (c B : Nat) (A' : Option Addr) (q : List Int) (c' B' : Nat) (w : World) (hr : Rs w B A (ints p)) (hB : B ≤ w.heap.size) (hr' : Rs w B' A' (ints q)) (hB' : B' ≤ w.heap.size)
    (hlp : p.length ≤ 1048576) (hlq : q.length ≤ 1048576) (res : List Int) (hres : ComposeIs p q res) :
    Calls Try.prog 17 #[.slice A p.length c, .slice A' q.length c'] w fun e w' => RetI 3 res w e w' := by
  by_cases h : IsPerm p ∧ IsPerm q ∧ p.length = q.length
  · rw [hres.1 h]
    exact impl_Compose_good A p c B A' q c' B' w hr hB hr' hB' h.1 h.2.1 h.2.2
  · rw [hres.2 h]
    exact impl_Compose_bad A p c B A' q c' B' w hr hB hr' hB' hlp hlq h
theorem spec_Compose (A : Option Addr) (p : List Int) (c B : Nat) (A' : Option Addr) (q : List Int) (c' B' : Nat) (w : World) (hr : Rs w B A (ints p)) (hB : B ≤ w.heap.size) (hr' : Rs w B' A' (ints q)) (hB' : B' ≤ w.heap.size)
    (hlp : p.length ≤ 1048576) (hlq : q.length ≤ 1048576) (res : List Int) (hres : ComposeIs p q res) :
    Calls Try.prog 16 #[.slice A p.length c, .slice A' q.length c'] w fun e w' => RetI 3 res w e w' := by
  by_cases h : IsPerm p ∧ IsPerm q ∧ p.length = q.length
  · rw [hres.1 h]
    exact spec_Compose_good A p c B A' q c' B' w hr hB hr' hB' h.1 h.2.1 h.2.2
  · rw [hres.2 h]
    exact spec_Compose_bad A p c B A' q c' B' w hr hB hr' hB' hlp hlq h
end Go.Proofs.Ytpgbpdnijpjfjaa
