/- Contracts: ComposePermutations, InversePermutation, FixedPoints. -/
import Derived.Test.YtpgbpdnijpjfjaaL3
namespace Go.Proofs.Ytpgbpdnijpjfjaa
open Go.RowKit

def composeP (p q : List Int) : List Int := p.map (fun x => q.getD x.toNat 0)

set_option maxHeartbeats 800000 in
theorem impl_Compose_good (A : Option Addr) (p : List Int) (c B : Nat) (A' : Option Addr) (q : List Int) (c' B' : Nat) (w : World) (hr : Rs w B A (ints p)) (hB : B ≤ w.heap.size) (hr' : Rs w B' A' (ints q)) (hB' : B' ≤ w.heap.size)
    (hp : IsPerm p) (hq : IsPerm q) (hlen : p.length = q.length) :
    Calls Try.prog 17 #[.slice A p.length c, .slice A' q.length c'] w fun e w' => RetI 3 (composeP p q) w e w' := by
  have hp40 := hp.1
  have hq40 := hq.1
  have hne : ((p.length : Int) != (q.length : Int)) = false := by simp; omega
  have HL := Lib.hid hlen
  have hle1 : p.length ≤ q.length := by omega
  have hle2 : q.length ≤ p.length := by omega
  have HP := Lib.hid hp
  have HQ := Lib.hid hq
  clear hlen hp hq
  go_enter Try.func17, Try.ntmps17
  go_wp2_with fail
  have hb0 := (Below.refl w.heap.size w).alloc (Nat.le_refl _) (.cells #[] 3)
  have ho0 := owns_empty w 3 1
  with_reducible refine (impl_IsPermutation A p c B _ (hr.alloc hB _) (by simp; omega) (by omega) true (by simp [HP.out])).mono ?_
  rintro e w1 ⟨rfl, hb1⟩
  have ho1 := owns_belowS ho0 hb1
  have hb1' := hb0.trans (hb1.mono hb0.size)
  go_wp2_with fail
  with_reducible refine (impl_IsPermutation A' q c' B' _ ((hr'.alloc hB' _).belowM hb1 (by simp; omega)) (by have := hb1'.size; omega) (by omega) true (by simp [HQ.out])).mono ?_
  rintro e w2 ⟨rfl, hb2⟩
  have ho2 := owns_belowS ho1 hb2
  have hb2' := hb1'.trans (hb2.mono hb1'.size)
  clear ho0 ho1 hb0 hb1 hb1' hb2
  go_wp2_with fail
  go_loopw [5, 7, 27] (fun v _ i wr => ∃ k : Nat, k ≤ p.length ∧ i = .int .i64 k ∧ wr.ownsRow w.heap.size 3 1 v k (ints (composeP (p.take k) q)) ∧ Below w.heap.size w wr)
    (fun _ _ i _ => p.length - (intOf i).toNat)
  case atStart => exact ⟨0, Nat.zero_le _, rfl, ho2, hb2'⟩
  case round =>
    obtain ⟨k, hk, rfl, hown, hb⟩ := hrel
    have hsz := hb.size
    by_cases hlt : k < p.length
    · obtain ⟨b, off, x, rfl, -, hx, hc⟩ := ((hr.more hB).below hb).int hlt
      have hxi := HP.out.2.1 x (mem_of_get hx)
      obtain ⟨m, rfl⟩ : ∃ m : Nat, x = m := ⟨x.toNat, by omega⟩
      have hm : m < q.length := by omega
      obtain ⟨b', off', y, rfl, -, hy, hc'⟩ := ((hr'.more hB').below hb).int hm
      have HX := Lib.hid hx
      have HY := Lib.hid hy
      clear hx hy hxi
      go_wp2_with (at_builtin; refine wpList_push rfl _ _ 22 rfl w.heap.size 3 (.int .i64 0) 1 8 undSI infoI rfl (by decide) _ _ _ rfl hown 1 [.int .i64 y] rfl rfl ?c1 ?c2 ?c3 hsz ?next)
      case c1 => exact one_of_ints [y]
      case c2 => unfold maxLen; omega
      case c3 => omega
      case next =>
        intro v' w3 hown1 hgr _
        go_wp2_with fail
        go_roundw
        case rel =>
          refine ⟨k + 1, by omega, by go_num, ?_, hb.grown hgr hsz (fun g hg => (hown.lt g hg).1)⟩
          rw [composeP, take_succ_of p HX.out, List.map_append, ints_append]
          simpa [ints, HY.out, composeP] using hown1
        case measure => simp [intOf]; omega
    · go_wp2_with fail
      go_ret
      have hkl : k = p.length := by omega
      subst hkl
      rw [List.take_length] at hown
      exact RetI.mk (by simp [composeP]) hown hb

set_option maxHeartbeats 800000 in
theorem impl_Compose_bad (A : Option Addr) (p : List Int) (c B : Nat) (A' : Option Addr) (q : List Int) (c' B' : Nat) (w : World) (hr : Rs w B A (ints p)) (hB : B ≤ w.heap.size) (hr' : Rs w B' A' (ints q)) (hB' : B' ≤ w.heap.size)
    (hlp : p.length ≤ 1048576) (hlq : q.length ≤ 1048576) (hbad : ¬ (IsPerm p ∧ IsPerm q ∧ p.length = q.length)) :
    Calls Try.prog 17 #[.slice A p.length c, .slice A' q.length c'] w fun e w' => RetI 3 [] w e w' := by
  have hb0 := (Below.refl w.heap.size w).alloc (Nat.le_refl _) (.cells #[] 3)
  have ho0 := owns_empty w 3 1
  by_cases hp : IsPerm p
  · by_cases hq : IsPerm q
    · have hne : ((p.length : Int) != (q.length : Int)) = true := by
        simp
        intro h
        exact hbad ⟨hp, hq, by omega⟩
      have HP := Lib.hid hp
      have HQ := Lib.hid hq
      clear hp hq hbad
      go_enter Try.func17, Try.ntmps17
      go_wp2_with fail
      with_reducible refine (impl_IsPermutation A p c B _ (hr.alloc hB _) (by simp; omega) (by omega) true (by simp [HP.out])).mono ?_
      rintro e w1 ⟨rfl, hb1⟩
      have ho1 := owns_belowS ho0 hb1
      have hb1' := hb0.trans (hb1.mono hb0.size)
      go_wp2_with fail
      with_reducible refine (impl_IsPermutation A' q c' B' _ ((hr'.alloc hB' _).belowM hb1 (by simp; omega)) (by have := hb1'.size; omega) (by omega) true (by simp [HQ.out])).mono ?_
      rintro e w2 ⟨rfl, hb2⟩
      have ho2 := owns_belowS ho1 hb2
      have hb2' := hb1'.trans (hb2.mono hb1'.size)
      clear ho0 ho1 hb0 hb1 hb1' hb2
      go_wp2_with fail
      go_ret
      exact RetI.mk (xs := []) rfl ho2 hb2'
    · have HP := Lib.hid hp
      have HQ := Lib.hid hq
      clear hp hq hbad
      go_enter Try.func17, Try.ntmps17
      go_wp2_with fail
      with_reducible refine (impl_IsPermutation A p c B _ (hr.alloc hB _) (by simp; omega) (by omega) true (by simp [HP.out])).mono ?_
      rintro e w1 ⟨rfl, hb1⟩
      have ho1 := owns_belowS ho0 hb1
      have hb1' := hb0.trans (hb1.mono hb0.size)
      go_wp2_with fail
      with_reducible refine (impl_IsPermutation A' q c' B' _ ((hr'.alloc hB' _).belowM hb1 (by simp; omega)) (by have := hb1'.size; omega) (by omega) false (by simp [HQ.out])).mono ?_
      rintro e w2 ⟨rfl, hb2⟩
      have ho2 := owns_belowS ho1 hb2
      have hb2' := hb1'.trans (hb2.mono hb1'.size)
      clear ho0 ho1 hb0 hb1 hb1' hb2
      go_wp2_with fail
      go_ret
      exact RetI.mk (xs := []) rfl ho2 hb2'
  · have HP := Lib.hid hp
    clear hp hbad
    go_enter Try.func17, Try.ntmps17
    go_wp2_with fail
    with_reducible refine (impl_IsPermutation A p c B _ (hr.alloc hB _) (by simp; omega) (by omega) false (by simp [HP.out])).mono ?_
    rintro e w1 ⟨rfl, hb1⟩
    have ho1 := owns_belowS ho0 hb1
    have hb1' := hb0.trans (hb1.mono hb0.size)
    clear ho0 hb0 hb1
    go_wp2_with fail
    go_ret
    exact RetI.mk (xs := []) rfl ho1 hb1'
end Go.Proofs.Ytpgbpdnijpjfjaa
