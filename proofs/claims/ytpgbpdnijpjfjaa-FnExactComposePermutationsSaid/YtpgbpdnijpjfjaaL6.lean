/- Contracts: InversePermutation, FixedPoints, of the program and of the reference. -/
import Derived.Test.YtpgbpdnijpjfjaaL5
namespace Go.Proofs.Ytpgbpdnijpjfjaa
open Go.RowKit

def invK (p : List Int) : Nat → List Int
  | 0 => List.replicate p.length 0
  | k + 1 => (invK p k).set (p.getD k 0).toNat (k : Int)
theorem invK_len (p : List Int) (k : Nat) : (invK p k).length = p.length := by
  induction k with
  | zero => simp [invK]
  | succ k ih => simp [invK, ih]
theorem invK_set {p : List Int} {k m : Nat} (h : p[k]? = some (m : Int)) : (ints (invK p k)).set m (.int .i64 k) = ints (invK p (k + 1)) := by
  have e : p.getD k 0 = (m : Int) := by simp [List.getD, h]
  rw [invK, e]
  simp [ints, List.map_set]
def fixK (p : List Int) : Nat → List Int
  | 0 => []
  | k + 1 => if p.getD k 0 = (k : Int) then fixK p k ++ [(k : Int)] else fixK p k
theorem fixK_len (p : List Int) (k : Nat) : (fixK p k).length ≤ k := by
  induction k with
  | zero => simp [fixK]
  | succ k ih =>
    rw [fixK]
    split
    · simp; omega
    · omega
theorem fixK_hit {p : List Int} {k : Nat} (h : p[k]? = some (k : Int)) : fixK p (k + 1) = fixK p k ++ [(k : Int)] := by
  rw [fixK, if_pos (by simp [List.getD, h])]
theorem fixK_miss {p : List Int} {k : Nat} {x : Int} (h : p[k]? = some x) (hne : ((k : Int) == x) = false) : fixK p (k + 1) = fixK p k := by
  rw [fixK, if_neg (by simp [List.getD, h]; simp at hne; omega)]

/-- What InversePermutation, FixedPoints hand back. -/
def InvIs (p res : List Int) : Prop := (IsPerm p → res = invK p p.length) ∧ (¬ IsPerm p → res = [])
def FixIs (p res : List Int) : Prop := (IsPerm p → res = fixK p p.length) ∧ (¬ IsPerm p → res = [])

set_option maxHeartbeats 800000 in
theorem impl_Inverse (A : Option Addr) (p : List Int) (c B : Nat) (w : World) (hr : Rs w B A (ints p)) (hB : B ≤ w.heap.size) (hlp : p.length ≤ 1048576) (res : List Int) (hres : InvIs p res) :
    Calls Try.prog 19 #[.slice A p.length c] w fun e w' => RetI 3 res w e w' := by
  by_cases hp : IsPerm p
  · rw [hres.1 hp]
    have hmx : p.length ≤ maxLen := by unfold maxLen; omega
    have HP := Lib.hid hp
    clear hp hres
    go_enter Try.func19, Try.ntmps19
    go_wp2_with fail
    with_reducible refine (impl_IsPermutation A p c B _ hr hB (by omega) true (by simp [HP.out])).mono ?_
    rintro e w0 ⟨rfl, hb0⟩
    have hsz0 := hb0.size
    go_wp2_with (at_make; refine wpList_mk rfl _ _ 22 rfl 3 (.int .i64 0) 8 undSI infoI rfl .i64 .i64 _ _ p.length rfl rfl rfl rfl (by omega) hmx ?_; intro w1 hown1 hgr1 hsz1)
    have hb1 := hb0.trans (below_of_grown hgr1 hsz0 (by intro g hg; cases hg))
    have hown1 := owns_base hown1 hsz0
    go_loopw [4, 5, 15] (fun _ _ i wr => ∃ k : Nat, k ≤ p.length ∧ i = .int .i64 k ∧ wr.ownsRow w.heap.size 3 1 (.slice (some ⟨w0.heap.size, 0, none⟩) p.length p.length) p.length (ints (invK p k)) ∧ Below w.heap.size w wr)
      (fun _ _ i _ => p.length - (intOf i).toNat)
    case atStart => exact ⟨0, Nat.zero_le _, rfl, by simpa [invK, ints] using hown1, hb1⟩
    case round =>
      obtain ⟨k, hk, rfl, hown, hb⟩ := hrel
      by_cases hlt : k < p.length
      · obtain ⟨b, off, x, rfl, -, hx, hc⟩ := ((hr.more hB).below hb).int hlt
        have hxi := HP.out.2.1 x (mem_of_get hx)
        obtain ⟨m, rfl⟩ : ∃ m : Nat, x = m := ⟨x.toNat, by omega⟩
        have hm : m < p.length := by omega
        have HX := Lib.hid hx
        clear hx hxi
        obtain ⟨u, -, hu⟩ := owns_cell hown hm
        have hfz := hown.frozenAt m
        go_wp2_with fail
        go_roundw
        case rel => exact ⟨k + 1, by omega, by go_num, owns_set hown m _ (invK_set HX.out), hb.setCell hsz0 _⟩
        case measure => simp [intOf]; omega
      · go_wp2_with fail
        go_ret
        have hkl : k = p.length := by omega
        subst hkl
        exact RetI.mk (invK_len _ _) hown hb
  · rw [hres.2 hp]
    have HP := Lib.hid hp
    clear hp hres
    go_enter Try.func19, Try.ntmps19
    go_wp2_with fail
    with_reducible refine (impl_IsPermutation A p c B _ hr hB (by omega) false (by simp [HP.out])).mono ?_
    rintro e w0 ⟨rfl, hb0⟩
    go_wp2_with fail
    go_ret
    exact RetI.mk (xs := []) rfl (owns_base (owns_empty w0 3 1) hb0.size) (hb0.alloc hb0.size _)

set_option maxHeartbeats 800000 in
theorem spec_Inverse (A : Option Addr) (p : List Int) (c B : Nat) (w : World) (hr : Rs w B A (ints p)) (hB : B ≤ w.heap.size) (hlp : p.length ≤ 1048576) (res : List Int) (hres : InvIs p res) :
    Calls Try.prog 18 #[.slice A p.length c] w fun e w' => RetI 3 res w e w' := by
  by_cases hp : IsPerm p
  · rw [hres.1 hp]
    have hmx : p.length ≤ maxLen := by unfold maxLen; omega
    have HP := Lib.hid hp
    clear hp hres
    go_enter Try.func18, Try.ntmps18
    go_wp2_with fail
    with_reducible refine (spec_IsPermutation A p c B _ hr (by omega) true (by simp [HP.out])).mono ?_
    rintro e w0 ⟨rfl, n0, rfl⟩
    go_wp2_with (at_make; refine wpList_mk rfl _ _ 22 rfl 3 (.int .i64 0) 8 undSI infoI rfl .i64 .i64 _ _ p.length rfl rfl rfl rfl (by omega) hmx ?_; intro w1 hown1 hgr1 hsz1)
    have hb1 : Below w.heap.size w w1 := below_none (owns_row hgr1)
    have hown1 : w1.ownsRow w.heap.size 3 1 (.slice (some ⟨w.heap.size, 0, none⟩) p.length p.length) p.length (List.replicate p.length (.int .i64 0)) := hown1
    go_loopw [4] (fun i wr => ∃ k : Nat, k ≤ p.length ∧ i = .int .i64 k ∧ wr.ownsRow w.heap.size 3 1 (.slice (some ⟨w.heap.size, 0, none⟩) p.length p.length) p.length (ints (invK p k)) ∧ Below w.heap.size w wr)
      (fun i _ => p.length - (intOf i).toNat)
    case atStart => exact ⟨0, Nat.zero_le _, rfl, by simpa [invK, ints] using hown1, hb1⟩
    case round =>
      obtain ⟨k, hk, rfl, hown, hb⟩ := hrel
      by_cases hlt : k < p.length
      · obtain ⟨b, off, x, rfl, -, hx, hc⟩ := ((hr.more hB).below hb).int hlt
        have hxi := HP.out.2.1 x (mem_of_get hx)
        obtain ⟨m, rfl⟩ : ∃ m : Nat, x = m := ⟨x.toNat, by omega⟩
        have hm : m < p.length := by omega
        have HX := Lib.hid hx
        clear hx hxi
        obtain ⟨u, -, hu⟩ := owns_cell hown hm
        have hfz := hown.frozenAt m
        go_wp2_with fail
        go_roundw
        case rel => exact ⟨k + 1, by omega, by go_num, owns_set hown m _ (invK_set HX.out), hb.setCell (Nat.le_refl _) _⟩
        case measure => simp [intOf]; omega
      · go_wp2_with fail
        go_ret
        have hkl : k = p.length := by omega
        subst hkl
        exact RetI.mk (invK_len _ _) hown hb
  · rw [hres.2 hp]
    have HP := Lib.hid hp
    clear hp hres
    go_enter Try.func18, Try.ntmps18
    go_wp2_with fail
    with_reducible refine (spec_IsPermutation A p c B _ hr (by omega) false (by simp [HP.out])).mono ?_
    rintro e w0 ⟨rfl, n0, rfl⟩
    go_wp2_with fail
    go_ret
    exact RetI.mk (xs := []) rfl (owns_drewN (owns_empty w 3 1) _) (below_drewN ((Below.refl w.heap.size w).alloc (Nat.le_refl _) _) _)

set_option maxHeartbeats 800000 in
theorem impl_Fixed (A : Option Addr) (p : List Int) (c B : Nat) (w : World) (hr : Rs w B A (ints p)) (hB : B ≤ w.heap.size) (hlp : p.length ≤ 1048576) (res : List Int) (hres : FixIs p res) :
    Calls Try.prog 21 #[.slice A p.length c] w fun e w' => RetI 3 res w e w' := by
  have hb0 := (Below.refl w.heap.size w).alloc (Nat.le_refl _) (.cells #[] 3)
  have ho0 := owns_empty w 3 1
  by_cases hp : IsPerm p
  · rw [hres.1 hp]
    have HP := Lib.hid hp
    clear hp hres
    go_enter Try.func21, Try.ntmps21
    go_wp2_with fail
    with_reducible refine (impl_IsPermutation A p c B _ (hr.alloc hB _) (by simp; omega) (by omega) true (by simp [HP.out])).mono ?_
    rintro e w1 ⟨rfl, hb1⟩
    have ho1 := owns_belowS ho0 hb1
    have hb1' := hb0.trans (hb1.mono hb0.size)
    clear ho0 hb0 hb1
    go_wp2_with fail
    go_loopw [3, 4, 5, 13] (fun v _ _ i wr => ∃ k : Nat, k ≤ p.length ∧ i = .int .i64 k ∧ wr.ownsRow w.heap.size 3 1 v (fixK p k).length (ints (fixK p k)) ∧ Below w.heap.size w wr)
      (fun _ _ _ i _ => p.length - (intOf i).toNat)
    case atStart => exact ⟨0, Nat.zero_le _, rfl, ho1, hb1'⟩
    case round =>
      obtain ⟨k, hk, rfl, hown, hb⟩ := hrel
      have hsz := hb.size
      have hfl := fixK_len p k
      by_cases hlt : k < p.length
      · obtain ⟨b, off, x, rfl, -, hx, hc⟩ := ((hr.more hB).below hb).int hlt
        have HX := Lib.hid hx
        clear hx
        by_cases hkx : ((k : Int) == x) = true
        · go_wp2_with (at_builtin; refine wpList_push rfl _ _ 22 rfl w.heap.size 3 (.int .i64 0) 1 8 undSI infoI rfl (by decide) _ _ _ rfl hown 1 [.int .i64 k] rfl rfl ?c1 ?c2 ?c3 hsz ?next)
          case c1 => exact one_of_ints [(k : Int)]
          case c2 => unfold maxLen; omega
          case c3 => omega
          case next =>
            intro v' w3 hown1 hgr _
            go_wp2_with fail
            go_roundw
            case rel =>
              have e : (k : Int) = x := by simpa using hkx
              have hx := HX.out
              rw [← e] at hx
              refine ⟨k + 1, by omega, by go_num, ?_, hb.grown hgr hsz (fun g hg => (hown.lt g hg).1)⟩
              rw [fixK_hit hx, ints_append]
              simpa [ints] using hown1
            case measure => simp [intOf]; omega
        · have hkx' : ((k : Int) == x) = false := by simpa using hkx
          clear hkx
          go_wp2_with fail
          go_roundw
          case rel => exact ⟨k + 1, by omega, by go_num, by rw [fixK_miss HX.out hkx']; exact hown, hb⟩
          case measure => simp [intOf]; omega
      · go_wp2_with fail
        go_ret
        have hkl : k = p.length := by omega
        subst hkl
        exact RetI.mk rfl hown hb
  · rw [hres.2 hp]
    have HP := Lib.hid hp
    clear hp hres
    go_enter Try.func21, Try.ntmps21
    go_wp2_with fail
    with_reducible refine (impl_IsPermutation A p c B _ (hr.alloc hB _) (by simp; omega) (by omega) false (by simp [HP.out])).mono ?_
    rintro e w1 ⟨rfl, hb1⟩
    have ho1 := owns_belowS ho0 hb1
    have hb1' := hb0.trans (hb1.mono hb0.size)
    clear ho0 hb0 hb1
    go_wp2_with fail
    go_ret
    exact RetI.mk (xs := []) rfl ho1 hb1'

set_option maxHeartbeats 800000 in
theorem spec_Fixed (A : Option Addr) (p : List Int) (c B : Nat) (w : World) (hr : Rs w B A (ints p)) (hB : B ≤ w.heap.size) (hlp : p.length ≤ 1048576) (res : List Int) (hres : FixIs p res) :
    Calls Try.prog 20 #[.slice A p.length c] w fun e w' => RetI 3 res w e w' := by
  have hb0 := (Below.refl w.heap.size w).alloc (Nat.le_refl _) (.cells #[] 3)
  have ho0 := owns_empty w 3 1
  by_cases hp : IsPerm p
  · rw [hres.1 hp]
    have HP := Lib.hid hp
    clear hp hres
    go_enter Try.func20, Try.ntmps20
    go_wp2_with fail
    go_loopw [3, 4] (fun v i wr => ∃ k : Nat, k ≤ p.length ∧ i = .int .i64 k ∧ wr.ownsRow w.heap.size 3 1 v (fixK p k).length (ints (fixK p k)) ∧ Below w.heap.size w wr)
      (fun _ i _ => p.length - (intOf i).toNat)
    case atStart => exact ⟨0, Nat.zero_le _, rfl, ho0, hb0⟩
    case round =>
      obtain ⟨k, hk, rfl, hown, hb⟩ := hrel
      have hsz := hb.size
      have hfl := fixK_len p k
      by_cases hlt : k < p.length
      · obtain ⟨b, off, x, hA, -, hx, hc⟩ := ((hr.more hB).below hb).int hlt
        subst hA
        have HX := Lib.hid hx
        clear hx
        by_cases hkx : (x == (k : Int)) = true
        · go_wp2_with fail
          with_reducible refine (spec_IsPermutation _ p c B _ (hr.belowM hb hB) (by omega) true (by simp [HP.out])).mono ?_
          rintro e w1 ⟨rfl, n1, rfl⟩
          go_wp2_with (at_builtin; refine wpList_push rfl _ _ 22 rfl w.heap.size 3 (.int .i64 0) 1 8 undSI infoI rfl (by decide) _ _ _ rfl (owns_drewN hown _) 1 [.int .i64 k] rfl rfl ?c1 ?c2 ?c3 hsz ?next)
          case c1 => exact one_of_ints [(k : Int)]
          case c2 => unfold maxLen; omega
          case c3 => omega
          case next =>
            intro v' w3 hown1 hgr _
            go_wp2_with fail
            go_roundw
            case rel =>
              have e : x = (k : Int) := by simpa using hkx
              have hx := HX.out
              rw [e] at hx
              refine ⟨k + 1, by omega, by go_num, ?_, hb.grown (owns_row hgr) hsz (fun g hg => (hown.lt g hg).1)⟩
              rw [fixK_hit hx, ints_append]
              simpa [ints] using hown1
            case measure => simp [intOf]; omega
        · have hkx' : (x == (k : Int)) = false := by simpa using hkx
          have hkx2 : ((k : Int) == x) = false := by simp at hkx' ⊢; omega
          have HKX := Lib.hid hkx2
          clear hkx hkx2
          go_wp2_with fail
          with_reducible refine (spec_IsPermutation _ p c B _ (hr.belowM hb hB) (by omega) true (by simp [HP.out])).mono ?_
          rintro e w1 ⟨rfl, n1, rfl⟩
          go_wp2_with fail
          go_roundw
          case rel => exact ⟨k + 1, by omega, by go_num, by rw [fixK_miss HX.out HKX.out]; exact owns_drewN hown _, below_drewN hb _⟩
          case measure => simp [intOf]; omega
      · go_wp2_with fail
        go_ret
        have hkl : k = p.length := by omega
        subst hkl
        exact RetI.mk rfl hown hb
  · rw [hres.2 hp]
    have HP := Lib.hid hp
    clear hp hres
    go_enter Try.func20, Try.ntmps20
    go_wp2_with fail
    refine wp_loop_rounds 1 ?_
    rw [rounds_succ]
    by_cases h0 : 0 < p.length
    · go_wp2_with fail
      with_reducible refine (spec_IsPermutation A p c B _ (hr.alloc hB _) (by omega) false (by simp [HP.out])).mono ?_
      rintro e w1 ⟨rfl, n1, rfl⟩
      go_wp2_with fail
      go_ret
      exact RetI.mk (xs := []) rfl (owns_drewN ho0 _) (below_drewN hb0 _)
    · go_wp2_with fail
      go_ret
      exact RetI.mk (xs := []) rfl ho0 hb0
end Go.Proofs.Ytpgbpdnijpjfjaa
