
/- InvertWord of the program; the halves of CompareNielsen. -/
import Derived.Test.YtchgicdjdbjfgaaL12
import Derived.Test.YtchgicdjdbjfgaaB3
import Derived.Deep.RegionHeld3
namespace Go.Proofs.Ytchgicdjdbjfgaa
set_option linter.unusedVariables false
set_option linter.unusedSimpArgs false
open Go.RowKit

set_option maxHeartbeats 800000 in
theorem impl_InvertWord (A : Option Addr) (xs : List Int) (c B : Nat) (w : World) (hr : Rs w B A (ints xs)) (hB : B ≤ w.heap.size) (hok : OkI xs) (hl : xs.length ≤ 4194304) :
    Calls Try.prog 116 #[.slice A xs.length c] w fun e w' => RetI 3 (invW xs) w e w' := by
  have HOK := Lib.hid hok
  clear hok
  have hmx : xs.length ≤ maxLen := by unfold maxLen; omega
  obtain ⟨i0, hi, hz0, hz1, hz2⟩ := info_parts infoI
  have hby : i0.bytes * xs.length ≤ 281474976710656 := by rw [hz2]; omega
  go_enter Try.func116, Try.ntmps116
  go_wp2_with (at_make; refine wpList_make_own _ rfl _ _ 27 rfl w.heap.size 3 i0 (.int .i64 0) 1 undSI hi hz0 hz1 .i64 .i64 _ xs.length rfl rfl rfl hby hmx (Nat.le_refl _) ?_; intro w1 hown1 hgr1)
  have hb1 := below_none hgr1
  clear hi hz0 hz1 hz2 hby
  go_loopw [3, 4] (fun v i wr => ∃ j : Nat, j ≤ xs.length ∧ i = .int .i64 ((j : Int) - 1) ∧ wr.ownsRow w.heap.size 3 1 v (xs.length - j) (ints (invW (xs.drop j))) ∧ Below w.heap.size w wr)
    (fun _ i _ => (intOf i + 1).toNat)
  case atStart => exact ⟨xs.length, Nat.le_refl _, rfl, by simpa [invW, ints] using hown1, hb1⟩
  case round =>
    obtain ⟨j, hj, rfl, hown, hb⟩ := hrel
    have hsz := hb.size
    cases j with
    | zero =>
      go_wp2_with fail
      go_ret
      exact RetI.mk (by rw [invW_len]) (by simpa using hown) hb
    | succ m =>
      rw [show (((m + 1 : Nat) : Int) - 1) = (m : Int) from by omega]
      obtain ⟨b, off, x, rfl, -, hx, hc⟩ := ((hr.more hB).below hb).int (show m < xs.length by omega)
      have hbx := HOK.out x (List.mem_of_getElem? hx)
      have HW := Lib.hid (wrap_neg hbx.1 hbx.2)
      have HX := Lib.hid hx
      clear hx hbx
      go_wp2_with (at_builtin; refine wpList_push rfl _ _ 27 rfl w.heap.size 3 (.int .i64 0) 1 8 undSI infoI rfl (by decide) _ _ _ rfl hown 1 [.int .i64 (wrap64 (-x))] rfl rfl ?c1 ?c2 ?c3 hsz ?next)
      case c1 => exact one_of_ints [wrap64 (-x)]
      case c2 => unfold maxLen; omega
      case c3 => omega
      case next =>
        intro v' w1 hown1 hgr _
        go_wp2_with fail
        go_roundw
        case rel =>
          refine ⟨m, by omega, rfl, ?_, hb.grown hgr hsz (fun g hg => (hown.lt g hg).1)⟩
          rw [drop_of xs HX.out, invW_cons, ints_append, show xs.length - m = xs.length - (m + 1) + 1 from by omega, ← HW.out]
          exact hown1
        case measure => simp [intOf]

/-! ### the halves -/
def halfN (xs : List Int) : Nat := (xs.length + 1) / 2
def halfA (xs : List Int) : List Int := xs.take (halfN xs)
def halfB (xs : List Int) : List Int := (invW xs).take (halfN xs)
def halves (xs : List Int) : List Int × List Int := if 0 < cmpW (halfA xs) (halfB xs) then (halfB xs, halfA xs) else (halfA xs, halfB xs)
theorem halfN_le (xs : List Int) : halfN xs ≤ xs.length := by unfold halfN; omega
theorem halfA_len (xs : List Int) : (halfA xs).length = halfN xs := by unfold halfA; rw [List.length_take]; have := halfN_le xs; omega
theorem halfB_len (xs : List Int) : (halfB xs).length = halfN xs := by unfold halfB; rw [List.length_take, invW_len]; have := halfN_le xs; omega
theorem okI_take {xs : List Int} (h : OkI xs) (k : Nat) : OkI (xs.take k) := fun x hx => h x (List.mem_of_mem_take hx)
theorem okI_invW {xs : List Int} (h : OkI xs) : OkI (invW xs) := by
  intro x hx
  unfold invW at hx
  rw [List.mem_reverse, List.mem_map] at hx
  obtain ⟨y, hy, rfl⟩ := hx
  have := h y hy
  unfold negI minI
  split <;> omega
theorem ints_take (xs : List Int) (k : Nat) : ints (xs.take k) = (ints xs).take k := by simp [ints, List.map_take]
theorem halves_len (xs : List Int) : (halves xs).1.length = halfN xs ∧ (halves xs).2.length = halfN xs := by
  unfold halves
  split <;> exact ⟨by simp [halfA_len, halfB_len], by simp [halfA_len, halfB_len]⟩
theorem halves_ok {xs : List Int} (h : OkI xs) : OkI (halves xs).1 ∧ OkI (halves xs).2 := by
  have h1 : OkI (halfA xs) := okI_take h _
  have h2 : OkI (halfB xs) := okI_take (okI_invW h) _
  unfold halves
  split
  · exact ⟨h2, h1⟩
  · exact ⟨h1, h2⟩

/-- What both give back. -/
def RetHalves (xs : List Int) (w : World) (e : Ending) (w' : World) : Prop :=
  ∃ A c A' c', e = .returned (.tuple #[.slice A (halfN xs) c, .slice A' (halfN xs) c']) ∧ Rs w' w'.heap.size A (ints (halves xs).1) ∧ Rs w' w'.heap.size A' (ints (halves xs).2) ∧ Mid 0 0 w w'

set_option maxHeartbeats 1600000 in
theorem spec_l20Halves (A : Option Addr) (xs : List Int) (c : Nat) (w : World) (hr : Rs w w.heap.size A (ints xs)) (hc : xs.length ≤ c) (hok : OkI xs) (hl : xs.length ≤ 1048576) :
    Calls Try.prog 145 #[.slice A xs.length c] w fun e w' => RetHalves xs w e w' := by
  have HOK := Lib.hid hok
  clear hok
  obtain ⟨h, hh⟩ : ∃ h, h = halfN xs := ⟨_, rfl⟩
  have hn := halfN_le xs
  rw [← hh] at hn
  have hq : ((xs.length : Int) + 1).tdiv 2 = (h : Int) := by
    rw [hh]
    unfold halfN
    rw [Int.tdiv_eq_ediv_of_nonneg (by omega)]
    omega
  have HH := Lib.hid hh
  clear hh
  have ho0 := owns_empty w 3 1
  go_enter Try.func145, Try.ntmps145
  have hra : Rs (w.alloc (.cells #[] 3)) w.heap.size A (ints (halfA xs)) := by
    unfold halfA
    rw [ints_take]
    exact (hr.alloc (Nat.le_refl _) _).take _
  have hla : (ints (halfA xs)).length = h * 1 := by rw [ints_len, halfA_len, HH.out]; omega
  go_wp2_with (at_builtin; refine wpList_cat rfl _ _ 27 rfl w.heap.size 3 (.int .i64 0) 1 8 undSI infoI rfl (by decide) _ _ _ rfl ho0 A h c w.heap.size (ints (halfA xs)) rfl hra hla (one_of_ints _) ?c2 ?c3 (by simp) ?next)
  case c2 => unfold maxLen; omega
  case c3 => omega
  case next =>
    intro v1 w1 hown1 hgr1 _
    obtain ⟨A1, c1, rfl, -, -⟩ := owns_shape hown1
    have hb1 : Below w.heap.size w w1 := (below_none (World.grownBy_alloc w _ none)).grown hgr1 (by simp) (fun g hg => (ho0.lt g hg).1)
    have hr1 := hr.below hb1
    have hs1 := hb1.size
    go_wp2_with fail
    with_reducible refine (spec_InvertWord A xs c _ _ hr1 hs1 HOK.out (by omega)).mono ?_
    rintro e w2 ⟨A2, c2, rfl, ho2, hb2⟩
    obtain ⟨A2', c2', he2, hn2, -⟩ := owns_shape ho2
    injection he2 with he2a _ he2c
    subst he2a he2c
    rw [invW_len] at hn2 ho2 ⊢
    have hm2 : h ≤ c2 := by omega
    have hra2 : Rs w2 w2.heap.size A1 (ints (halfA xs)) := ((Rs.of_own hown1).below hb2).more hb2.size
    have hrb2 : Rs w2 w2.heap.size A2 (ints (halfB xs)) := by
      unfold halfB
      rw [ints_take]
      exact (Rs.of_own ho2).take _
    have hb : Mid 0 0 w w2 := Mid.of_below (hb1.trans (hb2.mono hs1))
    have hC := spec_CompareWords A1 A2 (halfA xs) (halfB xs) c1 c2 w2 _ _ hra2 hrb2 (okI_take HOK.out _) (okI_take (okI_invW HOK.out) _) (by rw [halfA_len]; have := halfN_le xs; omega) (by rw [halfB_len]; have := halfN_le xs; omega)
    rw [halfA_len, halfB_len, ← HH.out] at hC
    obtain ⟨q, hqq⟩ : ∃ q, q = cmpW (halfA xs) (halfB xs) := ⟨_, rfl⟩
    rw [← hqq] at hC
    have HQ := Lib.hid hqq
    have HC := Lib.hid hC
    have HRA := Lib.hid hra2
    have HRB := Lib.hid hrb2
    clear hqq hC hra hra2 hrb2 hr1 hr ho2 hown1 ho0
    by_cases hpos : 0 < q
    · go_wp2_with fail
      with_reducible refine HC.out.mono ?_
      rintro e w3 ⟨rfl, n, rfl⟩
      go_wp2_with fail
      go_ret2
      have e : halves xs = (halfB xs, halfA xs) := by unfold halves; rw [← HQ.out, if_pos hpos]
      rw [RetHalves, e, ← HH.out]
      exact ⟨A2, c2, A1, c1, rfl, HRB.out.drewN n, HRA.out.drewN n, hb.drewN n⟩
    · go_wp2_with fail
      with_reducible refine HC.out.mono ?_
      rintro e w3 ⟨rfl, n, rfl⟩
      go_wp2_with fail
      go_ret2
      have e : halves xs = (halfA xs, halfB xs) := by unfold halves; rw [← HQ.out, if_neg (by omega)]
      rw [RetHalves, e, ← HH.out]
      exact ⟨A1, c1, A2, c2, rfl, HRA.out.drewN n, HRB.out.drewN n, hb.drewN n⟩

theorem impl_InvertWordX (A : Option Addr) (xs : List Int) (c B : Nat) (w : World) (hr : Rs w B A (ints xs)) (hB : B ≤ w.heap.size) (hok : OkI xs) (hl : xs.length ≤ 4194304) :
    Calls Try.prog 116 #[.slice A xs.length c] w fun e w' => ∃ A2 c2, e = .returned (.slice A2 xs.length c2) ∧ xs.length ≤ c2 ∧ w'.ownsRow w.heap.size 3 1 (.slice A2 xs.length c2) xs.length (ints (invW xs)) ∧ Below w.heap.size w w' :=
  (impl_InvertWord A xs c B w hr hB hok hl).mono fun e w' h => by
    obtain ⟨A2, c2, he, ho, hb⟩ := h
    obtain ⟨A2', c2', he2, hn2, -⟩ := owns_shape ho
    injection he2 with he2a _ he2c
    subst he2a he2c
    rw [invW_len] at he hn2 ho
    exact ⟨A2, c2, he, hn2, ho, hb⟩

set_option maxHeartbeats 1600000 in
theorem impl_halves (A : Option Addr) (xs : List Int) (c : Nat) (w : World) (hr : Rs w w.heap.size A (ints xs)) (hc : xs.length ≤ c) (hok : OkI xs) (hl : xs.length ≤ 1048576) :
    Calls Try.prog 150 #[.slice A xs.length c] w fun e w' => RetHalves xs w e w' := by
  have HOK := Lib.hid hok
  clear hok
  obtain ⟨h, hh⟩ : ∃ h, h = halfN xs := ⟨_, rfl⟩
  have hn := halfN_le xs
  rw [← hh] at hn
  have hq : ((xs.length : Int) + 1).tdiv 2 = (h : Int) := by
    rw [hh]
    unfold halfN
    rw [Int.tdiv_eq_ediv_of_nonneg (by omega)]
    omega
  have HH := Lib.hid hh
  clear hh
  have hhc : h ≤ c := by omega
  go_enter Try.func150, Try.ntmps150
  go_wp2_with fail
  have hrd : Rs w.drew w.drew.heap.size A (ints xs) := hr
  have hdl : w.drew.heap.size ≤ w.drew.heap.size := Nat.le_refl _
  go_region_held3 (fun w' => True) (first | trivial) (first | (go_at_call 116; with_reducible refine (impl_InvertWordX A xs c _ _ hrd hdl HOK.out (by omega)).mono ?_; rintro e w2 ⟨A2, c2, rfl, hn2, ho2, hb2⟩; have hm2 : h ≤ c2 := by omega))
  have hra2 : Rs w2 w2.heap.size A (ints (halfA xs)) := by
    unfold halfA
    rw [ints_take]
    exact ((hrd.below hb2).more hb2.size).take _
  have hrb2 : Rs w2 w2.heap.size A2 (ints (halfB xs)) := by
    unfold halfB
    rw [ints_take]
    exact (Rs.of_own ho2).take _
  have hb : Mid 0 0 w w2 := (Mid.drew1 w).trans (Mid.of_below hb2)
  have hC := impl_CompareWords A2 A (halfB xs) (halfA xs) c2 c w2 _ _ hrb2 hra2 (okI_take (okI_invW HOK.out) _) (okI_take HOK.out _) (by rw [halfB_len]; have := halfN_le xs; omega) (by rw [halfA_len]; have := halfN_le xs; omega)
  have hsw := cmpW_swap (a := halfA xs) (b := halfB xs) (fun x hx => (okI_take HOK.out _ x hx).1) (fun x hx => (okI_take (okI_invW HOK.out) _ x hx).1)
  rw [hsw, halfA_len, halfB_len, ← HH.out] at hC
  obtain ⟨q, hqq⟩ : ∃ q, q = cmpW (halfA xs) (halfB xs) := ⟨_, rfl⟩
  rw [← hqq] at hC
  have HQ := Lib.hid hqq
  have HC := Lib.hid hC
  have HRA := Lib.hid hra2
  have HRB := Lib.hid hrb2
  clear hqq hC hra2 hrb2 hrd hr ho2 hsw
  by_cases hpos : 0 < q
  · have hneg : -q < 0 := by omega
    go_wp2_with fail
    with_reducible refine HC.out.mono ?_
    rintro e w3 ⟨rfl, n, rfl⟩
    go_wp2_with fail
    go_ret2
    have e : halves xs = (halfB xs, halfA xs) := by unfold halves; rw [← HQ.out, if_pos hpos]
    rw [RetHalves, e, ← HH.out]
    exact ⟨A2, c2, A, c, rfl, HRB.out.drewN n, HRA.out.drewN n, hb.drewN n⟩
  · have hneg : ¬ -q < 0 := by omega
    go_wp2_with fail
    with_reducible refine HC.out.mono ?_
    rintro e w3 ⟨rfl, n, rfl⟩
    go_wp2_with fail
    go_ret2
    have e : halves xs = (halfA xs, halfB xs) := by unfold halves; rw [← HQ.out, if_neg (by omega)]
    rw [RetHalves, e, ← HH.out]
    exact ⟨A, c, A2, c2, rfl, HRA.out.drewN n, HRB.out.drewN n, hb.drewN n⟩
end Go.Proofs.Ytchgicdjdbjfgaa
