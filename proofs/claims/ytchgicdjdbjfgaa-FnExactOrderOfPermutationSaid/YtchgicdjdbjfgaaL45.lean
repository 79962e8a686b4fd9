/- CycleType and SignOf in the laws' words; SignOf, both sides. -/
import Derived.Test.YtchgicdjdbjfgaaL44
import Derived.Test.YtchgicdjdbjfgaaK1
namespace Go.Proofs.Ytchgicdjdbjfgaa
set_option linter.unusedVariables false
set_option linter.unusedSimpArgs false
open Go.RowKit

def CycleTypeIs (p res : List Int) : Prop := CycIs p res
theorem CycleTypeIs_ex (p : List Int) (_ : OkI p) (_ : p.length ≤ 1048576) : ∃ res, CycleTypeIs p res := by
  by_cases h : IsPerm p
  · exact ⟨cyc p, fun _ => rfl, fun h' => absurd h h'⟩
  · exact ⟨[], fun h' => absurd h' h, fun _ => rfl⟩
theorem CycIs.len {p res : List Int} (h : CycIs p res) (hl : p.length ≤ 1048576) : res.length ≤ 1048576 := by
  by_cases hp : IsPerm p
  · rw [h.1 hp]
    have := cyc_len hp
    omega
  · rw [h.2 hp]
    simp
theorem CycleTypeIs_len {p res : List Int} (h : CycleTypeIs p res) (_ : OkI p) (hl : p.length ≤ 1048576) : res.length ≤ 1048576 := CycIs.len h hl
theorem sspec_CycleType (A : Option Addr) (p : List Int) (c : Nat) (w : World) (lo hi : Nat) (h : RI w lo hi A p) (_o : OkI p) (hl : p.length ≤ 1048576) (r : List Int) (hr : CycleTypeIs p r) :
    Calls Try.prog 20 #[.slice A p.length c] w (StpI r w) := (spec_CycleType A p c _ w h.rs (Nat.le_refl _) hl r hr).mono fun _ _ h => h.stp
theorem simpl_CycleType (A : Option Addr) (p : List Int) (c : Nat) (w : World) (lo hi : Nat) (h : RI w lo hi A p) (_o : OkI p) (hl : p.length ≤ 1048576) (r : List Int) (hr : CycleTypeIs p r) :
    Calls Try.prog 22 #[.slice A p.length c] w (StpI r w) := (impl_CycleType A p c _ w h.rs (Nat.le_refl _) hl r hr).mono fun _ _ h => h.stp

def SignOfIs (p : List Int) (res : Int) : Prop := ∃ cy, CycIs p cy ∧ ((IsPerm p → res = if (p.length - cy.length) % 2 = 0 then 1 else -1) ∧ (¬ IsPerm p → res = 0))
theorem SignOfIs_ex (p : List Int) (_ : OkI p) (_ : p.length ≤ 1048576) : ∃ res, SignOfIs p res := by
  by_cases h : IsPerm p
  · exact ⟨_, cyc p, ⟨fun _ => rfl, fun h' => absurd h h'⟩, fun _ => rfl, fun h' => absurd h h'⟩
  · exact ⟨0, [], ⟨fun h' => absurd h' h, fun _ => rfl⟩, fun h' => absurd h' h, fun _ => rfl⟩

set_option maxHeartbeats 800000 in
theorem simpl_SignOf (A : Option Addr) (p : List Int) (c : Nat) (w : World) (lo hi : Nat) (h : RI w lo hi A p) (_o : OkI p) (hl : p.length ≤ 1048576) (res : Int) (hres : SignOfIs p res) :
    Calls Try.prog 27 #[.slice A p.length c] w (Stp (.int .i64 res) w) := by
  obtain ⟨cy, hcy, hr1, hr2⟩ := hres
  have hr := h.rs
  have HCY := Lib.hid hcy
  have hlc := hcy.len hl
  clear h hcy
  by_cases hp : IsPerm p
  · have hres := hr1 hp
    have hle : cy.length ≤ p.length := by rw [HCY.out.1 hp]; exact cyc_len hp
    have HP := Lib.hid hp
    clear hp hr1 hr2
    by_cases hev : (p.length - cy.length) % 2 = 0
    · rw [if_pos hev] at hres
      subst hres
      have hev2 : (((p.length : Int) - (cy.length : Int)) % 2 == 0) = true := by simp; omega
      have hd0 : (0 : Int) ≤ (p.length : Int) - (cy.length : Int) := by omega
      clear hev
      go_enter Try.func27, Try.ntmps27
      go_wp2_with fail
      with_reducible refine (impl_IsPermutation A p c _ _ hr (Nat.le_refl _) hl true (iff_of_true rfl HP.out)).mono ?_
      rintro e w1 ⟨rfl, hb1⟩
      have hr1 := (hr.below hb1).more hb1.size
      go_wp2_with fail
      with_reducible refine (impl_CycleType A p c _ _ hr1 (Nat.le_refl _) hl cy HCY.out).mono ?_
      rintro e w2 ⟨A2, c2, rfl, ho2, hb2⟩
      go_wp2_with fail
      go_ret
      exact ⟨rfl, (Mid.of_below hb1).trans (Mid.of_below hb2)⟩
    · rw [if_neg hev] at hres
      subst hres
      have hev2 : (((p.length : Int) - (cy.length : Int)) % 2 == 0) = false := by simp; omega
      have hd0 : (0 : Int) ≤ (p.length : Int) - (cy.length : Int) := by omega
      clear hev
      go_enter Try.func27, Try.ntmps27
      go_wp2_with fail
      with_reducible refine (impl_IsPermutation A p c _ _ hr (Nat.le_refl _) hl true (iff_of_true rfl HP.out)).mono ?_
      rintro e w1 ⟨rfl, hb1⟩
      have hr1 := (hr.below hb1).more hb1.size
      go_wp2_with fail
      with_reducible refine (impl_CycleType A p c _ _ hr1 (Nat.le_refl _) hl cy HCY.out).mono ?_
      rintro e w2 ⟨A2, c2, rfl, ho2, hb2⟩
      go_wp2_with fail
      go_ret
      exact ⟨rfl, (Mid.of_below hb1).trans (Mid.of_below hb2)⟩
  · obtain rfl : res = 0 := hr2 hp
    have HN := Lib.hid hp
    clear hp hr1 hr2
    go_enter Try.func27, Try.ntmps27
    go_wp2_with fail
    with_reducible refine (impl_IsPermutation A p c _ _ hr (Nat.le_refl _) hl false (iff_of_false Bool.false_ne_true HN.out)).mono ?_
    rintro e w1 ⟨rfl, hb1⟩
    go_wp2_with fail
    go_ret
    exact ⟨rfl, Mid.of_below hb1⟩

set_option maxHeartbeats 800000 in
theorem sspec_SignOf (A : Option Addr) (p : List Int) (c : Nat) (w : World) (lo hi : Nat) (h : RI w lo hi A p) (_o : OkI p) (hl : p.length ≤ 1048576) (res : Int) (hres : SignOfIs p res) :
    Calls Try.prog 26 #[.slice A p.length c] w (Stp (.int .i64 res) w) := by
  obtain ⟨cy, hcy, hr1, hr2⟩ := hres
  have hr := h.rs
  have HCY := Lib.hid hcy
  have hlc := hcy.len hl
  clear h hcy
  by_cases hp : IsPerm p
  · have hres := hr1 hp
    have hle : cy.length ≤ p.length := by rw [HCY.out.1 hp]; exact cyc_len hp
    have HP := Lib.hid hp
    clear hp hr1 hr2
    by_cases hev : (p.length - cy.length) % 2 = 0
    · rw [if_pos hev] at hres
      subst hres
      have hev2 : (((p.length : Int) - (cy.length : Int)) % 2 == 0) = true := by simp; omega
      have hd0 : (0 : Int) ≤ (p.length : Int) - (cy.length : Int) := by omega
      clear hev
      go_enter Try.func26, Try.ntmps26
      go_wp2_with fail
      with_reducible refine (spec_CycleType A p c _ _ hr (Nat.le_refl _) hl cy HCY.out).mono ?_
      rintro e w2 ⟨A2, c2, rfl, ho2, hb2⟩
      have hr1 := (hr.below hb2).more hb2.size
      go_wp2_with fail
      with_reducible refine (spec_IsPermutation A p c _ _ hr1 hl true (iff_of_true rfl HP.out)).mono ?_
      rintro e w1 ⟨rfl, nd, rfl⟩
      go_wp2_with fail
      go_ret
      exact ⟨rfl, (Mid.of_below hb2).drewN nd⟩
    · rw [if_neg hev] at hres
      subst hres
      have hev2 : (((p.length : Int) - (cy.length : Int)) % 2 == 0) = false := by simp; omega
      have hd0 : (0 : Int) ≤ (p.length : Int) - (cy.length : Int) := by omega
      clear hev
      go_enter Try.func26, Try.ntmps26
      go_wp2_with fail
      with_reducible refine (spec_CycleType A p c _ _ hr (Nat.le_refl _) hl cy HCY.out).mono ?_
      rintro e w2 ⟨A2, c2, rfl, ho2, hb2⟩
      have hr1 := (hr.below hb2).more hb2.size
      go_wp2_with fail
      with_reducible refine (spec_IsPermutation A p c _ _ hr1 hl true (iff_of_true rfl HP.out)).mono ?_
      rintro e w1 ⟨rfl, nd, rfl⟩
      go_wp2_with fail
      go_ret
      exact ⟨rfl, (Mid.of_below hb2).drewN nd⟩
  · obtain rfl : res = 0 := hr2 hp
    have HN := Lib.hid hp
    clear hp hr1 hr2
    go_enter Try.func26, Try.ntmps26
    go_wp2_with fail
    with_reducible refine (spec_CycleType A p c _ _ hr (Nat.le_refl _) hl cy HCY.out).mono ?_
    rintro e w2 ⟨A2, c2, rfl, ho2, hb2⟩
    have hr1 := (hr.below hb2).more hb2.size
    go_wp2_with fail
    with_reducible refine (spec_IsPermutation A p c _ _ hr1 hl false (iff_of_false Bool.false_ne_true HN.out)).mono ?_
    rintro e w1 ⟨rfl, nd, rfl⟩
    go_wp2_with fail
    go_ret
    exact ⟨rfl, (Mid.of_below hb2).drewN nd⟩
end Go.Proofs.Ytchgicdjdbjfgaa
