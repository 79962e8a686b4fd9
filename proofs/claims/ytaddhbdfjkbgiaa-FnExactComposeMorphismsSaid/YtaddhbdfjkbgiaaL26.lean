/- ApplyMorphism, both sides, in the laws' words. -/
import Derived.Test.YtaddhbdfjkbgiaaL19
import Derived.Test.YtaddhbdfjkbgiaaL21
import Derived.Test.YtaddhbdfjkbgiaaL25
namespace Go.Proofs.Ytaddhbdfjkbgiaa
set_option linter.unusedVariables false
set_option linter.unusedSimpArgs false
open Go.RowKit

def ApplyMorphismIs (r : Int) (d : List (List Int)) (l : List Int) (res : List Int) (b : Bool) : Prop :=
  ((IsMor r d ∧ IsW r l) → res = expand d l ∧ b = true) ∧ (¬ (IsMor r d ∧ IsW r l) → res = [] ∧ b = false)
theorem ApplyMorphismIs_ex (r : Int) (d : List (List Int)) (l : List Int) (_ : (Lit.int .i64 r).wf = true) (_ : OkSS d) (_ : d.length + sumL d ≤ 1048576) (_ : OkI l) (_ : l.length ≤ 1048576) : ∃ res b, ApplyMorphismIs r d l res b := by
  by_cases h : IsMor r d ∧ IsW r l
  · exact ⟨expand d l, true, fun _ => ⟨rfl, rfl⟩, fun h' => absurd h h'⟩
  · exact ⟨[], false, fun h' => absurd h' h, fun _ => ⟨rfl, rfl⟩⟩
theorem expand_len {d : List (List Int)} (hb : ∀ xs ∈ d, xs.length ≤ 24) (ho : ∀ xs ∈ d, OkI xs) (l : List Int) : (expand d l).length ≤ 4800 := by
  have h1 := red_nil_len (pieces d (l.take 200)).flatten
  have h2 := pieces_take_len hb ho l (Nat.le_refl 200)
  unfold expand
  omega
theorem ApplyMorphismIs_len {r : Int} {d : List (List Int)} {l : List Int} {res : List Int} {b : Bool} (h : ApplyMorphismIs r d l res b) (_ : (Lit.int .i64 r).wf = true) (ho : OkSS d) (_ : d.length + sumL d ≤ 1048576) (_ : OkI l) (_ : l.length ≤ 1048576) : res.length ≤ 1048576 := by
  by_cases hg : IsMor r d ∧ IsW r l
  · rw [(h.1 hg).1]
    have := expand_len (fun xs hx => (hg.1.2.2.2 xs hx).2.2.1) ho.2 l
    omega
  · rw [(h.2 hg).1]
    simp


set_option maxHeartbeats 1600000 in
theorem sspec_ApplyMorphism (r : Int) (A : Option Addr) (d : List (List Int)) (c : Nat) (A' : Option Addr) (l : List Int) (c' : Nat) (w : World) (lo hi : Nat) (h : OSS w lo hi 36 3 A c d) (_b : (Lit.int .i64 r).wf = true) (hok : OkSS d) (hl : d.length + sumL d ≤ 1048576)
    (lo' hi' : Nat) (h' : OI w lo' hi' A' c' l) (hokl : OkI l) (hll : l.length ≤ 1048576) (res : List Int) (b : Bool) (hres : ApplyMorphismIs r d l res b) :
    Calls Try.prog 50 #[.agg #[.int .i64 r, .slice A d.length c], .slice A' l.length c'] w fun e w' => ∃ A2 c2, e = .returned (.tuple #[.slice A2 res.length c2, .bool b]) ∧ OI w' w.heap.size w'.heap.size A2 c2 res ∧ Mid 0 0 w w' := by
  have hr := h.rss
  have hr' := h'.ri.rs
  have hcap := h'.cap
  have HOK := Lib.hid hok
  have HOL := Lib.hid hokl
  have HRES := Lib.hid hres
  clear h h' hok hokl hres
  have hb0 : Mid 0 0 w (w.alloc (.cells #[.int .i64 r, .slice A d.length c] 24)) := Mid.alloc _ _
  have hbx := Box.new w #[.int .i64 r, .slice A d.length c] 24
  have hrb := hr.mid hb0 (Or.inl (Nat.zero_le _))
  have hrb' := (hr'.below hb0.bel).more hb0.size
  clear hr hr'
  obtain ⟨v, hv⟩ := bool_of (IsMor r d)
  obtain ⟨u, hu⟩ := bool_of (IsW r l)
  have HV := Lib.hid hv
  have HU := Lib.hid hu
  clear hv hu
  cases hvc : v with
  | false =>
    obtain ⟨e1, e2⟩ := HRES.out.2 (fun hh => by have := HV.out.2 hh.1; rw [hvc] at this; cases this)
    subst e1 e2
    subst hvc
    go_enter Try.func50, Try.ntmps50
    go_wp2_with fail
    with_reducible refine (spec_IsMorphism r A d c _ _ _ hrb HOK.out hl _ HV.out).mono ?_
    rintro e w1 ⟨rfl, hm1⟩
    have hm := hb0.trans hm1
    have ho := owns_empty w1 3 1
    go_wp2_with fail
    go_ret2
    exact ⟨_, _, rfl, (OV.new ho).wide hm.size (Nat.le_refl _) (Nat.le_refl _), hm.trans (Mid.alloc _ _)⟩
  | true =>
    subst hvc
    have hmor : IsMor r d := HV.out.1 rfl
    have HM := Lib.hid hmor
    clear hmor HV
    cases huc : u with
    | false =>
      obtain ⟨e1, e2⟩ := HRES.out.2 (fun hh => by have := HU.out.2 hh.2; rw [huc] at this; cases this)
      subst e1 e2
      have hnw : ¬ IsW r l := fun h => by
        have h2 := HU.out.2 h
        rw [huc] at h2
        cases h2
      have HNW := Lib.hid hnw
      subst huc
      clear HU hnw
      go_enter Try.func50, Try.ntmps50
      go_wp2_with fail
      with_reducible refine (spec_IsMorphism r A d c _ _ _ hrb HOK.out hl true (iff_of_true rfl HM.out)).mono ?_
      rintro e w1 ⟨rfl, hm1⟩
      have hbx1 := hbx.mid hm1 (Or.inr (Nat.zero_le _))
      have hrl1 := (hrb'.below hm1.bel).more hm1.size
      have hm := hb0.trans hm1
      have k0 := hbx1.cell 0 rfl
      have k1 := hbx1.cell 1 rfl
      go_wp2_with fail
      with_reducible refine (spec_IsWord r A' l c' _ _ hrl1 HOL.out (by omega) false (iff_of_false Bool.false_ne_true HNW.out)).mono ?_
      rintro e w2 ⟨rfl, n, rfl⟩
      have ho := owns_empty (w1.drewN n) 3 1
      go_wp2_with fail
      go_ret2
      exact ⟨_, _, rfl, (OV.new ho).wide hm.size (Nat.le_refl _) (Nat.le_refl _), (hm.drewN n).trans (Mid.alloc _ _)⟩
    | true =>
      subst huc
      have hw : IsW r l := HU.out.1 rfl
      obtain ⟨e1, e2⟩ := HRES.out.1 ⟨HM.out, hw⟩
      subst e2
      have HE := Lib.hid e1
      have HW := Lib.hid hw
      have h24 : ∀ xs ∈ d, xs.length ≤ 24 := fun xs hx => (HM.out.2.2.2 xs hx).2.2.1
      have H24 := Lib.hid h24
      clear e1 hw HU HRES h24
      go_enter Try.func50, Try.ntmps50
      go_wp2_with fail
      with_reducible refine (spec_IsMorphism r A d c _ _ _ hrb HOK.out hl true (iff_of_true rfl HM.out)).mono ?_
      rintro e w1 ⟨rfl, hm1⟩
      have hbx1 := hbx.mid hm1 (Or.inr (Nat.zero_le _))
      have hrl1 := (hrb'.below hm1.bel).more hm1.size
      have hrd1 := hrb.mid hm1 (Or.inl (Nat.zero_le _))
      have hm := hb0.trans hm1
      have k0 := hbx1.cell 0 rfl
      have k1 := hbx1.cell 1 rfl
      go_wp2_with fail
      with_reducible refine (spec_IsWord r A' l c' _ _ hrl1 HOL.out (by omega) true (iff_of_true rfl HW.out)).mono ?_
      rintro e w2 ⟨rfl, n, rfl⟩
      go_wp2_with fail
      have hC := spec_ExpandBy A d c A' l c' (w1.drewN n) _ _ (hrd1.mid ((Mid.refl 0 0 w1).drewN n) (Or.inl (Nat.zero_le _))) (hrl1.drewN n) H24.out HOK.out.2 HOL.out (by omega) hll
      refine hC.mono ?_
      rintro e w3 ⟨A2, c2, rfl, ho3, hb3⟩
      rw [← HE.out] at ho3 ⊢
      go_wp2_with fail
      go_ret2
      exact ⟨_, _, rfl, (OV.new ho3).wide hm.size (Nat.le_refl _) (Nat.le_refl _), (hm.drewN n).trans (Mid.of_below hb3)⟩


set_option maxHeartbeats 1600000 in
theorem simpl_ApplyMorphism (r : Int) (A : Option Addr) (d : List (List Int)) (c : Nat) (A' : Option Addr) (l : List Int) (c' : Nat) (w : World) (lo hi : Nat) (h : OSS w lo hi 36 3 A c d) (_b : (Lit.int .i64 r).wf = true) (hok : OkSS d) (hl : d.length + sumL d ≤ 1048576)
    (lo' hi' : Nat) (h' : OI w lo' hi' A' c' l) (hokl : OkI l) (hll : l.length ≤ 1048576) (res : List Int) (b : Bool) (hres : ApplyMorphismIs r d l res b) :
    Calls Try.prog 51 #[.agg #[.int .i64 r, .slice A d.length c], .slice A' l.length c'] w fun e w' => ∃ A2 c2, e = .returned (.tuple #[.slice A2 res.length c2, .bool b]) ∧ OI w' w.heap.size w'.heap.size A2 c2 res ∧ Mid 0 0 w w' := by
  have hr := h.rss
  have hr' := h'.ri.rs
  have hcap := h'.cap
  have HOK := Lib.hid hok
  have HOL := Lib.hid hokl
  have HRES := Lib.hid hres
  clear h h' hok hokl hres
  have hb0 : Mid 0 0 w (w.alloc (.cells #[.int .i64 r, .slice A d.length c] 24)) := Mid.alloc _ _
  have hbx := Box.new w #[.int .i64 r, .slice A d.length c] 24
  have hrb := hr.mid hb0 (Or.inl (Nat.zero_le _))
  have hrb' := (hr'.below hb0.bel).more hb0.size
  clear hr hr'
  obtain ⟨v, hv⟩ := bool_of (IsMor r d)
  obtain ⟨u, hu⟩ := bool_of (IsW r l)
  have HV := Lib.hid hv
  have HU := Lib.hid hu
  clear hv hu
  cases hvc : v with
  | false =>
    obtain ⟨e1, e2⟩ := HRES.out.2 (fun hh => by have := HV.out.2 hh.1; rw [hvc] at this; cases this)
    subst e1 e2
    subst hvc
    go_enter Try.func51, Try.ntmps51
    go_wp2_with fail
    with_reducible refine (impl_IsMorphism r A d c _ _ _ hrb HOK.out hl _ HV.out).mono ?_
    rintro e w1 ⟨rfl, hm1⟩
    have hm := hb0.trans hm1
    have ho := owns_empty w1 3 1
    go_wp2_with fail
    go_ret2
    exact ⟨_, _, rfl, (OV.new ho).wide hm.size (Nat.le_refl _) (Nat.le_refl _), hm.trans (Mid.alloc _ _)⟩
  | true =>
    subst hvc
    have hmor : IsMor r d := HV.out.1 rfl
    have HM := Lib.hid hmor
    clear hmor HV
    cases huc : u with
    | false =>
      obtain ⟨e1, e2⟩ := HRES.out.2 (fun hh => by have := HU.out.2 hh.2; rw [huc] at this; cases this)
      subst e1 e2
      have hnw : ¬ IsW r l := fun h => by
        have h2 := HU.out.2 h
        rw [huc] at h2
        cases h2
      have HNW := Lib.hid hnw
      subst huc
      clear HU hnw
      go_enter Try.func51, Try.ntmps51
      go_wp2_with fail
      with_reducible refine (impl_IsMorphism r A d c _ _ _ hrb HOK.out hl true (iff_of_true rfl HM.out)).mono ?_
      rintro e w1 ⟨rfl, hm1⟩
      have hbx1 := hbx.mid hm1 (Or.inr (Nat.zero_le _))
      have hrl1 := (hrb'.below hm1.bel).more hm1.size
      have hm := hb0.trans hm1
      have k0 := hbx1.cell 0 rfl
      have k1 := hbx1.cell 1 rfl
      go_wp2_with fail
      with_reducible refine (impl_IsWord r A' l c' _ _ hrl1 HOL.out (by omega) false (iff_of_false Bool.false_ne_true HNW.out)).mono ?_
      rintro e w' ⟨rfl, rfl⟩
      have ho := owns_empty w1 3 1
      go_wp2_with fail
      go_ret2
      exact ⟨_, _, rfl, (OV.new ho).wide hm.size (Nat.le_refl _) (Nat.le_refl _), (hm).trans (Mid.alloc _ _)⟩
    | true =>
      subst huc
      have hw : IsW r l := HU.out.1 rfl
      obtain ⟨e1, e2⟩ := HRES.out.1 ⟨HM.out, hw⟩
      subst e2
      have HE := Lib.hid e1
      have HW := Lib.hid hw
      have h24 : ∀ xs ∈ d, xs.length ≤ 24 := fun xs hx => (HM.out.2.2.2 xs hx).2.2.1
      have H24 := Lib.hid h24
      clear e1 hw HU HRES h24
      go_enter Try.func51, Try.ntmps51
      go_wp2_with fail
      with_reducible refine (impl_IsMorphism r A d c _ _ _ hrb HOK.out hl true (iff_of_true rfl HM.out)).mono ?_
      rintro e w1 ⟨rfl, hm1⟩
      have hbx1 := hbx.mid hm1 (Or.inr (Nat.zero_le _))
      have hrl1 := (hrb'.below hm1.bel).more hm1.size
      have hrd1 := hrb.mid hm1 (Or.inl (Nat.zero_le _))
      have hm := hb0.trans hm1
      have k0 := hbx1.cell 0 rfl
      have k1 := hbx1.cell 1 rfl
      go_wp2_with fail
      with_reducible refine (impl_IsWord r A' l c' _ _ hrl1 HOL.out (by omega) true (iff_of_true rfl HW.out)).mono ?_
      rintro e w' ⟨rfl, rfl⟩
      go_wp2_with fail
      have hC := impl_ExpandBy A d c A' l c' w1 _ _ (hrd1.mid ((Mid.refl 0 0 w1)) (Or.inl (Nat.zero_le _))) hrl1 hcap H24.out HOK.out.2 HOL.out (by omega) hll
      refine hC.mono ?_
      rintro e w3 ⟨A2, c2, rfl, ho3, hb3⟩
      rw [← HE.out] at ho3 ⊢
      go_wp2_with fail
      go_ret2
      exact ⟨_, _, rfl, (OV.new ho3).wide hm.size (Nat.le_refl _) (Nat.le_refl _), (hm).trans (Mid.of_below hb3)⟩

end Go.Proofs.Ytaddhbdfjkbgiaa
