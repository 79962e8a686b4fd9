
/- sorted, copyGraph, l4Copy. -/
import Derived.Test.YtkcfbcbkokabdaaG11
import Derived.Test.YtkcfbcbkokabdaaG9
import Derived.Deep.RegionHeld3
namespace Go.Proofs.Ytkcfbcbkokabdaa
set_option linter.unusedVariables false
set_option linter.unusedSimpArgs false
open Go.RowKit

theorem compactN (g : Nat) (es : List Ed) (n c : Nat) (w : World) (lo : Nat) (hn : es.length = n) (ho : w.ownsRow lo 48 3 (.slice (some ⟨g, 0, none⟩) n c) n (ints (edI es))) (hl : n ≤ 1048576) :
    Calls Try.prog 69 #[.slice (some ⟨g, 0, none⟩) n c] w fun e w' => e = .returned (.slice (some ⟨g, 0, none⟩) (compE es).length c) ∧
      w'.ownsRow lo 48 3 (.slice (some ⟨g, 0, none⟩) (compE es).length c) (compE es).length (ints (edI (compE es))) ∧ w.grownBy w' (some g) := by
  subst hn
  exact compactE g es c w lo ho hl
set_option maxHeartbeats 1600000 in
theorem impl_sorted (A : Option Addr) (es : List Ed) (c : Nat) (w : World) (lo hi : Nat) (hr : RG w lo hi A es) (hl : es.length ≤ 1048576) :
    Calls Try.prog 42 #[.slice A es.length c] w fun e w' => ∃ A' c', e = .returned (.slice A' (canon es).length c') ∧ OG w' w.heap.size w'.heap.size A' c' (canon es) ∧ Mid 0 0 w w' := by
  have hown0 := owns_empty w 48 3
  have hrs := (hr.mid (Mid.alloc w (.cells #[] 48)) (Or.inl (Nat.zero_le _))).rv.rs
  go_enter Try.func42, Try.ntmps42
  go_wp2_with (at_builtin; refine wpList_cat rfl _ _ 27 rfl w.heap.size 48 (.agg #[.int .i64 0, .int .i64 0, .int .i64 0]) 3 24 undSE infoE rfl (by decide) (.slice (some ⟨w.heap.size, 0, none⟩) 0 0) 0 [] rfl hown0 A es.length c _ (ints (edI es)) rfl hrs (by rw [ints_len, edI_len]) (oneInts _) (by unfold maxLen; omega) (by omega) (by simp) ?_; intro v' w1 hown1 hg1 hblk)
  have hm1 : Mid 0 0 w w1 := (Mid.alloc w (.cells #[] 48)).transNew (Mid.of_grownRow hown0 hg1) (Or.inl (Nat.le_refl _))
  obtain ⟨g, c1, rfl, hgw⟩ : ∃ g c1, v' = .slice (some ⟨g, 0, none⟩) es.length c1 ∧ w.heap.size ≤ g := by
    rcases hown1.2 with ⟨rfl, -⟩ | ⟨g, cap, cur, rfl, hbg, -⟩
    · simp [Value.ownBlock] at hblk
    · exact ⟨g, cap, by simp, hbg⟩
  simp only [List.nil_append, Nat.zero_add] at hown1
  go_wp2_with fail
  with_reducible refine (sortE g es c1 w1 w.heap.size hown1 hl).mono ?_
  rintro e w2 ⟨rfl, fs, hfl, hfp, hfs, hown2, hg2⟩
  have hm2 : Mid 0 0 w w2 := hm1.transNew (Mid.of_grownRow hown1 hg2) (Or.inl (Nat.le_refl _))
  have HP := Lib.hid (compE_canon hfs hfp)
  have hC := fun W h => compactN g fs es.length c1 W w.heap.size hfl h hl
  clear hfl hfp hfs
  go_wp2_with fail
  with_reducible refine (hC _ hown2).mono ?_
  rintro e w3 ⟨rfl, hown3, hg3⟩
  rw [HP.out] at hown3 ⊢
  go_wp2_with fail
  go_ret
  exact ⟨_, _, rfl, ⟨Nat.le_refl _, hown3, fun g hg => (hown3.lt g hg).2⟩, hm2.transNew (Mid.of_grownRow hown2 hg3) (Or.inl (Nat.le_refl _))⟩
theorem impl_sortedN (A : Option Addr) (es : List Ed) (n c : Nat) (w : World) (lo hi : Nat) (hn : es.length = n) (hr : RG w lo hi A es) (hl : n ≤ 1048576) :
    Calls Try.prog 42 #[.slice A n c] w fun e w' => ∃ A' c', e = .returned (.slice A' (canon es).length c') ∧ OG w' w.heap.size w'.heap.size A' c' (canon es) ∧ Mid 0 0 w w' := by
  subst hn
  exact impl_sorted A es c w lo hi hr hl
end Go.Proofs.Ytkcfbcbkokabdaa
