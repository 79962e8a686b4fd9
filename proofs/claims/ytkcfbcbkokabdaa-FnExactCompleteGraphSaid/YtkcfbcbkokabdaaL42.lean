
/- slices.Sort and slices.Reverse at a slice of ints of the call's own. -/
import Derived.Test.YtkcfbcbkokabdaaShelf
import Derived.Lib.OwnBridge
import Derived.Test.YtkcfbcbkokabdaaL1
import Derived.Test.YtkcfbcbkokabdaaB3
import Derived.Test.YtkcfbcbkokabdaaM8
namespace Go.Proofs.Ytkcfbcbkokabdaa
set_option linter.unusedVariables false
set_option linter.unusedSimpArgs false
open Go.RowKit Go.Sort

theorem put_mid {w : World} {g n : Nat} {d : Array Int} {os : Array Obj} : w.grownBy (grow (putRow (Value.int .i64) (Sort.ahead w n) g 0 d) os) (some g) := by
  refine ⟨rfl, rfl, rfl, by simp, fun k hk hne => ?_⟩
  rw [heap_grow_old _ _ (by simpa using hk)]
  have : g ≠ k := fun e => hne (by rw [e])
  simp [putRow, mapBlock, Sort.ahead, Array.getElem?_modify, this]
theorem owns_grow {w : World} {base : Nat} {e : TypeId} {size : Nat} {v : Value} {n : Nat} {xs : List Value} (h : w.ownsRow base e size v n xs) (os : Array Obj) : (grow w os).ownsRow base e size v n xs := by
  refine ⟨h.1, ?_⟩
  rcases h.2 with hn | ⟨g, cap, cur, rfl, hb, hh, rest⟩
  · exact .inl hn
  · refine .inr ⟨g, cap, cur, rfl, hb, ?_, rest⟩
    rw [heap_grow_old _ _ (Array.getElem?_eq_some_iff.1 hh).1]
    exact hh
/-- What a call that turns the slice in place leaves. -/
abbrev Turned (w : World) (lo hi : Nat) (A : Option Addr) (c : Nat) (ys : List Int) (e : Ending) (w' : World) : Prop :=
  e = .returned (.tuple #[]) ∧ w'.ownsRow lo 3 1 (.slice A ys.length c) ys.length (ints ys) ∧ w.grownBy w' (Value.ownBlock (.slice A ys.length c))
theorem sortI (A : Option Addr) (xs : List Int) (c : Nat) (w : World) (lo : Nat) (ho : w.ownsRow lo 3 1 (.slice A xs.length c) xs.length (ints xs)) (hl : xs.length ≤ 1048576) :
    Calls Try.prog 81 #[.slice A xs.length c] w (Turned w lo 0 A c (xs.mergeSort fun x y => decide (x ≤ y))) := by
  by_cases hv : Value.slice A xs.length c = .slice none 0 0
  · injection hv with h1 h2 h3
    obtain rfl := List.eq_nil_of_length_eq_zero h2
    subst h1 h3
    exact (Try.slices_Sort_int_none none 0 w).mono fun e w' ⟨he, hw⟩ => by
      refine ⟨he, ?_⟩
      first
        | (subst hw; exact ⟨by simpa using ho, World.grownBy.refl _ _⟩)
        | (obtain ⟨n, rfl⟩ := hw; exact ⟨by simpa using ho, World.grownBy.refl _ _⟩)
  · obtain ⟨g, cap, he, hb, hg, hn, hm, hz, hH⟩ := Lib.holds_of_ownsRow (enc := Value.int .i64) (zs := xs) ho hv
    injection he with h1 _ h3
    subst h1 h3
    refine (Try.slices_Sort_int g 0 c xs w hH hg (by omega)).mono ?_
    rintro e w' ⟨he, n, os, rfl⟩
    have hlen : (xs.mergeSort fun x y => decide (x ≤ y)).length = xs.length := List.length_mergeSort _
    have h2 := Lib.ownsRow_putRow (enc := Value.int .i64) (q := n) (k := xs.length) (ys := xs.mergeSort fun x y => decide (x ≤ y)) ho hlen (Nat.le_refl _)
    rw [List.take_of_length_le (by omega)] at h2
    refine ⟨he, ?_, ?_⟩
    · rw [hlen]
      exact owns_grow h2 os
    · rw [hlen]
      exact put_mid
end Go.Proofs.Ytkcfbcbkokabdaa
