
/- Words, letter by letter: what IsWord tests, in plain Lean. -/
import Derived.Test.YtchgicdjdbjfgaaM2
import Derived.Test.YtchgicdjdbjfgaaL11
namespace Go.Proofs.Ytchgicdjdbjfgaa
set_option linter.unusedVariables false
open Go.RowKit

/-- The first k letters are letters, and none is the inverse of the one ahead of it. -/
def WordTo (rank : Int) (xs : List Int) (k : Nat) : Prop :=
  ∀ j x, j < k → xs[j]? = some x → letB rank x = true ∧ ∀ y, 0 < j → xs[j - 1]? = some y → invB y x = false
theorem WordTo.zero (rank : Int) (xs : List Int) : WordTo rank xs 0 := fun j x h => absurd h (Nat.not_lt_zero j)
theorem WordTo.succ {rank : Int} {xs : List Int} {k : Nat} {x : Int} (h : WordTo rank xs k) (hx : xs[k]? = some x) (hl : letB rank x = true) (hp : ∀ y, 0 < k → xs[k - 1]? = some y → invB y x = false) : WordTo rank xs (k + 1) := by
  intro j z hj hz
  rcases Nat.lt_or_eq_of_le (Nat.le_of_lt_succ hj) with h1 | rfl
  · exact h j z h1 hz
  · rw [hx] at hz
    obtain rfl := Option.some.inj hz
    exact ⟨hl, hp⟩
theorem wordTo_all {rank : Int} {xs : List Int} (h1 : 1 ≤ rank) (h3 : rank ≤ 3) : WordTo rank xs xs.length ↔ WordP rank xs := by
  constructor
  · intro h
    refine ⟨fun x hx => ?_, fun k x y hx hy he => ?_⟩
    · obtain ⟨j, hj⟩ := List.mem_iff_getElem?.1 hx
      have := (h j x (List.getElem?_eq_some_iff.1 hj).1 hj).1
      simpa [letB] using this
    · have hl := (List.getElem?_eq_some_iff.1 hy).1
      have h2 := (h (k + 1) y hl hy).2 x (Nat.succ_pos k) (by simpa using hx)
      have h4 := (h k x (by omega) hx).1
      simp [letB] at h4
      have : invB x y = true := (invB_iff x y).2 ⟨h4.1, by unfold minI; omega, he⟩
      rw [this] at h2
      cases h2
  · rintro ⟨ha, hb⟩ j x hj hx
    refine ⟨by simpa [letB] using ha x (List.mem_of_getElem? hx), fun y h0 hy => ?_⟩
    cases hv : invB y x with
    | false => rfl
    | true => exact absurd ((invB_iff y x).1 hv).2.2 (hb (j - 1) y x hy (by rw [Nat.sub_add_cancel h0]; exact hx))

/-- What the reference tests of one letter. -/
def RawAt (rank : Int) (xs : List Int) (j : Nat) (x : Int) : Prop := (x == 0) = false ∧ inB x (wrap64 (-rank)) rank = true ∧ ∀ y, 0 < j → xs[j - 1]? = some y → (x == wrap64 (-y)) = false
def RawTo (rank : Int) (xs : List Int) (k : Nat) : Prop := ∀ j x, j < k → xs[j]? = some x → RawAt rank xs j x
theorem RawTo.zero (rank : Int) (xs : List Int) : RawTo rank xs 0 := fun j x h => absurd h (Nat.not_lt_zero j)
theorem RawTo.succ {rank : Int} {xs : List Int} {k : Nat} {x : Int} (h : RawTo rank xs k) (hx : xs[k]? = some x) (hp : RawAt rank xs k x) : RawTo rank xs (k + 1) := by
  intro j z hj hz
  rcases Nat.lt_or_eq_of_le (Nat.le_of_lt_succ hj) with h1 | rfl
  · exact h j z h1 hz
  · rw [hx] at hz
    obtain rfl := Option.some.inj hz
    exact hp
theorem rawTo_all {rank : Int} {xs : List Int} (h1 : 1 ≤ rank) (h3 : rank ≤ 3) : RawTo rank xs xs.length ↔ WordP rank xs := by
  have hw : wrap64 (-rank) = -rank := by rw [wrap_neg (by omega) (by omega)]; unfold negI minI; rw [if_neg (by omega)]
  have hwy : ∀ y, -rank ≤ y → y ≤ rank → wrap64 (-y) = -y := fun y ha hb => by rw [wrap_neg (by omega) (by omega)]; unfold negI minI; rw [if_neg (by omega)]
  unfold RawTo RawAt
  rw [hw]
  constructor
  · intro h
    refine ⟨fun x hx => ?_, fun k x y hx hy he => ?_⟩
    · obtain ⟨j, hj⟩ := List.mem_iff_getElem?.1 hx
      have := h j x (List.getElem?_eq_some_iff.1 hj).1 hj
      simp [inB] at this
      exact ⟨this.1, this.2.1⟩
    · have hl := (List.getElem?_eq_some_iff.1 hy).1
      have h2 := (h (k + 1) y hl hy).2.2 x (Nat.succ_pos k) (by simpa using hx)
      have h4 := (h k x (by omega) hx).2.1
      simp [inB] at h4
      rw [hwy x h4.1 h4.2, he] at h2
      simp at h2
  · rintro ⟨ha, hb⟩ j x hj hx
    have h0 := ha x (List.mem_of_getElem? hx)
    refine ⟨by simpa using h0.1, by simpa [inB] using h0.2, fun y hp hy => ?_⟩
    have h5 := ha y (List.mem_of_getElem? hy)
    rw [hwy y h5.2.1 h5.2.2]
    have := hb (j - 1) y x hy (by rw [Nat.sub_add_cancel hp]; exact hx)
    simpa using this
end Go.Proofs.Ytchgicdjdbjfgaa
