
/- Reduction, in plain Lean; a row cut at its end. -/
import Derived.Test.YtkcfbcbkokabdaaM2
import Derived.Test.YtkcfbcbkokabdaaB3
import Derived.Test.YtkcfbcbkokabdaaL8
namespace Go.Proofs.Ytkcfbcbkokabdaa
set_option linter.unusedVariables false
open Go.RowKit

theorem owns_cut {w : World} {base : Nat} {e : TypeId} {size g n cap : Nat} {xs : List Value} (h : w.ownsRow base e size (.slice (some ⟨g, 0, none⟩) n cap) n xs) {m : Nat} (hm : m ≤ n) :
    w.ownsRow base e size (.slice (some ⟨g, 0, none⟩) m cap) m (xs.take (m * size)) := by
  have hle : m * size ≤ n * size := Nat.mul_le_mul_right _ hm
  refine ⟨?_, ?_⟩
  · rw [List.length_take, h.1]
    omega
  · rcases h.2 with ⟨hv, _⟩ | ⟨g', cap', cur, hv, hbg, hgg, hnc, hcm, hcs, htake⟩
    · cases hv
    · refine .inr ⟨g', cap', cur, ?_, hbg, hgg, by omega, hcm, hcs, ?_⟩
      · injection hv with h1 _ h3
        rw [h1, h3]
      · rw [← htake, List.take_take, Nat.min_eq_left hle]
theorem redStep_mem {out : List Int} {x y : Int} (h : y ∈ redStep out x) : y ∈ out ∨ y = x := by
  unfold redStep at h
  split at h
  · split at h
    · exact .inl ((List.dropLast_sublist _).subset h)
    · simpa using h
  · simp at h
    exact .inr h
theorem red_mem {out w : List Int} {y : Int} (h : y ∈ red out w) : y ∈ out ∨ y ∈ w := by
  induction w generalizing out with
  | nil => exact .inl h
  | cons x t ih =>
    rw [red_cons] at h
    rcases ih h with h1 | h1
    · rcases redStep_mem h1 with h2 | rfl
      · exact .inl h2
      · exact .inr (List.mem_cons_self)
    · exact .inr (List.mem_cons_of_mem _ h1)
theorem red_ok {w : List Int} (h : OkI w) : OkI (red [] w) := fun x hx => by
  rcases red_mem hx with h1 | h1
  · simp at h1
  · exact h x h1
theorem red_step (w : List Int) {k : Nat} {x : Int} (h : w[k]? = some x) (out : List Int) : red out (w.take (k + 1)) = redStep (red out (w.take k)) x := by
  rw [take_succ_of w h, red_append]
  rfl
theorem red_nil_len (w : List Int) : (red [] w).length ≤ w.length := by
  have := red_len [] w
  simpa using this
theorem sumL_flatten (d : List (List Int)) : d.flatten.length = sumL d := by
  simp [sumL, List.length_flatten]
theorem red_flatten_step (d : List (List Int)) {k : Nat} {xs : List Int} (h : d[k]? = some xs) : red [] (d.take (k + 1)).flatten = red (red [] (d.take k).flatten) xs := by
  rw [take_succ_of d h, List.flatten_append, red_append]
  simp
theorem okI_flatten {d : List (List Int)} (h : ∀ xs ∈ d, OkI xs) : OkI d.flatten := fun x hx => by
  obtain ⟨xs, h1, h2⟩ := List.mem_flatten.1 hx
  exact h xs h1 x h2
theorem eq_concat {α : Type} (l : List α) (h : 0 < l.length) : ∃ ys a, l = ys ++ [a] := by
  rcases List.eq_nil_or_concat l with rfl | ⟨ys, a, e⟩
  · simp at h
  · exact ⟨ys, a, by rw [e]; simp⟩
end Go.Proofs.Ytkcfbcbkokabdaa
