
/- Plain lemmas on lists of ints: permutations. -/
namespace Go.Proofs.Ytkcfbcbkokabdaa
set_option linter.unusedVariables false
set_option linter.unusedSimpArgs false

/-- A permutation of at most 40 places. -/
def IsPerm (p : List Int) : Prop := p.length ≤ 40 ∧ (∀ x ∈ p, 0 ≤ x ∧ x < p.length) ∧ p.Nodup

theorem nodup_snoc {α : Type} {l : List α} {x : α} : (l ++ [x]).Nodup ↔ l.Nodup ∧ x ∉ l := by
  rw [List.nodup_append]
  simp
  intro _
  constructor
  · intro h hx
    exact h x hx rfl
  · intro h a ha e
    subst e
    exact h ha

theorem mem_take_succ {α : Type} {p : List α} {k : Nat} {x y : α} (hx : p[k]? = some x) : y ∈ p.take (k + 1) ↔ y ∈ p.take k ∨ y = x := by
  rw [List.take_add_one, hx]
  simp

theorem nodup_take_succ {α : Type} {p : List α} {k : Nat} {x : α} (hx : p[k]? = some x) : (p.take (k + 1)).Nodup ↔ (p.take k).Nodup ∧ x ∉ p.take k := by
  rw [List.take_add_one, hx]
  exact nodup_snoc

theorem not_nodup_of {α : Type} {p : List α} {k : Nat} {x : α} (hx : p[k]? = some x) (h : x ∈ p.take k) : ¬ p.Nodup := fun hn => by
  have h1 : (p.take (k + 1)).Nodup := (List.take_sublist _ _).nodup hn
  exact ((nodup_take_succ hx).1 h1).2 h

theorem mem_of_get {α : Type} {p : List α} {k : Nat} {x : α} (hx : p[k]? = some x) : x ∈ p := List.mem_of_getElem? hx
end Go.Proofs.Ytkcfbcbkokabdaa
