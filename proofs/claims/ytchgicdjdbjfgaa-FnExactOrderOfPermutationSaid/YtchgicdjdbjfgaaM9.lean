/- Plain: the exchange sort downwards. -/
import Derived.Test.YtchgicdjdbjfgaaM8
namespace Go.Proofs.Ytchgicdjdbjfgaa
set_option linter.unusedVariables false
set_option linter.unusedSimpArgs false

structure ExAt (out : List Int) (a : Nat) (ys : List Int) : Prop where
  perm : ys.Perm out
  down : ∀ i j x y, i < a → i < j → ys[i]? = some x → ys[j]? = some y → y ≤ x
structure ExIn (out : List Int) (a b : Nat) (ys : List Int) : Prop where
  at' : ExAt out a ys
  top : ∀ j x y, a < j → j < b → ys[a]? = some x → ys[j]? = some y → y ≤ x
theorem ExAt.zero (out : List Int) : ExAt out 0 out := ⟨List.Perm.refl _, fun i j x y h => by omega⟩
theorem ExIn.start {out ys : List Int} {a : Nat} (h : ExAt out a ys) : ExIn out a (a + 1) ys := ⟨h, fun j x y h1 h2 => by omega⟩
theorem ExIn.keep {out ys : List Int} {a b : Nat} {ya yb : Int} (h : ExIn out a b ys) (ha : ys[a]? = some ya) (hb : ys[b]? = some yb) (hle : yb ≤ ya) : ExIn out a (b + 1) ys :=
  ⟨h.at', fun j x y h1 h2 hx hy => by
    by_cases hj : j = b
    · subst hj
      rw [ha] at hx; rw [hb] at hy
      injection hx with hx; injection hy with hy
      omega
    · exact h.top j x y h1 (by omega) hx hy⟩
theorem ExIn.swap {out ys : List Int} {a b : Nat} {ya yb : Int} (h : ExIn out a b ys) (hab : a < b) (ha : ys[a]? = some ya) (hb : ys[b]? = some yb) (hlt : ya < yb) : ExIn out a (b + 1) ((ys.set b ya).set a yb) := by
  obtain ⟨hla, hga⟩ := List.getElem?_eq_some_iff.1 ha
  obtain ⟨hlb, hgb⟩ := List.getElem?_eq_some_iff.1 hb
  have hp : ((ys.set b ya).set a yb).Perm ys := by
    have := List.set_set_perm (as := ys) (i := b) (j := a) hlb hla
    rw [hga, hgb] at this
    exact this
  have get : ∀ j z, ((ys.set b ya).set a yb)[j]? = some z → (j = a ∧ z = yb) ∨ (j = b ∧ z = ya ∧ j ≠ a) ∨ (j ≠ a ∧ j ≠ b ∧ ys[j]? = some z) := by
    intro j z hz
    by_cases h1 : j = a
    · subst h1
      rw [List.getElem?_set_self (by simpa using hla)] at hz
      injection hz with hz
      exact .inl ⟨rfl, hz.symm⟩
    · rw [List.getElem?_set_ne (Ne.symm h1)] at hz
      by_cases h2 : j = b
      · subst h2
        rw [List.getElem?_set_self hlb] at hz
        injection hz with hz
        exact .inr (.inl ⟨rfl, hz.symm, h1⟩)
      · rw [List.getElem?_set_ne (Ne.symm h2)] at hz
        exact .inr (.inr ⟨h1, h2, hz⟩)
  refine ⟨⟨hp.trans h.at'.perm, fun i j x y hi hij hx hy => ?_⟩, fun j x y h1 h2 hx hy => ?_⟩
  · rcases get i x hx with ⟨e, _⟩ | ⟨e, _, _⟩ | ⟨_, _, hx'⟩
    · omega
    · omega
    · rcases get j y hy with ⟨e, rfl⟩ | ⟨e, rfl, _⟩ | ⟨_, _, hy'⟩
      · exact h.at'.down i b x y hi (by omega) hx' hb
      · exact h.at'.down i a x y hi hi hx' ha
      · exact h.at'.down i j x y hi hij hx' hy'
  · rcases get a x hx with ⟨_, rfl⟩ | ⟨e, _, hne⟩ | ⟨hne, _⟩
    · rcases get j y hy with ⟨e, _⟩ | ⟨_, rfl, _⟩ | ⟨_, hne, hy'⟩
      · omega
      · omega
      · have := h.top j ya y h1 (by omega) ha hy'
        omega
    · exact absurd rfl hne
    · exact absurd rfl hne
theorem ExIn.done {out ys : List Int} {a : Nat} (h : ExIn out a ys.length ys) : ExAt out (a + 1) ys :=
  ⟨h.at'.perm, fun i j x y hi hij hx hy => by
    have hj := (List.getElem?_eq_some_iff.1 hy).1
    by_cases he : i = a
    · subst he
      exact h.top j x y hij hj hx hy
    · exact h.at'.down i j x y (by omega) hij hx hy⟩
theorem ExAt.done {out ys : List Int} (h : ExAt out ys.length ys) : ys = downL out := by
  refine down_unique h.perm ?_
  rw [List.pairwise_iff_getElem]
  intro i j hi hj hij
  exact h.down i j _ _ hi hij (List.getElem?_eq_getElem hi) (List.getElem?_eq_getElem hj)
theorem ExAt.len {out ys : List Int} {a : Nat} (h : ExAt out a ys) : ys.length = out.length := h.perm.length_eq
end Go.Proofs.Ytchgicdjdbjfgaa
