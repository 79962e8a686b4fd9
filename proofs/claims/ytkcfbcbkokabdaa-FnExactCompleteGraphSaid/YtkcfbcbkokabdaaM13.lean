
/- Plain: a list of edges without runs of equals. -/
import Derived.Test.YtkcfbcbkokabdaaM12
namespace Go.Proofs.Ytkcfbcbkokabdaa
set_option linter.unusedVariables false
set_option linter.unusedSimpArgs false

def compStep (out : List Ed) (e : Ed) : List Ed := if out.getLast? = some e then out else out ++ [e]
def compE (es : List Ed) : List Ed := es.foldl compStep []
theorem compE_snoc (xs : List Ed) (e : Ed) : compE (xs ++ [e]) = compStep (compE xs) e := by simp [compE]
theorem compStep_last (out : List Ed) (e : Ed) : (compStep out e).getLast? = some e := by
  unfold compStep
  split
  · assumption
  · simp
theorem take_snoc {es : List Ed} {k : Nat} {e : Ed} (h : es[k]? = some e) : es.take (k + 1) = es.take k ++ [e] := by
  obtain ⟨hk, h'⟩ := List.getElem?_eq_some_iff.1 h
  rw [List.take_succ_eq_append_getElem hk, h']
theorem compE_take {es : List Ed} {k : Nat} {e : Ed} (h : es[k]? = some e) : compE (es.take (k + 1)) = compStep (compE (es.take k)) e := by rw [take_snoc h, compE_snoc]
theorem compE_last {es : List Ed} {k : Nat} {e : Ed} (h : es[k]? = some e) : (compE (es.take (k + 1))).getLast? = some e := by rw [compE_take h]; exact compStep_last _ _
theorem compE_len (xs : List Ed) : (compE xs).length ≤ xs.length := by
  suffices h : ∀ (xs out : List Ed), (xs.foldl compStep out).length ≤ out.length + xs.length by simpa [compE] using h xs []
  intro xs
  induction xs with
  | nil => intro out; simp
  | cons e t ih =>
    intro out
    have := ih (compStep out e)
    have h1 : (compStep out e).length ≤ out.length + 1 := by unfold compStep; split <;> simp
    simp only [List.foldl_cons, List.length_cons]
    omega
theorem mem_compStep {out : List Ed} {e x : Ed} : x ∈ compStep out e ↔ x ∈ out ∨ x = e := by
  unfold compStep
  split
  · rename_i h
    have := List.mem_of_getLast? h
    constructor
    · exact .inl
    · rintro (h | rfl)
      · exact h
      · exact this
  · simp
theorem snoc_ind {p : List Ed → Prop} (h0 : p []) (h1 : ∀ xs e, p xs → p (xs ++ [e])) (xs : List Ed) : p xs := by
  rw [← List.reverse_reverse xs]
  induction xs.reverse with
  | nil => exact h0
  | cons e t ih => rw [List.reverse_cons]; exact h1 _ _ ih
theorem mem_compE {xs : List Ed} {x : Ed} : x ∈ compE xs ↔ x ∈ xs := by
  induction xs using snoc_ind with
  | h0 => simp [compE]
  | h1 xs e ih => rw [compE_snoc, mem_compStep, ih]; simp
theorem compE_asc {xs : List Ed} (h : xs.Pairwise fun x y => ¬ LtE y x) : Asc (compE xs) := by
  induction xs using snoc_ind with
  | h0 => exact List.Pairwise.nil
  | h1 xs e ih =>
    obtain ⟨h1, -, h2⟩ := List.pairwise_append.1 h
    have ha := ih h1
    rw [compE_snoc]
    unfold compStep
    split
    · exact ha
    · rename_i hl
      refine List.pairwise_append.2 ⟨ha, by simp, fun y hy z hz => ?_⟩
      simp at hz
      subst hz
      have h3 := h2 y (mem_compE.1 hy) z (by simp)
      rcases LtE.tri y z with h4 | rfl | h4
      · exact h4
      · exfalso
        obtain ⟨ys, l, hcl⟩ : ∃ ys l, compE xs = ys ++ [l] := by
          rcases List.eq_nil_or_concat (compE xs) with h0 | ⟨ys, l, h0⟩
          · rw [h0] at hy; simp at hy
          · exact ⟨ys, l, by rw [h0, List.concat_eq_append]⟩
        have hly : l ≠ y := by
          intro e
          subst e
          apply hl
          rw [hcl]
          simp
        have hy' : y ∈ ys := by
          rw [hcl] at hy
          rcases List.mem_append.1 hy with h | h
          · exact h
          · simp at h; exact absurd h.symm hly
        rw [hcl] at ha
        obtain ⟨-, -, h5⟩ := List.pairwise_append.1 ha
        have h6 := h5 y hy' l (by simp)
        have hlx : l ∈ xs := mem_compE.1 (by rw [hcl]; simp)
        exact h2 l hlx y (by simp) h6
      · exact absurd h4 h3
theorem compE_canon {xs es : List Ed} (h : xs.Pairwise fun x y => ¬ LtE y x) (hp : xs.Perm es) : compE xs = canon es :=
  canon_eq (compE_asc h) fun e => by rw [mem_compE]; exact hp.mem_iff
/-- The row at work: what stands ahead of kk is what is kept of the first j; from kk on nothing has turned. -/
structure CompAt (es : List Ed) (j kk : Nat) (ys : List Ed) : Prop where
  len : ys.length = es.length
  lt : kk < j
  cnt : kk = (compE (es.take j)).length
  low : ys.take kk = compE (es.take j)
  high : ∀ i, kk ≤ i → ys[i]? = es[i]?
theorem CompAt.start {es : List Ed} {k : Nat} {e : Ed} (h : compE (es.take k) = es.take k) (h0 : 0 < k) (hk : es[k]? = some e) (hp : es[k - 1]? = some e) : CompAt es (k + 1) k es := by
  have hkl := (List.getElem?_eq_some_iff.1 hk).1
  have hl : (compE (es.take k)).getLast? = some e := by
    have := compE_last hp
    rwa [Nat.sub_add_cancel h0] at this
  have hc : compE (es.take (k + 1)) = es.take k := by
    rw [compE_take hk, compStep, if_pos hl, h]
  exact ⟨rfl, by omega, by rw [hc, List.length_take]; omega, hc.symm, fun _ _ => rfl⟩
theorem CompAt.skip {es ys : List Ed} {j kk : Nat} {e : Ed} (h : CompAt es j kk ys) (hj : es[j]? = some e) (hp : es[j - 1]? = some e) : CompAt es (j + 1) kk ys := by
  have h0 := h.lt
  have hl : (compE (es.take j)).getLast? = some e := by
    have := compE_last hp
    rwa [Nat.sub_add_cancel (by omega)] at this
  have hc : compE (es.take (j + 1)) = compE (es.take j) := by rw [compE_take hj, compStep, if_pos hl]
  exact ⟨h.len, by omega, by rw [hc]; exact h.cnt, by rw [hc]; exact h.low, h.high⟩
theorem CompAt.keep {es ys : List Ed} {j kk : Nat} {e f : Ed} (h : CompAt es j kk ys) (hj : es[j]? = some e) (hp : es[j - 1]? = some f) (hne : e ≠ f) : CompAt es (j + 1) (kk + 1) (ys.set kk e) := by
  have h0 := h.lt
  have hjl := (List.getElem?_eq_some_iff.1 hj).1
  have hl : (compE (es.take j)).getLast? = some f := by
    have := compE_last hp
    rwa [Nat.sub_add_cancel (by omega)] at this
  have hc : compE (es.take (j + 1)) = compE (es.take j) ++ [e] := by
    rw [compE_take hj, compStep, if_neg]
    rw [hl]
    intro h
    injection h with h
    exact hne h.symm
  have hkl : kk < ys.length := by rw [h.len]; omega
  refine ⟨by simpa using h.len, by omega, by rw [hc, List.length_append, ← h.cnt]; rfl, ?_, fun i hi => ?_⟩
  · rw [hc, ← h.low, List.take_succ_eq_append_getElem (by simpa using hkl), List.getElem_set_self, List.take_set_of_le (Nat.le_refl _)]
  · rw [List.getElem?_set_ne (by omega)]
    exact h.high i (by omega)
theorem CompAt.done {es ys : List Ed} {kk : Nat} (h : CompAt es es.length kk ys) : kk = (compE es).length ∧ ys.take kk = compE es := by
  have h1 := h.cnt
  have h2 := h.low
  rw [List.take_length] at h1 h2
  exact ⟨h1, h2⟩
theorem compE_grow {es : List Ed} {k : Nat} {e f : Ed} (h : compE (es.take k) = es.take k) (h0 : 0 < k) (hk : es[k]? = some e) (hp : es[k - 1]? = some f) (hne : e ≠ f) : compE (es.take (k + 1)) = es.take (k + 1) := by
  have hl : (compE (es.take k)).getLast? = some f := by
    have := compE_last hp
    rwa [Nat.sub_add_cancel h0] at this
  rw [compE_take hk, compStep, if_neg, h, take_snoc hk]
  rw [hl]
  intro h
  injection h with h
  exact hne h.symm
theorem compE_one (es : List Ed) (h : es.length ≤ 1) : compE es = es := by
  match es, h with
  | [], _ => rfl
  | [e], _ => rfl
end Go.Proofs.Ytkcfbcbkokabdaa
