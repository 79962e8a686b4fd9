
/- Plain: the cycles of a permutation; lists sorted downwards. -/
import Derived.Test.YtkcfbcbkokabdaaM1
import Derived.Test.YtkcfbcbkokabdaaB2
namespace Go.Proofs.Ytkcfbcbkokabdaa
set_option linter.unusedVariables false
set_option linter.unusedSimpArgs false

/-- From x on, till a place that was visited. -/
def cycGo (p : List Int) : Nat → List Int → Nat → Nat → List Int × Nat
  | 0, vis, _, n => (vis, n)
  | f + 1, vis, x, n => if (x : Int) ∈ vis then (vis, n) else cycGo p f (vis ++ [(x : Int)]) (p.getD x 0).toNat (n + 1)
/-- The places visited and the lengths, after the first places. -/
def cycSt (p : List Int) : Nat → List Int × List Int
  | 0 => ([], [])
  | i + 1 => ((cycGo p (p.length + 1) (cycSt p i).1 i 0).1, if 0 < (cycGo p (p.length + 1) (cycSt p i).1 i 0).2 then (cycSt p i).2 ++ [((cycGo p (p.length + 1) (cycSt p i).1 i 0).2 : Int)] else (cycSt p i).2)
def downL (xs : List Int) : List Int := (xs.mergeSort fun x y => decide (x ≤ y)).reverse
def cyc (p : List Int) : List Int := downL (cycSt p p.length).2
theorem downL_perm (xs : List Int) : (downL xs).Perm xs := (List.reverse_perm _).trans (List.mergeSort_perm _ _)
theorem downL_len (xs : List Int) : (downL xs).length = xs.length := (downL_perm xs).length_eq
theorem downL_down (xs : List Int) : (downL xs).Pairwise (fun x y => y ≤ x) := by
  unfold downL
  rw [List.pairwise_reverse]
  have h := List.pairwise_mergeSort (le := fun (x y : Int) => decide (x ≤ y)) (by intro a b c h1 h2; simp at *; omega) (by intro a b; simp; omega) xs
  exact h.imp (fun h => by simpa using h)
theorem down_unique {xs ys : List Int} (hp : ys.Perm xs) (hd : ys.Pairwise (fun x y => y ≤ x)) : ys = downL xs :=
  List.Perm.eq_of_pairwise (le := fun x y => y ≤ x) (fun a b _ _ h1 h2 => by omega) hd (downL_down xs) (hp.trans (downL_perm xs).symm)

/-- A list of places, each once. -/
structure Vis (L : Nat) (vis : List Int) : Prop where
  nd : vis.Nodup
  rng : ∀ v ∈ vis, 0 ≤ v ∧ v < L
theorem nodup_le : ∀ (L : Nat) (l : List Int), l.Nodup → (∀ v ∈ l, 0 ≤ v ∧ v < (L : Int)) → l.length ≤ L := by
  intro L
  induction L with
  | zero =>
    intro l _ h
    cases l with
    | nil => simp
    | cons a t => have := h a List.mem_cons_self; omega
  | succ L ih =>
    intro l hn h
    by_cases hm : (L : Int) ∈ l
    · have h1 := ih (l.erase (L : Int)) (hn.erase _) (fun v hv => by
        have hv2 := List.mem_of_mem_erase hv
        have h3 := h v hv2
        have h4 : v ≠ (L : Int) := fun e => by subst e; exact (hn.not_mem_erase) hv
        omega)
      rw [List.length_erase_of_mem hm] at h1
      omega
    · have h1 := ih l hn (fun v hv => by
        have h3 := h v hv
        have h4 : v ≠ (L : Int) := fun e => by subst e; exact hm hv
        omega)
      omega
theorem Vis.le {L : Nat} {vis : List Int} (h : Vis L vis) : vis.length ≤ L := nodup_le L vis h.nd h.rng
theorem Vis.push {L : Nat} {vis : List Int} {x : Nat} (h : Vis L vis) (hx : x < L) (hm : (x : Int) ∉ vis) : Vis L (vis ++ [(x : Int)]) :=
  ⟨nodup_snoc.2 ⟨h.nd, hm⟩, fun v hv => by
    rcases List.mem_append.1 hv with h1 | h1
    · exact h.rng v h1
    · simp at h1; omega⟩
/-- What the inner loop keeps. -/
structure CycAt (p : List Int) (vis0 : List Int) (i : Nat) (f : Nat) (vis : List Int) (x n : Nat) : Prop where
  hv : Vis p.length vis
  hx : x < p.length
  run : cycGo p (p.length + 1) vis0 i 0 = cycGo p f vis x n
  fuel : p.length < f + vis.length
  cnt : n + vis0.length = vis.length
theorem CycAt.start {p vis0 : List Int} {i : Nat} (hv : Vis p.length vis0) (hi : i < p.length) : CycAt p vis0 i (p.length + 1) vis0 i 0 := ⟨hv, hi, rfl, by omega, by omega⟩
theorem CycAt.step {p vis0 vis : List Int} {i f x n : Nat} (hp : ∀ y ∈ p, 0 ≤ y ∧ y < p.length) (h : CycAt p vis0 i f vis x n) (hm : (x : Int) ∉ vis) : ∃ f', f = f' + 1 ∧ CycAt p vis0 i f' (vis ++ [(x : Int)]) (p.getD x 0).toNat (n + 1) := by
  have hv := h.hv.push h.hx hm
  have hl := hv.le
  have hf := h.fuel
  simp at hl
  obtain ⟨f', rfl⟩ : ∃ f', f = f' + 1 := ⟨f - 1, by omega⟩
  refine ⟨f', rfl, hv, ?_, ?_, by simp; omega, by have := h.cnt; simp; omega⟩
  · have hm := hp (p.getD x 0) (by rw [List.getD_eq_getElem?_getD, List.getElem?_eq_getElem h.hx]; exact List.getElem_mem _)
    omega
  · rw [h.run]
    simp [cycGo, hm]
theorem CycAt.stop {p vis0 vis : List Int} {i f x n : Nat} (h : CycAt p vis0 i f vis x n) (hm : (x : Int) ∈ vis) : cycGo p (p.length + 1) vis0 i 0 = (vis, n) := by
  rw [h.run]
  cases f with
  | zero => rfl
  | succ f => simp [cycGo, hm]
/-- What the outer loop keeps. -/
structure CycOut (p : List Int) (i : Nat) (vis out : List Int) : Prop where
  st : cycSt p i = (vis, out)
  hv : Vis p.length vis
  sum : out.sum = vis.length
  pos : ∀ x ∈ out, 1 ≤ x
  len : out.length ≤ i
theorem CycOut.zero (p : List Int) : CycOut p 0 [] [] := ⟨rfl, ⟨by simp, by simp⟩, by simp, by simp, by simp⟩
theorem CycOut.succ {p vis out vis' : List Int} {i f x n : Nat} (h : CycOut p i vis out) (h2 : CycAt p vis i f vis' x n) (hm : (x : Int) ∈ vis') : CycOut p (i + 1) vis' (if 0 < n then out ++ [(n : Int)] else out) := by
  have hr := h2.stop hm
  have hc := h2.cnt
  refine ⟨by simp [cycSt, h.st, hr], h2.hv, ?_, ?_, ?_⟩
  · split
    · rw [List.sum_append, h.sum]; simp; omega
    · rw [h.sum]; omega
  · split
    · intro x hx
      rcases List.mem_append.1 hx with h1 | h1
      · exact h.pos x h1
      · simp at h1; omega
    · exact h.pos
  · have := h.len
    split
    · simp; omega
    · omega
theorem CycAt.goes {p vis0 : List Int} {i : Nat} (hp : ∀ y ∈ p, 0 ≤ y ∧ y < p.length) : ∀ (f : Nat) (vis : List Int) (x n : Nat), CycAt p vis0 i f vis x n → ∃ f vis x n, CycAt p vis0 i f vis x n ∧ (x : Int) ∈ vis := by
  intro f
  induction f with
  | zero =>
    intro vis x n h
    have := h.fuel
    have := h.hv.le
    omega
  | succ f ih =>
    intro vis x n h
    by_cases hm : (x : Int) ∈ vis
    · exact ⟨_, _, _, _, h, hm⟩
    · obtain ⟨f', he, h'⟩ := h.step hp hm
      obtain rfl : f = f' := by omega
      exact ih _ _ _ h'
theorem CycOut.get {p : List Int} (hp : ∀ y ∈ p, 0 ≤ y ∧ y < p.length) (i : Nat) (hi : i ≤ p.length) : ∃ vis out, CycOut p i vis out := by
  induction i with
  | zero => exact ⟨_, _, CycOut.zero p⟩
  | succ i ih =>
    obtain ⟨vis, out, h⟩ := ih (by omega)
    obtain ⟨f, vis', x, n, h2, hm⟩ := CycAt.goes hp _ _ _ _ (CycAt.start h.hv (by omega : i < p.length))
    exact ⟨_, _, h.succ h2 hm⟩
end Go.Proofs.Ytkcfbcbkokabdaa
