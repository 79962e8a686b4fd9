
/- Plain: what CompleteGraph adds. -/
import Derived.Test.YtkcfbcbkokabdaaM12
namespace Go.Proofs.Ytkcfbcbkokabdaa
set_option linter.unusedVariables false
set_option linter.unusedSimpArgs false

/-- The vertices below n at which no edge of the letter x goes on. -/
noncomputable def freeV (es : List Ed) (x : Int) (n : Nat) : List Int := ((List.range n).filter fun (v : Nat) => decide (nextV es (v : Int) x < 0)).map fun (v : Nat) => (v : Int)
theorem freeV_zero (es : List Ed) (x : Int) : freeV es x 0 = [] := rfl
theorem freeV_succ (es : List Ed) (x : Int) (n : Nat) : freeV es x (n + 1) = freeV es x n ++ if nextV es (n : Int) x < 0 then [(n : Int)] else [] := by
  unfold freeV
  rw [List.range_succ, List.filter_append, List.map_append]
  congr 1
  by_cases h : nextV es (n : Int) x < 0 <;> simp [h]
theorem freeV_le (es : List Ed) (x : Int) (n : Nat) : (freeV es x n).length ≤ n := by
  unfold freeV
  rw [List.length_map]
  exact Nat.le_trans (List.length_filter_le _ _) (by simp)
theorem mem_freeV {es : List Ed} {x : Int} {n : Nat} {v : Int} : v ∈ freeV es x n ↔ 0 ≤ v ∧ v < n ∧ nextV es v x < 0 := by
  unfold freeV
  rw [List.mem_map]
  constructor
  · rintro ⟨k, hk, rfl⟩
    rw [List.mem_filter, List.mem_range] at hk
    exact ⟨by omega, by omega, by simpa using hk.2⟩
  · rintro ⟨h1, h2, h3⟩
    obtain ⟨k, rfl⟩ := Int.eq_ofNat_of_zero_le h1
    refine ⟨k, ?_, rfl⟩
    rw [List.mem_filter, List.mem_range]
    exact ⟨by omega, by simpa using h3⟩
theorem nextV_pos_iff {r s : Int} {es : List Ed} (hg : ∀ e ∈ es, InG r s e) (v x : Int) : 0 ≤ nextV es v x ↔ ∃ e ∈ es, ∃ u, endOf v x e = some u := by
  constructor
  · intro h
    obtain ⟨e, he, h'⟩ := nextV_edge h
    exact ⟨e, he, _, h'⟩
  · rintro ⟨e, he, u, h⟩
    rcases nextV_cases hg v x with h1 | h1
    · have := nextV_neg h1 fun e he => by have := hg e he; unfold InG at this; omega
      have hu : u ∈ ends es v x := mem_ends.2 ⟨e, he, h⟩
      rw [this] at hu
      simp at hu
    · exact h1.1
theorem filter_split (p : Nat → Bool) : ∀ l : List Nat, (l.filter p).length + (l.filter fun v => !p v).length = l.length
  | [] => rfl
  | a :: t => by
    have := filter_split p t
    cases h : p a <;> simp [h] <;> omega
/-- Those that are not free, counted. -/
theorem count_free {es : List Ed} {x : Int} {n : Nat} {L : List Int} (hn : L.Nodup) (hL : ∀ v : Int, v ∈ L ↔ 0 ≤ v ∧ v < n ∧ ¬ nextV es v x < 0) : (freeV es x n).length + L.length = n := by
  have h1 : L.Perm (((List.range n).filter fun (v : Nat) => !decide (nextV es (v : Int) x < 0)).map fun (v : Nat) => (v : Int)) := by
    refine (List.perm_ext_iff_of_nodup hn ?_).2 fun v => ?_
    · exact List.pairwise_map.2 ((List.nodup_range.filter _).imp fun h he => h (by omega))
    · rw [hL, List.mem_map]
      constructor
      · rintro ⟨h1, h2, h3⟩
        obtain ⟨k, rfl⟩ := Int.eq_ofNat_of_zero_le h1
        refine ⟨k, ?_, rfl⟩
        rw [List.mem_filter, List.mem_range]
        exact ⟨by omega, by simpa using h3⟩
      · rintro ⟨k, hk, rfl⟩
        rw [List.mem_filter, List.mem_range] at hk
        exact ⟨by omega, by omega, by simpa using hk.2⟩
  have h2 := filter_split (fun v : Nat => decide (nextV es (v : Int) x < 0)) (List.range n)
  rw [h1.length_eq]
  unfold freeV
  rw [List.length_map, List.length_map]
  simp at h2 ⊢
  omega
theorem free_same {r s : Int} {es : List Ed} (h : IsFol r s es) {x : Int} (hx : 0 < x) : (freeV es x s.toNat).length = (freeV es (-x) s.toNat).length := by
  have hg := h.gr.all
  have hs := h.gr.size
  have nd : ∀ (f : Ed → Int), (∀ e f', e.l = f'.l → f e = f f' → Clash e f') → ((es.filter fun e => e.l == x).map f).Nodup := by
    intro f hf
    rw [List.Nodup, List.pairwise_map]
    refine (h.fol.filter _).imp_of_mem ?_
    intro a b h1 h2 h3 h4
    have h5 : a.l = x := by simpa using (List.mem_filter.1 h1).2
    have h6 : b.l = x := by simpa using (List.mem_filter.1 h2).2
    exact h3 (hf a b (by omega) h4)
  have h1 := count_free (es := es) (x := x) (n := s.toNat) (nd Ed.a fun e f h1 h2 => ⟨h1, .inl h2⟩) fun v => by
    rw [List.mem_map, Int.not_lt, nextV_pos_iff hg]
    constructor
    · rintro ⟨e, he, rfl⟩
      obtain ⟨h1, h2⟩ := List.mem_filter.1 he
      have := hg e h1
      unfold InG at this
      refine ⟨by omega, by omega, e, h1, e.b, endOf_some.2 (.inl ⟨hx, by simpa using h2, rfl, rfl⟩)⟩
    · rintro ⟨h0, hl, e, he, u, hu⟩
      refine ⟨e, List.mem_filter.2 ⟨he, ?_⟩, ?_⟩ <;> have := endOf_some.1 hu
      · simp; omega
      · omega
  have h2 := count_free (es := es) (x := -x) (n := s.toNat) (nd Ed.b fun e f h1 h2 => ⟨h1, .inr h2⟩) fun v => by
    rw [List.mem_map, Int.not_lt, nextV_pos_iff hg]
    constructor
    · rintro ⟨e, he, rfl⟩
      obtain ⟨h1, h2⟩ := List.mem_filter.1 he
      have := hg e h1
      unfold InG at this
      refine ⟨by omega, by omega, e, h1, e.a, endOf_some.2 (.inr ⟨by omega, by simp at h2; omega, rfl, rfl⟩)⟩
    · rintro ⟨h0, hl, e, he, u, hu⟩
      refine ⟨e, List.mem_filter.2 ⟨he, ?_⟩, ?_⟩ <;> have := endOf_some.1 hu
      · simp; omega
      · omega
  rw [List.length_map] at h1 h2
  omega
/-- The edges that are added for a letter, the first n of them; for all letters up to n. -/
noncomputable def addL (s : Int) (es : List Ed) (x : Int) : List Ed := List.zipWith (fun a b => (⟨a, x, b⟩ : Ed)) (freeV es x s.toNat) (freeV es (-x) s.toNat)
noncomputable def addLs (s : Int) (es : List Ed) (n : Nat) : List Ed := (List.range n).flatMap fun (i : Nat) => addL s es ((i : Int) + 1)
theorem addLs_succ (s : Int) (es : List Ed) (n : Nat) : addLs s es (n + 1) = addLs s es n ++ addL s es ((n : Int) + 1) := by
  unfold addLs
  rw [List.range_succ, List.flatMap_append]
  simp
theorem addL_len (s : Int) (es : List Ed) (x : Int) : (addL s es x).length ≤ s.toNat := by
  unfold addL
  rw [List.length_zipWith]
  have := freeV_le es x s.toNat
  omega
theorem addLs_len (s : Int) (es : List Ed) (n : Nat) : (addLs s es n).length ≤ n * s.toNat := by
  induction n with
  | zero => simp [addLs]
  | succ n ih =>
    rw [addLs_succ, List.length_append, Nat.succ_mul]
    have := addL_len s es ((n : Int) + 1)
    omega
theorem addL_at {r s : Int} {es : List Ed} (h : IsFol r s es) {x : Int} (hx : 0 < x) {i : Nat} (hi : i < (freeV es x s.toNat).length) :
    ∃ a b, (freeV es x s.toNat)[i]? = some a ∧ (freeV es (-x) s.toNat)[i]? = some b ∧ (addL s es x)[i]? = some ⟨a, x, b⟩ := by
  have hi2 : i < (freeV es (-x) s.toNat).length := by rw [← free_same h hx]; exact hi
  exact ⟨_, _, List.getElem?_eq_getElem hi, List.getElem?_eq_getElem hi2, by unfold addL; rw [List.getElem?_zipWith, List.getElem?_eq_getElem hi, List.getElem?_eq_getElem hi2]⟩
theorem addL_all {r s : Int} {es : List Ed} (h : IsFol r s es) {x : Int} (hx : 0 < x) : (addL s es x).length = (freeV es x s.toNat).length := by
  unfold addL
  rw [List.length_zipWith, ← free_same h hx, Nat.min_self]
end Go.Proofs.Ytkcfbcbkokabdaa
