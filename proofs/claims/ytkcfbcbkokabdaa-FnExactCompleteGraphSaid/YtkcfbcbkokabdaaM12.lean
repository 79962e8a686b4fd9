
/- Plain: what is joined, leaves, the trimmed graph, the search by breadth, the core. -/
import Derived.Test.YtkcfbcbkokabdaaM11
namespace Go.Proofs.Ytkcfbcbkokabdaa
set_option linter.unusedVariables false
set_option linter.unusedSimpArgs false

/-- u is joined with v. -/
inductive Conn (es : List Ed) (v : Int) : Int → Prop
  | here : Conn es v v
  | out {e : Ed} : e ∈ es → Conn es v e.a → Conn es v e.b
  | inn {e : Ed} : e ∈ es → Conn es v e.b → Conn es v e.a
/-- A set that holds v and is closed under the edges, and only joined vertices: the joined ones. -/
theorem conn_iff {es : List Ed} {v : Int} {P : Int → Prop} (h0 : P v) (hc : ∀ e ∈ es, P e.a ↔ P e.b) (hs : ∀ u, P u → Conn es v u) (u : Int) : P u ↔ Conn es v u := by
  refine ⟨hs u, fun h => ?_⟩
  induction h with
  | here => exact h0
  | out he _ ih => exact (hc _ he).1 ih
  | inn he _ ih => exact (hc _ he).2 ih
/-- How many ends of edges are v. -/
def degE (v : Int) (e : Ed) : Nat := (if e.a = v then 1 else 0) + (if e.b = v then 1 else 0)
def deg (es : List Ed) (v : Int) : Nat := (es.map (degE v)).sum
theorem deg_take_succ {es : List Ed} {k : Nat} {e : Ed} (h : es[k]? = some e) (v : Int) : deg (es.take (k + 1)) v = deg (es.take k) v + degE v e := by
  obtain ⟨hk, h'⟩ := List.getElem?_eq_some_iff.1 h
  rw [List.take_succ_eq_append_getElem hk, h']
  simp [deg]
theorem deg_le (es : List Ed) (v : Int) : deg es v ≤ 2 * es.length := by
  induction es with
  | nil => simp [deg]
  | cons e t ih =>
    have h : deg (e :: t) v = degE v e + deg t v := by simp [deg]
    have : degE v e ≤ 2 := by unfold degE; split <;> split <;> omega
    simp only [List.length_cons]
    omega
def Bad (es : List Ed) (v : Int) : Prop := deg es v < 2 ∨ ¬ Conn es 0 v
open Classical in
/-- The first vertex other than the base that no loop needs. -/
noncomputable def leaf (s : Int) (es : List Ed) : Option Nat := ((List.range s.toNat).drop 1).find? fun v => decide (Bad es (v : Int))
theorem find_drop_range {p : Nat → Bool} (n k : Nat) (hk : k < n) (hp : p k = true) : ∀ m, m ≤ k → (∀ u, m ≤ u → u < k → p u = false) → ((List.range n).drop m).find? p = some k := by
  intro m hm
  obtain ⟨d, hd⟩ : ∃ d, k = m + d := ⟨k - m, by omega⟩
  induction d generalizing m with
  | zero =>
    intro _
    obtain rfl : k = m := by omega
    rw [List.drop_eq_getElem_cons (by simpa using hk)]
    simp [hp]
  | succ d ih =>
    intro hu
    rw [List.drop_eq_getElem_cons (by simp; omega)]
    have h1 := hu m (Nat.le_refl _) (by omega)
    simp only [List.getElem_range, List.find?_cons, h1]
    exact ih (m + 1) (by omega) (by omega) (fun u h2 h3 => hu u (by omega) h3)
theorem leaf_some {s : Int} {es : List Ed} {v : Nat} (h1 : 1 ≤ v) (h2 : (v : Int) < s) (hb : Bad es v) (hu : ∀ u : Nat, 1 ≤ u → u < v → ¬ Bad es u) : leaf s es = some v :=
  find_drop_range _ v (by omega) (by simpa using hb) 1 h1 fun u h h' => by simpa using hu u h h'
theorem leaf_none {s : Int} {es : List Ed} (hu : ∀ u : Nat, 1 ≤ u → (u : Int) < s → ¬ Bad es u) : leaf s es = none := by
  refine List.find?_eq_none.2 fun u hm => ?_
  have h1 : u < s.toNat := List.mem_range.1 (List.mem_of_mem_drop hm)
  have h2 : 1 ≤ u := by
    obtain ⟨k, hk, h⟩ := List.mem_iff_getElem.1 hm
    simp at h
    omega
  simpa using hu u h2 (by omega)
theorem leaf_spec {s : Int} {es : List Ed} {v : Nat} (h : leaf s es = some v) : 1 ≤ v ∧ (v : Int) < s ∧ Bad es v := by
  have hm := List.mem_of_find?_eq_some h
  have h1 : v < s.toNat := List.mem_range.1 (List.mem_of_mem_drop hm)
  have h3 : Bad es v := by simpa using List.find?_some h
  refine ⟨?_, by omega, h3⟩
  obtain ⟨k, hk, h⟩ := List.mem_iff_getElem.1 hm
  simp at h
  omega
theorem leaf_cases (s : Int) (es : List Ed) : (leaf s es = none ∧ ∀ u : Nat, 1 ≤ u → (u : Int) < s → ¬ Bad es u) ∨ ∃ v : Nat, leaf s es = some v ∧ 1 ≤ v ∧ (v : Int) < s ∧ Bad es v ∧ ∀ u : Nat, 1 ≤ u → u < v → ¬ Bad es u := by
  by_cases h : ∃ v : Nat, 1 ≤ v ∧ (v : Int) < s ∧ Bad es v
  · right
    obtain ⟨v, hv⟩ := h
    induction v using Nat.strongRecOn with
    | _ v ih =>
      by_cases hu : ∃ u : Nat, 1 ≤ u ∧ u < v ∧ Bad es u
      · obtain ⟨u, h1, h2, h3⟩ := hu
        exact ih u h2 ⟨h1, by omega, h3⟩
      · have hall : ∀ u : Nat, 1 ≤ u → u < v → ¬ Bad es u := fun u h1 h2 h3 => hu ⟨u, h1, h2, h3⟩
        exact ⟨v, leaf_some hv.1 hv.2.1 hv.2.2 hall, hv.1, hv.2.1, hv.2.2, hall⟩
  · left
    have hall : ∀ u : Nat, 1 ≤ u → (u : Int) < s → ¬ Bad es u := fun u h1 h2 h3 => h ⟨u, h1, h2, h3⟩
    exact ⟨leaf_none hall, hall⟩
/-- The numbers below k other than v. -/
def but (v k : Nat) : List Int := ((List.range k).filter (· != v)).map Int.ofNat
theorem but_succ (v k : Nat) : but v (k + 1) = if k = v then but v k else but v k ++ [(k : Int)] := by
  unfold but
  rw [List.range_succ, List.filter_append]
  by_cases h : k = v
  · simp [h]
  · simp [h]
theorem but_le (v : Nat) : ∀ k, k ≤ v → (but v k).length = k
  | 0, _ => by simp [but]
  | k + 1, h => by rw [but_succ, if_neg (by omega)]; simp [but_le v k (by omega)]
theorem but_len (v : Nat) {k : Nat} (h : v < k) : (but v k).length = k - 1 := by
  induction k with
  | zero => omega
  | succ k ih =>
    rw [but_succ]
    by_cases hk : k = v
    · rw [if_pos hk, hk, but_le v v (Nat.le_refl _)]; omega
    · rw [if_neg hk]; simp; rw [ih (by omega)]; omega
theorem but_nodup (v k : Nat) : (but v k).Nodup := by
  unfold but
  refine List.Pairwise.map _ (fun a b h => ?_) (List.Pairwise.filter _ List.nodup_range)
  intro he
  exact h (by injection he)
theorem mem_but {v k : Nat} {x : Int} : x ∈ but v k ↔ ∃ u : Nat, u < k ∧ u ≠ v ∧ x = (u : Int) := by
  unfold but
  simp only [List.mem_map, List.mem_filter, List.mem_range, bne_iff_ne]
  constructor
  · rintro ⟨u, ⟨h1, h2⟩, rfl⟩; exact ⟨u, h1, h2, rfl⟩
  · rintro ⟨u, h1, h2, rfl⟩; exact ⟨u, ⟨h1, h2⟩, rfl⟩
theorem but_range {v k : Nat} {x : Int} (h : x ∈ but v k) : 0 ≤ x ∧ x < k := by
  obtain ⟨u, h1, h2, rfl⟩ := mem_but.1 h
  omega
/-- One vertex is cut off. -/
def cutV (g : Int × List Ed) (v : Nat) : Int × List Ed := (((but v g.1.toNat).length : Int), partE (but v g.1.toNat) g.2)
theorem cutV_size {g : Int × List Ed} {v : Nat} (h : (v : Int) < g.1) : (cutV g v).1 = g.1 - 1 := by
  show ((but v g.1.toNat).length : Int) = _
  rw [but_len v (by omega)]
  omega
theorem cutV_gr {r : Int} {g : Int × List Ed} {v : Nat} (hg : IsGr r g.1 g.2) (h1 : 1 ≤ v) (h2 : (v : Int) < g.1) : IsGr r (cutV g v).1 (cutV g v).2 := by
  have hl := but_len v (show v < g.1.toNat by omega)
  have := hg.size
  refine partE_gr hg ?_ (by omega)
  intro h0
  rw [h0] at hl
  simp at hl
  omega
noncomputable def trimA : Nat → Int × List Ed → Int × List Ed
  | 0, g => g
  | n + 1, g => match leaf g.1 g.2 with
    | none => g
    | some v => trimA n (cutV g v)
theorem trimA_none {n : Nat} {g : Int × List Ed} (h : leaf g.1 g.2 = none) : trimA n g = g := by
  cases n with
  | zero => rfl
  | succ n => simp [trimA, h]
theorem trimA_some {n : Nat} {g : Int × List Ed} {v : Nat} (h : leaf g.1 g.2 = some v) : trimA (n + 1) g = trimA n (cutV g v) := by simp [trimA, h]
theorem trimA_gr {r : Int} : ∀ (n : Nat) {g : Int × List Ed}, IsGr r g.1 g.2 → IsGr r (trimA n g).1 (trimA n g).2
  | 0, g, h => h
  | n + 1, g, h => by
    cases hf : leaf g.1 g.2 with
    | none => rw [trimA_none hf]; exact h
    | some v =>
      rw [trimA_some hf]
      obtain ⟨h1, h2, _⟩ := leaf_spec hf
      exact trimA_gr n (cutV_gr h h1 h2)
theorem trimA_size : ∀ (n : Nat) {g : Int × List Ed}, (trimA n g).1 ≤ g.1
  | 0, g => Int.le_refl _
  | n + 1, g => by
    cases hf : leaf g.1 g.2 with
    | none => rw [trimA_none hf]; exact Int.le_refl _
    | some v =>
      rw [trimA_some hf]
      obtain ⟨h1, h2, _⟩ := leaf_spec hf
      have := trimA_size n (g := cutV g v)
      rw [cutV_size h2] at this
      omega
theorem trimA_same {n : Nat} {g : Int × List Ed} (hn : 0 < n) : (trimA n g).1 = g.1 ↔ leaf g.1 g.2 = none := by
  constructor
  · intro h
    cases hf : leaf g.1 g.2 with
    | none => rfl
    | some v =>
      obtain ⟨m, rfl⟩ : ∃ m, n = m + 1 := ⟨n - 1, by omega⟩
      rw [trimA_some hf] at h
      obtain ⟨h1, h2, _⟩ := leaf_spec hf
      have := trimA_size m (g := cutV g v)
      rw [cutV_size h2] at this
      omega
  · intro h
    rw [trimA_none h]

/-- The letters of a rank. -/
def lets : Nat → List Int
  | 0 => []
  | n + 1 => lets n ++ [((n : Int) + 1), -((n : Int) + 1)]
theorem lets_len (n : Nat) : (lets n).length = 2 * n := by
  induction n with
  | zero => rfl
  | succ n ih => simp [lets, ih]; omega
theorem mem_lets {n : Nat} {x : Int} : x ∈ lets n ↔ x ≠ 0 ∧ -(n : Int) ≤ x ∧ x ≤ n := by
  induction n with
  | zero => simp [lets]; omega
  | succ n ih =>
    simp only [lets, List.mem_append, ih, List.mem_cons, List.not_mem_nil, or_false]
    omega
abbrev BS := List (Int × List Int)
/-- One letter of the search. -/
def bfsStep (es : List Ed) (u : Int) (w : List Int) (st : BS) (x : Int) : BS :=
  if nextV es u x < 0 ∨ nextV es u x ∈ st.map Prod.fst then st else st ++ [(nextV es u x, w ++ [x])]
def bfsRow (es : List Ed) (L : List Int) (p : Int × List Int) (st : BS) : BS := L.foldl (bfsStep es p.1 p.2) st
def bfsSt (es : List Ed) (L : List Int) (v : Int) : Nat → BS
  | 0 => [(v, [])]
  | i + 1 => match (bfsSt es L v i)[i]? with
    | none => bfsSt es L v i
    | some p => bfsRow es L p (bfsSt es L v i)
def bfs (es : List Ed) (L : List Int) (v : Int) : BS := bfsSt es L v 41
theorem bfsStep_pre (es : List Ed) (u : Int) (w : List Int) (st : BS) (x : Int) : st <+: bfsStep es u w st x := by
  unfold bfsStep
  split
  · exact List.prefix_refl _
  · exact List.prefix_append _ _
theorem bfsRow_pre (es : List Ed) (L : List Int) (p : Int × List Int) (st : BS) : st <+: bfsRow es L p st := by
  unfold bfsRow
  induction L generalizing st with
  | nil => exact List.prefix_refl _
  | cons x t ih => exact (bfsStep_pre es p.1 p.2 st x).trans (ih _)
theorem bfsSt_pre (es : List Ed) (L : List Int) (v : Int) (i : Nat) : bfsSt es L v i <+: bfsSt es L v (i + 1) := by
  show _ <+: (match (bfsSt es L v i)[i]? with | none => bfsSt es L v i | some p => bfsRow es L p (bfsSt es L v i))
  split
  · exact List.prefix_refl _
  · exact bfsRow_pre es L _ _
theorem bfsSt_pre' (es : List Ed) (L : List Int) (v : Int) (i d : Nat) : bfsSt es L v i <+: bfsSt es L v (i + d) := by
  induction d with
  | zero => exact List.prefix_refl _
  | succ d ih => exact ih.trans (bfsSt_pre es L v (i + d))
theorem prefix_get {α : Type} {xs ys : List α} (h : xs <+: ys) {k : Nat} {a : α} (hk : xs[k]? = some a) : ys[k]? = some a := by
  obtain ⟨t, rfl⟩ := h
  rw [List.getElem?_append_left (List.getElem?_eq_some_iff.1 hk).1]
  exact hk
theorem bfsSt_stop {es : List Ed} {L : List Int} {v : Int} {i : Nat} (h : (bfsSt es L v i).length ≤ i) (d : Nat) : bfsSt es L v (i + d) = bfsSt es L v i := by
  induction d with
  | zero => rfl
  | succ d ih =>
    show (match (bfsSt es L v (i + d))[i + d]? with | none => bfsSt es L v (i + d) | some p => bfsRow es L p (bfsSt es L v (i + d))) = _
    rw [ih, List.getElem?_eq_none (by omega)]
/-- What holds of the search's state. -/
structure BfsOk (s : Int) (L : List Int) (st : BS) : Prop where
  nd : (st.map Prod.fst).Nodup
  rng : ∀ p ∈ st, 0 ≤ p.1 ∧ p.1 < s
  wl : ∀ (j : Nat) (p : Int × List Int), st[j]? = some p → p.2.length ≤ j
  wm : ∀ p ∈ st, ∀ x ∈ p.2, x ∈ L
theorem BfsOk.len {s : Int} {L : List Int} {st : BS} (h : BfsOk s L st) (hs : 0 ≤ s) : (st.length : Int) ≤ s := by
  have h1 : ∀ (L : Nat) (l : List Int), l.Nodup → (∀ v ∈ l, 0 ≤ v ∧ v < (L : Int)) → l.length ≤ L := by
    intro L
    induction L with
    | zero =>
      intro l _ h
      cases l with
      | nil => simp
      | cons x t => have := h x (by simp); omega
    | succ L ih =>
      intro l hn h
      have h2 := ih (l.erase (L : Int)) (hn.erase _) fun v hv => by
        have h3 := h v (List.mem_of_mem_erase hv)
        have h4 : v ≠ (L : Int) := ((List.Nodup.mem_erase_iff hn).1 hv).1
        omega
      have h5 := List.length_erase (a := (L : Int)) (l := l)
      split at h5 <;> omega
  have := h1 s.toNat (st.map Prod.fst) h.nd (fun v hv => by
    obtain ⟨p, hp, rfl⟩ := List.mem_map.1 hv
    have := h.rng p hp
    omega)
  simp at this
  omega
theorem BfsOk.start {s v : Int} (L : List Int) (h0 : 0 ≤ v) (h1 : v < s) : BfsOk s L [(v, [])] := by
  refine ⟨by simp, ?_, ?_, ?_⟩
  · intro p hp; simp at hp; subst hp; exact ⟨h0, h1⟩
  · intro j p hp
    cases j with
    | zero => simp at hp; subst hp; simp
    | succ j => simp at hp
  · intro p hp x hx; simp at hp; subst hp; simp at hx
theorem BfsOk.step {r s : Int} {es : List Ed} {L : List Int} {st : BS} (hg : ∀ e ∈ es, InG r s e) (h : BfsOk s L st) {i : Nat} {p : Int × List Int} (hp : st[i]? = some p) {x : Int} (hx : x ∈ L) : BfsOk s L (bfsStep es p.1 p.2 st x) := by
  unfold bfsStep
  split
  · exact h
  · rename_i hc
    have hc1 : ¬ nextV es p.1 x < 0 := fun h => hc (.inl h)
    have hc2 : nextV es p.1 x ∉ st.map Prod.fst := fun h => hc (.inr h)
    have hr := nextV_cases hg p.1 x
    have hi := (List.getElem?_eq_some_iff.1 hp).1
    refine ⟨?_, ?_, ?_, ?_⟩
    · rw [List.map_append, List.nodup_append]
      refine ⟨h.nd, by simp, ?_⟩
      intro a ha b hb
      simp at hb
      subst hb
      intro e
      subst e
      exact hc2 ha
    · intro q hq
      rcases List.mem_append.1 hq with hq | hq
      · exact h.rng q hq
      · simp at hq; subst hq; simp only []; omega
    · intro j q hq
      rcases Nat.lt_or_ge j st.length with hj | hj
      · rw [List.getElem?_append_left hj] at hq; exact h.wl j q hq
      · rw [List.getElem?_append_right hj] at hq
        rcases Nat.eq_zero_or_pos (j - st.length) with h0 | h0
        · rw [h0] at hq
          simp at hq
          subst hq
          have := h.wl i p hp
          simp only [List.length_append, List.length_cons, List.length_nil]
          omega
        · rw [List.getElem?_eq_none (by simp; omega)] at hq; cases hq
    · intro q hq y hy
      rcases List.mem_append.1 hq with hq | hq
      · exact h.wm q hq y hy
      · simp at hq
        subst hq
        rcases List.mem_append.1 hy with hy | hy
        · exact h.wm p (List.mem_of_getElem? hp) y hy
        · simp at hy; subst hy; exact hx
theorem BfsOk.row {r s : Int} {es : List Ed} {L : List Int} (hg : ∀ e ∈ es, InG r s e) {i : Nat} {p : Int × List Int} : ∀ (K : List Int), (∀ x ∈ K, x ∈ L) → ∀ {st : BS}, BfsOk s L st → st[i]? = some p → BfsOk s L (bfsRow es K p st)
  | [], _, st, h, _ => h
  | x :: K, hK, st, h, hp => BfsOk.row hg K (fun y hy => hK y (by simp [hy])) (h.step hg hp (hK x (by simp))) (prefix_get (bfsStep_pre es p.1 p.2 st x) hp)
theorem bfsSt_ok {r s v : Int} {es : List Ed} {L : List Int} (hg : ∀ e ∈ es, InG r s e) (h0 : 0 ≤ v) (h1 : v < s) (i : Nat) : BfsOk s L (bfsSt es L v i) := by
  induction i with
  | zero => exact BfsOk.start L h0 h1
  | succ i ih =>
    show BfsOk s L (match (bfsSt es L v i)[i]? with | none => bfsSt es L v i | some p => bfsRow es L p (bfsSt es L v i))
    split
    · exact ih
    · rename_i p hp
      exact BfsOk.row hg L (fun x hx => hx) ih hp
theorem bfs_eq {r s v : Int} {es : List Ed} {L : List Int} (hg : ∀ e ∈ es, InG r s e) (h0 : 0 ≤ v) (h1 : v < s) (hs : s ≤ 40) {i : Nat} (h : (bfsSt es L v i).length = i) : bfs es L v = bfsSt es L v i := by
  have := (bfsSt_ok (L := L) hg h0 h1 i).len (by omega)
  have h2 := bfsSt_stop (show (bfsSt es L v i).length ≤ i by omega) (41 - i)
  rw [← h2, show i + (41 - i) = 41 by omega]
  rfl
theorem bfs_ok {r s v : Int} {es : List Ed} {L : List Int} (hg : ∀ e ∈ es, InG r s e) (h0 : 0 ≤ v) (h1 : v < s) : BfsOk s L (bfs es L v) := bfsSt_ok hg h0 h1 41
theorem bfs_ne (es : List Ed) (L : List Int) (v : Int) : bfs es L v ≠ [] := by
  intro h
  obtain ⟨t, ht⟩ := bfsSt_pre' es L v 0 41
  rw [show (0 : Nat) + 41 = 41 from rfl, show bfsSt es L v 41 = bfs es L v from rfl, h] at ht
  simp [bfsSt] at ht
/-- The order in which the search from the base finds the vertices. -/
def ordE (r : Int) (es : List Ed) (v : Int) : List Int := (bfs es (lets r.toNat) v).map Prod.fst
open Classical in
/-- The graph in the order of the search from the base. -/
noncomputable def canonG (r : Int) (g : Int × List Ed) : Int × List Ed := if IsFol r g.1 g.2 then (((ordE r g.2 0).length : Int), partE (ordE r g.2 0) g.2) else g
noncomputable def coreA (r : Int) (g : Int × List Ed) : Int × List Ed := canonG r (trimA 40 (foldA 40 g))
structure IsCor (r s : Int) (es : List Ed) : Prop where
  fol : IsFol r s es
  leaf : leaf s es = none
  canon : canonG r (s, es) = (s, es)
theorem ordE_len {r s v : Int} {es : List Ed} (hg : IsGr r s es) (h0 : 0 ≤ v) (h1 : v < s) : 0 < (ordE r es v).length ∧ ((ordE r es v).length : Int) ≤ s ∧ (ordE r es v).Nodup ∧ ∀ x ∈ ordE r es v, 0 ≤ x ∧ x < s := by
  have h := bfs_ok (L := lets r.toNat) hg.all h0 h1
  refine ⟨?_, ?_, h.nd, ?_⟩
  · unfold ordE
    rw [List.length_map]
    exact List.length_pos_iff.2 (bfs_ne _ _ _)
  · unfold ordE
    rw [List.length_map]
    exact h.len (by omega)
  · intro x hx
    obtain ⟨p, hp, rfl⟩ := List.mem_map.1 hx
    exact h.rng p hp
theorem canonG_gr {r : Int} {g : Int × List Ed} (hg : IsGr r g.1 g.2) : IsGr r (canonG r g).1 (canonG r g).2 := by
  unfold canonG
  split
  · have hs := hg.size
    have h := ordE_len hg (v := 0) (Int.le_refl _) (by omega)
    refine partE_gr hg ?_ (by omega)
    intro h0
    rw [h0] at h
    simp at h
  · exact hg
theorem coreA_gr {r : Int} {g : Int × List Ed} (hg : IsGr r g.1 g.2) : IsGr r (coreA r g).1 (coreA r g).2 := canonG_gr (trimA_gr 40 (foldA_gr 40 hg))
theorem IsCor.gr {r s : Int} {es : List Ed} (h : IsCor r s es) : IsGr r s es := h.fol.gr
end Go.Proofs.Ytkcfbcbkokabdaa
