
/- Plain: graphs, their steps, folds, parts. -/
import Derived.Test.YtkcfbcbkokabdaaM10
namespace Go.Proofs.Ytkcfbcbkokabdaa
set_option linter.unusedVariables false
set_option linter.unusedSimpArgs false

/-- The edge lies in a graph of rank r and size s. -/
def InG (r s : Int) (e : Ed) : Prop := 0 ≤ e.a ∧ e.a < s ∧ 0 ≤ e.b ∧ e.b < s ∧ 1 ≤ e.l ∧ e.l ≤ r
/-- A graph. -/
structure IsGr (r s : Int) (es : List Ed) : Prop where
  rank : 1 ≤ r ∧ r ≤ 3
  size : 1 ≤ s ∧ s ≤ 40
  len : es.length ≤ 120
  all : ∀ e ∈ es, InG r s e
  asc : Asc es

/-- The ends of the edges that leave v by a letter. -/
def endOf (v x : Int) (e : Ed) : Option Int := if 0 < x ∧ e.l = x ∧ e.a = v then some e.b else if x < 0 ∧ e.l = -x ∧ e.b = v then some e.a else none
def ends (es : List Ed) (v x : Int) : List Int := es.filterMap (endOf v x)
theorem mem_ends {es : List Ed} {v x u : Int} : u ∈ ends es v x ↔ ∃ e ∈ es, endOf v x e = some u := by simp [ends]
theorem ends_len (es : List Ed) (v x : Int) : (ends es v x).length ≤ es.length := List.length_filterMap_le _ _
theorem endOf_some {v x u : Int} {e : Ed} : endOf v x e = some u ↔ (0 < x ∧ e.l = x ∧ e.a = v ∧ e.b = u) ∨ (x < 0 ∧ e.l = -x ∧ e.b = v ∧ e.a = u) := by
  unfold endOf
  split
  · rename_i h
    simp
    omega
  · split
    · rename_i h h'
      simp
      omega
    · simp
      omega
/-- The least of a list, -1 of none. -/
def leastI : List Int → Int
  | [] => -1
  | x :: t => t.foldl min x
theorem foldl_min_le (t : List Int) (x : Int) : t.foldl min x ≤ x ∧ (∀ y ∈ t, t.foldl min x ≤ y) ∧ (t.foldl min x = x ∨ t.foldl min x ∈ t) := by
  induction t generalizing x with
  | nil => simp
  | cons y t ih =>
    obtain ⟨h1, h2, h3⟩ := ih (min x y)
    simp only [List.foldl_cons]
    refine ⟨by omega, ?_, ?_⟩
    · intro z hz
      rcases List.mem_cons.1 hz with rfl | hz
      · omega
      · exact h2 z hz
    · rcases h3 with h3 | h3
      · rcases Int.le_total x y with h | h
        · left; rw [h3]; omega
        · right; rw [h3, show min x y = y by omega]; simp
      · right; exact List.mem_cons_of_mem _ h3
theorem leastI_mem {l : List Int} (h : l ≠ []) : leastI l ∈ l ∧ ∀ y ∈ l, leastI l ≤ y := by
  cases l with
  | nil => exact absurd rfl h
  | cons x t =>
    obtain ⟨h1, h2, h3⟩ := foldl_min_le t x
    refine ⟨?_, ?_⟩
    · rcases h3 with h3 | h3
      · show t.foldl min x ∈ _; rw [h3]; simp
      · exact List.mem_cons_of_mem _ h3
    · intro y hy
      rcases List.mem_cons.1 hy with rfl | hy
      · exact h1
      · exact h2 y hy
theorem leastI_eq {l : List Int} {x : Int} (h : x ∈ l) (hm : ∀ y ∈ l, x ≤ y) : leastI l = x := by
  have h0 : l ≠ [] := by intro h0; subst h0; simp at h
  obtain ⟨h1, h2⟩ := leastI_mem h0
  have := h2 x h
  have := hm _ h1
  omega
/-- The vertex to which a letter leads, or -1. -/
def nextV (es : List Ed) (v x : Int) : Int := leastI (ends es v x)
theorem nextV_none {es : List Ed} {v x : Int} (h : ends es v x = []) : nextV es v x = -1 := by rw [nextV, h]; rfl
theorem nextV_edge {es : List Ed} {v x : Int} (h : 0 ≤ nextV es v x) : ∃ e ∈ es, endOf v x e = some (nextV es v x) := by
  by_cases h0 : ends es v x = []
  · rw [nextV_none h0] at h; omega
  · exact mem_ends.1 (leastI_mem h0).1
theorem nextV_cases {r s : Int} {es : List Ed} (hg : ∀ e ∈ es, InG r s e) (v x : Int) : nextV es v x = -1 ∨ (0 ≤ nextV es v x ∧ nextV es v x < s) := by
  by_cases h0 : ends es v x = []
  · exact .inl (nextV_none h0)
  · right
    obtain ⟨e, he, h⟩ := mem_ends.1 (leastI_mem h0).1
    have := hg e he
    unfold InG at this
    have h' : endOf v x e = some (nextV es v x) := h
    rw [endOf_some] at h'
    omega
theorem nextV_neg {es : List Ed} {v x : Int} (h : nextV es v x = -1) (hg : ∀ e ∈ es, 0 ≤ e.a ∧ 0 ≤ e.b) : ends es v x = [] := by
  refine Classical.byContradiction fun h0 => ?_
  obtain ⟨e, he, h'⟩ := mem_ends.1 (leastI_mem h0).1
  have := hg e he
  have h' : endOf v x e = some (nextV es v x) := h'
  rw [endOf_some] at h'
  omega

/-- Two edges that must not lie in a folded graph together. -/
def Clash (e f : Ed) : Prop := e.l = f.l ∧ (e.a = f.a ∨ e.b = f.b)
instance (e f : Ed) : Decidable (Clash e f) := by unfold Clash; infer_instance
theorem Clash.symm {e f : Ed} (h : Clash e f) : Clash f e := by unfold Clash at *; omega
structure IsFol (r s : Int) (es : List Ed) : Prop where
  gr : IsGr r s es
  fol : es.Pairwise fun e f => ¬ Clash e f
/-- The folds of two edges, and of a list, in order. -/
def foldsAB (e f : Ed) : List (Int × Int) :=
  if e.l = f.l then (if e.a = f.a then [(min e.b f.b, max e.b f.b)] else []) ++ (if e.b = f.b then [(min e.a f.a, max e.a f.a)] else []) else []
def folds : List Ed → List (Int × Int)
  | [] => []
  | e :: t => t.flatMap (foldsAB e) ++ folds t
theorem foldsAB_nil {e f : Ed} : foldsAB e f = [] ↔ ¬ Clash e f := by
  unfold foldsAB Clash
  by_cases h1 : e.l = f.l <;> by_cases h2 : e.a = f.a <;> by_cases h3 : e.b = f.b <;> simp [h1, h2, h3]
theorem folds_nil {es : List Ed} : folds es = [] ↔ es.Pairwise fun e f => ¬ Clash e f := by
  induction es with
  | nil => simp [folds]
  | cons e t ih =>
    rw [List.pairwise_cons, folds, List.append_eq_nil_iff, ih, List.flatMap_eq_nil_iff]
    simp only [foldsAB_nil]
theorem mem_foldsAB {r s : Int} {e f : Ed} {p : Int × Int} (he : InG r s e) (hf : InG r s f) (hne : e ≠ f) (h : p ∈ foldsAB e f) : 0 ≤ p.1 ∧ p.1 < p.2 ∧ p.2 < s := by
  unfold foldsAB at h
  unfold InG at he hf
  have hd : ¬ (e.a = f.a ∧ e.l = f.l ∧ e.b = f.b) := fun ⟨h1, h2, h3⟩ => hne (Ed.ext' h1 h2 h3)
  split at h
  · rcases List.mem_append.1 h with h | h
    · split at h
      · simp at h; subst h; simp only []; omega
      · simp at h
    · split at h
      · simp at h; subst h; simp only []; omega
      · simp at h
  · simp at h
theorem mem_folds {r s : Int} {es : List Ed} {p : Int × Int} (hg : ∀ e ∈ es, InG r s e) (ha : Asc es) (h : p ∈ folds es) : 0 ≤ p.1 ∧ p.1 < p.2 ∧ p.2 < s := by
  induction es with
  | nil => simp [folds] at h
  | cons e t ih =>
    obtain ⟨h1, h2⟩ := List.pairwise_cons.1 ha
    rcases List.mem_append.1 h with h | h
    · obtain ⟨f, hf, h⟩ := List.mem_flatMap.1 h
      exact mem_foldsAB (hg e (by simp)) (hg f (by simp [hf])) (h1 f hf).ne h
    · exact ih (fun f hf => hg f (by simp [hf])) h2 h
/-- A vertex's place behind a fold. -/
def foldV (p : Int × Int) (v : Int) : Int := if v = p.2 then p.1 else if p.2 < v then v - 1 else v
def foldE (p : Int × Int) (e : Ed) : Ed := ⟨foldV p e.a, e.l, foldV p e.b⟩
def mergeE (p : Int × Int) (es : List Ed) : List Ed := canon (es.map (foldE p))
theorem mergeE_gr {r s : Int} {es : List Ed} {p : Int × Int} (hg : IsGr r s es) (h0 : 0 ≤ p.1) (h1 : p.1 < p.2) (h2 : p.2 < s) : IsGr r (s - 1) (mergeE p es) := by
  refine ⟨hg.rank, ?_, ?_, ?_, asc_canon _⟩
  · have := hg.size; omega
  · have := canon_len (es.map (foldE p))
    have := hg.len
    simp at *
    unfold mergeE
    omega
  · intro e he
    obtain ⟨f, hf, rfl⟩ := List.mem_map.1 (mem_canon.1 he)
    have h3 := hg.all f hf
    have hv : ∀ v : Int, 0 ≤ v → v < s → 0 ≤ foldV p v ∧ foldV p v < s - 1 := by
      intro v hv0 hv1
      unfold foldV
      split
      · omega
      · split <;> omega
    unfold InG at *
    have := hv f.a (by omega) (by omega)
    have := hv f.b (by omega) (by omega)
    simp only [foldE]
    omega
/-- All folds, at most n. -/
def foldA : Nat → Int × List Ed → Int × List Ed
  | 0, g => g
  | n + 1, g => match folds g.2 with
    | [] => g
    | p :: _ => foldA n (g.1 - 1, mergeE p g.2)
theorem foldA_nil {n : Nat} {g : Int × List Ed} (h : folds g.2 = []) : foldA n g = g := by
  cases n with
  | zero => rfl
  | succ n => simp [foldA, h]
theorem foldA_cons {n : Nat} {g : Int × List Ed} {p : Int × Int} {t : List (Int × Int)} (h : folds g.2 = p :: t) : foldA (n + 1) g = foldA n (g.1 - 1, mergeE p g.2) := by simp [foldA, h]
theorem foldA_gr {r : Int} : ∀ (n : Nat) {g : Int × List Ed}, IsGr r g.1 g.2 → IsGr r (foldA n g).1 (foldA n g).2
  | 0, g, h => h
  | n + 1, g, h => by
    cases hf : folds g.2 with
    | nil => rw [foldA_nil hf]; exact h
    | cons p t =>
      rw [foldA_cons hf]
      obtain ⟨h0, h1, h2⟩ := mem_folds h.all h.asc (p := p) (by rw [hf]; simp)
      exact foldA_gr n (mergeE_gr h h0 h1 h2)
theorem foldA_fol : ∀ (n : Nat) {r : Int} {g : Int × List Ed}, IsGr r g.1 g.2 → g.1 ≤ n → folds (foldA n g).2 = []
  | 0, r, g, h, hn => by have := h.size; omega
  | n + 1, r, g, h, hn => by
    cases hf : folds g.2 with
    | nil => rw [foldA_nil hf]; exact hf
    | cons p t =>
      rw [foldA_cons hf]
      obtain ⟨h0, h1, h2⟩ := mem_folds h.all h.asc (p := p) (by rw [hf]; simp)
      exact foldA_fol n (mergeE_gr h h0 h1 h2) (by simp only []; omega)

/-- The place of a vertex in an order, or -1. -/
def idxI (order : List Int) (v : Int) : Int := if v ∈ order then (order.idxOf v : Int) else -1
theorem idxI_neg {order : List Int} {v : Int} (h : v ∉ order) : idxI order v = -1 := by simp [idxI, h]
theorem idxI_lt {order : List Int} {v : Int} (h : 0 ≤ idxI order v) : idxI order v < order.length := by
  unfold idxI at *
  split
  · rename_i hm
    have := List.idxOf_lt_length_iff.2 hm
    omega
  · rename_i hm
    rw [if_neg hm] at h
    omega
theorem idxI_at {order : List Int} {k : Nat} {v : Int} (hn : order.Nodup) (h : order[k]? = some v) : idxI order v = k := by
  have hm : v ∈ order := List.mem_of_getElem? h
  obtain ⟨hk, h'⟩ := List.getElem?_eq_some_iff.1 h
  rw [idxI, if_pos hm, ← h', hn.idxOf_getElem k hk]
/-- The graph of some vertices in their order. -/
def partOf (order : List Int) (e : Ed) : Option Ed := if 0 ≤ idxI order e.a ∧ 0 ≤ idxI order e.b then some ⟨idxI order e.a, e.l, idxI order e.b⟩ else none
def partE (order : List Int) (es : List Ed) : List Ed := canon (es.filterMap (partOf order))
theorem partE_gr {r s : Int} {es : List Ed} {order : List Int} (hg : IsGr r s es) (h0 : order ≠ []) (h40 : order.length ≤ 40) : IsGr r order.length (partE order es) := by
  have hpos : 0 < order.length := List.length_pos_iff.2 h0
  refine ⟨hg.rank, by omega, ?_, ?_, asc_canon _⟩
  · have h1 := canon_len (es.filterMap (partOf order))
    have h2 := List.length_filterMap_le (partOf order) es
    have h3 := hg.len
    unfold partE
    omega
  · intro e he
    obtain ⟨f, hf, h⟩ := List.mem_filterMap.1 (mem_canon.1 he)
    have h3 := hg.all f hf
    unfold partOf at h
    split at h
    · rename_i hc
      injection h with h
      subst h
      have := idxI_lt hc.1
      have := idxI_lt hc.2
      unfold InG at *
      simp only []
      omega
    · cases h
end Go.Proofs.Ytkcfbcbkokabdaa
