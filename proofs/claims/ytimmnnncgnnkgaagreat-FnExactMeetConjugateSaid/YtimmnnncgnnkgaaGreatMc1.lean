/- Contracts and lemmas of this seat, many texts in one: see the words ahead of each. No condition beyond those typed in each lemma. -/
import Derived.WalkKit
import Derived.WalkSpells
import Derived.WalkLawsBesides
import Derived.Maps.AppendAt
import Derived.Lib.Hide
import Derived.Deep.Draws
import Derived.Deep.QuietTactic
import Derived.BigQuiet
import Derived.Shelf.Small.Wraps
import Derived.Shelf.Sort.Plain
import Derived.Ground.Names2Prog
import Derived.Shelf.Slices.CompactI
import Derived.Shelf.Slices.Cells
import Derived.Shelf.Slices.In.SortNone
import Derived.Test.YtimmnnncgnnkgaaGreatProg
import Derived.Test.YtimmnnncgnnkgaaGreatRows
import Derived.Lib.OwnBridge
import Derived.Shelf.SlGeneric
import Derived.Shelf.SlSortCmp.WholeK
import Derived.Shelf.SlicesQ.Contains
import Derived.Shelf.SlicesQ.Equal
import Derived.Ground.SlsfProg
import Derived.Ground.SlgqProg
import Derived.Deep.AppendLies
import Derived.RegionTactic
import Derived.Deep.Matrix
import Derived.Lib.SmallJoins
import Derived.ProofKit
import Derived.OpenShut
import Derived.ShutString
import Derived.ChangeOld

/- Plain words on letters and words: inverse letters, the orders of letters and words, reduction. -/
namespace Go.Proofs.YtimmnnncgnnkgaaGreat
set_option linter.unusedVariables false
set_option linter.unusedSimpArgs false

/-- The least int. -/
def minI : Int := -9223372036854775808
/-- Two letters are inverse to each other. -/
def invB (a b : Int) : Bool := decide (a ≠ 0 ∧ a ≠ minI ∧ b = -a)
theorem invB_iff (a b : Int) : invB a b = true ↔ (a ≠ 0 ∧ a ≠ minI ∧ b = -a) := by simp [invB]

/-- A word of a rank. -/
def letB (rank x : Int) : Bool := decide (x ≠ 0 ∧ -rank ≤ x ∧ x ≤ rank)
def WordP (rank : Int) (w : List Int) : Prop :=
  (∀ x ∈ w, x ≠ 0 ∧ -rank ≤ x ∧ x ≤ rank) ∧ (∀ k x y, w[k]? = some x → w[k + 1]? = some y → y ≠ -x)
def IsW (rank : Int) (w : List Int) : Prop := 1 ≤ rank ∧ rank ≤ 3 ∧ w.length ≤ 24 ∧ WordP rank w

/-- -1, 0 or 1 -/
def cmpI (a b : Int) : Int := if a < b then -1 else if b < a then 1 else 0
def absI (a : Int) : Int := if a < 0 then -a else a
/-- The order of letters: 0, 1, -1, 2, -2, .., the least int last. -/
def cmpL (a b : Int) : Int :=
  if a = b then 0 else if a = minI then 1 else if b = minI then -1
  else if absI a < absI b then -1 else if absI b < absI a then 1 else if b < a then -1 else 1
/-- Letter by letter. -/
def cmpLs : List Int → List Int → Int
  | a :: x, b :: y => if cmpL a b = 0 then cmpLs x y else cmpL a b
  | _, _ => 0
/-- The order of words. -/
def cmpW (a b : List Int) : Int := if a.length < b.length then -1 else if b.length < a.length then 1 else cmpLs a b
/-- The negative of a letter as an int; the least int is its own. -/
def negI (x : Int) : Int := if x = minI then minI else -x
def invW (w : List Int) : List Int := (w.map negI).reverse
/-- One step of the reduction. -/
def redStep (out : List Int) (x : Int) : List Int :=
  match out.getLast? with
  | some a => if invB a x then out.dropLast else out ++ [x]
  | none => [x]
def red (out w : List Int) : List Int := w.foldl redStep out
end Go.Proofs.YtimmnnncgnnkgaaGreat

/- Plain: edges in order; lists of edges that ascend are known by their members. -/
namespace Go.Proofs.YtimmnnncgnnkgaaGreat
set_option linter.unusedVariables false
set_option linter.unusedSimpArgs false

/-- An edge. -/
structure Ed where
  a : Int
  l : Int
  b : Int
deriving DecidableEq
theorem Ed.ext' {e f : Ed} (h1 : e.a = f.a) (h2 : e.l = f.l) (h3 : e.b = f.b) : e = f := by
  cases e
  cases f
  simp at h1 h2 h3
  simp [h1, h2, h3]
/-- The order of edges. -/
def cmpE (e f : Ed) : Int := if cmpI e.a f.a ≠ 0 then cmpI e.a f.a else if cmpI e.l f.l ≠ 0 then cmpI e.l f.l else cmpI e.b f.b
theorem cmpI_zero {a b : Int} : cmpI a b = 0 ↔ a = b := by
  unfold cmpI
  split
  · simp; omega
  · split
    · simp; omega
    · simp; omega
theorem cmpI_neg {a b : Int} : cmpI a b < 0 ↔ a < b := by
  unfold cmpI
  split
  · simp; omega
  · split
    · simp; omega
    · simp; omega
/-- The lesser edge. -/
def LtE (e f : Ed) : Prop := e.a < f.a ∨ (e.a = f.a ∧ (e.l < f.l ∨ (e.l = f.l ∧ e.b < f.b)))
theorem cmpE_neg {e f : Ed} : cmpE e f < 0 ↔ LtE e f := by
  unfold cmpE LtE
  by_cases h1 : cmpI e.a f.a = 0
  · by_cases h2 : cmpI e.l f.l = 0
    · rw [if_neg (by simpa using h1), if_neg (by simpa using h2), cmpI_neg]
      have := cmpI_zero.1 h1
      have := cmpI_zero.1 h2
      omega
    · rw [if_neg (by simpa using h1), if_pos h2, cmpI_neg]
      have := cmpI_zero.1 h1
      have : e.l ≠ f.l := fun h => h2 (cmpI_zero.2 h)
      omega
  · rw [if_pos h1, cmpI_neg]
    have : e.a ≠ f.a := fun h => h1 (cmpI_zero.2 h)
    omega
theorem cmpE_zero {e f : Ed} : cmpE e f = 0 ↔ e = f := by
  unfold cmpE
  constructor
  · intro h
    split at h
    · contradiction
    · split at h
      · contradiction
      · exact Ed.ext' (cmpI_zero.1 (by simpa using ‹¬ cmpI e.a f.a ≠ 0›)) (cmpI_zero.1 (by simpa using ‹¬ cmpI e.l f.l ≠ 0›)) (cmpI_zero.1 h)
  · rintro rfl
    simp [cmpI]
theorem LtE.trans {e f g : Ed} (h : LtE e f) (k : LtE f g) : LtE e g := by unfold LtE at *; omega
theorem LtE.irrefl (e : Ed) : ¬ LtE e e := by unfold LtE; omega
theorem LtE.tri (e f : Ed) : LtE e f ∨ e = f ∨ LtE f e := by
  by_cases h : e = f
  · exact .inr (.inl h)
  · have : ¬ (e.a = f.a ∧ e.l = f.l ∧ e.b = f.b) := fun ⟨h1, h2, h3⟩ => h (Ed.ext' h1 h2 h3)
    unfold LtE
    omega
theorem LtE.ne {e f : Ed} (h : LtE e f) : e ≠ f := fun hf => LtE.irrefl f (hf ▸ h)
theorem LtE.asymm {e f : Ed} (h : LtE e f) : ¬ LtE f e := fun k => LtE.irrefl e (h.trans k)
/-- Ascending, each once. -/
def Asc (es : List Ed) : Prop := es.Pairwise LtE
theorem asc_ext : ∀ {xs ys : List Ed}, Asc xs → Asc ys → (∀ e, e ∈ xs ↔ e ∈ ys) → xs = ys
  | [], [], _, _, _ => rfl
  | [], y :: ys, _, _, h => absurd ((h y).2 (by simp)) (by simp)
  | x :: xs, [], _, _, h => absurd ((h x).1 (by simp)) (by simp)
  | x :: xs, y :: ys, hx, hy, h => by
    obtain ⟨hx1, hx2⟩ := List.pairwise_cons.1 hx
    obtain ⟨hy1, hy2⟩ := List.pairwise_cons.1 hy
    have hxy : x = y := by
      have h1 := (h x).1 (by simp)
      have h2 := (h y).2 (by simp)
      rcases List.mem_cons.1 h1 with rfl | h1
      · rfl
      · rcases List.mem_cons.1 h2 with rfl | h2
        · rfl
        · exact absurd (hx1 y h2) (hy1 x h1).asymm
    subst hxy
    rw [asc_ext hx2 hy2 (fun e => ?_)]
    have := h e
    simp only [List.mem_cons] at this
    constructor
    · intro he
      rcases this.1 (.inr he) with rfl | h1
      · exact absurd (hx1 e he) (LtE.irrefl e)
      · exact h1
    · intro he
      rcases this.2 (.inr he) with rfl | h1
      · exact absurd (hy1 e he) (LtE.irrefl e)
      · exact h1
/-- An edge put into its place. -/
def putE (e : Ed) : List Ed → List Ed
  | [] => [e]
  | f :: t => if cmpE e f < 0 then e :: f :: t else if cmpE e f = 0 then f :: t else f :: putE e t
theorem mem_putE {e x : Ed} {l : List Ed} : x ∈ putE e l ↔ x = e ∨ x ∈ l := by
  induction l with
  | nil => simp [putE]
  | cons f t ih =>
    unfold putE
    split
    · simp
    · split
      · rename_i h
        rw [cmpE_zero] at h
        subst h
        simp
      · simp only [List.mem_cons, ih]
        constructor
        · rintro (h | h | h)
          · exact .inr (.inl h)
          · exact .inl h
          · exact .inr (.inr h)
        · rintro (h | h | h)
          · exact .inr (.inl h)
          · exact .inl h
          · exact .inr (.inr h)
theorem asc_putE {e : Ed} {l : List Ed} (h : Asc l) : Asc (putE e l) := by
  induction l with
  | nil => simp [putE, Asc]
  | cons f t ih =>
    obtain ⟨h1, h2⟩ := List.pairwise_cons.1 h
    unfold putE
    split
    · rename_i hc
      have hc := cmpE_neg.1 hc
      refine List.pairwise_cons.2 ⟨fun x hx => ?_, h⟩
      rcases List.mem_cons.1 hx with rfl | hx
      · exact hc
      · exact hc.trans (h1 x hx)
    · split
      · exact h
      · rename_i hc hz
        refine List.pairwise_cons.2 ⟨fun x hx => ?_, ih h2⟩
        rcases mem_putE.1 hx with rfl | hx
        · rcases LtE.tri x f with h3 | h3 | h3
          · exact absurd (cmpE_neg.2 h3) hc
          · exact absurd (cmpE_zero.2 h3) hz
          · exact h3
        · exact h1 x hx
theorem putE_len (e : Ed) (l : List Ed) : (putE e l).length ≤ l.length + 1 := by
  induction l with
  | nil => simp [putE]
  | cons f t ih =>
    unfold putE
    split
    · simp
    · split
      · simp
      · simp only [List.length_cons]; omega
/-- Many edges put in, one after the other. -/
def putAll (l es : List Ed) : List Ed := es.foldl (fun l e => putE e l) l
def canon (es : List Ed) : List Ed := putAll [] es
theorem putAll_snoc (l es : List Ed) (e : Ed) : putAll l (es ++ [e]) = putE e (putAll l es) := by simp [putAll]
theorem mem_putAll {x : Ed} {l es : List Ed} : x ∈ putAll l es ↔ x ∈ l ∨ x ∈ es := by
  induction es generalizing l with
  | nil => simp [putAll]
  | cons e t ih =>
    have : putAll l (e :: t) = putAll (putE e l) t := rfl
    rw [this, ih, mem_putE]
    simp only [List.mem_cons]
    constructor
    · rintro ((h | h) | h)
      · exact .inr (.inl h)
      · exact .inl h
      · exact .inr (.inr h)
    · rintro (h | h | h)
      · exact .inl (.inr h)
      · exact .inl (.inl h)
      · exact .inr h
theorem asc_putAll {l es : List Ed} (h : Asc l) : Asc (putAll l es) := by
  induction es generalizing l with
  | nil => exact h
  | cons e t ih => exact ih (asc_putE h)
theorem putAll_len (l es : List Ed) : (putAll l es).length ≤ l.length + es.length := by
  induction es generalizing l with
  | nil => simp [putAll]
  | cons e t ih =>
    have := ih (putE e l)
    have := putE_len e l
    have h : putAll l (e :: t) = putAll (putE e l) t := rfl
    rw [h]
    simp only [List.length_cons]
    omega
theorem mem_canon {x : Ed} {es : List Ed} : x ∈ canon es ↔ x ∈ es := by simp [canon, mem_putAll]
theorem asc_canon (es : List Ed) : Asc (canon es) := asc_putAll List.Pairwise.nil
theorem canon_len (es : List Ed) : (canon es).length ≤ es.length := by have := putAll_len [] es; simpa [canon] using this
theorem canon_eq {es fs : List Ed} (h : Asc fs) (hm : ∀ e, e ∈ fs ↔ e ∈ es) : fs = canon es := asc_ext h (asc_canon es) fun e => (hm e).trans mem_canon.symm
theorem putAll_canon {l es : List Ed} (h : Asc l) : putAll l es = canon (l ++ es) := canon_eq (asc_putAll h) fun e => by rw [mem_putAll, List.mem_append]
/-- The numbers of a list of edges. -/
def edI (es : List Ed) : List Int := (es.map fun e => [e.a, e.l, e.b]).flatten
theorem edI_len (es : List Ed) : (edI es).length = es.length * 3 := by
  induction es with
  | nil => rfl
  | cons m t ih => simp [edI] at ih ⊢; omega
theorem edI_append (a b : List Ed) : edI (a ++ b) = edI a ++ edI b := by simp [edI]
theorem edI_cons (e : Ed) (t : List Ed) : edI (e :: t) = e.a :: e.l :: e.b :: edI t := by simp [edI]
theorem edI_one (e : Ed) : edI [e] = [e.a, e.l, e.b] := by simp [edI]
theorem edI_at {es : List Ed} {k : Nat} {e : Ed} (h : es[k]? = some e) : (edI es)[k * 3]? = some e.a ∧ (edI es)[k * 3 + 1]? = some e.l ∧ (edI es)[k * 3 + 2]? = some e.b := by
  induction es generalizing k with
  | nil => simp at h
  | cons m t ih =>
    rw [edI_cons]
    cases k with
    | zero => simp at h; subst h; simp
    | succ k =>
      have := ih (by simpa using h)
      rw [show (k + 1) * 3 = k * 3 + 1 + 1 + 1 from by omega]
      simpa using this
theorem edI_take (es : List Ed) (k : Nat) : edI (es.take k) = (edI es).take (k * 3) := by
  induction es generalizing k with
  | nil => simp [edI]
  | cons m t ih =>
    cases k with
    | zero => simp [edI]
    | succ k =>
      rw [List.take_succ_cons, edI_cons, edI_cons, ih, show (k + 1) * 3 = k * 3 + 1 + 1 + 1 from by omega]
      simp
theorem edI_drop (es : List Ed) (k : Nat) : edI (es.drop k) = (edI es).drop (k * 3) := by
  induction es generalizing k with
  | nil => simp [edI]
  | cons m t ih =>
    cases k with
    | zero => simp
    | succ k =>
      rw [List.drop_succ_cons, edI_cons, ih, show (k + 1) * 3 = k * 3 + 1 + 1 + 1 from by omega]
      simp
end Go.Proofs.YtimmnnncgnnkgaaGreat

/- Plain: graphs, their steps, folds, parts. -/
namespace Go.Proofs.YtimmnnncgnnkgaaGreat
set_option linter.unusedVariables false
set_option linter.unusedSimpArgs false

/-- The edge lies in a graph of rank r and size s. -/
def InG (r s : Int) (e : Ed) : Prop := 0 ≤ e.a ∧ e.a < s ∧ 0 ≤ e.b ∧ e.b < s ∧ 1 ≤ e.l ∧ e.l ≤ r
/-- A graph. -/
structure IsGr (r s : Int) (es : List Ed) : Prop where
  rank : 1 ≤ r ∧ r ≤ 3
  size : 1 ≤ s ∧ s ≤ 40
  len : es.length ≤ 120
  all : ∀ e ∈ es, InG r s e
  asc : Asc es

/-- The ends of the edges that leave v by a letter. -/
def endOf (v x : Int) (e : Ed) : Option Int := if 0 < x ∧ e.l = x ∧ e.a = v then some e.b else if x < 0 ∧ e.l = -x ∧ e.b = v then some e.a else none
def ends (es : List Ed) (v x : Int) : List Int := es.filterMap (endOf v x)
theorem mem_ends {es : List Ed} {v x u : Int} : u ∈ ends es v x ↔ ∃ e ∈ es, endOf v x e = some u := by simp [ends]
theorem ends_len (es : List Ed) (v x : Int) : (ends es v x).length ≤ es.length := List.length_filterMap_le _ _
theorem endOf_some {v x u : Int} {e : Ed} : endOf v x e = some u ↔ (0 < x ∧ e.l = x ∧ e.a = v ∧ e.b = u) ∨ (x < 0 ∧ e.l = -x ∧ e.b = v ∧ e.a = u) := by
  unfold endOf
  split
  · rename_i h
    simp
    omega
  · split
    · rename_i h h'
      simp
      omega
    · simp
      omega
/-- The least of a list, -1 of none. -/
def leastI : List Int → Int
  | [] => -1
  | x :: t => t.foldl min x
theorem foldl_min_le (t : List Int) (x : Int) : t.foldl min x ≤ x ∧ (∀ y ∈ t, t.foldl min x ≤ y) ∧ (t.foldl min x = x ∨ t.foldl min x ∈ t) := by
  induction t generalizing x with
  | nil => simp
  | cons y t ih =>
    obtain ⟨h1, h2, h3⟩ := ih (min x y)
    simp only [List.foldl_cons]
    refine ⟨by omega, ?_, ?_⟩
    · intro z hz
      rcases List.mem_cons.1 hz with rfl | hz
      · omega
      · exact h2 z hz
    · rcases h3 with h3 | h3
      · rcases Int.le_total x y with h | h
        · left; rw [h3]; omega
        · right; rw [h3, show min x y = y by omega]; simp
      · right; exact List.mem_cons_of_mem _ h3
theorem leastI_mem {l : List Int} (h : l ≠ []) : leastI l ∈ l ∧ ∀ y ∈ l, leastI l ≤ y := by
  cases l with
  | nil => exact absurd rfl h
  | cons x t =>
    obtain ⟨h1, h2, h3⟩ := foldl_min_le t x
    refine ⟨?_, ?_⟩
    · rcases h3 with h3 | h3
      · show t.foldl min x ∈ _; rw [h3]; simp
      · exact List.mem_cons_of_mem _ h3
    · intro y hy
      rcases List.mem_cons.1 hy with rfl | hy
      · exact h1
      · exact h2 y hy
theorem leastI_eq {l : List Int} {x : Int} (h : x ∈ l) (hm : ∀ y ∈ l, x ≤ y) : leastI l = x := by
  have h0 : l ≠ [] := by intro h0; subst h0; simp at h
  obtain ⟨h1, h2⟩ := leastI_mem h0
  have := h2 x h
  have := hm _ h1
  omega
/-- The vertex to which a letter leads, or -1. -/
def nextV (es : List Ed) (v x : Int) : Int := leastI (ends es v x)
theorem nextV_none {es : List Ed} {v x : Int} (h : ends es v x = []) : nextV es v x = -1 := by rw [nextV, h]; rfl
theorem nextV_cases {r s : Int} {es : List Ed} (hg : ∀ e ∈ es, InG r s e) (v x : Int) : nextV es v x = -1 ∨ (0 ≤ nextV es v x ∧ nextV es v x < s) := by
  by_cases h0 : ends es v x = []
  · exact .inl (nextV_none h0)
  · right
    obtain ⟨e, he, h⟩ := mem_ends.1 (leastI_mem h0).1
    have := hg e he
    unfold InG at this
    have h' : endOf v x e = some (nextV es v x) := h
    rw [endOf_some] at h'
    omega
/-- Two edges that must not lie in a folded graph together. -/
def Clash (e f : Ed) : Prop := e.l = f.l ∧ (e.a = f.a ∨ e.b = f.b)
instance (e f : Ed) : Decidable (Clash e f) := by unfold Clash; infer_instance
theorem Clash.symm {e f : Ed} (h : Clash e f) : Clash f e := by unfold Clash at *; omega
structure IsFol (r s : Int) (es : List Ed) : Prop where
  gr : IsGr r s es
  fol : es.Pairwise fun e f => ¬ Clash e f
/-- The folds of two edges, and of a list, in order. -/
def foldsAB (e f : Ed) : List (Int × Int) :=
  if e.l = f.l then (if e.a = f.a then [(min e.b f.b, max e.b f.b)] else []) ++ (if e.b = f.b then [(min e.a f.a, max e.a f.a)] else []) else []
def folds : List Ed → List (Int × Int)
  | [] => []
  | e :: t => t.flatMap (foldsAB e) ++ folds t
theorem mem_foldsAB {r s : Int} {e f : Ed} {p : Int × Int} (he : InG r s e) (hf : InG r s f) (hne : e ≠ f) (h : p ∈ foldsAB e f) : 0 ≤ p.1 ∧ p.1 < p.2 ∧ p.2 < s := by
  unfold foldsAB at h
  unfold InG at he hf
  have hd : ¬ (e.a = f.a ∧ e.l = f.l ∧ e.b = f.b) := fun ⟨h1, h2, h3⟩ => hne (Ed.ext' h1 h2 h3)
  split at h
  · rcases List.mem_append.1 h with h | h
    · split at h
      · simp at h; subst h; simp only []; omega
      · simp at h
    · split at h
      · simp at h; subst h; simp only []; omega
      · simp at h
  · simp at h
theorem mem_folds {r s : Int} {es : List Ed} {p : Int × Int} (hg : ∀ e ∈ es, InG r s e) (ha : Asc es) (h : p ∈ folds es) : 0 ≤ p.1 ∧ p.1 < p.2 ∧ p.2 < s := by
  induction es with
  | nil => simp [folds] at h
  | cons e t ih =>
    obtain ⟨h1, h2⟩ := List.pairwise_cons.1 ha
    rcases List.mem_append.1 h with h | h
    · obtain ⟨f, hf, h⟩ := List.mem_flatMap.1 h
      exact mem_foldsAB (hg e (by simp)) (hg f (by simp [hf])) (h1 f hf).ne h
    · exact ih (fun f hf => hg f (by simp [hf])) h2 h
/-- A vertex's place behind a fold. -/
def foldV (p : Int × Int) (v : Int) : Int := if v = p.2 then p.1 else if p.2 < v then v - 1 else v
def foldE (p : Int × Int) (e : Ed) : Ed := ⟨foldV p e.a, e.l, foldV p e.b⟩
def mergeE (p : Int × Int) (es : List Ed) : List Ed := canon (es.map (foldE p))
theorem mergeE_gr {r s : Int} {es : List Ed} {p : Int × Int} (hg : IsGr r s es) (h0 : 0 ≤ p.1) (h1 : p.1 < p.2) (h2 : p.2 < s) : IsGr r (s - 1) (mergeE p es) := by
  refine ⟨hg.rank, ?_, ?_, ?_, asc_canon _⟩
  · have := hg.size; omega
  · have := canon_len (es.map (foldE p))
    have := hg.len
    simp at *
    unfold mergeE
    omega
  · intro e he
    obtain ⟨f, hf, rfl⟩ := List.mem_map.1 (mem_canon.1 he)
    have h3 := hg.all f hf
    have hv : ∀ v : Int, 0 ≤ v → v < s → 0 ≤ foldV p v ∧ foldV p v < s - 1 := by
      intro v hv0 hv1
      unfold foldV
      split
      · omega
      · split <;> omega
    unfold InG at *
    have := hv f.a (by omega) (by omega)
    have := hv f.b (by omega) (by omega)
    simp only [foldE]
    omega
/-- All folds, at most n. -/
def foldA : Nat → Int × List Ed → Int × List Ed
  | 0, g => g
  | n + 1, g => match folds g.2 with
    | [] => g
    | p :: _ => foldA n (g.1 - 1, mergeE p g.2)
theorem foldA_nil {n : Nat} {g : Int × List Ed} (h : folds g.2 = []) : foldA n g = g := by
  cases n with
  | zero => rfl
  | succ n => simp [foldA, h]
theorem foldA_cons {n : Nat} {g : Int × List Ed} {p : Int × Int} {t : List (Int × Int)} (h : folds g.2 = p :: t) : foldA (n + 1) g = foldA n (g.1 - 1, mergeE p g.2) := by simp [foldA, h]
theorem foldA_gr {r : Int} : ∀ (n : Nat) {g : Int × List Ed}, IsGr r g.1 g.2 → IsGr r (foldA n g).1 (foldA n g).2
  | 0, g, h => h
  | n + 1, g, h => by
    cases hf : folds g.2 with
    | nil => rw [foldA_nil hf]; exact h
    | cons p t =>
      rw [foldA_cons hf]
      obtain ⟨h0, h1, h2⟩ := mem_folds h.all h.asc (p := p) (by rw [hf]; simp)
      exact foldA_gr n (mergeE_gr h h0 h1 h2)
/-- The place of a vertex in an order, or -1. -/
def idxI (order : List Int) (v : Int) : Int := if v ∈ order then (order.idxOf v : Int) else -1
theorem idxI_neg {order : List Int} {v : Int} (h : v ∉ order) : idxI order v = -1 := by simp [idxI, h]
theorem idxI_lt {order : List Int} {v : Int} (h : 0 ≤ idxI order v) : idxI order v < order.length := by
  unfold idxI at *
  split
  · rename_i hm
    have := List.idxOf_lt_length_iff.2 hm
    omega
  · rename_i hm
    rw [if_neg hm] at h
    omega
/-- The graph of some vertices in their order. -/
def partOf (order : List Int) (e : Ed) : Option Ed := if 0 ≤ idxI order e.a ∧ 0 ≤ idxI order e.b then some ⟨idxI order e.a, e.l, idxI order e.b⟩ else none
def partE (order : List Int) (es : List Ed) : List Ed := canon (es.filterMap (partOf order))
theorem partE_gr {r s : Int} {es : List Ed} {order : List Int} (hg : IsGr r s es) (h0 : order ≠ []) (h40 : order.length ≤ 40) : IsGr r order.length (partE order es) := by
  have hpos : 0 < order.length := List.length_pos_iff.2 h0
  refine ⟨hg.rank, by omega, ?_, ?_, asc_canon _⟩
  · have h1 := canon_len (es.filterMap (partOf order))
    have h2 := List.length_filterMap_le (partOf order) es
    have h3 := hg.len
    unfold partE
    omega
  · intro e he
    obtain ⟨f, hf, h⟩ := List.mem_filterMap.1 (mem_canon.1 he)
    have h3 := hg.all f hf
    unfold partOf at h
    split at h
    · rename_i hc
      injection h with h
      subst h
      have := idxI_lt hc.1
      have := idxI_lt hc.2
      unfold InG at *
      simp only []
      omega
    · cases h
end Go.Proofs.YtimmnnncgnnkgaaGreat

/- Plain: what is joined, leaves, the trimmed graph, the search by breadth, the core. -/
namespace Go.Proofs.YtimmnnncgnnkgaaGreat
set_option linter.unusedVariables false
set_option linter.unusedSimpArgs false

/-- u is joined with v. -/
inductive Conn (es : List Ed) (v : Int) : Int → Prop
  | here : Conn es v v
  | out {e : Ed} : e ∈ es → Conn es v e.a → Conn es v e.b
  | inn {e : Ed} : e ∈ es → Conn es v e.b → Conn es v e.a
/-- A set that holds v and is closed under the edges, and only joined vertices: the joined ones. -/
theorem conn_iff {es : List Ed} {v : Int} {P : Int → Prop} (h0 : P v) (hc : ∀ e ∈ es, P e.a ↔ P e.b) (hs : ∀ u, P u → Conn es v u) (u : Int) : P u ↔ Conn es v u := by
  refine ⟨hs u, fun h => ?_⟩
  induction h with
  | here => exact h0
  | out he _ ih => exact (hc _ he).1 ih
  | inn he _ ih => exact (hc _ he).2 ih
/-- How many ends of edges are v. -/
def degE (v : Int) (e : Ed) : Nat := (if e.a = v then 1 else 0) + (if e.b = v then 1 else 0)
def deg (es : List Ed) (v : Int) : Nat := (es.map (degE v)).sum
theorem deg_take_succ {es : List Ed} {k : Nat} {e : Ed} (h : es[k]? = some e) (v : Int) : deg (es.take (k + 1)) v = deg (es.take k) v + degE v e := by
  obtain ⟨hk, h'⟩ := List.getElem?_eq_some_iff.1 h
  rw [List.take_succ_eq_append_getElem hk, h']
  simp [deg]
theorem deg_le (es : List Ed) (v : Int) : deg es v ≤ 2 * es.length := by
  induction es with
  | nil => simp [deg]
  | cons e t ih =>
    have h : deg (e :: t) v = degE v e + deg t v := by simp [deg]
    have : degE v e ≤ 2 := by unfold degE; split <;> split <;> omega
    simp only [List.length_cons]
    omega
def Bad (es : List Ed) (v : Int) : Prop := deg es v < 2 ∨ ¬ Conn es 0 v
open Classical in
/-- The first vertex other than the base that no loop needs. -/
noncomputable def leaf (s : Int) (es : List Ed) : Option Nat := ((List.range s.toNat).drop 1).find? fun v => decide (Bad es (v : Int))
theorem find_drop_range {p : Nat → Bool} (n k : Nat) (hk : k < n) (hp : p k = true) : ∀ m, m ≤ k → (∀ u, m ≤ u → u < k → p u = false) → ((List.range n).drop m).find? p = some k := by
  intro m hm
  obtain ⟨d, hd⟩ : ∃ d, k = m + d := ⟨k - m, by omega⟩
  induction d generalizing m with
  | zero =>
    intro _
    obtain rfl : k = m := by omega
    rw [List.drop_eq_getElem_cons (by simpa using hk)]
    simp [hp]
  | succ d ih =>
    intro hu
    rw [List.drop_eq_getElem_cons (by simp; omega)]
    have h1 := hu m (Nat.le_refl _) (by omega)
    simp only [List.getElem_range, List.find?_cons, h1]
    exact ih (m + 1) (by omega) (by omega) (fun u h2 h3 => hu u (by omega) h3)
theorem leaf_some {s : Int} {es : List Ed} {v : Nat} (h1 : 1 ≤ v) (h2 : (v : Int) < s) (hb : Bad es v) (hu : ∀ u : Nat, 1 ≤ u → u < v → ¬ Bad es u) : leaf s es = some v :=
  find_drop_range _ v (by omega) (by simpa using hb) 1 h1 fun u h h' => by simpa using hu u h h'
theorem leaf_none {s : Int} {es : List Ed} (hu : ∀ u : Nat, 1 ≤ u → (u : Int) < s → ¬ Bad es u) : leaf s es = none := by
  refine List.find?_eq_none.2 fun u hm => ?_
  have h1 : u < s.toNat := List.mem_range.1 (List.mem_of_mem_drop hm)
  have h2 : 1 ≤ u := by
    obtain ⟨k, hk, h⟩ := List.mem_iff_getElem.1 hm
    simp at h
    omega
  simpa using hu u h2 (by omega)
theorem leaf_spec {s : Int} {es : List Ed} {v : Nat} (h : leaf s es = some v) : 1 ≤ v ∧ (v : Int) < s ∧ Bad es v := by
  have hm := List.mem_of_find?_eq_some h
  have h1 : v < s.toNat := List.mem_range.1 (List.mem_of_mem_drop hm)
  have h3 : Bad es v := by simpa using List.find?_some h
  refine ⟨?_, by omega, h3⟩
  obtain ⟨k, hk, h⟩ := List.mem_iff_getElem.1 hm
  simp at h
  omega
/-- The numbers below k other than v. -/
def but (v k : Nat) : List Int := ((List.range k).filter (· != v)).map Int.ofNat
theorem but_succ (v k : Nat) : but v (k + 1) = if k = v then but v k else but v k ++ [(k : Int)] := by
  unfold but
  rw [List.range_succ, List.filter_append]
  by_cases h : k = v
  · simp [h]
  · simp [h]
theorem but_le (v : Nat) : ∀ k, k ≤ v → (but v k).length = k
  | 0, _ => by simp [but]
  | k + 1, h => by rw [but_succ, if_neg (by omega)]; simp [but_le v k (by omega)]
theorem but_len (v : Nat) {k : Nat} (h : v < k) : (but v k).length = k - 1 := by
  induction k with
  | zero => omega
  | succ k ih =>
    rw [but_succ]
    by_cases hk : k = v
    · rw [if_pos hk, hk, but_le v v (Nat.le_refl _)]; omega
    · rw [if_neg hk]; simp; rw [ih (by omega)]; omega
theorem but_nodup (v k : Nat) : (but v k).Nodup := by
  unfold but
  refine List.Pairwise.map _ (fun a b h => ?_) (List.Pairwise.filter _ List.nodup_range)
  intro he
  exact h (by injection he)
theorem mem_but {v k : Nat} {x : Int} : x ∈ but v k ↔ ∃ u : Nat, u < k ∧ u ≠ v ∧ x = (u : Int) := by
  unfold but
  simp only [List.mem_map, List.mem_filter, List.mem_range, bne_iff_ne]
  constructor
  · rintro ⟨u, ⟨h1, h2⟩, rfl⟩; exact ⟨u, h1, h2, rfl⟩
  · rintro ⟨u, h1, h2, rfl⟩; exact ⟨u, ⟨h1, h2⟩, rfl⟩
theorem but_range {v k : Nat} {x : Int} (h : x ∈ but v k) : 0 ≤ x ∧ x < k := by
  obtain ⟨u, h1, h2, rfl⟩ := mem_but.1 h
  omega
/-- One vertex is cut off. -/
def cutV (g : Int × List Ed) (v : Nat) : Int × List Ed := (((but v g.1.toNat).length : Int), partE (but v g.1.toNat) g.2)
theorem cutV_size {g : Int × List Ed} {v : Nat} (h : (v : Int) < g.1) : (cutV g v).1 = g.1 - 1 := by
  show ((but v g.1.toNat).length : Int) = _
  rw [but_len v (by omega)]
  omega
theorem cutV_gr {r : Int} {g : Int × List Ed} {v : Nat} (hg : IsGr r g.1 g.2) (h1 : 1 ≤ v) (h2 : (v : Int) < g.1) : IsGr r (cutV g v).1 (cutV g v).2 := by
  have hl := but_len v (show v < g.1.toNat by omega)
  have := hg.size
  refine partE_gr hg ?_ (by omega)
  intro h0
  rw [h0] at hl
  simp at hl
  omega
noncomputable def trimA : Nat → Int × List Ed → Int × List Ed
  | 0, g => g
  | n + 1, g => match leaf g.1 g.2 with
    | none => g
    | some v => trimA n (cutV g v)
theorem trimA_none {n : Nat} {g : Int × List Ed} (h : leaf g.1 g.2 = none) : trimA n g = g := by
  cases n with
  | zero => rfl
  | succ n => simp [trimA, h]
theorem trimA_some {n : Nat} {g : Int × List Ed} {v : Nat} (h : leaf g.1 g.2 = some v) : trimA (n + 1) g = trimA n (cutV g v) := by simp [trimA, h]
theorem trimA_gr {r : Int} : ∀ (n : Nat) {g : Int × List Ed}, IsGr r g.1 g.2 → IsGr r (trimA n g).1 (trimA n g).2
  | 0, g, h => h
  | n + 1, g, h => by
    cases hf : leaf g.1 g.2 with
    | none => rw [trimA_none hf]; exact h
    | some v =>
      rw [trimA_some hf]
      obtain ⟨h1, h2, _⟩ := leaf_spec hf
      exact trimA_gr n (cutV_gr h h1 h2)
theorem trimA_size : ∀ (n : Nat) {g : Int × List Ed}, (trimA n g).1 ≤ g.1
  | 0, g => Int.le_refl _
  | n + 1, g => by
    cases hf : leaf g.1 g.2 with
    | none => rw [trimA_none hf]; exact Int.le_refl _
    | some v =>
      rw [trimA_some hf]
      obtain ⟨h1, h2, _⟩ := leaf_spec hf
      have := trimA_size n (g := cutV g v)
      rw [cutV_size h2] at this
      omega
theorem trimA_same {n : Nat} {g : Int × List Ed} (hn : 0 < n) : (trimA n g).1 = g.1 ↔ leaf g.1 g.2 = none := by
  constructor
  · intro h
    cases hf : leaf g.1 g.2 with
    | none => rfl
    | some v =>
      obtain ⟨m, rfl⟩ : ∃ m, n = m + 1 := ⟨n - 1, by omega⟩
      rw [trimA_some hf] at h
      obtain ⟨h1, h2, _⟩ := leaf_spec hf
      have := trimA_size m (g := cutV g v)
      rw [cutV_size h2] at this
      omega
  · intro h
    rw [trimA_none h]

/-- The letters of a rank. -/
def lets : Nat → List Int
  | 0 => []
  | n + 1 => lets n ++ [((n : Int) + 1), -((n : Int) + 1)]
theorem lets_len (n : Nat) : (lets n).length = 2 * n := by
  induction n with
  | zero => rfl
  | succ n ih => simp [lets, ih]; omega
theorem mem_lets {n : Nat} {x : Int} : x ∈ lets n ↔ x ≠ 0 ∧ -(n : Int) ≤ x ∧ x ≤ n := by
  induction n with
  | zero => simp [lets]; omega
  | succ n ih =>
    simp only [lets, List.mem_append, ih, List.mem_cons, List.not_mem_nil, or_false]
    omega
abbrev BS := List (Int × List Int)
/-- One letter of the search. -/
def bfsStep (es : List Ed) (u : Int) (w : List Int) (st : BS) (x : Int) : BS :=
  if nextV es u x < 0 ∨ nextV es u x ∈ st.map Prod.fst then st else st ++ [(nextV es u x, w ++ [x])]
def bfsRow (es : List Ed) (L : List Int) (p : Int × List Int) (st : BS) : BS := L.foldl (bfsStep es p.1 p.2) st
def bfsSt (es : List Ed) (L : List Int) (v : Int) : Nat → BS
  | 0 => [(v, [])]
  | i + 1 => match (bfsSt es L v i)[i]? with
    | none => bfsSt es L v i
    | some p => bfsRow es L p (bfsSt es L v i)
def bfs (es : List Ed) (L : List Int) (v : Int) : BS := bfsSt es L v 41
theorem bfsStep_pre (es : List Ed) (u : Int) (w : List Int) (st : BS) (x : Int) : st <+: bfsStep es u w st x := by
  unfold bfsStep
  split
  · exact List.prefix_refl _
  · exact List.prefix_append _ _
theorem bfsRow_pre (es : List Ed) (L : List Int) (p : Int × List Int) (st : BS) : st <+: bfsRow es L p st := by
  unfold bfsRow
  induction L generalizing st with
  | nil => exact List.prefix_refl _
  | cons x t ih => exact (bfsStep_pre es p.1 p.2 st x).trans (ih _)
theorem bfsSt_pre (es : List Ed) (L : List Int) (v : Int) (i : Nat) : bfsSt es L v i <+: bfsSt es L v (i + 1) := by
  show _ <+: (match (bfsSt es L v i)[i]? with | none => bfsSt es L v i | some p => bfsRow es L p (bfsSt es L v i))
  split
  · exact List.prefix_refl _
  · exact bfsRow_pre es L _ _
theorem bfsSt_pre' (es : List Ed) (L : List Int) (v : Int) (i d : Nat) : bfsSt es L v i <+: bfsSt es L v (i + d) := by
  induction d with
  | zero => exact List.prefix_refl _
  | succ d ih => exact ih.trans (bfsSt_pre es L v (i + d))
theorem prefix_get {α : Type} {xs ys : List α} (h : xs <+: ys) {k : Nat} {a : α} (hk : xs[k]? = some a) : ys[k]? = some a := by
  obtain ⟨t, rfl⟩ := h
  rw [List.getElem?_append_left (List.getElem?_eq_some_iff.1 hk).1]
  exact hk
theorem bfsSt_stop {es : List Ed} {L : List Int} {v : Int} {i : Nat} (h : (bfsSt es L v i).length ≤ i) (d : Nat) : bfsSt es L v (i + d) = bfsSt es L v i := by
  induction d with
  | zero => rfl
  | succ d ih =>
    show (match (bfsSt es L v (i + d))[i + d]? with | none => bfsSt es L v (i + d) | some p => bfsRow es L p (bfsSt es L v (i + d))) = _
    rw [ih, List.getElem?_eq_none (by omega)]
/-- What holds of the search's state. -/
structure BfsOk (s : Int) (L : List Int) (st : BS) : Prop where
  nd : (st.map Prod.fst).Nodup
  rng : ∀ p ∈ st, 0 ≤ p.1 ∧ p.1 < s
  wl : ∀ (j : Nat) (p : Int × List Int), st[j]? = some p → p.2.length ≤ j
  wm : ∀ p ∈ st, ∀ x ∈ p.2, x ∈ L
theorem BfsOk.len {s : Int} {L : List Int} {st : BS} (h : BfsOk s L st) (hs : 0 ≤ s) : (st.length : Int) ≤ s := by
  have h1 : ∀ (L : Nat) (l : List Int), l.Nodup → (∀ v ∈ l, 0 ≤ v ∧ v < (L : Int)) → l.length ≤ L := by
    intro L
    induction L with
    | zero =>
      intro l _ h
      cases l with
      | nil => simp
      | cons x t => have := h x (by simp); omega
    | succ L ih =>
      intro l hn h
      have h2 := ih (l.erase (L : Int)) (hn.erase _) fun v hv => by
        have h3 := h v (List.mem_of_mem_erase hv)
        have h4 : v ≠ (L : Int) := ((List.Nodup.mem_erase_iff hn).1 hv).1
        omega
      have h5 := List.length_erase (a := (L : Int)) (l := l)
      split at h5 <;> omega
  have := h1 s.toNat (st.map Prod.fst) h.nd (fun v hv => by
    obtain ⟨p, hp, rfl⟩ := List.mem_map.1 hv
    have := h.rng p hp
    omega)
  simp at this
  omega
theorem BfsOk.start {s v : Int} (L : List Int) (h0 : 0 ≤ v) (h1 : v < s) : BfsOk s L [(v, [])] := by
  refine ⟨by simp, ?_, ?_, ?_⟩
  · intro p hp; simp at hp; subst hp; exact ⟨h0, h1⟩
  · intro j p hp
    cases j with
    | zero => simp at hp; subst hp; simp
    | succ j => simp at hp
  · intro p hp x hx; simp at hp; subst hp; simp at hx
theorem BfsOk.step {r s : Int} {es : List Ed} {L : List Int} {st : BS} (hg : ∀ e ∈ es, InG r s e) (h : BfsOk s L st) {i : Nat} {p : Int × List Int} (hp : st[i]? = some p) {x : Int} (hx : x ∈ L) : BfsOk s L (bfsStep es p.1 p.2 st x) := by
  unfold bfsStep
  split
  · exact h
  · rename_i hc
    have hc1 : ¬ nextV es p.1 x < 0 := fun h => hc (.inl h)
    have hc2 : nextV es p.1 x ∉ st.map Prod.fst := fun h => hc (.inr h)
    have hr := nextV_cases hg p.1 x
    have hi := (List.getElem?_eq_some_iff.1 hp).1
    refine ⟨?_, ?_, ?_, ?_⟩
    · rw [List.map_append, List.nodup_append]
      refine ⟨h.nd, by simp, ?_⟩
      intro a ha b hb
      simp at hb
      subst hb
      intro e
      subst e
      exact hc2 ha
    · intro q hq
      rcases List.mem_append.1 hq with hq | hq
      · exact h.rng q hq
      · simp at hq; subst hq; simp only []; omega
    · intro j q hq
      rcases Nat.lt_or_ge j st.length with hj | hj
      · rw [List.getElem?_append_left hj] at hq; exact h.wl j q hq
      · rw [List.getElem?_append_right hj] at hq
        rcases Nat.eq_zero_or_pos (j - st.length) with h0 | h0
        · rw [h0] at hq
          simp at hq
          subst hq
          have := h.wl i p hp
          simp only [List.length_append, List.length_cons, List.length_nil]
          omega
        · rw [List.getElem?_eq_none (by simp; omega)] at hq; cases hq
    · intro q hq y hy
      rcases List.mem_append.1 hq with hq | hq
      · exact h.wm q hq y hy
      · simp at hq
        subst hq
        rcases List.mem_append.1 hy with hy | hy
        · exact h.wm p (List.mem_of_getElem? hp) y hy
        · simp at hy; subst hy; exact hx
theorem BfsOk.row {r s : Int} {es : List Ed} {L : List Int} (hg : ∀ e ∈ es, InG r s e) {i : Nat} {p : Int × List Int} : ∀ (K : List Int), (∀ x ∈ K, x ∈ L) → ∀ {st : BS}, BfsOk s L st → st[i]? = some p → BfsOk s L (bfsRow es K p st)
  | [], _, st, h, _ => h
  | x :: K, hK, st, h, hp => BfsOk.row hg K (fun y hy => hK y (by simp [hy])) (h.step hg hp (hK x (by simp))) (prefix_get (bfsStep_pre es p.1 p.2 st x) hp)
theorem bfsSt_ok {r s v : Int} {es : List Ed} {L : List Int} (hg : ∀ e ∈ es, InG r s e) (h0 : 0 ≤ v) (h1 : v < s) (i : Nat) : BfsOk s L (bfsSt es L v i) := by
  induction i with
  | zero => exact BfsOk.start L h0 h1
  | succ i ih =>
    show BfsOk s L (match (bfsSt es L v i)[i]? with | none => bfsSt es L v i | some p => bfsRow es L p (bfsSt es L v i))
    split
    · exact ih
    · rename_i p hp
      exact BfsOk.row hg L (fun x hx => hx) ih hp
theorem bfs_eq {r s v : Int} {es : List Ed} {L : List Int} (hg : ∀ e ∈ es, InG r s e) (h0 : 0 ≤ v) (h1 : v < s) (hs : s ≤ 40) {i : Nat} (h : (bfsSt es L v i).length = i) : bfs es L v = bfsSt es L v i := by
  have := (bfsSt_ok (L := L) hg h0 h1 i).len (by omega)
  have h2 := bfsSt_stop (show (bfsSt es L v i).length ≤ i by omega) (41 - i)
  rw [← h2, show i + (41 - i) = 41 by omega]
  rfl
theorem bfs_ok {r s v : Int} {es : List Ed} {L : List Int} (hg : ∀ e ∈ es, InG r s e) (h0 : 0 ≤ v) (h1 : v < s) : BfsOk s L (bfs es L v) := bfsSt_ok hg h0 h1 41
theorem bfs_ne (es : List Ed) (L : List Int) (v : Int) : bfs es L v ≠ [] := by
  intro h
  obtain ⟨t, ht⟩ := bfsSt_pre' es L v 0 41
  rw [show (0 : Nat) + 41 = 41 from rfl, show bfsSt es L v 41 = bfs es L v from rfl, h] at ht
  simp [bfsSt] at ht
/-- The order in which the search from the base finds the vertices. -/
def ordE (r : Int) (es : List Ed) (v : Int) : List Int := (bfs es (lets r.toNat) v).map Prod.fst
open Classical in
/-- The graph in the order of the search from the base. -/
noncomputable def canonG (r : Int) (g : Int × List Ed) : Int × List Ed := if IsFol r g.1 g.2 then (((ordE r g.2 0).length : Int), partE (ordE r g.2 0) g.2) else g
noncomputable def coreA (r : Int) (g : Int × List Ed) : Int × List Ed := canonG r (trimA 40 (foldA 40 g))
structure IsCor (r s : Int) (es : List Ed) : Prop where
  fol : IsFol r s es
  leaf : leaf s es = none
  canon : canonG r (s, es) = (s, es)
theorem ordE_len {r s v : Int} {es : List Ed} (hg : IsGr r s es) (h0 : 0 ≤ v) (h1 : v < s) : 0 < (ordE r es v).length ∧ ((ordE r es v).length : Int) ≤ s ∧ (ordE r es v).Nodup ∧ ∀ x ∈ ordE r es v, 0 ≤ x ∧ x < s := by
  have h := bfs_ok (L := lets r.toNat) hg.all h0 h1
  refine ⟨?_, ?_, h.nd, ?_⟩
  · unfold ordE
    rw [List.length_map]
    exact List.length_pos_iff.2 (bfs_ne _ _ _)
  · unfold ordE
    rw [List.length_map]
    exact h.len (by omega)
  · intro x hx
    obtain ⟨p, hp, rfl⟩ := List.mem_map.1 hx
    exact h.rng p hp
theorem canonG_gr {r : Int} {g : Int × List Ed} (hg : IsGr r g.1 g.2) : IsGr r (canonG r g).1 (canonG r g).2 := by
  unfold canonG
  split
  · have hs := hg.size
    have h := ordE_len hg (v := 0) (Int.le_refl _) (by omega)
    refine partE_gr hg ?_ (by omega)
    intro h0
    rw [h0] at h
    simp at h
  · exact hg
theorem coreA_gr {r : Int} {g : Int × List Ed} (hg : IsGr r g.1 g.2) : IsGr r (coreA r g).1 (coreA r g).2 := canonG_gr (trimA_gr 40 (foldA_gr 40 hg))
theorem IsCor.gr {r s : Int} {es : List Ed} (h : IsCor r s es) : IsGr r s es := h.fol.gr
end Go.Proofs.YtimmnnncgnnkgaaGreat

/- Plain lemmas on lists of ints: permutations. -/
namespace Go.Proofs.YtimmnnncgnnkgaaGreat
set_option linter.unusedVariables false
set_option linter.unusedSimpArgs false

/-- A permutation of at most 40 places. -/
def IsPerm (p : List Int) : Prop := p.length ≤ 40 ∧ (∀ x ∈ p, 0 ≤ x ∧ x < p.length) ∧ p.Nodup

theorem nodup_snoc {α : Type} {l : List α} {x : α} : (l ++ [x]).Nodup ↔ l.Nodup ∧ x ∉ l := by
  rw [List.nodup_append]
  simp
  intro _
  constructor
  · intro h hx
    exact h x hx rfl
  · intro h a ha e
    subst e
    exact h ha

end Go.Proofs.YtimmnnncgnnkgaaGreat

/- Words and lemmas on memory for all walks of this seat: a slice that reads as a list of cells, frames by sets of blocks, append and make on rows of the call's own. No condition beyond those typed in each lemma. -/
namespace Go.Proofs.YtimmnnncgnnkgaaGreat
set_option linter.unusedVariables false
set_option linter.unusedSimpArgs false
open Go.RowKit

/-- A list of ints as cells. -/
def ints (xs : List Int) : List Value := xs.map (Value.int .i64)
theorem ints_len (xs : List Int) : (ints xs).length = xs.length := by simp [ints]
theorem ints_append (xs ys : List Int) : ints (xs ++ ys) = ints xs ++ ints ys := by simp [ints]
theorem ints_get (xs : List Int) (k : Nat) : (ints xs)[k]? = (xs[k]?).map (Value.int .i64) := by simp [ints]

/-- The address A leads to the cells cs, all below block B (nothing is said where cs is empty). -/
def Rs (w : World) (B : Nat) (A : Option Addr) (cs : List Value) : Prop :=
  cs ≠ [] → ∃ b off, A = some ⟨b, off, none⟩ ∧ b < B ∧ ∀ j u, cs[j]? = some u → w.cell? ⟨b, off + j, none⟩ = some u

section
variable {w w' w0 : World} {B B' : Nat} {A : Option Addr} {cs : List Value}
theorem Rs.nil : Rs w B A [] := fun h => absurd rfl h
theorem Rs.keep (h : Rs w B A cs) (hk : ∀ p : Addr, p.block < B → w'.cell? p = w.cell? p) : Rs w' B A cs := fun hn => by
  obtain ⟨b, off, e, hb, hc⟩ := h hn
  exact ⟨b, off, e, hb, fun j u hu => (hk _ hb).trans (hc j u hu)⟩
theorem Rs.more (h : Rs w B A cs) (hB : B ≤ B') : Rs w B' A cs := fun hn => by
  obtain ⟨b, off, e, hb, hc⟩ := h hn
  exact ⟨b, off, e, by omega, hc⟩
theorem Rs.below (h : Rs w B A cs) (hb : Below B w w') : Rs w' B A cs := h.keep fun _ hp => hb.cell hp
theorem Rs.drew (h : Rs w B A cs) : Rs w.drew B A cs := h
theorem Rs.drewN (h : Rs w B A cs) (k : Nat) : Rs (w.drewN k) B A cs := h
theorem Rs.alloc (h : Rs w B A cs) (hB : B ≤ w.heap.size) (o : Obj) : Rs (w.alloc o) B A cs := h.keep fun p hp => World.cell?_alloc_lt w o p (by omega)
theorem Rs.setCell (h : Rs w B A cs) {p : Addr} (hB : B ≤ p.block) (u : Value) : Rs (w.setCell p u) B A cs :=
  h.keep fun q hq => World.cell?_setCell_other w p q u (fun e => by subst e; omega)
theorem Rs.grown (h : Rs w B A cs) {row : Option Nat} (hg : w.grownBy w' row) (hB : B ≤ w.heap.size) (hr : ∀ g, row = some g → B ≤ g) : Rs w' B A cs :=
  h.keep fun p hp => World.cell?_of_block (hg.block p.block (by omega) (fun e => by have := hr _ e.symm; omega))
theorem Rs.of_own {base : Nat} {e : TypeId} {size n c : Nat} (h : w.ownsRow base e size (.slice A n c) n cs) : Rs w w.heap.size A cs := fun hn => by
  rcases h.2 with ⟨hv, h0⟩ | ⟨g, cap, cur, hv, hg, hh, hnc, hcm, hcs, htake⟩
  · subst h0
    exact absurd (List.eq_nil_of_length_eq_zero (by simpa using h.1)) hn
  · injection hv with hA _ hc
    subst hA
    subst hc
    refine ⟨g, 0, rfl, (Array.getElem?_eq_some_iff.1 hh).1, fun j u hu => ?_⟩
    rw [Nat.zero_add]
    have hjl := (List.getElem?_eq_some_iff.1 hu).1
    rw [h.cellAt j (by have := h.1; omega)]
    exact hu
/-- The cell at place j. -/
theorem Rs.at (h : Rs w B A cs) {j : Nat} (hj : j < cs.length) : ∃ b off u, A = some ⟨b, off, none⟩ ∧ b < B ∧ cs[j]? = some u ∧ w.cell? ⟨b, off + j, none⟩ = some u := by
  obtain ⟨b, off, e, hb, hc⟩ := h (by intro h0; subst h0; simp at hj)
  exact ⟨b, off, cs[j], e, hb, List.getElem?_eq_getElem hj, hc j _ (List.getElem?_eq_getElem hj)⟩
/-- A cut x[k:], whatever its end. -/
theorem Rs.drop (h : Rs w B A cs) {k n cap : Nat} (size : Nat) (hn : cs.length = n * size) (hc : n ≤ cap) :
    Rs w B (if cap = k then A else A.map (·.add (k * size))) (cs.drop (k * size)) := by
  intro hne
  have hlt : k * size < cs.length := by
    rcases Nat.lt_or_ge (k * size) cs.length with h1 | h1
    · exact h1
    · exact absurd (List.drop_eq_nil_of_le h1) hne
  obtain ⟨b, off, rfl, hb, hcell⟩ := h (by intro h0; subst h0; simp at hlt)
  have hk : ¬ cap = k := by
    intro e
    subst e
    rw [hn] at hlt
    exact absurd (Nat.lt_of_mul_lt_mul_right hlt) (by omega)
  rw [if_neg hk]
  refine ⟨b, off + k * size, ?_, hb, fun j u hu => ?_⟩
  · simp [Addr.add]
  · rw [Nat.add_assoc]
    exact hcell _ u (by rw [← hu, List.getElem?_drop])
theorem Rs.take (h : Rs w B A cs) (k : Nat) : Rs w B A (cs.take k) := fun hne => by
  obtain ⟨b, off, e, hb, hc⟩ := h (by intro h0; subst h0; simp at hne)
  refine ⟨b, off, e, hb, fun j u hu => hc j u ?_⟩
  rw [List.getElem?_take] at hu
  split at hu
  · exact hu
  · cases hu
end

/-! ### Frames -/

theorem below_of_grown {w w' : World} {row : Option Nat} (hg : w.grownBy w' row) {B : Nat} (hB : B ≤ w.heap.size) (hr : ∀ g, row = some g → B ≤ g) : Below B w w' :=
  (Below.refl B w).grown hg hB hr
theorem below_none {w w' : World} (hg : w.grownBy w' none) : Below w.heap.size w w' := below_of_grown hg (Nat.le_refl _) (by intro g h; cases h)
theorem below_drewN {B : Nat} {a w : World} (h : Below B a w) (n : Nat) : Below B a (w.drewN n) := ⟨h.os, h.tape, h.output, h.size, h.block⟩
theorem grown_trans {a b c : World} {row : Option Nat} (h : a.grownBy b row) (k : b.grownBy c row) : a.grownBy c row :=
  ⟨k.os.trans h.os, k.tape.trans h.tape, k.output.trans h.output, Nat.le_trans h.size k.size,
    fun i hi hn => (k.block i (Nat.lt_of_lt_of_le hi h.size) hn).trans (h.block i hi hn)⟩
theorem grown_of_below {a w : World} (h : Below a.heap.size a w) (row : Option Nat) : a.grownBy w row := ⟨h.os, h.tape, h.output, h.size, fun i hi _ => h.block i hi⟩
section
variable {w w' : World} {base : Nat} {e : TypeId} {size : Nat} {v : Value} {n : Nat} {xs : List Value}
theorem owns_base {base' : Nat} (h : w.ownsRow base e size v n xs) (hb : base' ≤ base) : w.ownsRow base' e size v n xs := by
  refine ⟨h.1, ?_⟩
  rcases h.2 with hn | ⟨g, cap, cur, rfl, hbg, rest⟩
  · exact .inl hn
  · exact .inr ⟨g, cap, cur, rfl, by omega, rest⟩
/-- The shape of an owned value. -/
theorem owns_shape (h : w.ownsRow base e size v n xs) : ∃ A c, v = .slice A n c ∧ n ≤ c ∧ c ≤ maxLen := by
  rcases h.2 with ⟨rfl, rfl⟩ | ⟨g, cap, cur, rfl, _, _, hnc, hcm, _⟩
  · exact ⟨none, 0, rfl, Nat.le_refl _, Nat.zero_le _⟩
  · exact ⟨_, cap, rfl, hnc, hcm⟩
end

theorem owns_empty (w : World) (e : TypeId) (size : Nat) : (w.alloc (.cells #[] e)).ownsRow w.heap.size e size (.slice (some ⟨w.heap.size, 0, none⟩) 0 0) 0 [] :=
  World.ownsRow_lit (size := size) w #[] 0 (Nat.le_refl _) (Nat.zero_le _) (by simp)

theorem owns_drewN {w : World} {base : Nat} {e : TypeId} {size : Nat} {v : Value} {n : Nat} {xs : List Value} (h : w.ownsRow base e size v n xs) (k : Nat) : (w.drewN k).ownsRow base e size v n xs := h

theorem dn (w : World) (a b : Nat) : (w.drewN a).drewN b = w.drewN (a + b) := World.drewN_drewN _ _ _
/-- A call hands back a new slice that reads xs; nothing that was there has turned. -/
def RetI (eI : TypeId) (xs : List Int) (w : World) (e : Ending) (w' : World) : Prop :=
  ∃ A c, e = .returned (.slice A xs.length c) ∧ w'.ownsRow w.heap.size eI 1 (.slice A xs.length c) xs.length (ints xs) ∧ Below w.heap.size w w'
theorem RetI.mk {eI : TypeId} {xs : List Int} {w w' : World} {v : Value} {n : Nat} (hn : xs.length = n) (h : w'.ownsRow w.heap.size eI 1 v n (ints xs)) (hb : Below w.heap.size w w') : RetI eI xs w (.returned v) w' := by
  subst hn
  obtain ⟨A, c, rfl, -, -⟩ := owns_shape h
  exact ⟨A, c, rfl, h, hb⟩

/-! ### append of new cells that the call has just laid in a block of their own -/

section
variable {P : Program} {W : World} {ops : Array Oper} {rest : List Oper} {o : Oper} {a : Act} {Q : Exit → Act → World → Prop}
theorem wpList_push (hgd : o.guard = none) (s x : Operand) (t : TypeId)
    (ho : o.op = .call { callee := .builtin .append, args := #[s, x], argTypes := #[t, t] })
    (base : Nat) (e : TypeId) (z : Value) (size bytes : Nat) (ht : P.underlying t = some (.slice e)) (hinfo : (P.info? e).map (fun i => (i.zero, i.size, i.bytes)) = some (some z, size, bytes))
    (hzs : z.cells.size = size) (hsz : 0 < size)
    (v : Value) (n : Nat) (xs : List Value) (hs : a.eval s = v) (hown : W.ownsRow base e size v n xs)
    (m : Nat) (news : List Value) (hx : a.eval x = .slice (some ⟨W.heap.size, 0, none⟩) m m) (hl : news.length = m * size) (h1 : ∀ u ∈ news, u.oneCell' = true)
    (h63 : n + m ≤ maxLen) (hbytes : (n + m) * bytes ≤ 140737488355328) (hbase : base ≤ W.heap.size)
    (h : ∀ v' w', w'.ownsRow base e size v' (n + m) (xs ++ news) → W.grownBy w' v.ownBlock → (v'.ownBlock = v.ownBlock ∨ v'.ownBlock = some (W.heap.size + 1)) → wpList P ops Q rest (a.put o.dst v') w') :
    wpList P ops Q (o :: rest) a (W.alloc (.cells news.toArray e)) := by
  obtain ⟨i, hi, hz, hsize, hby⟩ := info_parts hinfo
  refine wpList_append_own_at _ hgd s x t ho base e i z size bytes ht hi hz hsize hby hzs hsz v n xs hs (hown.alloc _) ⟨W.heap.size, 0, none⟩ m m news hx hl ?_ h1 h63 hbytes (by simp; omega) ?_
  · intro j u hu
    rw [Addr.add_lit, Nat.zero_add, World.cell?_alloc_new]
    simpa using hu
  · intro v' w' h2 h3 _ h4
    exact h v' w' h2 (grown_trans (World.grownBy_alloc W _ _) h3) (by simpa using h4)

theorem run_append_none (base : Nat) (t ty e : TypeId) (i : TypeInfo) (size : Nat) (ht : P.underlying t = some (.slice e)) (hi : P.info? e = some i)
    (v : Value) (n : Nat) (xs : List Value) (hown : W.ownsRow base e size v n xs) (c : Nat) : (Builtin.append_ #[t, t] ty #[v, .slice none 0 c]).run P W = .ok v W := by
  rcases hown.2 with ⟨rfl, rfl⟩ | ⟨g, cap, cur, rfl, _, _, hnc, _⟩
  · simp [Builtin.append_, run_underlying ht, sizeOf, typeInfo, hi, Builtin.lenOf, Builtin.firstCells]
  · simp [Builtin.append_, run_underlying ht, sizeOf, typeInfo, hi, Builtin.lenOf, Builtin.firstCells, hnc, storeCells]
/-- append(out, xs...): xs wherever it lies, nil and empty too. -/
theorem wpList_cat (hgd : o.guard = none) (s x : Operand) (t : TypeId)
    (ho : o.op = .call { callee := .builtin .append, args := #[s, x], argTypes := #[t, t] })
    (base : Nat) (e : TypeId) (z : Value) (size bytes : Nat) (ht : P.underlying t = some (.slice e)) (hinfo : (P.info? e).map (fun i => (i.zero, i.size, i.bytes)) = some (some z, size, bytes))
    (hzs : z.cells.size = size) (hsz : 0 < size)
    (v : Value) (n : Nat) (xs : List Value) (hs : a.eval s = v) (hown : W.ownsRow base e size v n xs)
    (A : Option Addr) (m c B : Nat) (news : List Value) (hx : a.eval x = .slice A m c) (hr : Rs W B A news) (hl : news.length = m * size) (h1 : ∀ u ∈ news, u.oneCell' = true)
    (h63 : n + m ≤ maxLen) (hbytes : (n + m) * bytes ≤ 140737488355328) (hbase : base ≤ W.heap.size)
    (h : ∀ v' w', w'.ownsRow base e size v' (n + m) (xs ++ news) → W.grownBy w' v.ownBlock → (v'.ownBlock = v.ownBlock ∨ v'.ownBlock = some W.heap.size) → wpList P ops Q rest (a.put o.dst v') w') :
    wpList P ops Q (o :: rest) a W := by
  obtain ⟨i, hi, hz, hsize, hby⟩ := info_parts hinfo
  cases A with
  | none =>
    have hn : news = [] := by
      cases hne : news with
      | nil => rfl
      | cons u r =>
        obtain ⟨b, off, he, _⟩ := hr (by rw [hne]; simp)
        cases he
    subst hn
    have hm : m = 0 := by
      rcases Nat.eq_zero_or_pos m with h0 | h0
      · exact h0
      · have := Nat.mul_pos h0 hsz
        simp at hl
        omega
    subst hm
    refine wpList_plain hgd fun K hK => ?_
    have hrun := run_append_none (P := P) (W := W) base t o.type e i size ht hi v n xs hown c
    unfold Oper.wp
    simp [execOp, ho, resolve, invoke, builtin, hs, hx, hrun, Result.andThen]
    exact hK _ _ (h v W (by simpa using hown) (World.grownBy.refl W _) (Or.inl rfl))
  | some ad =>
    refine wpList_append_own_at _ hgd s x t ho base e i z size bytes ht hi hz hsize hby hzs hsz v n xs hs hown ad m c news hx hl ?_ h1 h63 hbytes hbase ?_
    · intro j u hu
      obtain ⟨b, off, he, _, hc⟩ := hr (by intro h0; subst h0; simp at hu)
      injection he with he
      subst he
      rw [Addr.add_lit]
      exact hc j u hu
    · intro v' w' h2 h3 _ h4
      exact h v' w' h2 h3 h4
/-- make([]T, n), T of one cell. -/
theorem wpList_mk (hgd : o.guard = none) (l c : Operand) (t : TypeId) (hop : o.op = Op.makeSlice t l c)
    (e : TypeId) (z : Value) (bytes : Nat) (ht : P.underlying t = some (.slice e)) (hinfo : (P.info? e).map (fun i => (i.zero, i.size, i.bytes)) = some (some z, 1, bytes)) (hz1 : z.cells = #[z])
    (kl kc : IntKind) (L C : Int) (n : Nat) (hl : a.eval l = .int kl L) (hc : a.eval c = .int kc C) (hL : L = (n : Int)) (hC : C = (n : Int)) (b2 : bytes * n ≤ 281474976710656) (b3 : n ≤ maxLen)
    (hK : ∀ w', w'.ownsRow W.heap.size e 1 (.slice (some ⟨W.heap.size, 0, none⟩) n n) n (List.replicate n z) → W.grownBy w' none → W.heap.size < w'.heap.size → wpList P ops Q rest (a.put o.dst (.slice (some ⟨W.heap.size, 0, none⟩) n n)) w') :
    wpList P ops Q (o :: rest) a W := by
  obtain ⟨i, hi, hz, hsize, hby⟩ := info_parts hinfo
  refine wpList_make_full W hgd l c t hop W.heap.size e i z 1 ht hi hz hsize kl kc L C n hl hc hL hC (by rw [hby]; exact b2) b3 (Nat.le_refl _) ?_
  intro w' h1 h2
  rw [hz1, Nat.mul_one, toList_madeCells_one] at h1
  exact hK w' h1 h2 ((h1.lt W.heap.size rfl).2)
end

section
variable {w w' w0 : World} {base B : Nat} {e : TypeId} {g n cap : Nat} {xs ys : List Value}
/-- A store into a row of the call's own. -/
theorem owns_set (h : w.ownsRow base e 1 (.slice (some ⟨g, 0, none⟩) n cap) n xs) (j : Nat) (u : Value) (hy : xs.set j u = ys) :
    (w.setCell ⟨g, j, none⟩ u).ownsRow base e 1 (.slice (some ⟨g, 0, none⟩) n cap) n ys := by
  subst hy
  exact (h.stored j u).1
theorem owns_cell (h : w.ownsRow base e 1 (.slice (some ⟨g, 0, none⟩) n cap) n xs) {j : Nat} (hj : j < n) : ∃ u, xs[j]? = some u ∧ w.cell? ⟨g, j, none⟩ = some u := by
  have hl : j < xs.length := by have := h.1; omega
  exact ⟨xs[j], List.getElem?_eq_getElem hl, (h.cellAt j (by omega)).trans (List.getElem?_eq_getElem hl)⟩
end
theorem set_mid {α : Type} (xs ys : List α) (y x : α) : (xs ++ y :: ys).set xs.length x = (xs ++ [x]) ++ ys := by simp
theorem set_fill {α : Type} (ys : List α) (z u : α) {k n : Nat} (hy : ys.length = k) (h : k < n) : (ys ++ List.replicate (n - k) z).set k u = (ys ++ [u]) ++ List.replicate (n - (k + 1)) z := by
  subst hy
  obtain ⟨m, hm⟩ : ∃ m, n - ys.length = m + 1 := ⟨n - ys.length - 1, by omega⟩
  rw [hm, List.replicate_succ, set_mid, show n - (ys.length + 1) = m from by omega]
theorem owns_addr {w : World} {base : Nat} {e : TypeId} {size : Nat} {A : Option Addr} {n c : Nat} {xs : List Value} (h : w.ownsRow base e size (.slice A n c) n xs) (hn : 0 < n) :
    ∃ g, A = some ⟨g, 0, none⟩ ∧ base ≤ g ∧ g < w.heap.size := by
  rcases h.2 with ⟨_, h0⟩ | ⟨g, cap, cur, hv, hbg, hh, _⟩
  · omega
  · injection hv with hA
    exact ⟨g, hA, hbg, (Array.getElem?_eq_some_iff.1 hh).1⟩
theorem set_over {α : Type} (ys xs : List α) (u : α) {k : Nat} (hy : ys.length = k) (h : k < xs.length) : (ys ++ xs.drop k).set k u = (ys ++ [u]) ++ xs.drop (k + 1) := by
  subst hy
  rw [List.drop_eq_getElem_cons h, set_mid]
theorem grown_setCell {a w : World} {g : Nat} (h : a.grownBy w (some g)) (i : Nat) (u : Value) : a.grownBy (w.setCell ⟨g, i, none⟩ u) (some g) :=
  ⟨h.os, h.tape, h.output, by simpa [World.setCell] using h.size, fun k hk hne => (Below.heap_setCell w _ u k (by rintro rfl; exact hne rfl)).trans (h.block k hk hne)⟩
theorem one_of_ints (xs : List Int) : ∀ u ∈ ints xs, u.oneCell' = true := ints_oneCell .i64 xs
/-- 0, 1, .., k-1 -/
def upto (k : Nat) : List Int := (List.range k).map (fun (i : Nat) => (i : Int))
theorem upto_succ (k : Nat) : upto (k + 1) = upto k ++ [(k : Int)] := by simp [upto, List.range_succ]
theorem upto_len (k : Nat) : (upto k).length = k := by simp [upto]
/-- The marks k, k+1, .. -/
def marks (k : Int) (n : Nat) : List Int := (List.range n).map (fun (i : Nat) => k + (i : Int))
theorem marks_len (k : Int) (n : Nat) : (marks k n).length = n := by simp [marks]
theorem marks_get (k : Int) {n i : Nat} (h : i < n) : (marks k n)[i]? = some (k + i) := by simp [marks, h]
theorem marks_succ (k : Int) (n : Nat) : marks k (n + 1) = marks k n ++ [k + n] := by simp [marks, List.range_succ]
theorem take_succ_of {α : Type} (xs : List α) {k : Nat} {x : α} (h : xs[k]? = some x) : xs.take (k + 1) = xs.take k ++ [x] := by
  rw [List.take_add_one, h]; rfl
theorem drop_of {α : Type} (xs : List α) {k : Nat} {x : α} (h : xs[k]? = some x) : xs.drop k = x :: xs.drop (k + 1) := by
  obtain ⟨hk, rfl⟩ := List.getElem?_eq_some_iff.1 h
  exact List.drop_eq_getElem_cons hk
theorem get_of_lt {α : Type} (xs : List α) {k : Nat} (h : k < xs.length) : ∃ x, xs[k]? = some x := ⟨_, List.getElem?_eq_getElem h⟩
/-- The cell of an int slice at place k. -/
theorem Rs.int {w : World} {B : Nat} {A : Option Addr} {xs : List Int} (h : Rs w B A (ints xs)) {k : Nat} (hk : k < xs.length) :
    ∃ b off x, A = some ⟨b, off, none⟩ ∧ b < B ∧ xs[k]? = some x ∧ w.cell? ⟨b, off + k, none⟩ = some (.int .i64 x) := by
  obtain ⟨b, off, u, e, hb, hu, hc⟩ := h.at (j := k) (by simpa [ints] using hk)
  rw [ints_get] at hu
  obtain ⟨x, hx⟩ := get_of_lt xs hk
  rw [hx] at hu
  simp at hu
  subst hu
  exact ⟨b, off, x, e, hb, hx, hc⟩

/-! ### Calls that only read, inside a region that draws its order -/
section
variable {P : Program} {f : FuncId} {args : Array Value} {v : Value}
theorem qz0 {W : World} {n : Nat} (h : Calls P f args (W.drewN n) fun e w' => e = .returned v ∧ ∃ m, w' = (W.drewN n).drewN m) :
    Calls P f args (W.drewN n) fun e w'' => e = .returned v ∧ ∃ m, w'' = W.drewN m := Calls.quiet_of h
theorem qz1 {w : World} {a n : Nat} (h : Calls P f args (w.drewN (a + n)) fun e w' => e = .returned v ∧ ∃ m, w' = (w.drewN (a + n)).drewN m) :
    Calls P f args (w.drewN (a + n)) fun e w'' => e = .returned v ∧ ∃ m, w'' = w.drewN (a + m) :=
  h.mono fun _ _ ⟨he, m, hm⟩ => ⟨he, n + m, by rw [hm, World.drewN_drewN, Nat.add_assoc]⟩
theorem pq {W : World} (h : Calls P f args W fun e w' => e = .returned v ∧ W = w') : Calls P f args W fun e w' => e = .returned v ∧ ∃ m, w' = W.drewN m :=
  h.mono fun _ _ ⟨he, hw⟩ => ⟨he, 0, hw ▸ rfl⟩
end
end Go.Proofs.YtimmnnncgnnkgaaGreat

/- Frames between two block numbers; objects with the blocks they lie in; slices of int slices. -/
namespace Go.Proofs.YtimmnnncgnnkgaaGreat
set_option linter.unusedVariables false
set_option linter.unusedSimpArgs false
open Go.RowKit

/-- Every number fits an int. -/
def OkI (xs : List Int) : Prop := ∀ x ∈ xs, -9223372036854775808 ≤ x ∧ x ≤ 9223372036854775807

/-- Only blocks from lo up to hi (and new ones) have turned. -/
structure Mid (lo hi : Nat) (w w' : World) : Prop where
  os : w'.os = w.os
  tape : w'.tape = w.tape
  output : w'.output = w.output
  size : w.heap.size ≤ w'.heap.size
  block : ∀ k, k < w.heap.size → ¬ (lo ≤ k ∧ k < hi) → w'.heap[k]? = w.heap[k]?
theorem Mid.below {lo hi : Nat} {w w' : World} (h : Mid lo hi w w') (hl : lo ≤ w.heap.size) : Below lo w w' :=
  ⟨h.os, h.tape, h.output, h.size, fun k hk => h.block k (by omega) (by omega)⟩
theorem Mid.of_grown {lo hi : Nat} {w w' : World} {row : Option Nat} (h : w.grownBy w' row) (hr : ∀ g, row = some g → lo ≤ g ∧ g < hi) : Mid lo hi w w' :=
  ⟨h.os, h.tape, h.output, h.size, fun k hk hn => h.block k hk (fun e => hn (hr k e.symm))⟩
theorem Mid.trans {lo hi : Nat} {a b c : World} (h : Mid lo hi a b) (k : Mid lo hi b c) : Mid lo hi a c :=
  ⟨k.os.trans h.os, k.tape.trans h.tape, k.output.trans h.output, Nat.le_trans h.size k.size,
    fun i hi' hn => (k.block i (Nat.lt_of_lt_of_le hi' h.size) hn).trans (h.block i hi' hn)⟩
theorem Mid.refl (lo hi : Nat) (w : World) : Mid lo hi w w := ⟨rfl, rfl, rfl, Nat.le_refl _, fun _ _ _ => rfl⟩
theorem Mid.of_below {lo hi : Nat} {w w' : World} (h : Below w.heap.size w w') : Mid lo hi w w' := ⟨h.os, h.tape, h.output, h.size, fun k hk _ => h.block k hk⟩
theorem Mid.drewN {lo hi : Nat} {w w' : World} (h : Mid lo hi w w') (n : Nat) : Mid lo hi w (w'.drewN n) := ⟨h.os, h.tape, h.output, h.size, h.block⟩
theorem Mid.alloc (w : World) (o : Obj) : Mid 0 0 w (w.alloc o) := Mid.of_grown (World.grownBy_alloc w o none) (by intro g h; cases h)
theorem Mid.setCell (w : World) {lo hi : Nat} {p : Addr} (u : Value) (h1 : lo ≤ p.block) (h2 : p.block < hi) : Mid lo hi w (w.setCell p u) :=
  ⟨rfl, rfl, rfl, by simp [World.setCell], fun k _ hn => Below.heap_setCell w p u k (by rintro rfl; exact hn ⟨h1, h2⟩)⟩
theorem Mid.storeNew {lo hi : Nat} {w wr : World} {p : Addr} (h : Mid lo hi w wr) (hp : w.heap.size ≤ p.block) (u : Value) : Mid lo hi w (wr.setCell p u) :=
  ⟨h.os, h.tape, h.output, by simpa [World.setCell] using h.size, fun k hk hn => (Below.heap_setCell wr p u k (by omega)).trans (h.block k hk hn)⟩
theorem Mid.mono {lo hi lo' hi' : Nat} {w w' : World} (h : Mid lo hi w w') (h1 : lo' ≤ lo) (h2 : hi ≤ hi') : Mid lo' hi' w w' :=
  ⟨h.os, h.tape, h.output, h.size, fun k hk hn => h.block k hk (fun hh => hn ⟨by omega, by omega⟩)⟩
theorem Mid.zero {lo hi : Nat} {w w' : World} (h : Mid 0 0 w w') : Mid lo hi w w' := ⟨h.os, h.tape, h.output, h.size, fun k hk _ => h.block k hk (by omega)⟩
theorem Mid.bel {w w' : World} (h : Mid 0 0 w w') : Below w.heap.size w w' := ⟨h.os, h.tape, h.output, h.size, fun k hk => h.block k hk (by omega)⟩
theorem below_mid {n a b : Nat} {w0 w w' : World} (h : Below n w0 w) (hs : n ≤ w.heap.size) (m : Mid a b w w') (hn : n ≤ a ∨ b = 0) : Below n w0 w' :=
  h.trans ⟨m.os, m.tape, m.output, m.size, fun k hk => m.block k (by omega) (by omega)⟩

/-- The cells cs at A, in blocks from lo up to hi. -/
def RV (w : World) (lo hi : Nat) (A : Option Addr) (cs : List Value) : Prop :=
  hi ≤ w.heap.size ∧ (cs ≠ [] → ∃ b off, A = some ⟨b, off, none⟩ ∧ lo ≤ b ∧ b < hi ∧ ∀ j u, cs[j]? = some u → w.cell? ⟨b, off + j, none⟩ = some u)
theorem RV.rs {w : World} {lo hi : Nat} {A : Option Addr} {cs : List Value} (h : RV w lo hi A cs) : Rs w hi A cs := fun hn => by
  obtain ⟨b, off, e, _, hb, hc⟩ := h.2 hn
  exact ⟨b, off, e, hb, hc⟩
theorem RV.mid {w w' : World} {lo hi a b : Nat} {A : Option Addr} {cs : List Value} (h : RV w lo hi A cs) (m : Mid a b w w') (hd : b ≤ lo ∨ hi ≤ a) : RV w' lo hi A cs :=
  ⟨Nat.le_trans h.1 m.size, fun hn => by
    obtain ⟨g, off, e, h1, h2, hc⟩ := h.2 hn
    have hs := h.1
    exact ⟨g, off, e, h1, h2, fun j u hu => (World.cell?_of_block (m.block g (by omega) (by omega))).trans (hc j u hu)⟩⟩
theorem RV.wide {w : World} {lo hi lo' hi' : Nat} {A : Option Addr} {cs : List Value} (h : RV w lo hi A cs) (h1 : lo' ≤ lo) (h2 : hi ≤ hi') (h3 : hi' ≤ w.heap.size) : RV w lo' hi' A cs :=
  ⟨h3, fun hn => by
    obtain ⟨g, off, e, ha, hb, hc⟩ := h.2 hn
    exact ⟨g, off, e, by omega, by omega, hc⟩⟩
/-- The same, the call's own: a row at the head of a block. -/
def OV (w : World) (lo hi : Nat) (e : TypeId) (size : Nat) (A : Option Addr) (c n : Nat) (cs : List Value) : Prop :=
  hi ≤ w.heap.size ∧ w.ownsRow lo e size (.slice A n c) n cs ∧ ∀ g, Value.ownBlock (.slice A n c) = some g → g < hi
section
variable {w w' : World} {lo hi a b : Nat} {e : TypeId} {size : Nat} {A : Option Addr} {c n : Nat} {cs : List Value}
theorem OV.new {w0 : World} (h : w.ownsRow w0.heap.size e size (.slice A n c) n cs) : OV w w0.heap.size w.heap.size e size A c n cs :=
  ⟨Nat.le_refl _, h, fun g hg => (h.lt g hg).2⟩
theorem OV.mid (h : OV w lo hi e size A c n cs) (m : Mid a b w w') (hd : b ≤ lo ∨ hi ≤ a) : OV w' lo hi e size A c n cs := by
  refine ⟨Nat.le_trans h.1 m.size, ⟨h.2.1.1, ?_⟩, h.2.2⟩
  rcases h.2.1.2 with hn | ⟨g, cap, cur, hv, hbg, hgg, rest⟩
  · exact .inl hn
  · refine .inr ⟨g, cap, cur, hv, hbg, ?_, rest⟩
    have hlt := h.2.2 g (by rw [hv]; rfl)
    rw [m.block g (Array.getElem?_eq_some_iff.1 hgg).1 (by omega)]
    exact hgg
theorem OV.rv (h : OV w lo hi e size A c n cs) : RV w lo hi A cs := ⟨h.1, fun hn => by
  obtain ⟨g, off, hA, _, hc⟩ := Rs.of_own h.2.1 hn
  have hg : Value.ownBlock (.slice A n c) = some g := by rw [hA]; rfl
  exact ⟨g, off, hA, (h.2.1.lt g hg).1, h.2.2 g hg, hc⟩⟩
theorem OV.wide {lo' hi' : Nat} (h : OV w lo hi e size A c n cs) (h1 : lo' ≤ lo) (h2 : hi ≤ hi') (h3 : hi' ≤ w.heap.size) : OV w lo' hi' e size A c n cs :=
  ⟨h3, owns_base h.2.1 h1, fun g hg => by have := h.2.2 g hg; omega⟩
end

/-- Two rows of different element types lie in different blocks. -/
theorem owns_ne {w : World} {b b' : Nat} {e e' : TypeId} {s s' : Nat} {v v' : Value} {n n' : Nat} {xs xs' : List Value} (h : w.ownsRow b e s v n xs) (h' : w.ownsRow b' e' s' v' n' xs') (hne : e ≠ e') :
    v.ownBlock = none ∨ v.ownBlock ≠ v'.ownBlock := by
  rcases h.2 with ⟨rfl, _⟩ | ⟨g, cap, cur, rfl, _, hg, _⟩
  · exact .inl rfl
  · rcases h'.2 with ⟨rfl, _⟩ | ⟨g', cap', cur', rfl, _, hg', _⟩
    · exact .inr (by simp [Value.ownBlock])
    · refine .inr fun he => ?_
      have : g = g' := by simpa [Value.ownBlock] using he
      subst this
      rw [hg] at hg'
      injection hg' with hg'
      injection hg' with _ ht
      exact hne ht
theorem grown_of_setCell (w : World) (g j : Nat) (u : Value) : w.grownBy (w.setCell ⟨g, j, none⟩ u) (some g) := grown_setCell (World.grownBy.refl w _) j u

/-! ### slices of int slices -/

/-- One row of a slice of slices: its address, its capacity, its numbers. -/
structure Row where
  A : Option Addr
  c : Nat
  xs : List Int
def Row.v (r : Row) : Value := .slice r.A r.xs.length r.c
def rowsV (rows : List Row) : List Value := rows.map Row.v
def rowsD (rows : List Row) : List (List Int) := rows.map Row.xs
theorem rowsV_len (rows : List Row) : (rowsV rows).length = rows.length := by simp [rowsV]
theorem rowsD_len (rows : List Row) : (rowsD rows).length = rows.length := by simp [rowsD]
/-- The slice of slices at A reads xss, all in blocks from lo up to hi. -/
def RSS (w : World) (lo hi : Nat) (A : Option Addr) (xss : List (List Int)) : Prop :=
  ∃ rows, rowsD rows = xss ∧ RV w lo hi A (rowsV rows) ∧ ∀ r ∈ rows, RV w lo hi r.A (ints r.xs)
section
variable {w w' : World} {lo hi a b : Nat} {A : Option Addr} {xss : List (List Int)}
theorem RSS.size (h : RSS w lo hi A xss) : hi ≤ w.heap.size := by obtain ⟨_, _, h, _⟩ := h; exact h.1
theorem RSS.mid (h : RSS w lo hi A xss) (m : Mid a b w w') (hd : b ≤ lo ∨ hi ≤ a) : RSS w' lo hi A xss := by
  obtain ⟨rows, h1, h2, h3⟩ := h
  exact ⟨rows, h1, h2.mid m hd, fun r hr => (h3 r hr).mid m hd⟩
theorem RSS.wide {lo' hi' : Nat} (h : RSS w lo hi A xss) (h1 : lo' ≤ lo) (h2 : hi ≤ hi') (h3 : hi' ≤ w.heap.size) : RSS w lo' hi' A xss := by
  obtain ⟨rows, ha, hb, hc⟩ := h
  exact ⟨rows, ha, hb.wide h1 h2 h3, fun r hr => (hc r hr).wide h1 h2 h3⟩
theorem RSS.nil (hs : hi ≤ w.heap.size) : RSS w lo hi A [] := ⟨[], rfl, ⟨hs, fun h => absurd rfl h⟩, by simp⟩
theorem RSS.row (h : RSS w lo hi A xss) {k : Nat} (hk : k < xss.length) :
    ∃ b off A' c' xs, A = some ⟨b, off, none⟩ ∧ lo ≤ b ∧ b < hi ∧ xss[k]? = some xs ∧ w.cell? ⟨b, off + k, none⟩ = some (.slice A' xs.length c') ∧ RV w lo hi A' (ints xs) := by
  obtain ⟨rows, rfl, h2, h3⟩ := h
  rw [rowsD_len] at hk
  obtain ⟨b, off, e, hb, hb2, hc⟩ := h2.2 (by intro h0; have := congrArg List.length h0; rw [rowsV_len] at this; simp at this; subst this; simp at hk)
  obtain ⟨r, hr⟩ := get_of_lt rows hk
  refine ⟨b, off, r.A, r.c, r.xs, e, hb, hb2, by simp [rowsD, hr], hc k _ (by simp [rowsV, hr, Row.v]), h3 r (List.mem_of_getElem? hr)⟩
end

/-- The same, the call's own: every row in a block of its own. -/
def OwnRows (w : World) (lo hi : Nat) (tI : TypeId) (rows : List Row) : Prop :=
  (∀ r ∈ rows, OV w lo hi tI 1 r.A r.c r.xs.length (ints r.xs)) ∧ rows.Pairwise (fun r s => r.v.ownBlock = none ∨ r.v.ownBlock ≠ s.v.ownBlock)
def OSS (w : World) (lo hi : Nat) (tSI tI : TypeId) (A : Option Addr) (c : Nat) (xss : List (List Int)) : Prop :=
  hi ≤ w.heap.size ∧ ∃ rows, rowsD rows = xss ∧ OV w lo hi tSI 1 A c xss.length (rowsV rows) ∧ OwnRows w lo hi tI rows
section
variable {w w' : World} {lo hi a b : Nat} {tSI tI : TypeId} {A : Option Addr} {c : Nat} {xss : List (List Int)} {rows : List Row}
theorem OwnRows.mid (h : OwnRows w lo hi tI rows) (m : Mid a b w w') (hd : b ≤ lo ∨ hi ≤ a) : OwnRows w' lo hi tI rows := ⟨fun r hr => (h.1 r hr).mid m hd, h.2⟩
theorem OwnRows.wide {lo' hi' : Nat} (h : OwnRows w lo hi tI rows) (h1 : lo' ≤ lo) (h2 : hi ≤ hi') (h3 : hi' ≤ w.heap.size) : OwnRows w lo' hi' tI rows := ⟨fun r hr => (h.1 r hr).wide h1 h2 h3, h.2⟩
theorem OwnRows.nil : OwnRows w lo hi tI [] := ⟨by simp, List.Pairwise.nil⟩
/-- A row of another type is written, or grows: the int rows stay. -/
theorem OwnRows.grown {bb : Nat} {e' : TypeId} {s' : Nat} {v' : Value} {n' : Nat} {xs' : List Value} (h : OwnRows w lo hi tI rows) (ho : w.ownsRow bb e' s' v' n' xs') (hne : tI ≠ e') (hg : w.grownBy w' v'.ownBlock) : OwnRows w' lo hi tI rows :=
  ⟨fun r hr => by
    obtain ⟨h1, h2, h3⟩ := h.1 r hr
    exact ⟨Nat.le_trans h1 hg.size, h2.kept hg (owns_ne h2 ho hne), h3⟩, h.2⟩
/-- One row more, in a block behind all others. -/
theorem OwnRows.push {base hi' : Nat} {r : Row} (h : OwnRows w lo hi tI rows) (hr : w.ownsRow base tI 1 r.v r.xs.length (ints r.xs)) (hb : hi ≤ base) (hl : lo ≤ base) (hh : hi ≤ hi') (hs : hi' ≤ w.heap.size) (hlt : ∀ g, r.v.ownBlock = some g → g < hi') :
    OwnRows w lo hi' tI (rows ++ [r]) := by
  refine ⟨fun s hs' => ?_, ?_⟩
  · rcases List.mem_append.1 hs' with hm | hm
    · exact (h.1 s hm).wide (Nat.le_refl _) hh hs
    · simp at hm
      subst hm
      exact ⟨hs, owns_base hr hl, hlt⟩
  · rw [List.pairwise_append]
    refine ⟨h.2, by simp, fun s hsm t ht => ?_⟩
    simp at ht
    subst ht
    cases hv : s.v.ownBlock with
    | none => exact .inl rfl
    | some g =>
      refine .inr fun e => ?_
      have h1 := (h.1 s hsm).2.2 g hv
      have h2 := (hr.lt g e.symm).1
      omega
theorem OSS.size (h : OSS w lo hi tSI tI A c xss) : hi ≤ w.heap.size := h.1
theorem OSS.mid (h : OSS w lo hi tSI tI A c xss) (m : Mid a b w w') (hd : b ≤ lo ∨ hi ≤ a) : OSS w' lo hi tSI tI A c xss := by
  obtain ⟨h0, rows, h1, h2, h3⟩ := h
  exact ⟨Nat.le_trans h0 m.size, rows, h1, h2.mid m hd, h3.mid m hd⟩
theorem OSS.wide {lo' hi' : Nat} (h : OSS w lo hi tSI tI A c xss) (h1 : lo' ≤ lo) (h2 : hi ≤ hi') (h3 : hi' ≤ w.heap.size) : OSS w lo' hi' tSI tI A c xss := by
  obtain ⟨_, rows, ha, hb, hc⟩ := h
  exact ⟨h3, rows, ha, hb.wide h1 h2 h3, hc.wide h1 h2 h3⟩
end

/-- A call hands back a new slice of new slices that reads xss; nothing that was there has turned. -/
def RetSS (tSI tI : TypeId) (xss : List (List Int)) (w : World) (e : Ending) (w' : World) : Prop :=
  ∃ A c, e = .returned (.slice A xss.length c) ∧ OSS w' w.heap.size w'.heap.size tSI tI A c xss ∧ Mid 0 0 w w'
end Go.Proofs.YtimmnnncgnnkgaaGreat

/- Plain: the cycles of a permutation; lists sorted downwards. -/
namespace Go.Proofs.YtimmnnncgnnkgaaGreat
set_option linter.unusedVariables false
set_option linter.unusedSimpArgs false

/-- From x on, till a place that was visited. -/
def cycGo (p : List Int) : Nat → List Int → Nat → Nat → List Int × Nat
  | 0, vis, _, n => (vis, n)
  | f + 1, vis, x, n => if (x : Int) ∈ vis then (vis, n) else cycGo p f (vis ++ [(x : Int)]) (p.getD x 0).toNat (n + 1)
/-- The places visited and the lengths, after the first places. -/
def cycSt (p : List Int) : Nat → List Int × List Int
  | 0 => ([], [])
  | i + 1 => ((cycGo p (p.length + 1) (cycSt p i).1 i 0).1, if 0 < (cycGo p (p.length + 1) (cycSt p i).1 i 0).2 then (cycSt p i).2 ++ [((cycGo p (p.length + 1) (cycSt p i).1 i 0).2 : Int)] else (cycSt p i).2)
def downL (xs : List Int) : List Int := (xs.mergeSort fun x y => decide (x ≤ y)).reverse
def cyc (p : List Int) : List Int := downL (cycSt p p.length).2
/-- A list of places, each once. -/
structure Vis (L : Nat) (vis : List Int) : Prop where
  nd : vis.Nodup
  rng : ∀ v ∈ vis, 0 ≤ v ∧ v < L
theorem nodup_le : ∀ (L : Nat) (l : List Int), l.Nodup → (∀ v ∈ l, 0 ≤ v ∧ v < (L : Int)) → l.length ≤ L := by
  intro L
  induction L with
  | zero =>
    intro l _ h
    cases l with
    | nil => simp
    | cons a t => have := h a List.mem_cons_self; omega
  | succ L ih =>
    intro l hn h
    by_cases hm : (L : Int) ∈ l
    · have h1 := ih (l.erase (L : Int)) (hn.erase _) (fun v hv => by
        have hv2 := List.mem_of_mem_erase hv
        have h3 := h v hv2
        have h4 : v ≠ (L : Int) := fun e => by subst e; exact (hn.not_mem_erase) hv
        omega)
      rw [List.length_erase_of_mem hm] at h1
      omega
    · have h1 := ih l hn (fun v hv => by
        have h3 := h v hv
        have h4 : v ≠ (L : Int) := fun e => by subst e; exact hm hv
        omega)
      omega
theorem Vis.le {L : Nat} {vis : List Int} (h : Vis L vis) : vis.length ≤ L := nodup_le L vis h.nd h.rng
theorem Vis.push {L : Nat} {vis : List Int} {x : Nat} (h : Vis L vis) (hx : x < L) (hm : (x : Int) ∉ vis) : Vis L (vis ++ [(x : Int)]) :=
  ⟨nodup_snoc.2 ⟨h.nd, hm⟩, fun v hv => by
    rcases List.mem_append.1 hv with h1 | h1
    · exact h.rng v h1
    · simp at h1; omega⟩
/-- What the inner loop keeps. -/
structure CycAt (p : List Int) (vis0 : List Int) (i : Nat) (f : Nat) (vis : List Int) (x n : Nat) : Prop where
  hv : Vis p.length vis
  hx : x < p.length
  run : cycGo p (p.length + 1) vis0 i 0 = cycGo p f vis x n
  fuel : p.length < f + vis.length
  cnt : n + vis0.length = vis.length
theorem CycAt.start {p vis0 : List Int} {i : Nat} (hv : Vis p.length vis0) (hi : i < p.length) : CycAt p vis0 i (p.length + 1) vis0 i 0 := ⟨hv, hi, rfl, by omega, by omega⟩
theorem CycAt.step {p vis0 vis : List Int} {i f x n : Nat} (hp : ∀ y ∈ p, 0 ≤ y ∧ y < p.length) (h : CycAt p vis0 i f vis x n) (hm : (x : Int) ∉ vis) : ∃ f', f = f' + 1 ∧ CycAt p vis0 i f' (vis ++ [(x : Int)]) (p.getD x 0).toNat (n + 1) := by
  have hv := h.hv.push h.hx hm
  have hl := hv.le
  have hf := h.fuel
  simp at hl
  obtain ⟨f', rfl⟩ : ∃ f', f = f' + 1 := ⟨f - 1, by omega⟩
  refine ⟨f', rfl, hv, ?_, ?_, by simp; omega, by have := h.cnt; simp; omega⟩
  · have hm := hp (p.getD x 0) (by rw [List.getD_eq_getElem?_getD, List.getElem?_eq_getElem h.hx]; exact List.getElem_mem _)
    omega
  · rw [h.run]
    simp [cycGo, hm]
theorem CycAt.stop {p vis0 vis : List Int} {i f x n : Nat} (h : CycAt p vis0 i f vis x n) (hm : (x : Int) ∈ vis) : cycGo p (p.length + 1) vis0 i 0 = (vis, n) := by
  rw [h.run]
  cases f with
  | zero => rfl
  | succ f => simp [cycGo, hm]
/-- What the outer loop keeps. -/
structure CycOut (p : List Int) (i : Nat) (vis out : List Int) : Prop where
  st : cycSt p i = (vis, out)
  hv : Vis p.length vis
  sum : out.sum = vis.length
  pos : ∀ x ∈ out, 1 ≤ x
  len : out.length ≤ i
theorem CycOut.zero (p : List Int) : CycOut p 0 [] [] := ⟨rfl, ⟨by simp, by simp⟩, by simp, by simp, by simp⟩
theorem CycOut.succ {p vis out vis' : List Int} {i f x n : Nat} (h : CycOut p i vis out) (h2 : CycAt p vis i f vis' x n) (hm : (x : Int) ∈ vis') : CycOut p (i + 1) vis' (if 0 < n then out ++ [(n : Int)] else out) := by
  have hr := h2.stop hm
  have hc := h2.cnt
  refine ⟨by simp [cycSt, h.st, hr], h2.hv, ?_, ?_, ?_⟩
  · split
    · rw [List.sum_append, h.sum]; simp; omega
    · rw [h.sum]; omega
  · split
    · intro x hx
      rcases List.mem_append.1 hx with h1 | h1
      · exact h.pos x h1
      · simp at h1; omega
    · exact h.pos
  · have := h.len
    split
    · simp; omega
    · omega
theorem CycAt.goes {p vis0 : List Int} {i : Nat} (hp : ∀ y ∈ p, 0 ≤ y ∧ y < p.length) : ∀ (f : Nat) (vis : List Int) (x n : Nat), CycAt p vis0 i f vis x n → ∃ f vis x n, CycAt p vis0 i f vis x n ∧ (x : Int) ∈ vis := by
  intro f
  induction f with
  | zero =>
    intro vis x n h
    have := h.fuel
    have := h.hv.le
    omega
  | succ f ih =>
    intro vis x n h
    by_cases hm : (x : Int) ∈ vis
    · exact ⟨_, _, _, _, h, hm⟩
    · obtain ⟨f', he, h'⟩ := h.step hp hm
      obtain rfl : f = f' := by omega
      exact ih _ _ _ h'
end Go.Proofs.YtimmnnncgnnkgaaGreat

/- Plain: the places of vertices in an order, as a row. -/
namespace Go.Proofs.YtimmnnncgnnkgaaGreat
set_option linter.unusedVariables false
set_option linter.unusedSimpArgs false

/-- The place of every vertex below n in an order; -1 where it has none. -/
def placeL (n : Nat) (ord : List Int) : List Int := (List.range n).map fun (v : Nat) => idxI ord (v : Int)
theorem placeL_len (n : Nat) (ord : List Int) : (placeL n ord).length = n := by simp [placeL]
theorem placeL_nil (n : Nat) : placeL n [] = List.replicate n (-1) := by
  unfold placeL
  rw [List.eq_replicate_iff]
  refine ⟨by simp, fun b hb => ?_⟩
  obtain ⟨v, -, rfl⟩ := List.mem_map.1 hb
  exact idxI_neg (by simp)
theorem placeL_get {n j : Nat} (ord : List Int) (h : j < n) : (placeL n ord)[j]? = some (idxI ord (j : Int)) := by simp [placeL, h]
theorem idxI_snoc {xs : List Int} {x : Int} (h : x ∉ xs) (v : Int) : idxI (xs ++ [x]) v = if v = x then (xs.length : Int) else idxI xs v := by
  unfold idxI
  by_cases hv : v = x
  · subst hv
    rw [if_pos (by simp), if_pos rfl, List.idxOf_append, if_neg h]
    simp
  · rw [if_neg hv]
    by_cases hm : v ∈ xs
    · rw [if_pos (by simp [hm]), if_pos hm, List.idxOf_append, if_pos hm]
    · rw [if_neg (by simp [hm, hv]), if_neg hm]
theorem placeL_set {n m k : Nat} {ord : List Int} (hn : ord.Nodup) (hk : ord[k]? = some (m : Int)) (hm : m < n) : (placeL n (ord.take k)).set m (k : Int) = placeL n (ord.take (k + 1)) := by
  obtain ⟨hkl, hk'⟩ := List.getElem?_eq_some_iff.1 hk
  have ht : ord.take (k + 1) = ord.take k ++ [(m : Int)] := by rw [List.take_succ_eq_append_getElem hkl, hk']
  have hnm : (m : Int) ∉ ord.take k := by
    rw [← List.take_append_drop (k + 1) ord, ht] at hn
    exact fun h => (List.nodup_append.1 (List.nodup_append.1 hn).1).2.2 _ h _ (by simp) rfl
  have hl : (ord.take k).length = k := by rw [List.length_take]; omega
  apply List.ext_getElem?
  intro j
  rw [ht]
  by_cases hj : j < n
  · rw [placeL_get _ hj, idxI_snoc hnm]
    by_cases hjm : m = j
    · subst hjm
      rw [List.getElem?_set_self (by rw [placeL_len]; exact hj), if_pos rfl, hl]
    · rw [List.getElem?_set_ne hjm, placeL_get _ hj, if_neg (by omega)]
  · rw [List.getElem?_eq_none (by rw [List.length_set, placeL_len]; omega), List.getElem?_eq_none (by rw [placeL_len]; omega)]
/-- The same, one more (0 where a vertex has none). -/
def placeM (n : Nat) (ord : List Int) : List Int := (placeL n ord).map (· + 1)
theorem placeM_nil (n : Nat) : placeM n [] = List.replicate n 0 := by simp [placeM, placeL_nil]
theorem placeM_get {n j : Nat} (ord : List Int) (h : j < n) : (placeM n ord)[j]? = some (idxI ord (j : Int) + 1) := by simp [placeM, placeL_get ord h]
theorem placeM_set {n m k : Nat} {ord : List Int} (hn : ord.Nodup) (hk : ord[k]? = some (m : Int)) (hm : m < n) : (placeM n (ord.take k)).set m ((k : Int) + 1) = placeM n (ord.take (k + 1)) := by
  unfold placeM
  rw [← placeL_set hn hk hm, List.map_set]
theorem not_in_take {k : Nat} {x : Int} {ord : List Int} (hn : ord.Nodup) (hk : ord[k]? = some x) : x ∉ ord.take k := by
  obtain ⟨hkl, hk'⟩ := List.getElem?_eq_some_iff.1 hk
  have ht : ord.take (k + 1) = ord.take k ++ [x] := by rw [List.take_succ_eq_append_getElem hkl, hk']
  rw [← List.take_append_drop (k + 1) ord, ht] at hn
  exact fun h => (List.nodup_append.1 (List.nodup_append.1 hn).1).2.2 _ h _ (by simp) rfl
end Go.Proofs.YtimmnnncgnnkgaaGreat

/- Plain: the pairs of vertices that are reached from one, in order, and the edges among them. -/
namespace Go.Proofs.YtimmnnncgnnkgaaGreat
set_option linter.unusedVariables false
set_option linter.unusedSimpArgs false

abbrev PS := List (Int × Int)
/-- Where a letter leads a pair. -/
def pbNext (ea eb : List Ed) (p : Int × Int) (x : Int) : Int × Int := (nextV ea p.1 x, nextV eb p.2 x)
/-- One letter of the search. -/
def pbStep (ea eb : List Ed) (p : Int × Int) (st : PS) (x : Int) : PS :=
  if nextV ea p.1 x < 0 ∨ nextV eb p.2 x < 0 ∨ pbNext ea eb p x ∈ st then st else st ++ [pbNext ea eb p x]
def pbRow (ea eb : List Ed) (L : List Int) (p : Int × Int) (st : PS) : PS := L.foldl (pbStep ea eb p) st
def pbSt (ea eb : List Ed) (L : List Int) (p0 : Int × Int) : Nat → PS
  | 0 => [p0]
  | i + 1 => match (pbSt ea eb L p0 i)[i]? with
    | none => pbSt ea eb L p0 i
    | some p => pbRow ea eb L p (pbSt ea eb L p0 i)
def pairsOf (ea eb : List Ed) (L : List Int) (p0 : Int × Int) : PS := pbSt ea eb L p0 1601
theorem pbStep_pre (ea eb : List Ed) (p : Int × Int) (st : PS) (x : Int) : st <+: pbStep ea eb p st x := by
  unfold pbStep
  split
  · exact List.prefix_refl _
  · exact List.prefix_append _ _
theorem pbRow_pre (ea eb : List Ed) (L : List Int) (p : Int × Int) (st : PS) : st <+: pbRow ea eb L p st := by
  unfold pbRow
  induction L generalizing st with
  | nil => exact List.prefix_refl _
  | cons x t ih => exact (pbStep_pre ea eb p st x).trans (ih _)
theorem pbSt_succ {ea eb : List Ed} {L : List Int} {p0 p : Int × Int} {i : Nat} (h : (pbSt ea eb L p0 i)[i]? = some p) : pbSt ea eb L p0 (i + 1) = pbRow ea eb L p (pbSt ea eb L p0 i) := by
  show (match (pbSt ea eb L p0 i)[i]? with | none => pbSt ea eb L p0 i | some p => pbRow ea eb L p (pbSt ea eb L p0 i)) = _
  rw [h]
theorem pbSt_pre (ea eb : List Ed) (L : List Int) (p0 : Int × Int) (i : Nat) : pbSt ea eb L p0 i <+: pbSt ea eb L p0 (i + 1) := by
  show _ <+: (match (pbSt ea eb L p0 i)[i]? with | none => pbSt ea eb L p0 i | some p => pbRow ea eb L p (pbSt ea eb L p0 i))
  split
  · exact List.prefix_refl _
  · exact pbRow_pre ea eb L _ _
theorem pbSt_pre' (ea eb : List Ed) (L : List Int) (p0 : Int × Int) (i d : Nat) : pbSt ea eb L p0 i <+: pbSt ea eb L p0 (i + d) := by
  induction d with
  | zero => exact List.prefix_refl _
  | succ d ih => exact ih.trans (pbSt_pre ea eb L p0 (i + d))
theorem pbSt_stop {ea eb : List Ed} {L : List Int} {p0 : Int × Int} {i : Nat} (h : (pbSt ea eb L p0 i).length ≤ i) (d : Nat) : pbSt ea eb L p0 (i + d) = pbSt ea eb L p0 i := by
  induction d with
  | zero => rfl
  | succ d ih =>
    show (match (pbSt ea eb L p0 (i + d))[i + d]? with | none => pbSt ea eb L p0 (i + d) | some p => pbRow ea eb L p (pbSt ea eb L p0 (i + d))) = _
    rw [ih, List.getElem?_eq_none (by omega)]
/-- A pair's number. -/
def pcode (sb : Int) (p : Int × Int) : Int := p.1 * sb + p.2
/-- The pair lies in range. -/
def PIn (sa sb : Int) (p : Int × Int) : Prop := 0 ≤ p.1 ∧ p.1 < sa ∧ 0 ≤ p.2 ∧ p.2 < sb
theorem pcode_rng {sa sb : Int} {p : Int × Int} (h : PIn sa sb p) : 0 ≤ pcode sb p ∧ pcode sb p < sa * sb := by
  obtain ⟨h1, h2, h3, h4⟩ := h
  have k1 : 0 ≤ p.1 * sb := Int.mul_nonneg h1 (by omega)
  have k2 : (p.1 + 1) * sb ≤ sa * sb := Int.mul_le_mul_of_nonneg_right (by omega) (by omega)
  rw [Int.add_mul, Int.one_mul] at k2
  unfold pcode
  omega
theorem pcode_div {sa sb : Int} {p : Int × Int} (h : PIn sa sb p) : pcode sb p / sb = p.1 ∧ pcode sb p % sb = p.2 := by
  obtain ⟨h1, h2, h3, h4⟩ := h
  unfold pcode
  constructor
  · rw [Int.add_comm, Int.add_mul_ediv_right _ _ (by omega), Int.ediv_eq_zero_of_lt h3 h4, Int.zero_add]
  · rw [Int.add_comm, Int.add_mul_emod_self_right, Int.emod_eq_of_lt h3 h4]
theorem pcode_tdiv {sa sb : Int} {p : Int × Int} (h : PIn sa sb p) : Int.tdiv (pcode sb p) sb = p.1 ∧ Int.tmod (pcode sb p) sb = p.2 := by
  have h0 := pcode_rng h
  rw [Int.tdiv_eq_ediv_of_nonneg h0.1, Int.tmod_eq_emod_of_nonneg h0.1]
  exact pcode_div h
theorem pcode_inj {sa sb : Int} {p q : Int × Int} (hp : PIn sa sb p) (hq : PIn sa sb q) (h : pcode sb p = pcode sb q) : p = q := by
  have h1 := pcode_div hp
  have h2 := pcode_div hq
  rw [h] at h1
  exact Prod.ext (h1.1.symm.trans h2.1) (h1.2.symm.trans h2.2)
structure PbOk (sa sb : Int) (st : PS) : Prop where
  nd : st.Nodup
  rng : ∀ p ∈ st, PIn sa sb p
theorem PbOk.codes {sa sb : Int} {st : PS} (h : PbOk sa sb st) : (st.map (pcode sb)).Nodup := by
  rw [List.Nodup, List.pairwise_map]
  exact (List.pairwise_iff_forall_sublist.2 fun {a b} hab hc => by
    have ha : a ∈ st := hab.subset (by simp)
    have hb : b ∈ st := hab.subset (by simp)
    have h1 := pcode_inj (h.rng a ha) (h.rng b hb) hc
    have h2 := (List.pairwise_iff_forall_sublist.1 h.nd) hab
    exact h2 h1)
theorem PbOk.mem {sa sb : Int} {st : PS} {p : Int × Int} (h : PbOk sa sb st) (hp : PIn sa sb p) : pcode sb p ∈ st.map (pcode sb) ↔ p ∈ st := by
  constructor
  · intro hm
    obtain ⟨q, hq, he⟩ := List.mem_map.1 hm
    rw [← pcode_inj (h.rng q hq) hp he]
    exact hq
  · exact fun hm => List.mem_map.2 ⟨p, hm, rfl⟩
theorem PbOk.len {sa sb : Int} {st : PS} (h : PbOk sa sb st) (ha : 0 ≤ sa) (hb : 0 ≤ sb) : (st.length : Int) ≤ sa * sb := by
  have h1 := nodup_le (sa * sb).toNat (st.map (pcode sb)) h.codes fun x hx => by
    obtain ⟨p, hp, rfl⟩ := List.mem_map.1 hx
    have h2 := pcode_rng (h.rng p hp)
    omega
  rw [List.length_map] at h1
  have h0 : 0 ≤ sa * sb := Int.mul_nonneg ha hb
  omega
theorem PbOk.start {sa sb : Int} {p0 : Int × Int} (h0 : PIn sa sb p0) : PbOk sa sb [p0] := ⟨by simp, fun p hp => by simp at hp; subst hp; exact h0⟩
theorem pbNext_in {r r' sa sb : Int} {ea eb : List Ed} (hga : ∀ e ∈ ea, InG r sa e) (hgb : ∀ e ∈ eb, InG r' sb e) (p : Int × Int) {x : Int} (h1 : ¬ nextV ea p.1 x < 0) (h2 : ¬ nextV eb p.2 x < 0) : PIn sa sb (pbNext ea eb p x) := by
  have k1 := nextV_cases hga p.1 x
  have k2 := nextV_cases hgb p.2 x
  unfold PIn pbNext
  omega
theorem PbOk.step {r r' sa sb : Int} {ea eb : List Ed} (hga : ∀ e ∈ ea, InG r sa e) (hgb : ∀ e ∈ eb, InG r' sb e) {st : PS} (h : PbOk sa sb st) (p : Int × Int) (x : Int) : PbOk sa sb (pbStep ea eb p st x) := by
  unfold pbStep
  split
  · exact h
  · rename_i hc
    have hc1 : ¬ nextV ea p.1 x < 0 := fun h => hc (.inl h)
    have hc2 : ¬ nextV eb p.2 x < 0 := fun h => hc (.inr (.inl h))
    have hc3 : pbNext ea eb p x ∉ st := fun h => hc (.inr (.inr h))
    refine ⟨?_, ?_⟩
    · rw [List.nodup_append]
      refine ⟨h.nd, by simp, ?_⟩
      intro a ha b hb
      simp at hb
      subst hb
      intro e
      subst e
      exact hc3 ha
    · intro q hq
      rcases List.mem_append.1 hq with hq | hq
      · exact h.rng q hq
      · simp at hq
        subst hq
        exact pbNext_in hga hgb p hc1 hc2
theorem PbOk.row {r r' sa sb : Int} {ea eb : List Ed} (hga : ∀ e ∈ ea, InG r sa e) (hgb : ∀ e ∈ eb, InG r' sb e) (p : Int × Int) : ∀ (K : List Int) {st : PS}, PbOk sa sb st → PbOk sa sb (pbRow ea eb K p st)
  | [], st, h => h
  | x :: K, st, h => PbOk.row hga hgb p K (h.step hga hgb p x)
theorem pbSt_ok {r r' sa sb : Int} {ea eb : List Ed} (L : List Int) (hga : ∀ e ∈ ea, InG r sa e) (hgb : ∀ e ∈ eb, InG r' sb e) {p0 : Int × Int} (h0 : PIn sa sb p0) (i : Nat) : PbOk sa sb (pbSt ea eb L p0 i) := by
  induction i with
  | zero => exact PbOk.start h0
  | succ i ih =>
    show PbOk sa sb (match (pbSt ea eb L p0 i)[i]? with | none => pbSt ea eb L p0 i | some p => pbRow ea eb L p (pbSt ea eb L p0 i))
    split
    · exact ih
    · exact PbOk.row hga hgb _ L ih
theorem pb_len {r r' sa sb : Int} {ea eb : List Ed} (L : List Int) (hga : IsGr r sa ea) (hgb : IsGr r' sb eb) {p0 : Int × Int} (h0 : PIn sa sb p0) (i : Nat) : (pbSt ea eb L p0 i).length ≤ 1600 := by
  have h1 := (pbSt_ok L hga.all hgb.all h0 i).len (by have := hga.size; omega) (by have := hgb.size; omega)
  have h2 : sa * sb ≤ 40 * 40 := Int.mul_le_mul hga.size.2 hgb.size.2 (by have := hgb.size; omega) (by omega)
  omega
theorem pairs_eq {r r' sa sb : Int} {ea eb : List Ed} {L : List Int} (hga : IsGr r sa ea) (hgb : IsGr r' sb eb) {p0 : Int × Int} (h0 : PIn sa sb p0) {i : Nat} (h : (pbSt ea eb L p0 i).length = i) : pairsOf ea eb L p0 = pbSt ea eb L p0 i := by
  have := pb_len L hga hgb h0 i
  have h2 := pbSt_stop (show (pbSt ea eb L p0 i).length ≤ i by omega) (1601 - i)
  rw [← h2, show i + (1601 - i) = 1601 by omega]
  rfl
theorem pairs_ok {r r' sa sb : Int} {ea eb : List Ed} (L : List Int) (hga : ∀ e ∈ ea, InG r sa e) (hgb : ∀ e ∈ eb, InG r' sb e) {p0 : Int × Int} (h0 : PIn sa sb p0) : PbOk sa sb (pairsOf ea eb L p0) := pbSt_ok L hga hgb h0 1601
theorem pairs_len {r r' sa sb : Int} {ea eb : List Ed} (L : List Int) (hga : IsGr r sa ea) (hgb : IsGr r' sb eb) {p0 : Int × Int} (h0 : PIn sa sb p0) : (pairsOf ea eb L p0).length ≤ 1600 := pb_len L hga hgb h0 1601
theorem pbSt_pos (ea eb : List Ed) (L : List Int) (p0 : Int × Int) (i : Nat) : 0 < (pbSt ea eb L p0 i).length := by
  have := (pbSt_pre' ea eb L p0 0 i).length_le
  rw [Nat.zero_add] at this
  simp [pbSt] at this
  omega
/-- A search's state at place i that has not ended is a prefix of the pairs. -/
theorem pbSt_prefix {r r' sa sb : Int} {ea eb : List Ed} {L : List Int} (hga : IsGr r sa ea) (hgb : IsGr r' sb eb) {p0 : Int × Int} (h0 : PIn sa sb p0) {i : Nat} (h : i ≤ (pbSt ea eb L p0 i).length) : pbSt ea eb L p0 i <+: pairsOf ea eb L p0 := by
  have h1 := pb_len L hga hgb h0 i
  have h2 := pbSt_pre' ea eb L p0 i (1601 - i)
  rw [show i + (1601 - i) = 1601 by omega] at h2
  exact h2
/-- The rest of a row is a prefix of the row's end. -/
theorem pbRow_cons (ea eb : List Ed) (x : Int) (K : List Int) (p : Int × Int) (st : PS) : pbRow ea eb (x :: K) p st = pbRow ea eb K p (pbStep ea eb p st x) := rfl
theorem pbRow_take {ea eb : List Ed} {L : List Int} {p : Int × Int} {st : PS} {k : Nat} {x : Int} (h : L[k]? = some x) : pbRow ea eb (L.take (k + 1)) p st = pbStep ea eb p (pbRow ea eb (L.take k) p st) x := by
  unfold pbRow
  rw [List.take_add_one, h]
  simp [List.foldl_append]

/-- The edge of a pair's letter among pairs. -/
def pbEd (ea eb : List Ed) (P : PS) (i : Nat) (p : Int × Int) (x : Int) : Option Ed :=
  if nextV ea p.1 x < 0 ∨ nextV eb p.2 x < 0 then none else some ⟨i, x, (P.idxOf (pbNext ea eb p x) : Nat)⟩
def pbEs (ea eb : List Ed) (P : PS) (i : Nat) (p : Int × Int) (k : Nat) : List Ed := (List.range k).filterMap fun (j : Nat) => pbEd ea eb P i p ((j : Int) + 1)
/-- The edges of the first n pairs. -/
def pbAll (ea eb : List Ed) (r : Nat) (P : PS) : Nat → List Ed
  | 0 => []
  | n + 1 => pbAll ea eb r P n ++ (match P[n]? with | none => [] | some p => pbEs ea eb P n p r)
theorem pbAll_succ {ea eb : List Ed} {r : Nat} {P : PS} {n : Nat} {p : Int × Int} (h : P[n]? = some p) : pbAll ea eb r P (n + 1) = pbAll ea eb r P n ++ pbEs ea eb P n p r := by rw [pbAll, h]
theorem pbEs_succ (ea eb : List Ed) (P : PS) (i : Nat) (p : Int × Int) (k : Nat) : pbEs ea eb P i p (k + 1) = pbEs ea eb P i p k ++ (pbEd ea eb P i p ((k : Int) + 1)).toList := by
  unfold pbEs
  rw [List.range_succ, List.filterMap_append]
  cases h : pbEd ea eb P i p ((k : Int) + 1) <;> simp [h]
theorem pbEs_len (ea eb : List Ed) (P : PS) (i : Nat) (p : Int × Int) (k : Nat) : (pbEs ea eb P i p k).length ≤ k := by
  have := List.length_filterMap_le (fun (j : Nat) => pbEd ea eb P i p ((j : Int) + 1)) (List.range k)
  rw [List.length_range] at this
  exact this
theorem pbAll_len (ea eb : List Ed) (r : Nat) (P : PS) (n : Nat) : (pbAll ea eb r P n).length ≤ n * r := by
  induction n with
  | zero => simp [pbAll]
  | succ n ih =>
    rw [pbAll, List.length_append, Nat.succ_mul]
    split
    · simp; omega
    · have := pbEs_len ea eb P n ‹_› r
      omega
/-- The letters above zero among the first k of the letters. -/
theorem lets_at {n k : Nat} {x : Int} (h : (lets n)[k]? = some x) : (k % 2 = 0 ∧ x = ((k / 2 : Nat) : Int) + 1) ∨ (k % 2 = 1 ∧ x = -(((k / 2 : Nat) : Int) + 1)) := by
  induction n with
  | zero => simp [lets] at h
  | succ n ih =>
    rw [lets] at h
    rcases Nat.lt_or_ge k (lets n).length with hk | hk
    · rw [List.getElem?_append_left hk] at h
      exact ih h
    · rw [List.getElem?_append_right hk] at h
      rw [lets_len] at h hk
      have hc : k = 2 * n ∨ k = 2 * n + 1 ∨ 2 * n + 2 ≤ k := by omega
      rcases hc with rfl | rfl | hc
      · left
        simp at h
        refine ⟨by omega, ?_⟩
        rw [← h]
        omega
      · right
        rw [show 2 * n + 1 - 2 * n = 1 by omega] at h
        simp at h
        refine ⟨by omega, ?_⟩
        rw [show (2 * n + 1) / 2 = n by omega, ← h]
      · rw [List.getElem?_eq_none (by simp; omega)] at h
        cases h
structure PullOk (r s : Int) (es : List Ed) (r' s' : Int) (es' : List Ed) (u v : Int) : Prop where
  f1 : IsFol r s es
  f2 : IsFol r' s' es'
  rk : r = r'
  u0 : 0 ≤ u ∧ u < s
  v0 : 0 ≤ v ∧ v < s'
  sz : (pairsOf es es' (lets r.toNat) (u, v)).length ≤ 40
  ln : (pbAll es es' r.toNat (pairsOf es es' (lets r.toNat) (u, v)) (pairsOf es es' (lets r.toNat) (u, v)).length).length ≤ 120
theorem PullOk.pin {r s : Int} {es : List Ed} {r' s' : Int} {es' : List Ed} {u v : Int} (h : PullOk r s es r' s' es' u v) : PIn s s' (u, v) := ⟨h.u0.1, h.u0.2, h.v0.1, h.v0.2⟩
/-- The edges lie among the pairs. -/
def PClosed (ea eb : List Ed) (L : List Int) (P : PS) : Prop := ∀ p ∈ P, ∀ x ∈ L, ¬ nextV ea p.1 x < 0 → ¬ nextV eb p.2 x < 0 → pbNext ea eb p x ∈ P
theorem pbRow_closed {ea eb : List Ed} {p : Int × Int} : ∀ (K : List Int) {st : PS}, ∀ x ∈ K, ¬ nextV ea p.1 x < 0 → ¬ nextV eb p.2 x < 0 → pbNext ea eb p x ∈ pbRow ea eb K p st
  | [], st, x, h, _, _ => by cases h
  | y :: K, st, x, h, h1, h2 => by
    rw [pbRow_cons]
    rcases List.mem_cons.1 h with rfl | h
    · refine (pbRow_pre ea eb K p _).subset ?_
      unfold pbStep
      split
      · rename_i hc
        rcases hc with hc | hc | hc
        · exact absurd hc h1
        · exact absurd hc h2
        · exact hc
      · simp
    · exact pbRow_closed K x h h1 h2
theorem pbSt_closed {ea eb : List Ed} {L : List Int} {p0 : Int × Int} : ∀ (i j : Nat) {p : Int × Int}, j < i → (pbSt ea eb L p0 i)[j]? = some p → ∀ x ∈ L, ¬ nextV ea p.1 x < 0 → ¬ nextV eb p.2 x < 0 → pbNext ea eb p x ∈ pbSt ea eb L p0 i
  | 0, j, p, hj, hp, x, hx, h1, h2 => absurd hj (Nat.not_lt_zero j)
  | i + 1, j, p, hj, hp, x, hx, h1, h2 => by
    cases hq : (pbSt ea eb L p0 i)[i]? with
    | none =>
      have he : pbSt ea eb L p0 (i + 1) = pbSt ea eb L p0 i := by
        show (match (pbSt ea eb L p0 i)[i]? with | none => pbSt ea eb L p0 i | some p => pbRow ea eb L p (pbSt ea eb L p0 i)) = _
        rw [hq]
      rw [he] at hp ⊢
      have hl := List.getElem?_eq_none_iff.1 hq
      have := (List.getElem?_eq_some_iff.1 hp).1
      exact pbSt_closed i j (by omega) hp x hx h1 h2
    | some q =>
      have he := pbSt_succ hq
      rcases Nat.lt_or_ge j i with hji | hji
      · have hl := (List.getElem?_eq_some_iff.1 hq).1
        have hp' : (pbSt ea eb L p0 i)[j]? = some p := by
          obtain ⟨t, ht⟩ := pbSt_pre ea eb L p0 i
          rw [← ht, List.getElem?_append_left (by omega)] at hp
          exact hp
        exact (pbSt_pre ea eb L p0 i).subset (pbSt_closed i j hji hp' x hx h1 h2)
      · obtain rfl : j = i := by omega
        have hp' := prefix_get (pbSt_pre ea eb L p0 j) hq
        rw [hp] at hp'
        injection hp' with hp'
        subst hp'
        rw [he]
        exact pbRow_closed L x hx h1 h2
theorem pairs_closed {r r' sa sb : Int} {ea eb : List Ed} (L : List Int) (hga : IsGr r sa ea) (hgb : IsGr r' sb eb) {p0 : Int × Int} (h0 : PIn sa sb p0) : PClosed ea eb L (pairsOf ea eb L p0) := by
  intro p hp x hx h1 h2
  obtain ⟨j, hj⟩ := List.mem_iff_getElem?.1 hp
  have hl := pairs_len L hga hgb h0
  have := (List.getElem?_eq_some_iff.1 hj).1
  exact pbSt_closed 1601 j (by omega) hj x hx h1 h2
theorem pbAll_in {ea eb : List Ed} {r : Nat} {P : PS} (hc : PClosed ea eb (lets r) P) : ∀ (n : Nat) {e : Ed}, e ∈ pbAll ea eb r P n → n ≤ P.length → InG r P.length e
  | 0, e, h, hn => by simp [pbAll] at h
  | n + 1, e, h, hn => by
    have hp := List.getElem?_eq_getElem (l := P) (i := n) (by omega)
    rw [pbAll_succ hp] at h
    rcases List.mem_append.1 h with h | h
    · exact pbAll_in hc n h (by omega)
    · simp only [pbEs, List.mem_filterMap, List.mem_range] at h
      obtain ⟨j, hj, he⟩ := h
      unfold pbEd at he
      split at he
      · cases he
      · rename_i hcc
        injection he with he
        subst he
        have hm := hc P[n] (List.getElem_mem _) ((j : Int) + 1) (mem_lets.2 ⟨by omega, by omega, by omega⟩) (fun h => hcc (.inl h)) (fun h => hcc (.inr h))
        have hi := List.idxOf_lt_length_iff.2 hm
        unfold InG
        simp only
        omega
/-- What PullbackAt gives. -/
def pullE (r : Int) (es es' : List Ed) (u v : Int) : List Ed := canon (pbAll es es' r.toNat (pairsOf es es' (lets r.toNat) (u, v)) (pairsOf es es' (lets r.toNat) (u, v)).length)
theorem pull_gr {r s : Int} {es : List Ed} {r' s' : Int} {es' : List Ed} {u v : Int} (h : PullOk r s es r' s' es' u v) : IsGr r ((pairsOf es es' (lets r.toNat) (u, v)).length : Int) (pullE r es es' u v) := by
  have hr := h.f1.gr.rank
  have h0 : 0 < (pairsOf es es' (lets r.toNat) (u, v)).length := pbSt_pos es es' (lets r.toNat) (u, v) 1601
  have hsz := h.sz
  refine ⟨hr, ⟨by omega, by omega⟩, ?_, ?_, asc_canon _⟩
  · have h1 := canon_len (pbAll es es' r.toNat (pairsOf es es' (lets r.toNat) (u, v)) (pairsOf es es' (lets r.toNat) (u, v)).length)
    have := h.ln
    unfold pullE
    omega
  · intro e he
    have hi := pbAll_in (pairs_closed (lets r.toNat) h.f1.gr h.f2.gr h.pin) _ (mem_canon.1 he) (Nat.le_refl _)
    rw [show ((r.toNat : Nat) : Int) = r by omega] at hi
    exact hi
def PullIs (r s : Int) (es : List Ed) (r' s' : Int) (es' : List Ed) (u v : Int) (rr rs : Int) (res : List Ed) (b : Bool) : Prop :=
  (b = true ∧ PullOk r s es r' s' es' u v ∧ rr = r ∧ rs = ((pairsOf es es' (lets r.toNat) (u, v)).length : Int) ∧ res = pullE r es es' u v) ∨ (b = false ∧ ¬ PullOk r s es r' s' es' u v ∧ rr = 0 ∧ rs = 0 ∧ res = [])
theorem PullIs.no {r s : Int} {es : List Ed} {r' s' : Int} {es' : List Ed} {u v : Int} {rr rs : Int} {res : List Ed} {b : Bool} (h : PullIs r s es r' s' es' u v rr rs res b) (hn : ¬ PullOk r s es r' s' es' u v) : b = false ∧ rr = 0 ∧ rs = 0 ∧ res = [] := by
  rcases h with ⟨-, h, -⟩ | ⟨h1, -, h2⟩
  · exact absurd h hn
  · exact ⟨h1, h2⟩
theorem PullIs.yes {r s : Int} {es : List Ed} {r' s' : Int} {es' : List Ed} {u v : Int} {rr rs : Int} {res : List Ed} {b : Bool} (h : PullIs r s es r' s' es' u v rr rs res b) (hn : PullOk r s es r' s' es' u v) : b = true ∧ rr = r ∧ rs = ((pairsOf es es' (lets r.toNat) (u, v)).length : Int) ∧ res = pullE r es es' u v := by
  rcases h with ⟨h1, -, h2⟩ | ⟨-, h, -⟩
  · exact ⟨h1, h2⟩
  · exact absurd hn h
end Go.Proofs.YtimmnnncgnnkgaaGreat

/-
  DERIVED: THE SHELF's CONTRACTS AT THIS DUMP, IN PLAIN WORDS (tools/lay-plain.mjs out of 'TryzShelf.lean', which tools/lay-shelf.mjs wrote): THE SAME DECLARATIONS UNDER THE SAME NAMES: 'import', 'namespace', 'open', 'def', 'theorem' AND NOTHING ELSE: no command of the shelf's: FOR A HAND-IN. Each laying: the table of numbers ('.._ren') and one theorem, a field a fact of the dump's own or the kernel's comparison; each contract: ONE APPLICATION.
-/
namespace Go.Proofs
open Go.Shelf
def Tryz.lays215_ren : Go.Shelf.Ren := ⟨fun | 215 => 204 | n => n, fun | 3 => 3 | 4 => 4 | n => n, fun | n => n⟩
def Tryz.lays189_ren : Go.Shelf.Ren := ⟨fun | 189 => 164 | 125 => 154 | 257 => 182 | 128 => 178 | 129 => 179 | 294 => 191 | 295 => 192 | 296 => 193 | 297 => 194 | 298 => 195 | 299 => 196 | 216 => 197 | 300 => 198 | 301 => 199 | 328 => 201 | 329 => 187 | 330 => 188 | 331 => 202 | 332 => 203 | 215 => 204 | 343 => 205 | n => n, fun | 28 => 25 | 3 => 3 | 46 => 129 | 0 => 0 | 51 => 150 | 53 => 152 | 4 => 4 | 183 => 144 | 182 => 143 | 131 => 84 | 5 => 5 | 9 => 9 | 218 => 159 | 222 => 163 | 228 => 170 | 229 => 87 | n => n, fun | n => n⟩
theorem Tryz.lays189 : Go.Proofs.Lays.n189 Tryz.prog Tryz.lays189_ren := {
  mixed := by kernel_rfl
  f125 := Tryz.func154.trans (congrArg some (by kernel_rfl))
  f128 := Tryz.func178.trans (congrArg some (by kernel_rfl))
  f129 := Tryz.func179.trans (congrArg some (by kernel_rfl))
  f189 := Tryz.func164.trans (congrArg some (by kernel_rfl))
  f215 := Tryz.func204.trans (congrArg some (by kernel_rfl))
  f216 := Tryz.func197.trans (congrArg some (by kernel_rfl))
  f257 := Tryz.func182.trans (congrArg some (by kernel_rfl))
  f294 := Tryz.func191.trans (congrArg some (by kernel_rfl))
  f295 := Tryz.func192.trans (congrArg some (by kernel_rfl))
  f296 := Tryz.func193.trans (congrArg some (by kernel_rfl))
  f297 := Tryz.func194.trans (congrArg some (by kernel_rfl))
  f298 := Tryz.func195.trans (congrArg some (by kernel_rfl))
  f299 := Tryz.func196.trans (congrArg some (by kernel_rfl))
  f300 := Tryz.func198.trans (congrArg some (by kernel_rfl))
  f301 := Tryz.func199.trans (congrArg some (by kernel_rfl))
  f328 := Tryz.func201.trans (congrArg some (by kernel_rfl))
  f329 := Tryz.func187.trans (congrArg some (by kernel_rfl))
  f330 := Tryz.func188.trans (congrArg some (by kernel_rfl))
  f331 := Tryz.func202.trans (congrArg some (by kernel_rfl))
  f332 := Tryz.func203.trans (congrArg some (by kernel_rfl))
  f343 := Tryz.func205.trans (congrArg some (by kernel_rfl))
  t0 := Tryz.underlying0
  a0 := Tryz.isAgg0
  z0 := Tryz.sizeOf0
  v0 := Tryz.zeroValue0
  t3 := Tryz.underlying3
  a3 := Tryz.isAgg3
  z3 := Tryz.sizeOf3
  v3 := Tryz.zeroValue3
  t4 := Tryz.underlying4
  a4 := Tryz.isAgg4
  z4 := Tryz.sizeOf4
  v4 := Tryz.zeroValue4
  t5 := Tryz.underlying5
  a5 := Tryz.isAgg5
  z5 := Tryz.sizeOf5
  v5 := Tryz.zeroValue5
  t9 := Tryz.underlying9
  a9 := Tryz.isAgg9
  z9 := Tryz.sizeOf9
  v9 := Tryz.zeroValue9
  t28 := Tryz.underlying25
  a28 := Tryz.isAgg25
  z28 := Tryz.sizeOf25
  v28 := Tryz.zeroValue25
  t46 := Tryz.underlying129
  a46 := Tryz.isAgg129
  z46 := Tryz.sizeOf129
  v46 := Tryz.zeroValue129
  t51 := Tryz.underlying150
  a51 := Tryz.isAgg150
  z51 := Tryz.sizeOf150
  v51 := Tryz.zeroValue150
  t53 := Tryz.underlying152
  a53 := Tryz.isAgg152
  z53 := Tryz.sizeOf152
  v53 := Tryz.zeroValue152
  t131 := Tryz.underlying84
  a131 := Tryz.isAgg84
  z131 := Tryz.sizeOf84
  v131 := Tryz.zeroValue84
  t182 := Tryz.underlying143
  a182 := Tryz.isAgg143
  z182 := Tryz.sizeOf143
  v182 := Tryz.zeroValue143
  t183 := Tryz.underlying144
  a183 := Tryz.isAgg144
  z183 := Tryz.sizeOf144
  v183 := Tryz.zeroValue144
  t218 := Tryz.underlying159
  a218 := Tryz.isAgg159
  z218 := Tryz.sizeOf159
  v218 := Tryz.zeroValue159
  t222 := Tryz.underlying163
  a222 := Tryz.isAgg163
  z222 := Tryz.sizeOf163
  v222 := Tryz.zeroValue163
  t228 := Tryz.underlying170
  a228 := Tryz.isAgg170
  z228 := Tryz.sizeOf170
  v228 := Tryz.zeroValue170
  t229 := Tryz.underlying87
  a229 := Tryz.isAgg87
  z229 := Tryz.sizeOf87
  v229 := Tryz.zeroValue87 }
open Go.Sort Go.RowKit in
theorem Tryz.slices_Sort_int (blk off cap : Nat) (zs : List Int) (w : World) (hH : Holds (Value.int .i64) w blk off zs.toArray) (hblk : blk < w.heap.size) (hsz : zs.length < 4611686018427387904) :
    Calls Tryz.prog 164 #[.slice (some ⟨blk, off, none⟩) zs.length cap] w fun e w' =>
      e = .returned (.tuple #[]) ∧ ∃ n os, w' = grow (putRow (Value.int .i64) (Sort.ahead w n) blk off (zs.mergeSort fun x y => decide (x ≤ y)).toArray) os := Any.slices_Sort_int Tryz.lays189 blk off cap zs w hH hblk hsz
def Tryz.laysNm220_ren : Go.Shelf.Ren := ⟨fun | 20 => 165 | n => n, fun | 22 => 25 | 3 => 3 | 4 => 4 | 0 => 0 | n => n, fun | n => n⟩
theorem Tryz.laysNm220 : Go.Proofs.Lays2.n20 Tryz.prog Tryz.laysNm220_ren := {
  mixed := by kernel_rfl
  f20 := Tryz.func165.trans (congrArg some (by kernel_rfl))
  t0 := Tryz.underlying0
  a0 := Tryz.isAgg0
  z0 := Tryz.sizeOf0
  v0 := Tryz.zeroValue0
  t3 := Tryz.underlying3
  a3 := Tryz.isAgg3
  z3 := Tryz.sizeOf3
  v3 := Tryz.zeroValue3
  t4 := Tryz.underlying4
  a4 := Tryz.isAgg4
  z4 := Tryz.sizeOf4
  v4 := Tryz.zeroValue4
  t22 := Tryz.underlying25
  a22 := Tryz.isAgg25
  z22 := Tryz.sizeOf25
  v22 := Tryz.zeroValue25
  i3 := by kernel_rfl }
open Go.RowKit Go.Lib Go.Sort in
/-- slices.Compact at []int: "Compact replaces consecutive runs of equal elements with a single copy. This is like the uniq command found on Unix. Compact modifies the contents of the slice s and returns the modified slice, which may have a smaller length. Compact zeroes the elements between the new length and the original length. The result preserves the nilness of s.": IT RETURNS THE SLICE CUT TO 'Lib.compact zs'; ITS CELLS HOLD 'Lib.compact zs', THEN ZERO VALUES up to the old length; all else is as it was, but for the count of draws. IN THE WORDS OF slices.Sort's CONTRACT ('Holds', 'putRow'): so the everyday 'slices.Sort(xs); xs = slices.Compact(xs)' goes from the one contract to the other. It asks 'zs.length ≤ cap' (every slice's: the reslicing 's[:k]' looks at it). Length 0, nil: '.._empty'. (LAID: no walk: one application.) -/
theorem Tryz.slices_Compact_int (blk off cap : Nat) (zs : List Int) (w : World) (hH : Holds (Value.int .i64) w blk off zs.toArray) (hsz : zs.length ≤ 9223372036854775807) (hcap : zs.length ≤ cap) :
    Calls Tryz.prog 165 #[.slice (some ⟨blk, off, none⟩) zs.length cap] w fun e w' => e = .returned (.slice (some ⟨blk, off, none⟩) (Lib.compact zs).length cap) ∧ ∃ q, w' = putRow (Value.int .i64) (Sort.ahead w q) blk off (Lib.compact zs ++ List.replicate (zs.length - (Lib.compact zs).length) 0).toArray := Any.slices_Compact_int Tryz.laysNm220 blk off cap zs w hH hsz hcap
open Go.RowKit Go.Lib Go.Sort in
/-- The same at a slice of length 0, a nil one too: it comes back as it is. (LAID: no walk: one application.) -/
theorem Tryz.slices_Compact_int_empty (a : Option Addr) (cap : Nat) (w : World) :
    Calls Tryz.prog 165 #[.slice a 0 cap] w fun e w' => e = .returned (.slice a 0 cap) ∧ w' = w := Any.slices_Compact_int_empty Tryz.laysNm220 a cap w
open Go.RowKit Go.Sort in
/-- .. and plain. (LAID: no walk: one application.) -/
theorem Tryz.slices_Sort_int_none (p : Option Addr) (cap : Nat) (w : World) :
    Calls Tryz.prog 164 #[.slice p 0 cap] w fun e w' => e = .returned (.tuple #[]) ∧ w' = w := Any.slices_Sort_int_none Tryz.lays189 p cap w
end Go.Proofs

/- Facts on the tables of this seat's program: the element types' rows. -/
namespace Go.Proofs.YtimmnnncgnnkgaaGreat
set_option linter.unusedVariables false
set_option linter.unusedSimpArgs false
theorem infoI : (Tryz.prog.info? 3).map (fun i => (i.zero, i.size, i.bytes)) = some (some (.int .i64 0), 1, 8) := by kernel_rfl
theorem infoB : (Tryz.prog.info? 4).map (fun i => (i.zero, i.size, i.bytes)) = some (some (.bool false), 1, 1) := by kernel_rfl
theorem undSI : Tryz.prog.underlying 25 = some (.slice 3) := by kernel_rfl
theorem undSB : Tryz.prog.underlying 113 = some (.slice 4) := by kernel_rfl
theorem undI : Tryz.prog.underlying 3 = some (.int .i64) := by kernel_rfl
theorem cellsI : Tryz.prog.cellsOf 3 = 1 := by kernel_rfl
end Go.Proofs.YtimmnnncgnnkgaaGreat

/- Contracts of the small helpers of the laws: copies, comparisons and marks of int slices. -/
namespace Go.Proofs.YtimmnnncgnnkgaaGreat
set_option linter.unusedVariables false
set_option linter.unusedSimpArgs false
open Go.RowKit

/-- lo ≤ x ≤ hi -/
def inB (x lo hi : Int) : Bool := decide (lo ≤ x) && decide (x ≤ hi)

set_option maxHeartbeats 400000 in
theorem within_any (x lo hi : Int) (w : World) :
    Calls Tryz.prog 82 #[.int .i64 x, .int .i64 lo, .int .i64 hi] w fun e w' => e = .returned (.bool (inB x lo hi)) ∧ w = w' := by
  go_enter Tryz.func82, Tryz.ntmps82
  go_wp2_with fail
  all_goals
    go_ret
    exact ⟨by simp [inB]; omega, rfl⟩

set_option maxHeartbeats 400000 in
theorem l1In_any (x lo hi : Int) (w : World) :
    Calls Tryz.prog 77 #[.int .i64 x, .int .i64 lo, .int .i64 hi] w fun e w' => e = .returned (.bool (inB x lo hi)) ∧ w = w' := by
  go_enter Tryz.func77, Tryz.ntmps77
  go_wp2_with fail
  all_goals
    go_ret
    exact ⟨by simp [inB]; omega, rfl⟩

set_option maxHeartbeats 400000 in
theorem toIntS_any (A : Option Addr) (xs : List Int) (c : Nat) (w : World) (hr : Rs w w.heap.size A (ints xs)) (hl : xs.length ≤ 1048576) :
    Calls Tryz.prog 12 #[.slice A xs.length c] w fun e w' =>
      e = .returned (.slice (some ⟨w.heap.size, 0, none⟩) xs.length xs.length) ∧
      w'.ownsRow w.heap.size 3 1 (.slice (some ⟨w.heap.size, 0, none⟩) xs.length xs.length) xs.length (ints xs) ∧ Below w.heap.size w w' := by
  have hmx : xs.length ≤ maxLen := by unfold maxLen; omega
  go_enter Tryz.func12, Tryz.ntmps12
  go_wp2_with (at_make; refine wpList_mk rfl _ _ 25 rfl 3 (.int .i64 0) 8 undSI infoI rfl .i64 .i64 _ _ xs.length rfl rfl rfl rfl (by omega) hmx ?_; intro w1 hown1 hgr1 hsz1)
  have hb1 := below_none hgr1
  go_loopw [4] (fun i wr => ∃ k : Nat, k ≤ xs.length ∧ i = .int .i64 k ∧ wr.ownsRow w.heap.size 3 1 (.slice (some ⟨w.heap.size, 0, none⟩) xs.length xs.length) xs.length (ints (xs.take k) ++ List.replicate (xs.length - k) (.int .i64 0)) ∧ Below w.heap.size w wr)
    (fun i _ => xs.length - (intOf i).toNat)
  case atStart => exact ⟨0, Nat.zero_le _, rfl, by simpa [ints] using hown1, hb1⟩
  case round =>
    obtain ⟨k, hk, rfl, hown, hb⟩ := hrel
    by_cases hlt : k < xs.length
    · obtain ⟨b, off, x, rfl, hbB, hx, hc⟩ := (hr.below hb).int hlt
      obtain ⟨u, -, hu⟩ := owns_cell hown hlt
      have hfz := hown.frozenAt k
      have HX := Lib.hid hx
      clear hx
      go_wp2_with fail
      go_roundw
      case rel =>
        refine ⟨k + 1, by omega, by go_num, owns_set hown k _ ?_, hb.setCell (Nat.le_refl _) _⟩
        rw [set_fill _ _ _ (by rw [ints_len, List.length_take]; omega) hlt, take_succ_of xs HX.out, ints_append]
        rfl
      case measure => simp [intOf]; omega
    · go_wp2_with fail
      go_ret
      have hkl : k = xs.length := by omega
      subst hkl
      exact ⟨rfl, by simpa using hown, hb⟩

set_option maxHeartbeats 400000 in
/-- Equal lists: eqIntS says yes. -/
theorem eqIntS_same (A A' : Option Addr) (xs : List Int) (c c' B B' : Nat) (w : World) (hr : Rs w B A (ints xs)) (hr' : Rs w B' A' (ints xs)) (hl : xs.length ≤ 1048576) :
    Calls Tryz.prog 15 #[.slice A xs.length c, .slice A' xs.length c'] w fun e w' => e = .returned (.bool true) ∧ ∃ n, w' = w.drewN n := by
  go_enter Tryz.func15, Tryz.ntmps15
  go_wp2_with fail
  go_loopw [5] (fun i wr => ∃ k : Nat, k ≤ xs.length ∧ i = .int .i64 k ∧ ∃ n, wr = w.drewN n) (fun i _ => xs.length - (intOf i).toNat)
  case atStart => exact ⟨0, Nat.zero_le _, rfl, 0, rfl⟩
  case round =>
    obtain ⟨k, hk, rfl, nd, rfl⟩ := hrel
    by_cases hlt : k < xs.length
    · obtain ⟨b, off, x, rfl, -, hx, hc⟩ := hr.int hlt
      obtain ⟨b', off', x', rfl, -, hx', hc'⟩ := hr'.int hlt
      rw [hx] at hx'
      obtain rfl := Option.some.inj hx'
      clear hx hx'
      go_wp2_with fail
      go_quiet (fail)
      go_wp2_with fail
      go_roundw
      case rel => exact ⟨k + 1, by omega, by go_num, _, rfl⟩
      case measure => simp [intOf]; omega
    · go_wp2_with fail
      go_ret
      exact ⟨rfl, _, rfl⟩

set_option maxHeartbeats 400000 in
theorem markIntS_any (A : Option Addr) (xs : List Int) (c base : Nat) (q : Int) (w : World) (ho : w.ownsRow base 3 1 (.slice A xs.length c) xs.length (ints xs)) (hq : 0 ≤ q) (hq2 : q ≤ 16777216) (hl : xs.length ≤ 1048576) :
    Calls Tryz.prog 17 #[.slice A xs.length c, .int .i64 q] w fun e w' => e = .returned (.int .i64 (q + xs.length)) ∧
      w'.ownsRow base 3 1 (.slice A xs.length c) xs.length (ints (marks q xs.length)) ∧ w.grownBy w' (Value.ownBlock (.slice A xs.length c)) := by
  go_enter Tryz.func17, Tryz.ntmps17
  go_wp2_with fail
  go_loopw [1, 5] (fun qv i wr => ∃ k : Nat, k ≤ xs.length ∧ i = .int .i64 k ∧ qv = .int .i64 (q + k) ∧ wr.ownsRow base 3 1 (.slice A xs.length c) xs.length (ints (marks q k) ++ (ints xs).drop k) ∧ w.grownBy wr (Value.ownBlock (.slice A xs.length c)))
    (fun _ i _ => xs.length - (intOf i).toNat)
  case atStart => exact ⟨0, Nat.zero_le _, rfl, by simp, by simpa [marks, ints] using ho, World.grownBy.refl _ _⟩
  case round =>
    obtain ⟨k, hk, rfl, rfl, hown, hg⟩ := hrel
    by_cases hlt : k < xs.length
    · obtain ⟨g, rfl, -, -⟩ := owns_addr hown (by omega)
      obtain ⟨u, -, hu⟩ := owns_cell hown hlt
      have hfz := hown.frozenAt k
      go_wp2_with fail
      go_roundw
      case rel =>
        refine ⟨k + 1, by omega, by go_num, by go_num, owns_set hown k _ ?_, grown_setCell hg _ _⟩
        rw [set_over _ _ _ (by rw [ints_len, marks_len]) (by rw [ints_len]; exact hlt), marks_succ, ints_append]
        rfl
      case measure => simp [intOf]; omega
    · go_wp2_with fail
      go_ret
      have hkl : k = xs.length := by omega
      subst hkl
      rw [List.drop_eq_nil_of_le (by rw [ints_len]; exact Nat.le_refl _), List.append_nil] at hown
      exact ⟨rfl, hown, hg⟩

end Go.Proofs.YtimmnnncgnnkgaaGreat

/- Boxes: the block of a struct that a call holds by its address. -/
namespace Go.Proofs.YtimmnnncgnnkgaaGreat
set_option linter.unusedVariables false
set_option linter.unusedSimpArgs false
open Go.RowKit

/-- Block b holds the cells cs, and may be written. -/
def Box (w : World) (b : Nat) (cs : List Value) : Prop := b < w.heap.size ∧ (∀ i u, cs[i]? = some u → w.cell? ⟨b, i, none⟩ = some u) ∧ ∀ i, w.frozen? ⟨b, i, none⟩ = false
section
variable {w w' : World} {b lo hi : Nat} {cs ys : List Value}
theorem Box.new (w : World) (a : Array Value) (t : TypeId) : Box (w.alloc (.cells a t)) w.heap.size a.toList :=
  ⟨by simp, fun i u hu => (World.cell?_alloc_at _ _ _ _ rfl).trans (by simpa using hu), fun i => World.frozen?_alloc_at _ _ _ _ rfl⟩
theorem Box.mid (h : Box w b cs) (m : Mid lo hi w w') (hd : b < lo ∨ hi ≤ b) : Box w' b cs :=
  ⟨Nat.lt_of_lt_of_le h.1 m.size, fun i u hu => (World.cell?_of_block (m.block b h.1 (by omega))).trans (h.2.1 i u hu), fun i => (World.frozen?_of_block (m.block b h.1 (by omega))).trans (h.2.2 i)⟩
theorem Box.cell (h : Box w b cs) (i : Nat) {u : Value} (hu : cs[i]? = some u) : w.cell? ⟨b, i, none⟩ = some u := h.2.1 i u hu
theorem Box.set (h : Box w b cs) (i : Nat) (u : Value) (hi : i < cs.length) (hy : cs.set i u = ys) : Box (w.setCell ⟨b, i, none⟩ u) b ys := by
  subst hy
  have hc := h.2.1 i cs[i] (List.getElem?_eq_getElem hi)
  refine ⟨by simpa using h.1, fun j v hv => ?_, fun j => by rw [World.frozen?_setCell]; exact h.2.2 j⟩
  by_cases hj : j = i
  · subst hj
    rw [List.getElem?_set_self hi] at hv
    rw [World.cell?_setCell_same w _ u hc]
    exact hv
  · rw [List.getElem?_set_ne (Ne.symm hj)] at hv
    rw [World.cell?_setCell_other w _ _ u (by intro e; injection e; omega)]
    exact h.2.1 j v hv
theorem Box.drewN (h : Box w b cs) (n : Nat) : Box (w.drewN n) b cs := h
/-- A step within an interval of blocks that a row of the call's own, or a growing one, spans. -/
theorem Mid.of_grownRow {base : Nat} {e : TypeId} {size : Nat} {v : Value} {n : Nat} {xs : List Value} (h : w.ownsRow base e size v n xs) (hg : w.grownBy w' v.ownBlock) : Mid base w.heap.size w w' :=
  Mid.of_grown hg fun g hg' => h.lt g hg'
theorem owns_mid {base : Nat} {e : TypeId} {size : Nat} {v : Value} {n : Nat} {xs : List Value} (h : w.ownsRow base e size v n xs) (m : Mid lo hi w w') (hd : hi ≤ base ∨ w.heap.size ≤ lo) : w'.ownsRow base e size v n xs := by
  refine ⟨h.1, ?_⟩
  rcases h.2 with hn | ⟨g, cap, cur, hv, hbg, hgg, rest⟩
  · exact .inl hn
  · refine .inr ⟨g, cap, cur, hv, hbg, ?_, rest⟩
    have hlt := (Array.getElem?_eq_some_iff.1 hgg).1
    rw [m.block g hlt (by omega)]
    exact hgg
theorem Mid.drew1 (w : World) : Mid 0 0 w w.drew := ⟨rfl, rfl, rfl, Nat.le_refl _, fun _ _ _ => rfl⟩
/-- A step that turns only blocks that are new since w. -/
theorem Mid.transNew {a b : Nat} {wa : World} (h : Mid lo hi w wa) (m : Mid a b wa w') (ha : w.heap.size ≤ a ∨ b = 0) : Mid lo hi w w' :=
  ⟨m.os.trans h.os, m.tape.trans h.tape, m.output.trans h.output, Nat.le_trans h.size m.size, fun k hk hn =>
    (m.block k (Nat.lt_of_lt_of_le hk h.size) (by omega)).trans (h.block k hk hn)⟩
theorem OSS.mk' {tSI tI : TypeId} {A : Option Addr} {c : Nat} {rows : List Row} {n : Nat} {base : Nat} {xss : List (List Int)} (h : w.ownsRow base tSI 1 (.slice A n c) n (rowsV rows)) (hr : OwnRows w base w.heap.size tI rows) (hd : rowsD rows = xss) :
    OSS w base w.heap.size tSI tI A c xss := by
  have hl : xss.length = n := by rw [← hd, rowsD_len, ← rowsV_len]; simpa using h.1
  subst hl
  exact ⟨Nat.le_refl _, rows, hd, ⟨Nat.le_refl _, h, fun g hg => (h.lt g hg).2⟩, hr⟩
theorem OSS.nil {tSI tI : TypeId} : OSS w lo w.heap.size tSI tI none 0 [] := ⟨Nat.le_refl _, [], rfl, ⟨Nat.le_refl _, ⟨rfl, .inl ⟨rfl, rfl⟩⟩, fun g hg => by simp [Value.ownBlock] at hg⟩, OwnRows.nil⟩
end
end Go.Proofs.YtimmnnncgnnkgaaGreat

/- slices.Sort and slices.Reverse at a slice of ints of the call's own. -/
namespace Go.Proofs.YtimmnnncgnnkgaaGreat
set_option linter.unusedVariables false
set_option linter.unusedSimpArgs false
open Go.RowKit Go.Sort

theorem put_mid {w : World} {g n : Nat} {d : Array Int} {os : Array Obj} : w.grownBy (grow (putRow (Value.int .i64) (Sort.ahead w n) g 0 d) os) (some g) := by
  refine ⟨rfl, rfl, rfl, by simp, fun k hk hne => ?_⟩
  rw [heap_grow_old _ _ (by simpa using hk)]
  have : g ≠ k := fun e => hne (by rw [e])
  simp [putRow, mapBlock, Sort.ahead, Array.getElem?_modify, this]
theorem owns_grow {w : World} {base : Nat} {e : TypeId} {size : Nat} {v : Value} {n : Nat} {xs : List Value} (h : w.ownsRow base e size v n xs) (os : Array Obj) : (grow w os).ownsRow base e size v n xs := by
  refine ⟨h.1, ?_⟩
  rcases h.2 with hn | ⟨g, cap, cur, rfl, hb, hh, rest⟩
  · exact .inl hn
  · refine .inr ⟨g, cap, cur, rfl, hb, ?_, rest⟩
    rw [heap_grow_old _ _ (Array.getElem?_eq_some_iff.1 hh).1]
    exact hh
/-- What a call that turns the slice in place leaves. -/
abbrev Turned (w : World) (lo hi : Nat) (A : Option Addr) (c : Nat) (ys : List Int) (e : Ending) (w' : World) : Prop :=
  e = .returned (.tuple #[]) ∧ w'.ownsRow lo 3 1 (.slice A ys.length c) ys.length (ints ys) ∧ w.grownBy w' (Value.ownBlock (.slice A ys.length c))
theorem sortI (A : Option Addr) (xs : List Int) (c : Nat) (w : World) (lo : Nat) (ho : w.ownsRow lo 3 1 (.slice A xs.length c) xs.length (ints xs)) (hl : xs.length ≤ 1048576) :
    Calls Tryz.prog 164 #[.slice A xs.length c] w (Turned w lo 0 A c (xs.mergeSort fun x y => decide (x ≤ y))) := by
  by_cases hv : Value.slice A xs.length c = .slice none 0 0
  · injection hv with h1 h2 h3
    obtain rfl := List.eq_nil_of_length_eq_zero h2
    subst h1 h3
    exact (Tryz.slices_Sort_int_none none 0 w).mono fun e w' ⟨he, hw⟩ => by
      refine ⟨he, ?_⟩
      first
        | (subst hw; exact ⟨by simpa using ho, World.grownBy.refl _ _⟩)
        | (obtain ⟨n, rfl⟩ := hw; exact ⟨by simpa using ho, World.grownBy.refl _ _⟩)
  · obtain ⟨g, cap, he, hb, hg, hn, hm, hz, hH⟩ := Lib.holds_of_ownsRow (enc := Value.int .i64) (zs := xs) ho hv
    injection he with h1 _ h3
    subst h1 h3
    refine (Tryz.slices_Sort_int g 0 c xs w hH hg (by omega)).mono ?_
    rintro e w' ⟨he, n, os, rfl⟩
    have hlen : (xs.mergeSort fun x y => decide (x ≤ y)).length = xs.length := List.length_mergeSort _
    have h2 := Lib.ownsRow_putRow (enc := Value.int .i64) (q := n) (k := xs.length) (ys := xs.mergeSort fun x y => decide (x ≤ y)) ho hlen (Nat.le_refl _)
    rw [List.take_of_length_le (by omega)] at h2
    refine ⟨he, ?_, ?_⟩
    · rw [hlen]
      exact owns_grow h2 os
    · rw [hlen]
      exact put_mid
end Go.Proofs.YtimmnnncgnnkgaaGreat

/-
  DERIVED: THE SHELF's CONTRACTS AT THIS DUMP, IN PLAIN WORDS (tools/lay-plain.mjs out of 'TryzShelfE.lean', which tools/lay-shelf.mjs wrote): THE SAME DECLARATIONS UNDER THE SAME NAMES: 'import', 'namespace', 'open', 'def', 'theorem' AND NOTHING ELSE: no command of the shelf's: FOR A HAND-IN. Each laying: the table of numbers ('.._ren') and one theorem, a field a fact of the dump's own or the kernel's comparison; each contract: ONE APPLICATION.
-/
namespace Go.Proofs
open Go.Shelf
def Tryz.sortEd_ren : Go.Shelf.Ren := ⟨fun | 6 => 128 | 15 => 154 | 14 => 153 | 28 => 178 | 29 => 179 | 20 => 170 | 21 => 171 | 22 => 172 | 23 => 173 | 24 => 174 | 25 => 175 | 26 => 176 | 27 => 177 | 46 => 186 | 47 => 187 | 48 => 188 | 49 => 189 | 50 => 190 | 57 => 200 | n => n, fun | 22 => 27 | 24 => 78 | 25 => 112 | 3 => 3 | 39 => 129 | 0 => 0 | 53 => 150 | 55 => 152 | 4 => 4 | 46 => 144 | 45 => 143 | 50 => 84 | 5 => 5 | 9 => 9 | 66 => 159 | 70 => 163 | 76 => 170 | 77 => 87 | n => n, fun | n => n⟩
theorem Tryz.sortEd : Go.Proofs.SlLaysF0.n6 Tryz.prog Tryz.sortEd_ren := {
  mixed := by kernel_rfl
  f6 := ⟨Tryz.f128.name, by decide, Tryz.func128.trans (congrArg some (by kernel_rfl))⟩
  f14 := ⟨Tryz.f153.name, by decide, Tryz.func153.trans (congrArg some (by kernel_rfl))⟩
  f15 := Tryz.func154.trans (congrArg some (by kernel_rfl))
  f20 := ⟨Tryz.f170.name, by decide, Tryz.func170.trans (congrArg some (by kernel_rfl))⟩
  f21 := ⟨Tryz.f171.name, by decide, Tryz.func171.trans (congrArg some (by kernel_rfl))⟩
  f22 := ⟨Tryz.f172.name, by decide, Tryz.func172.trans (congrArg some (by kernel_rfl))⟩
  f23 := ⟨Tryz.f173.name, by decide, Tryz.func173.trans (congrArg some (by kernel_rfl))⟩
  f24 := ⟨Tryz.f174.name, by decide, Tryz.func174.trans (congrArg some (by kernel_rfl))⟩
  f25 := ⟨Tryz.f175.name, by decide, Tryz.func175.trans (congrArg some (by kernel_rfl))⟩
  f26 := ⟨Tryz.f176.name, by decide, Tryz.func176.trans (congrArg some (by kernel_rfl))⟩
  f27 := ⟨Tryz.f177.name, by decide, Tryz.func177.trans (congrArg some (by kernel_rfl))⟩
  f28 := Tryz.func178.trans (congrArg some (by kernel_rfl))
  f29 := Tryz.func179.trans (congrArg some (by kernel_rfl))
  f46 := ⟨Tryz.f186.name, by decide, Tryz.func186.trans (congrArg some (by kernel_rfl))⟩
  f47 := Tryz.func187.trans (congrArg some (by kernel_rfl))
  f48 := Tryz.func188.trans (congrArg some (by kernel_rfl))
  f49 := ⟨Tryz.f189.name, by decide, Tryz.func189.trans (congrArg some (by kernel_rfl))⟩
  f50 := ⟨Tryz.f190.name, by decide, Tryz.func190.trans (congrArg some (by kernel_rfl))⟩
  f57 := ⟨Tryz.f200.name, by decide, Tryz.func200.trans (congrArg some (by kernel_rfl))⟩
  t0 := Tryz.underlying0
  a0 := Tryz.isAgg0
  z0 := Tryz.sizeOf0
  v0 := Tryz.zeroValue0
  t3 := Tryz.underlying3
  a3 := Tryz.isAgg3
  z3 := Tryz.sizeOf3
  v3 := Tryz.zeroValue3
  t4 := Tryz.underlying4
  a4 := Tryz.isAgg4
  z4 := Tryz.sizeOf4
  v4 := Tryz.zeroValue4
  t5 := Tryz.underlying5
  a5 := Tryz.isAgg5
  z5 := Tryz.sizeOf5
  v5 := Tryz.zeroValue5
  t9 := Tryz.underlying9
  a9 := Tryz.isAgg9
  z9 := Tryz.sizeOf9
  v9 := Tryz.zeroValue9
  t22 := Tryz.underlying27
  a22 := Tryz.isAgg27
  z22 := Tryz.sizeOf27
  v22 := Tryz.zeroValue27
  t25 := Tryz.underlying112
  a25 := Tryz.isAgg112
  z25 := Tryz.sizeOf112
  v25 := Tryz.zeroValue112
  t39 := Tryz.underlying129
  a39 := Tryz.isAgg129
  z39 := Tryz.sizeOf129
  v39 := Tryz.zeroValue129
  t45 := Tryz.underlying143
  a45 := Tryz.isAgg143
  z45 := Tryz.sizeOf143
  v45 := Tryz.zeroValue143
  t46 := Tryz.underlying144
  a46 := Tryz.isAgg144
  z46 := Tryz.sizeOf144
  v46 := Tryz.zeroValue144
  t50 := Tryz.underlying84
  a50 := Tryz.isAgg84
  z50 := Tryz.sizeOf84
  v50 := Tryz.zeroValue84
  t53 := Tryz.underlying150
  a53 := Tryz.isAgg150
  z53 := Tryz.sizeOf150
  v53 := Tryz.zeroValue150
  t55 := Tryz.underlying152
  a55 := Tryz.isAgg152
  z55 := Tryz.sizeOf152
  v55 := Tryz.zeroValue152
  t66 := Tryz.underlying159
  a66 := Tryz.isAgg159
  z66 := Tryz.sizeOf159
  v66 := Tryz.zeroValue159
  t70 := Tryz.underlying163
  a70 := Tryz.isAgg163
  z70 := Tryz.sizeOf163
  v70 := Tryz.zeroValue163
  t76 := Tryz.underlying170
  a76 := Tryz.isAgg170
  z76 := Tryz.sizeOf170
  v76 := Tryz.zeroValue170
  t77 := Tryz.underlying87
  a77 := Tryz.isAgg87
  z77 := Tryz.sizeOf87
  v77 := Tryz.zeroValue87 }
def Tryz.indexEd_ren : Go.Shelf.Ren := ⟨fun | 6 => 169 | n => n, fun | 22 => 27 | 24 => 78 | 3 => 3 | 0 => 0 | 4 => 4 | n => n, fun | n => n⟩
def Tryz.containsEd_ren : Go.Shelf.Ren := ⟨fun | 7 => 152 | 6 => 169 | n => n, fun | 22 => 27 | 24 => 78 | 4 => 4 | 0 => 0 | 3 => 3 | n => n, fun | n => n⟩
def Tryz.equalEd_ren : Go.Shelf.Ren := ⟨fun | 8 => 142 | n => n, fun | 22 => 27 | 24 => 78 | 4 => 4 | 3 => 3 | 0 => 0 | n => n, fun | n => n⟩
theorem Tryz.equalEd : Go.Proofs.SlLaysQ.n8 Tryz.prog Tryz.equalEd_ren := {
  mixed := by kernel_rfl
  f8 := ⟨Tryz.f142.name, by decide, Tryz.func142.trans (congrArg some (by kernel_rfl))⟩
  t0 := Tryz.underlying0
  a0 := Tryz.isAgg0
  z0 := Tryz.sizeOf0
  v0 := Tryz.zeroValue0
  t3 := Tryz.underlying3
  a3 := Tryz.isAgg3
  z3 := Tryz.sizeOf3
  v3 := Tryz.zeroValue3
  t4 := Tryz.underlying4
  a4 := Tryz.isAgg4
  z4 := Tryz.sizeOf4
  v4 := Tryz.zeroValue4
  t22 := Tryz.underlying27
  a22 := Tryz.isAgg27
  z22 := Tryz.sizeOf27
  v22 := Tryz.zeroValue27 }
end Go.Proofs

/- Contracts of the laws' helpers on slices of int slices. -/
namespace Go.Proofs.YtimmnnncgnnkgaaGreat
set_option linter.unusedVariables false
set_option linter.unusedSimpArgs false
open Go.RowKit

theorem infoSI : (Tryz.prog.info? 25).map (fun i => (i.zero, i.size, i.bytes)) = some (some (.slice none 0 0), 1, 24) := by kernel_rfl
theorem undSSI : Tryz.prog.underlying 39 = some (.slice 25) := by kernel_rfl

/-- What is left of a budget, or -1. -/
def szI (left : Int) (n : Nat) : Int := if (n : Int) ≤ left then left - n else -1

/-- How many numbers stand in the rows. -/
def sumL (xss : List (List Int)) : Nat := (xss.map List.length).sum
/-- The lengths are lengths of slices that there can be. -/
def LenOk (xss : List (List Int)) : Prop := xss.length ≤ 9223372036854775807 ∧ ∀ xs ∈ xss, xs.length ≤ 9223372036854775807

/-- The rows with marks in them, from q on. -/
def markD (q : Int) : List (List Int) → List (List Int)
  | [] => []
  | xs :: r => marks q xs.length :: markD (q + xs.length) r
def markRows (q : Int) : List Row → List Row
  | [] => []
  | r :: t => { r with xs := marks q r.xs.length } :: markRows (q + r.xs.length) t
theorem OwnRows.mark {w w' : World} {lo hi : Nat} {tI : TypeId} {fs bs : List Row} {r : Row} {ys : List Int} (h : OwnRows w lo hi tI (fs ++ r :: bs)) (hg : w.grownBy w' r.v.ownBlock) (hy : ys.length = r.xs.length)
    (ho : w'.ownsRow lo tI 1 r.v r.xs.length (ints ys)) : OwnRows w' lo hi tI (fs ++ { r with xs := ys } :: bs) := by
  have hvv : ({ r with xs := ys } : Row).v = r.v := by simp [Row.v, hy]
  have hp := h.2
  rw [List.pairwise_append, List.pairwise_cons] at hp
  obtain ⟨hp1, ⟨hp2, hp3⟩, hp4⟩ := hp
  refine ⟨fun s hs => ?_, ?_⟩
  · rcases List.mem_append.1 hs with hm | hm
    · have ⟨h1, h2, h3⟩ := h.1 s (List.mem_append_left _ hm)
      exact ⟨Nat.le_trans h1 hg.size, h2.kept hg (hp4 s hm r List.mem_cons_self), h3⟩
    · rcases List.mem_cons.1 hm with hm | hm
      · subst hm
        have ⟨h1, h2, h3⟩ := h.1 r (List.mem_append_right _ List.mem_cons_self)
        refine ⟨Nat.le_trans h1 hg.size, ?_, ?_⟩
        · show w'.ownsRow lo tI 1 (.slice r.A ys.length r.c) ys.length (ints ys)
          rw [hy]
          exact ho
        · show ∀ g, Value.ownBlock (.slice r.A ys.length r.c) = some g → g < hi
          rw [hy]
          exact h3
      · have ⟨h1, h2, h3⟩ := h.1 s (List.mem_append_right _ (List.mem_cons_of_mem _ hm))
        refine ⟨Nat.le_trans h1 hg.size, h2.kept hg ?_, h3⟩
        rcases hp2 s hm with hn | hn
        · cases hv : s.v.ownBlock with
          | none => exact .inl hv
          | some g =>
            refine .inr ?_
            show s.v.ownBlock ≠ _
            rw [hn, hv]
            simp
        · exact .inr (fun e => hn e.symm)
  · rw [List.pairwise_append, List.pairwise_cons]
    refine ⟨hp1, ⟨fun s hs => by rw [hvv]; exact hp2 s hs, hp3⟩, fun s hs t ht => ?_⟩
    rcases List.mem_cons.1 ht with rfl | ht
    · rw [hvv]
      exact hp4 s hs r List.mem_cons_self
    · exact hp4 s hs t (List.mem_cons_of_mem _ ht)

theorem OV.grown {w w' : World} {lo hi : Nat} {e : TypeId} {size : Nat} {A : Option Addr} {c n : Nat} {cs : List Value} {row : Option Nat} (h : OV w lo hi e size A c n cs) (hg : w.grownBy w' row)
    (hne : Value.ownBlock (.slice A n c) = none ∨ Value.ownBlock (.slice A n c) ≠ row) : OV w' lo hi e size A c n cs :=
  ⟨Nat.le_trans h.1 hg.size, h.2.1.kept hg hne, h.2.2⟩

end Go.Proofs.YtimmnnncgnnkgaaGreat

/- Contracts: equality of words and of lists of words; words of a rank. -/
namespace Go.Proofs.YtimmnnncgnnkgaaGreat
set_option linter.unusedVariables false
set_option linter.unusedSimpArgs false
open Go.RowKit

end Go.Proofs.YtimmnnncgnnkgaaGreat

/- Contracts: equality of lists of words. -/
namespace Go.Proofs.YtimmnnncgnnkgaaGreat
set_option linter.unusedVariables false
set_option linter.unusedSimpArgs false
open Go.RowKit

end Go.Proofs.YtimmnnncgnnkgaaGreat

/- Contracts: letters and words of a rank. -/
namespace Go.Proofs.YtimmnnncgnnkgaaGreat
set_option linter.unusedVariables false
set_option linter.unusedSimpArgs false
open Go.RowKit

set_option maxHeartbeats 400000 in
theorem impl_areInverse (a b : Int) (w : World) (ha : -9223372036854775808 ≤ a) (ha2 : a ≤ 9223372036854775807) :
    Calls Tryz.prog 102 #[.int .i64 a, .int .i64 b] w fun e w' => e = .returned (.bool (invB a b)) ∧ w = w' := by
  by_cases h0 : a = 0
  · subst h0
    go_enter Tryz.func102, Tryz.ntmps102
    go_wp2_with fail
    go_ret
    exact ⟨by simp [invB], rfl⟩
  · by_cases hm : a = minI
    · have hr : invB a b = false := by simp [invB, hm]
      rw [hr]
      clear h0 hr
      subst hm
      unfold minI
      clear ha ha2
      go_enter Tryz.func102, Tryz.ntmps102
      go_wp2_with fail
      go_ret
      exact ⟨rfl, rfl⟩
    · have hlo : -9223372036854775807 ≤ a := by unfold minI at hm; omega
      have hx : (a != 0) = true := by simpa using h0
      by_cases hb : (b == -a) = true
      · have hr : invB a b = true := by simp [invB, h0, hm]; simpa using hb
        rw [hr]
        clear h0 hm hr
        go_enter Tryz.func102, Tryz.ntmps102
        go_wp2_with fail
        go_ret
        exact ⟨by simp; omega, rfl⟩
      · have hb' : (b == -a) = false := by simpa using hb
        have hr : invB a b = false := by simp [invB]; intro _ _; simpa using hb
        rw [hr]
        clear h0 hm hr hb
        go_enter Tryz.func102, Tryz.ntmps102
        go_wp2_with fail
        go_ret
        exact ⟨rfl, rfl⟩

set_option maxHeartbeats 400000 in
theorem impl_isLetter (rank x : Int) (w : World) (h1 : 1 ≤ rank) (h3 : rank ≤ 3) :
    Calls Tryz.prog 101 #[.int .i64 rank, .int .i64 x] w fun e w' => e = .returned (.bool (letB rank x)) ∧ w = w' := by
  by_cases h0 : x = 0
  · subst h0
    go_enter Tryz.func101, Tryz.ntmps101
    go_wp2_with fail
    go_ret
    exact ⟨by simp [letB], rfl⟩
  · have hx : (x != 0) = true := by simpa using h0
    have hr : letB rank x = inB x (-rank) rank := by simp [letB, inB, h0]
    rw [hr]
    clear h0 hr
    go_enter Tryz.func101, Tryz.ntmps101
    go_wp2_with fail
    with_reducible refine (within_any _ _ _ _).mono ?_
    rintro e w' ⟨rfl, rfl⟩
    go_wp2_with fail
    go_ret
    exact ⟨rfl, rfl⟩

set_option maxHeartbeats 400000 in
theorem impl_compareInts (a b : Int) (w : World) :
    Calls Tryz.prog 155 #[.int .i64 a, .int .i64 b] w fun e w' => e = .returned (.int .i64 (cmpI a b)) ∧ w = w' := by
  by_cases h1 : a < b
  · have hr : cmpI a b = -1 := by simp [cmpI, h1]
    rw [hr]
    clear hr
    go_enter Tryz.func155, Tryz.ntmps155
    go_wp2_with fail
    go_ret
    exact ⟨rfl, rfl⟩
  · by_cases h2 : b < a
    · have hr : cmpI a b = 1 := by simp [cmpI, h1, h2]
      rw [hr]
      clear hr
      go_enter Tryz.func155, Tryz.ntmps155
      go_wp2_with fail
      go_ret
      exact ⟨rfl, rfl⟩
    · have hr : cmpI a b = 0 := by simp [cmpI, h1, h2]
      rw [hr]
      clear hr
      go_enter Tryz.func155, Tryz.ntmps155
      go_wp2_with fail
      go_ret
      exact ⟨rfl, rfl⟩

theorem wrap_neg {x : Int} (h1 : -9223372036854775808 ≤ x) (h2 : x ≤ 9223372036854775807) : wrap64 (-x) = negI x := by
  unfold negI minI
  by_cases h : x = -9223372036854775808
  · rw [if_pos h, h]
    unfold wrap64
    omega
  · rw [if_neg h]
    exact IntWalk.wrap64_in _ ⟨by omega, by omega⟩
end Go.Proofs.YtimmnnncgnnkgaaGreat

/- append(out, xs...) at a step of a region that draws its order, and at one operation; a cell behind a step. -/
namespace Go.Proofs.YtimmnnncgnnkgaaGreat
set_option linter.unusedVariables false
set_option linter.unusedSimpArgs false
open Go.RowKit

theorem cell_keep {w w' : World} {lo hi b i : Nat} {u : Value} (m : Mid lo hi w w') (hb : b < w.heap.size) (hd : b < lo ∨ hi ≤ b) (hc : w.cell? ⟨b, i, none⟩ = some u) : w'.cell? ⟨b, i, none⟩ = some u :=
  (World.cell?_of_block (m.block b hb (by omega))).trans hc

section
variable {P : Program} {w : World}
theorem run_cat (base : Nat) (t ty e : TypeId) (z : Value) (size bytes : Nat) (ht : P.underlying t = some (.slice e)) (hinfo : (P.info? e).map (fun i => (i.zero, i.size, i.bytes)) = some (some z, size, bytes))
    (hzs : z.cells.size = size) (hsz : 0 < size)
    (v : Value) (n : Nat) (xs : List Value) (hown : w.ownsRow base e size v n xs)
    (A : Option Addr) (m c B : Nat) (news : List Value) (hr : Rs w B A news) (hl : news.length = m * size) (h1 : ∀ u ∈ news, u.oneCell' = true)
    (h63 : n + m ≤ maxLen) (hbytes : (n + m) * bytes ≤ 140737488355328) (hbase : base ≤ w.heap.size) :
    ∃ v' w', (Builtin.append_ #[t, t] ty #[v, .slice A m c]).run P w = .ok v' w' ∧ w'.ownsRow base e size v' (n + m) (xs ++ news) ∧ w.grownBy w' v.ownBlock ∧
      (v'.ownBlock = v.ownBlock ∨ v'.ownBlock = some w.heap.size) := by
  obtain ⟨i, hi, hz, hsize, hby⟩ := info_parts hinfo
  rcases A with _ | ad
  · have hn : news = [] := by
      cases hne : news with
      | nil => rfl
      | cons u r =>
        obtain ⟨b, off, he, _⟩ := hr (by rw [hne]; simp)
        cases he
    subst hn
    have hm : m = 0 := by
      rcases Nat.eq_zero_or_pos m with h0 | h0
      · exact h0
      · have := Nat.mul_pos h0 hsz
        simp at hl
        omega
    subst hm
    exact ⟨v, w, run_append_none base t ty e i size ht hi v n xs hown c, by simpa using hown, World.grownBy.refl w _, .inl rfl⟩
  · have hcells : ∀ j u, news[j]? = some u → w.cell? (ad.add j) = some u := by
      intro j u hu
      obtain ⟨b, off, he, _, hc⟩ := hr (by intro h0; subst h0; simp at hu)
      injection he with he
      subst he
      rw [Addr.add_lit]
      exact hc j u hu
    obtain ⟨v', w', hrun, h2, h3, _, h5⟩ := run_append_own_at (P := P) w base t ty e i z size bytes ht hi hz hsize hby hzs hsz v n xs hown ad m c news hl hcells h1 h63 hbytes hbase
    exact ⟨v', w', hrun, h2, h3, h5⟩
theorem wp_cat {o : Oper} {a : Act} {K : Act → World → Prop} {Q : Exit → Act → World → Prop} (s x : Operand) (t : TypeId)
    (ho : o.op = .call { callee := .builtin .append, args := #[s, x], argTypes := #[t, t] })
    (base : Nat) (e : TypeId) (z : Value) (size bytes : Nat) (ht : P.underlying t = some (.slice e)) (hinfo : (P.info? e).map (fun i => (i.zero, i.size, i.bytes)) = some (some z, size, bytes))
    (hzs : z.cells.size = size) (hsz : 0 < size)
    (v : Value) (n : Nat) (xs : List Value) (hs : a.eval s = v) (hown : w.ownsRow base e size v n xs)
    (A : Option Addr) (m c B : Nat) (news : List Value) (hx : a.eval x = .slice A m c) (hr : Rs w B A news) (hl : news.length = m * size) (h1 : ∀ u ∈ news, u.oneCell' = true)
    (h63 : n + m ≤ maxLen) (hbytes : (n + m) * bytes ≤ 140737488355328) (hbase : base ≤ w.heap.size)
    (h : ∀ v' w', w'.ownsRow base e size v' (n + m) (xs ++ news) → w.grownBy w' v.ownBlock → (v'.ownBlock = v.ownBlock ∨ v'.ownBlock = some w.heap.size) → K (a.put o.dst v') w') : o.wp P a w K Q := by
  obtain ⟨v', w', hrun, h2, h3, h4⟩ := run_cat (P := P) base t o.type e z size bytes ht hinfo hzs hsz v n xs hown A m c B news hr hl h1 h63 hbytes hbase
  unfold Oper.wp execOp
  simp only [ho, resolve, invoke, builtin, Sem.run_bind, Sem.run_pure, Result.andThen_ok, List.map_toArray, List.map_cons, List.map_nil, hs, hx, hrun]
  exact h v' w' h2 h3 h4
theorem step_cat {ops : Array Oper} {o : Oper} {a : Act} {K : Act → World → Prop} {Q : Exit → Act → World → Prop} {E : Prop} (hgd : o.guard = none) (s x : Operand) (t : TypeId)
    (ho : o.op = .call { callee := .builtin .append, args := #[s, x], argTypes := #[t, t] })
    (base : Nat) (e : TypeId) (z : Value) (size bytes : Nat) (ht : P.underlying t = some (.slice e)) (hinfo : (P.info? e).map (fun i => (i.zero, i.size, i.bytes)) = some (some z, size, bytes))
    (hzs : z.cells.size = size) (hsz : 0 < size)
    (v : Value) (n : Nat) (xs : List Value) (hs : a.eval s = v) (hown : w.ownsRow base e size v n xs)
    (A : Option Addr) (m c B : Nat) (news : List Value) (hx : a.eval x = .slice A m c) (hr : Rs w B A news) (hl : news.length = m * size) (h1 : ∀ u ∈ news, u.oneCell' = true)
    (h63 : n + m ≤ maxLen) (hbytes : (n + m) * bytes ≤ 140737488355328) (hbase : base ≤ w.heap.size)
    (h : ∀ v' w', w'.ownsRow base e size v' (n + m) (xs ++ news) → w.grownBy w' v.ownBlock → (v'.ownBlock = v.ownBlock ∨ v'.ownBlock = some w.heap.size) → K (a.put o.dst v') w') :
    if Region.wanted o (yielded ops a.tmps) = true then Oper.wp P o a w K Q else E := by
  have hw : Region.wanted o (yielded ops a.tmps) = true := by simp [Region.wanted, hgd]
  rw [if_pos hw]
  exact wp_cat s x t ho base e z size bytes ht hinfo hzs hsz v n xs hs hown A m c B news hx hr hl h1 h63 hbytes hbase h
end
end Go.Proofs.YtimmnnncgnnkgaaGreat

/- Regions that draw their order, only read, and call functions that read and lay blocks of their own: one walk. -/
namespace Go.Proofs.YtimmnnncgnnkgaaGreat
set_option linter.unusedVariables false
set_option linter.unusedSimpArgs false
open Go.RowKit

/-- w with blocks laid behind it, at another count of draws. -/
def wg (w : World) (m : Nat) (os : Array Obj) : World := { w with heap := w.heap ++ os, drawn := m }
structure GB where
  n : Nat
  os : Array Obj
  deriving Inhabited
theorem Mid.ofWg (w : World) (m : Nat) (os : Array Obj) : Mid 0 0 w (wg w m os) :=
  ⟨rfl, rfl, rfl, by simp [wg], fun k hk _ => by simp [wg, Array.getElem?_append, hk]⟩
theorem Mid.toWg {w w' : World} (h : Mid 0 0 w w') : ∃ p : GB, w' = wg w p.n p.os := by
  refine ⟨⟨w'.drawn, w'.heap.extract w.heap.size w'.heap.size⟩, ?_⟩
  have hh : w'.heap = w.heap ++ w'.heap.extract w.heap.size w'.heap.size := by
    apply Array.ext_getElem?
    intro k
    by_cases hk : k < w.heap.size
    · rw [Array.getElem?_append_left hk]
      exact h.block k hk (by omega)
    · rw [Array.getElem?_append_right (by omega), Array.getElem?_extract]
      have hs := h.size
      by_cases hk2 : k < w'.heap.size
      · rw [if_pos (by omega), show w.heap.size + (k - w.heap.size) = k by omega]
      · rw [if_neg (by omega), Array.getElem?_eq_none (by omega)]
  have h1 := h.os
  have h2 := h.tape
  have h3 := h.output
  cases w'
  cases w
  simp only [wg] at *
  subst h1 h2 h3
  congr 1
theorem wg_cell {w : World} {a : Addr} {v : Value} (hb : a.block < w.heap.size) (h : w.cell? a = some v) (n : Nat) (os : Array Obj) : (wg w n os).cell? a = some v :=
  (World.cell?_of_block ((Mid.ofWg w n os).block a.block hb (by omega))).trans h
theorem wg_size (w : World) (n : Nat) (os : Array Obj) : (wg w n os).heap.size = w.heap.size + os.size := by simp [wg]
theorem wp_region_quiet_wg {P : Program} {id : Nat} {Q : Exit → Act → World → Prop} {a : Act} {w : World} {l : List Oper} (hm : P.follows .mixedOrders = true) (hB : Region.lexB .any l.toArray = true)
    (h : wpQuiet P l.toArray (fun w' => ∃ p : GB, w' = wg w p.n p.os) (fun a' => ∀ w', (∃ p : GB, w' = wg w p.n p.os) → Q .normal a' w') l a) : (Code.region id l.toArray true).wp P Q a w :=
  wp_region_quiet (C := fun w' => ∃ p : GB, w' = wg w p.n p.os) hm hB (Mid.drew1 w).toWg (by simpa using h)
/-- A callee's contract, met in a world of the class. -/
theorem Calls.wg_of {P : Program} {f : FuncId} {args : Array Value} {w : World} {n : Nat} {os : Array Obj} {v : Value}
    (h : Calls P f args (wg w n os) fun e w' => e = .returned v ∧ Mid 0 0 (wg w n os) w') : Calls P f args (wg w n os) fun e w'' => e = .returned v ∧ ∃ p : GB, w'' = wg w p.n p.os :=
  h.mono fun _ _ ⟨he, hm⟩ => ⟨he, ((Mid.ofWg w n os).trans hm).toWg⟩
/-- The same where the callee leaves the world alone. -/
theorem Calls.wg_same {P : Program} {f : FuncId} {args : Array Value} {w : World} {n : Nat} {os : Array Obj} {v : Value}
    (h : Calls P f args (wg w n os) fun e w' => e = .returned v ∧ wg w n os = w') : Calls P f args (wg w n os) fun e w'' => e = .returned v ∧ ∃ p : GB, w'' = wg w p.n p.os :=
  h.mono fun _ _ ⟨he, hm⟩ => ⟨he, ⟨n, os⟩, hm.symm⟩
end Go.Proofs.YtimmnnncgnnkgaaGreat

/- Edges: their order and their places, both sides. -/
namespace Go.Proofs.YtimmnnncgnnkgaaGreat
set_option linter.unusedVariables false
set_option linter.unusedSimpArgs false
open Go.RowKit

abbrev Ed.v (e : Ed) : Value := .agg #[.int .i64 e.a, .int .i64 e.l, .int .i64 e.b]
/-- An edge lies in a graph. -/
def edB (r s : Int) (e : Ed) : Bool := inB e.a 0 (wrap64 (s - 1)) && inB e.b 0 (wrap64 (s - 1)) && inB e.l 1 r
/-- The cells of an edge of a slice. -/
theorem RV.ed {w : World} {lo hi : Nat} {A : Option Addr} {es : List Ed} {k : Nat} (h : RV w lo hi A (ints (edI es))) (hk : k < es.length) :
    ∃ b off e, A = some ⟨b, off, none⟩ ∧ lo ≤ b ∧ b < hi ∧ es[k]? = some e ∧ w.cell? ⟨b, off + k * 3, none⟩ = some (.int .i64 e.a) ∧ w.cell? ⟨b, off + k * 3 + 1, none⟩ = some (.int .i64 e.l) ∧ w.cell? ⟨b, off + k * 3 + 2, none⟩ = some (.int .i64 e.b) := by
  obtain ⟨e, he⟩ := get_of_lt es hk
  obtain ⟨g0, g1, g2⟩ := edI_at he
  obtain ⟨b, off, hA, h1, h2, hc⟩ := h.2 (by intro h0; have := congrArg List.length h0; rw [ints_len, edI_len] at this; simp at this; omega)
  exact ⟨b, off, e, hA, h1, h2, he, hc (k * 3) _ (by rw [ints_get, g0]; rfl), hc (k * 3 + 1) _ (by rw [ints_get, g1]; rfl), hc (k * 3 + 2) _ (by rw [ints_get, g2]; rfl)⟩

set_option maxHeartbeats 400000 in
theorem impl_has (r s : Int) (A : Option Addr) (n c : Nat) (x : Int) (w : World) (b : Bool) (hb : inB x 0 (wrap64 (s - 1)) = b) :
    Calls Tryz.prog 123 #[.agg #[.int .i64 r, .int .i64 s, .slice A n c], .int .i64 x] w fun e w' => e = .returned (.bool b) ∧ Mid 0 0 w w' := by
  subst hb
  go_enter Tryz.func123, Tryz.ntmps123
  go_wp2_with fail
  with_reducible refine (within_any _ _ _ _).mono ?_
  rintro e w' ⟨rfl, rfl⟩
  go_wp2_with fail
  go_ret
  exact ⟨rfl, Mid.alloc _ _⟩

set_option maxHeartbeats 800000 in
theorem impl_accepts (r s : Int) (A : Option Addr) (n c : Nat) (e : Ed) (w : World) :
    Calls Tryz.prog 163 #[.agg #[.int .i64 r, .int .i64 s, .slice A n c], e.v] w fun en w' => en = .returned (.bool (edB r s e)) ∧ Mid 0 0 w w' := by
  obtain ⟨a, l, b⟩ := e
  have hm0 : Mid 0 0 w ((w.alloc (.cells #[.int .i64 r, .int .i64 s, .slice A n c] 29)).alloc (.cells #[.int .i64 a, .int .i64 l, .int .i64 b] 78)) := (Mid.alloc _ _).trans (Mid.alloc _ _)
  have B0 := (Box.new w #[.int .i64 r, .int .i64 s, .slice A n c] 29).mid (Mid.alloc _ (.cells #[.int .i64 a, .int .i64 l, .int .i64 b] 78)) (Or.inr (Nat.zero_le _))
  have B1 := Box.new (w.alloc (.cells #[.int .i64 r, .int .i64 s, .slice A n c] 29)) #[.int .i64 a, .int .i64 l, .int .i64 b] 78
  cases h1 : inB a 0 (wrap64 (s - 1)) with
  | false =>
    have hv : edB r s ⟨a, l, b⟩ = false := by simp [edB, h1]
    rw [hv]
    clear hv B0 B1
    go_enter Tryz.func163, Tryz.ntmps163
    go_wp2_with fail
    with_reducible refine (impl_has _ _ _ _ _ _ _ _ h1).mono ?_
    rintro en w1 ⟨rfl, hm1⟩
    go_wp2_with fail
    go_ret
    exact ⟨rfl, hm0.trans hm1⟩
  | true =>
    cases h2 : inB b 0 (wrap64 (s - 1)) with
    | false =>
      have hv : edB r s ⟨a, l, b⟩ = false := by simp [edB, h2]
      rw [hv]
      clear hv
      go_enter Tryz.func163, Tryz.ntmps163
      go_wp2_with fail
      with_reducible refine (impl_has _ _ _ _ _ _ _ _ h1).mono ?_
      rintro en w1 ⟨rfl, hm1⟩
      have C0 := B0.mid hm1 (Or.inr (Nat.zero_le _))
      have C1 := B1.mid hm1 (Or.inr (Nat.zero_le _))
      have c00 := C0.cell 0 rfl
      have c01 := C0.cell 1 rfl
      have c02 := C0.cell 2 rfl
      have c10 := C1.cell 0 rfl
      have c11 := C1.cell 1 rfl
      have c12 := C1.cell 2 rfl
      simp only [World.size_alloc] at c10 c11 c12
      go_wp2_with fail
      with_reducible refine (impl_has _ _ _ _ _ _ _ _ h2).mono ?_
      rintro en w2 ⟨rfl, hm2⟩
      go_wp2_with fail
      go_ret
      exact ⟨rfl, (hm0.trans hm1).trans hm2⟩
    | true =>
      have hv : edB r s ⟨a, l, b⟩ = inB l 1 r := by simp [edB, h1, h2]
      rw [hv]
      clear hv
      go_enter Tryz.func163, Tryz.ntmps163
      go_wp2_with fail
      with_reducible refine (impl_has _ _ _ _ _ _ _ _ h1).mono ?_
      rintro en w1 ⟨rfl, hm1⟩
      have C0 := B0.mid hm1 (Or.inr (Nat.zero_le _))
      have C1 := B1.mid hm1 (Or.inr (Nat.zero_le _))
      have c00 := C0.cell 0 rfl
      have c01 := C0.cell 1 rfl
      have c02 := C0.cell 2 rfl
      have c10 := C1.cell 0 rfl
      have c11 := C1.cell 1 rfl
      have c12 := C1.cell 2 rfl
      simp only [World.size_alloc] at c10 c11 c12
      go_wp2_with fail
      with_reducible refine (impl_has _ _ _ _ _ _ _ _ h2).mono ?_
      rintro en w2 ⟨rfl, hm2⟩
      have D0 := C0.mid hm2 (Or.inr (Nat.zero_le _))
      have D1 := C1.mid hm2 (Or.inr (Nat.zero_le _))
      have d00 := D0.cell 0 rfl
      have d11 := D1.cell 1 rfl
      simp only [World.size_alloc] at d11
      go_wp2_with fail
      with_reducible refine (within_any _ _ _ _).mono ?_
      rintro en w3 ⟨rfl, rfl⟩
      go_wp2_with fail
      go_ret
      exact ⟨rfl, (hm0.trans hm1).trans hm2⟩

set_option maxHeartbeats 800000 in
theorem spec_l4Edge (r s : Int) (A : Option Addr) (n c : Nat) (e : Ed) (w : World) :
    Calls Tryz.prog 159 #[.agg #[.int .i64 r, .int .i64 s, .slice A n c], e.v] w fun en w' => en = .returned (.bool (edB r s e)) ∧ Mid 0 0 w w' := by
  obtain ⟨a, l, b⟩ := e
  have hm0 : Mid 0 0 w ((w.alloc (.cells #[.int .i64 r, .int .i64 s, .slice A n c] 29)).alloc (.cells #[.int .i64 a, .int .i64 l, .int .i64 b] 78)) := (Mid.alloc _ _).trans (Mid.alloc _ _)
  have hL : ∀ x lo hi (W : World) (b : Bool), inB x lo hi = b → Calls Tryz.prog 77 #[.int .i64 x, .int .i64 lo, .int .i64 hi] W fun e w' => e = .returned (.bool b) ∧ W = w' := fun x lo hi W b h => h ▸ l1In_any x lo hi W
  cases h1 : inB a 0 (wrap64 (s - 1)) with
  | false =>
    have hv : edB r s ⟨a, l, b⟩ = false := by simp [edB, h1]
    rw [hv]
    clear hv
    go_enter Tryz.func159, Tryz.ntmps159
    go_wp2_with fail
    with_reducible refine (hL _ _ _ _ _ h1).mono ?_
    rintro en w1 ⟨rfl, rfl⟩
    go_wp2_with fail
    go_ret
    exact ⟨rfl, hm0⟩
  | true =>
    cases h2 : inB b 0 (wrap64 (s - 1)) with
    | false =>
      have hv : edB r s ⟨a, l, b⟩ = false := by simp [edB, h2]
      rw [hv]
      clear hv
      go_enter Tryz.func159, Tryz.ntmps159
      go_wp2_with fail
      with_reducible refine (hL _ _ _ _ _ h1).mono ?_
      rintro en w1 ⟨rfl, rfl⟩
      go_wp2_with fail
      with_reducible refine (hL _ _ _ _ _ h2).mono ?_
      rintro en w1 ⟨rfl, rfl⟩
      go_wp2_with fail
      go_ret
      exact ⟨rfl, hm0⟩
    | true =>
      have hv : edB r s ⟨a, l, b⟩ = inB l 1 r := by simp [edB, h1, h2]
      rw [hv]
      clear hv
      go_enter Tryz.func159, Tryz.ntmps159
      go_wp2_with fail
      with_reducible refine (hL _ _ _ _ _ h1).mono ?_
      rintro en w1 ⟨rfl, rfl⟩
      go_wp2_with fail
      with_reducible refine (hL _ _ _ _ _ h2).mono ?_
      rintro en w1 ⟨rfl, rfl⟩
      go_wp2_with fail
      with_reducible refine (l1In_any _ _ _ _).mono ?_
      rintro en w1 ⟨rfl, rfl⟩
      go_wp2_with fail
      go_ret
      exact ⟨rfl, hm0⟩

set_option maxHeartbeats 800000 in
theorem impl_CompareEdgesW (e f : Ed) (w : World) :
    Calls Tryz.prog 129 #[e.v, f.v] w fun en w' => en = .returned (.int .i64 (cmpE e f)) ∧ ((w.alloc (.cells #[.int .i64 e.a, .int .i64 e.l, .int .i64 e.b] 78)).alloc (.cells #[.int .i64 f.a, .int .i64 f.l, .int .i64 f.b] 78)) = w' := by
  obtain ⟨a, l, b⟩ := e
  obtain ⟨a', l', b'⟩ := f
  have hC : ∀ x y (W : World) (v : Int), cmpI x y = v → Calls Tryz.prog 155 #[.int .i64 x, .int .i64 y] W fun e w' => e = .returned (.int .i64 v) ∧ W = w' := fun x y W v h => h ▸ impl_compareInts x y W
  obtain ⟨u, hu⟩ : ∃ u, cmpI a a' = u := ⟨_, rfl⟩
  obtain ⟨v, hv⟩ : ∃ v, cmpI l l' = v := ⟨_, rfl⟩
  have he : cmpE ⟨a, l, b⟩ ⟨a', l', b'⟩ = if u ≠ 0 then u else if v ≠ 0 then v else cmpI b b' := by simp [cmpE, hu, hv]
  rw [he]
  clear he
  by_cases h1 : u = 0
  · by_cases h2 : v = 0
    · rw [if_neg (by simpa using h1), if_neg (by simpa using h2)]
      subst h1
      subst h2
      go_enter Tryz.func129, Tryz.ntmps129
      go_wp2_with fail
      with_reducible refine (hC _ _ _ _ hu).mono ?_
      rintro en w1 ⟨rfl, rfl⟩
      go_wp2_with fail
      with_reducible refine (hC _ _ _ _ hv).mono ?_
      rintro en w1 ⟨rfl, rfl⟩
      go_wp2_with fail
      with_reducible refine (impl_compareInts _ _ _).mono ?_
      rintro en w1 ⟨rfl, rfl⟩
      go_wp2_with fail
      go_ret
      exact ⟨rfl, rfl⟩
    · rw [if_neg (by simpa using h1), if_pos (by simpa using h2)]
      subst h1
      have hn : (v != 0) = true := by simpa using h2
      go_enter Tryz.func129, Tryz.ntmps129
      go_wp2_with fail
      with_reducible refine (hC _ _ _ _ hu).mono ?_
      rintro en w1 ⟨rfl, rfl⟩
      go_wp2_with fail
      with_reducible refine (hC _ _ _ _ hv).mono ?_
      rintro en w1 ⟨rfl, rfl⟩
      go_wp2_with fail
      go_ret
      exact ⟨rfl, rfl⟩
  · rw [if_pos (by simpa using h1)]
    have hn : (u != 0) = true := by simpa using h1
    go_enter Tryz.func129, Tryz.ntmps129
    go_wp2_with fail
    with_reducible refine (hC _ _ _ _ hu).mono ?_
    rintro en w1 ⟨rfl, rfl⟩
    go_wp2_with fail
    go_ret
    exact ⟨rfl, rfl⟩
theorem impl_CompareEdges (e f : Ed) (w : World) :
    Calls Tryz.prog 129 #[e.v, f.v] w fun en w' => en = .returned (.int .i64 (cmpE e f)) ∧ Mid 0 0 w w' :=
  (impl_CompareEdgesW e f w).mono fun _ _ ⟨h, hw⟩ => ⟨h, hw ▸ (Mid.alloc _ _).trans (Mid.alloc _ _)⟩
end Go.Proofs.YtimmnnncgnnkgaaGreat

/- The reference's order of edges. -/
namespace Go.Proofs.YtimmnnncgnnkgaaGreat
set_option linter.unusedVariables false
set_option linter.unusedSimpArgs false
open Go.RowKit

theorem cmpI_lt {a b : Int} (h : a < b) : cmpI a b = -1 := by simp [cmpI, h]
theorem cmpI_gt {a b : Int} (h : b < a) : cmpI a b = 1 := by simp [cmpI, h, show ¬ a < b from by omega]
theorem cmpE_first {e f : Ed} {v : Int} (h : cmpI e.a f.a = v) (h0 : v ≠ 0) : cmpE e f = v := by simp [cmpE, h, h0]
theorem cmpE_second {e f : Ed} {v : Int} (h1 : e.a = f.a) (h : cmpI e.l f.l = v) (h0 : v ≠ 0) : cmpE e f = v := by simp [cmpE, cmpI_zero.2 h1, h, h0]
theorem cmpE_third {e f : Ed} {v : Int} (h1 : e.a = f.a) (h2 : e.l = f.l) (h : cmpI e.b f.b = v) : cmpE e f = v := by simp [cmpE, cmpI_zero.2 h1, cmpI_zero.2 h2, h]

set_option maxHeartbeats 1600000 in
theorem spec_CompareEdges (e f : Ed) (w : World) :
    Calls Tryz.prog 127 #[e.v, f.v] w fun en w' => en = .returned (.int .i64 (cmpE e f)) ∧ Mid 0 0 w w' := by
  obtain ⟨a, l, b⟩ := e
  obtain ⟨a', l', b'⟩ := f
  obtain ⟨u, hu⟩ : ∃ u, cmpE ⟨a, l, b⟩ ⟨a', l', b'⟩ = u := ⟨_, rfl⟩
  rw [hu]
  have HU := Lib.hid hu
  clear hu
  go_enter Tryz.func127, Tryz.ntmps127
  go_wp2_with fail
  go_loopw [4, 7] (fun _ i wr => ∃ k : Nat, i = .int .i64 k ∧ k ≤ 3 ∧ Mid 0 0 w wr ∧ (0 < k → a = a') ∧ (1 < k → l = l') ∧ (2 < k → b = b') ∧
      wr.cell? ⟨w.heap.size + 1 + 1, 0, none⟩ = some (.int .i64 a) ∧ wr.cell? ⟨w.heap.size + 1 + 1, 1, none⟩ = some (.int .i64 l) ∧ wr.cell? ⟨w.heap.size + 1 + 1, 2, none⟩ = some (.int .i64 b) ∧
      wr.cell? ⟨w.heap.size + 1 + 1 + 1, 0, none⟩ = some (.int .i64 a') ∧ wr.cell? ⟨w.heap.size + 1 + 1 + 1, 1, none⟩ = some (.int .i64 l') ∧ wr.cell? ⟨w.heap.size + 1 + 1 + 1, 2, none⟩ = some (.int .i64 b')) (fun _ i _ => 4 - (intOf i).toNat)
  case atStart =>
    refine ⟨0, rfl, by omega, ?_, by simp, by simp, by simp, ?_, ?_, ?_, ?_, ?_, ?_⟩
    · exact (((Mid.alloc _ _).trans (Mid.alloc _ _)).trans (Mid.alloc _ _)).trans (Mid.alloc _ _)
    all_goals simp [World.cell?_alloc_at, World.cell?_alloc_past]
  case round =>
    obtain ⟨k, rfl, hk, hm, e0, e1, e2, c0, c1, c2, d0, d1, d2⟩ := hrel
    by_cases h3 : 3 ≤ k
    · go_wp2_with fail
      go_ret
      obtain rfl : u = 0 := by rw [← HU.out]; exact cmpE_third (e0 (by omega)) (e1 (by omega)) (cmpI_zero.2 (e2 (by omega)))
      exact ⟨rfl, hm⟩
    · have step : ∀ (x y : Int), wr.cell? ⟨w.heap.size + 1 + 1, k, none⟩ = some (.int .i64 x) → wr.cell? ⟨w.heap.size + 1 + 1 + 1, k, none⟩ = some (.int .i64 y) → True := fun _ _ _ _ => trivial
      obtain ⟨x, y, cx, cy, hxy⟩ : ∃ x y, wr.cell? ⟨w.heap.size + 1 + 1, k, none⟩ = some (.int .i64 x) ∧ wr.cell? ⟨w.heap.size + 1 + 1 + 1, k, none⟩ = some (.int .i64 y) ∧ (x ≠ y → u = cmpI x y) ∧ (k = 0 → x = a ∧ y = a') ∧ (k = 1 → x = l ∧ y = l') ∧ (k = 2 → x = b ∧ y = b') := by
        rcases (by omega : k = 0 ∨ k = 1 ∨ k = 2) with rfl | rfl | rfl
        · exact ⟨a, a', c0, d0, fun h => by rw [← HU.out]; exact cmpE_first rfl (fun h0 => h (cmpI_zero.1 h0)), by simp, by simp, by simp⟩
        · exact ⟨l, l', c1, d1, fun h => by rw [← HU.out]; exact cmpE_second (e0 (by omega)) rfl (fun h0 => h (cmpI_zero.1 h0)), by simp, by simp, by simp⟩
        · exact ⟨b, b', c2, d2, fun h => by rw [← HU.out]; exact cmpE_third (e0 (by omega)) (e1 (by omega)) rfl, by simp, by simp, by simp⟩
      have hk2 : k < 3 := by omega
      have HE := Lib.hid (And.intro e0 (And.intro e1 e2))
      have HC := Lib.hid (And.intro c0 (And.intro c1 (And.intro c2 (And.intro d0 (And.intro d1 d2)))))
      have HX := Lib.hid hxy
      clear e0 e1 e2 c0 c1 c2 d0 d1 d2 hxy step h3 hk
      by_cases hlt : x < y
      · have hv := HX.out.1 (by omega)
        rw [cmpI_lt hlt] at hv
        subst hv
        go_wp2_with fail
        go_quiet (fail)
        go_wp2_with fail
        go_ret
        exact ⟨rfl, hm.drewN _⟩
      · by_cases hgt : y < x
        · have hv := HX.out.1 (by omega)
          rw [cmpI_gt hgt] at hv
          subst hv
          go_wp2_with fail
          go_quiet (fail)
          go_wp2_with fail
          go_quiet (fail)
          go_wp2_with fail
          go_ret
          exact ⟨rfl, by first | exact (hm.drewN _).drewN _ | exact hm.drewN _⟩
        · have hq : x = y := by omega
          clear hlt hgt
          subst hq
          go_wp2_with fail
          go_quiet (fail)
          go_wp2_with fail
          go_quiet (fail)
          go_wp2_with fail
          go_roundw
          case rel =>
            obtain ⟨e0, e1, e2⟩ := HE.out
            obtain ⟨c0, c1, c2, d0, d1, d2⟩ := HC.out
            obtain ⟨-, q0, q1, q2⟩ := HX.out
            refine ⟨k + 1, by go_num, by omega, by first | exact (hm.drewN _).drewN _ | exact hm.drewN _, fun h => ?_, fun h => ?_, fun h => ?_, c0, c1, c2, d0, d1, d2⟩
            · rcases (by omega : k = 0 ∨ 0 < k) with h5 | h5
              · rw [← (q0 h5).1, ← (q0 h5).2]
              · exact e0 h5
            · rcases (by omega : k = 1 ∨ 1 < k) with h5 | h5
              · rw [← (q1 h5).1, ← (q1 h5).2]
              · exact e1 h5
            · rcases (by omega : k = 2 ∨ 2 < k) with h5 | h5
              · rw [← (q2 h5).1, ← (q2 h5).2]
              · exact e2 h5
          case measure => simp [intOf]; omega
end Go.Proofs.YtimmnnncgnnkgaaGreat

/- IsGraph, both sides. -/
namespace Go.Proofs.YtimmnnncgnnkgaaGreat
set_option linter.unusedVariables false
set_option linter.unusedSimpArgs false
open Go.RowKit

/-- The edges below k lie in the graph and ascend. -/
def UpTo (r s : Int) (es : List Ed) (k : Nat) : Prop := ∀ j e, j < k → es[j]? = some e → edB r s e = true ∧ ∀ f, 0 < j → es[j - 1]? = some f → cmpE f e < 0
theorem UpTo.zero (r s : Int) (es : List Ed) : UpTo r s es 0 := fun j e h => absurd h (Nat.not_lt_zero _)
theorem UpTo.succ {r s : Int} {es : List Ed} {k : Nat} {e : Ed} (h : UpTo r s es k) (he : es[k]? = some e) (h1 : edB r s e = true) (h2 : ∀ f, 0 < k → es[k - 1]? = some f → cmpE f e < 0) : UpTo r s es (k + 1) := by
  intro j e' hj he'
  rcases Nat.lt_succ_iff_lt_or_eq.1 hj with h3 | rfl
  · exact h j e' h3 he'
  · rw [he] at he'
    injection he' with he'
    subst he'
    exact ⟨h1, h2⟩
abbrev graV (r s : Int) (A : Option Addr) (n c : Nat) : Value := .agg #[.int .i64 r, .int .i64 s, .slice A n c]
theorem edB_iff {r s : Int} {e : Ed} (h1 : 1 ≤ s) (h2 : s ≤ 40) : edB r s e = true ↔ InG r s e := by
  unfold edB InG inB
  rw [IntWalk.wrap64_in (s - 1) (by omega)]
  simp
  omega
theorem asc_at {es : List Ed} : Asc es ↔ ∀ (j : Nat) (e f : Ed), 0 < j → es[j - 1]? = some f → es[j]? = some e → LtE f e := by
  constructor
  · intro h j e f hj hf he
    obtain ⟨h1, h1'⟩ := List.getElem?_eq_some_iff.1 hf
    obtain ⟨h2, h2'⟩ := List.getElem?_eq_some_iff.1 he
    have := List.pairwise_iff_getElem.1 h (j - 1) j h1 h2 (by omega)
    rw [h1', h2'] at this
    exact this
  · intro h
    refine List.pairwise_iff_getElem.2 fun i j hi hj hij => ?_
    obtain ⟨d, rfl⟩ : ∃ d, j = i + 1 + d := ⟨j - i - 1, by omega⟩
    clear hij
    induction d with
    | zero => exact h (i + 1) _ _ (by omega) (by rw [Nat.add_sub_cancel]; exact List.getElem?_eq_getElem hi) (List.getElem?_eq_getElem hj)
    | succ d ih => exact (ih (by omega)).trans (h (i + 1 + (d + 1)) _ _ (by omega) (List.getElem?_eq_getElem (by omega)) (List.getElem?_eq_getElem hj))
theorem upTo_all {r s : Int} {es : List Ed} (h1 : 1 ≤ s) (h2 : s ≤ 40) : UpTo r s es es.length ↔ (∀ e ∈ es, InG r s e) ∧ Asc es := by
  constructor
  · intro h
    refine ⟨fun e he => ?_, asc_at.2 fun j e f hj hf he => ?_⟩
    · obtain ⟨j, hj⟩ := List.mem_iff_getElem?.1 he
      exact (edB_iff h1 h2).1 (h j e (List.getElem?_eq_some_iff.1 hj).1 hj).1
    · exact cmpE_neg.1 ((h j e (List.getElem?_eq_some_iff.1 he).1 he).2 f hj hf)
  · rintro ⟨h3, h4⟩ j e hj he
    exact ⟨(edB_iff h1 h2).2 (h3 e (List.mem_of_getElem? he)), fun f h0 hf => cmpE_neg.2 (asc_at.1 h4 j e f h0 hf he)⟩
/-- The tests of IsGraph. -/
structure GrT (r s : Int) (es : List Ed) : Prop where
  rank : inB r 1 3 = true
  size : inB s 1 40 = true
  len : es.length ≤ 120
  up : UpTo r s es es.length
theorem grT_iff {r s : Int} {es : List Ed} : GrT r s es ↔ IsGr r s es := by
  constructor
  · rintro ⟨h1, h2, h3, h4⟩
    have h1 : 1 ≤ r ∧ r ≤ 3 := by simpa [inB] using h1
    have h2 : 1 ≤ s ∧ s ≤ 40 := by simpa [inB] using h2
    obtain ⟨h5, h6⟩ := (upTo_all h2.1 h2.2).1 h4
    exact ⟨h1, h2, h3, h5, h6⟩
  · rintro ⟨h1, h2, h3, h4, h5⟩
    exact ⟨by simpa [inB] using h1, by simpa [inB] using h2, h3, (upTo_all h2.1 h2.2).2 ⟨h4, h5⟩⟩
theorem within_at {x lo hi : Int} {b : Bool} (h : inB x lo hi = b) (W : World) : Calls Tryz.prog 82 #[.int .i64 x, .int .i64 lo, .int .i64 hi] W fun e w' => e = .returned (.bool b) ∧ W = w' := h ▸ within_any x lo hi W
theorem l1In_at {x lo hi : Int} {b : Bool} (h : inB x lo hi = b) (W : World) : Calls Tryz.prog 77 #[.int .i64 x, .int .i64 lo, .int .i64 hi] W fun e w' => e = .returned (.bool b) ∧ W = w' := h ▸ l1In_any x lo hi W

set_option maxHeartbeats 1600000 in
theorem impl_IsGraph (r s : Int) (A : Option Addr) (es : List Ed) (c : Nat) (w : World) (lo hi : Nat) (hr : RV w lo hi A (ints (edI es))) (hl : es.length ≤ 1048576) (b : Bool) (hb : b = true ↔ IsGr r s es) :
    Calls Tryz.prog 138 #[graV r s A es.length c] w fun e w' => e = .returned (.bool b) ∧ Mid 0 0 w w' := by
  have HB := Lib.hid (hb.trans grT_iff.symm)
  clear hb
  have bx0 := Box.new w #[.int .i64 r, .int .i64 s, .slice A es.length c] 29
  have hm0 := Mid.alloc w (.cells #[.int .i64 r, .int .i64 s, .slice A es.length c] 29)
  cases h1 : inB r 1 3 with
  | false =>
    obtain rfl : b = false := by cases b with | false => rfl | true => have := (HB.out.1 rfl).rank; rw [h1] at this; cases this
    clear HB
    go_enter Tryz.func138, Tryz.ntmps138
    go_wp2_with fail
    with_reducible refine (within_at h1 _).mono ?_
    rintro en w1 ⟨rfl, rfl⟩
    go_wp2_with fail
    go_ret
    exact ⟨rfl, hm0⟩
  | true =>
  have H1 := Lib.hid h1
  go_enter Tryz.func138, Tryz.ntmps138
  go_wp2_with fail
  with_reducible refine (within_at h1 _).mono ?_
  rintro en w1 ⟨rfl, rfl⟩
  clear h1
  cases h2 : inB s 1 40 with
  | false =>
    obtain rfl : b = false := by cases b with | false => rfl | true => have := (HB.out.1 rfl).size; rw [h2] at this; cases this
    clear HB
    go_wp2_with fail
    with_reducible refine (within_at h2 _).mono ?_
    rintro en w1 ⟨rfl, rfl⟩
    go_wp2_with fail
    go_ret
    exact ⟨rfl, hm0⟩
  | true =>
  have H2 := Lib.hid h2
  go_wp2_with fail
  with_reducible refine (within_at h2 _).mono ?_
  rintro en w1 ⟨rfl, rfl⟩
  clear h2
  by_cases h3 : 120 < es.length
  · obtain rfl : b = false := by cases b with | false => rfl | true => have := (HB.out.1 rfl).len; omega
    clear HB
    go_wp2_with fail
    go_ret
    exact ⟨rfl, hm0⟩
  have HL := Lib.hid (show es.length ≤ 120 by omega)
  go_wp2_with fail
  go_loopw [2, 24] (fun _ i wr => ∃ k : Nat, k ≤ es.length ∧ i = .int .i64 k ∧ Box wr w.heap.size [.int .i64 r, .int .i64 s, .slice A es.length c] ∧ UpTo r s es k ∧ Mid 0 0 w wr) (fun _ i _ => es.length - (intOf i).toNat)
  case atStart => exact ⟨0, Nat.zero_le _, rfl, bx0, UpTo.zero _ _ _, hm0⟩
  case round =>
    obtain ⟨k, hk, rfl, bx, hup, hm⟩ := hrel
    by_cases hlt : k < es.length
    · obtain ⟨B, off, e, rfl, -, hbh, he, c0, c1, c2⟩ := (hr.mid hm (Or.inl (Nat.zero_le _))).ed hlt
      have hk0 : (0 : Int) ≤ (k : Int) := by omega
      have hkn : (k : Int) < (es.length : Int) := by omega
      have HUP := Lib.hid hup
      have HEK := Lib.hid he
      have hal := Mid.alloc wr (.cells #[.int .i64 e.a, .int .i64 e.l, .int .i64 e.b] 78)
      have by1 := bx.mid hal (Or.inr (Nat.zero_le _))
      have by2 := Box.new wr #[.int .i64 e.a, .int .i64 e.l, .int .i64 e.b] 78
      have hrm := (hr.mid hm (Or.inl (Nat.zero_le _))).mid hal (Or.inl (Nat.zero_le _))
      have zp := Nat.lt_of_lt_of_le hbh hrm.1
      have g0 := wg_cell by1.1 (by1.cell 0 rfl)
      have g1 := wg_cell by1.1 (by1.cell 1 rfl)
      have g2 := wg_cell by1.1 (by1.cell 2 rfl)
      have e0 := wg_cell by2.1 (by2.cell 0 rfl)
      have e1 := wg_cell by2.1 (by2.cell 1 rfl)
      have e2 := wg_cell by2.1 (by2.cell 2 rfl)
      cases hA0 : edB r s e with
      | false =>
        obtain rfl : b = false := by cases b with | false => rfl | true => have := ((HB.out.1 rfl).up k e hlt he).1; rw [hA0] at this; cases this
        have hA := fun W => impl_accepts r s (some ⟨B, off, none⟩) es.length c e W
        rw [hA0] at hA
        clear hup he hA0
        go_wp2_with fail
        refine wp_region_quiet_wg (by kernel_rfl) (by kernel_rfl) ?_
        repeat
          (with_reducible refine wpQuiet_step (fun K hK => ?_))
          go_simp
          first
            | ((with_reducible refine hK _ ?_); clear hK K)
            | (rw [if_neg (by decide)]; (with_reducible refine hK _ ?_); clear hK K)
            | (apply Exists.intro; refine ⟨fun _ => ?_, hK _ ?_⟩; ((go_at_call 163; exact Calls.wg_of (hA _))); clear hK K)
        with_reducible refine wpQuiet_nil ?_
        intro _ hw'
        obtain ⟨⟨nq, osq⟩, hw''⟩ := hw'
        subst hw''
        go_wp2_with fail
        go_ret
        exact ⟨rfl, (hm.trans hal).trans (Mid.ofWg _ _ _)⟩
      | true =>
        have hA := fun W => impl_accepts r s (some ⟨B, off, none⟩) es.length c e W
        rw [hA0] at hA
        have HA0 := Lib.hid hA0
        by_cases hkz : k = 0
        · have hkz2 : decide ((0 : Int) < (k : Int)) = false := by simp; omega
          have hkz3 : (0 < k) = False := eq_false (by omega)
          have HKZ := Lib.hid hkz
          clear hup he hA0 hkz
          go_wp2_with fail
          refine wp_region_quiet_wg (by kernel_rfl) (by kernel_rfl) ?_
          repeat
            (with_reducible refine wpQuiet_step (fun K hK => ?_))
            go_simp
            first
              | ((with_reducible refine hK _ ?_); clear hK K)
              | (rw [if_neg (by decide)]; (with_reducible refine hK _ ?_); clear hK K)
              | (apply Exists.intro; refine ⟨fun _ => ?_, hK _ ?_⟩; ((go_at_call 163; exact Calls.wg_of (hA _))); clear hK K)
          with_reducible refine wpQuiet_nil ?_
          intro _ hw'
          obtain ⟨⟨nq, osq⟩, hw''⟩ := hw'
          subst hw''
          go_wp2_with fail
          go_roundw
          case rel => exact ⟨k + 1, by omega, by go_num, by1.mid (Mid.ofWg _ _ _) (Or.inr (Nat.zero_le _)), HUP.out.succ HEK.out HA0.out (fun f h => absurd h (by have := HKZ.out; omega)), (hm.trans hal).trans (Mid.ofWg _ _ _)⟩
          case measure => simp [intOf]; omega
        · obtain ⟨m, hm1⟩ : ∃ m, k = m + 1 := ⟨k - 1, by omega⟩
          obtain ⟨B', off', f, hA1, -, -, hf, p0, p1, p2⟩ := hrm.ed (show m < es.length by omega)
          injection hA1 with hA1
          injection hA1 with hA2 hA3
          subst hA2
          subst hA3
          have hkm : (k : Int) - 1 = (m : Int) := by omega
          have hkp : (0 : Int) < (k : Int) := by omega
          have hkp3 : 0 < k := by omega
          have hwm : IntKind.i64.wrap (m : Int) = (m : Int) := IntWalk.i64_in _ (by omega)
          have hm0' : (0 : Int) ≤ (m : Int) := by omega
          have hmn : (m : Int) < (es.length : Int) := by omega
          have p0 := wg_cell zp p0
          have p1 := wg_cell zp p1
          have p2 := wg_cell zp p2
          obtain ⟨v, hv⟩ : ∃ v, cmpE f e = v := ⟨_, rfl⟩
          have hQ := fun W => impl_CompareEdges f e W
          rw [hv] at hQ
          have HF := Lib.hid hf
          have HKM := Lib.hid hm1
          by_cases hv0 : 0 ≤ v
          · obtain rfl : b = false := by
              cases b with
              | false => rfl
              | true =>
                have := ((HB.out.1 rfl).up k e hlt he).2 f (by omega) (by rw [hm1]; exact hf)
                omega
            clear hup he hA0 hf hm1 hv
            go_wp2_with fail
            refine wp_region_quiet_wg (by kernel_rfl) (by kernel_rfl) ?_
            repeat
              (with_reducible refine wpQuiet_step (fun K hK => ?_))
              go_simp
              first
                | ((with_reducible refine hK _ ?_); clear hK K)
                | (rw [if_neg (by decide)]; (with_reducible refine hK _ ?_); clear hK K)
                | (apply Exists.intro; refine ⟨fun _ => ?_, hK _ ?_⟩; ((first | (go_at_call 163; exact Calls.wg_of (hA _)) | (go_at_call 129; exact Calls.wg_of (hQ _)))); clear hK K)
            with_reducible refine wpQuiet_nil ?_
            intro _ hw'
            obtain ⟨⟨nq, osq⟩, hw''⟩ := hw'
            subst hw''
            go_wp2_with fail
            go_ret
            exact ⟨rfl, (hm.trans hal).trans (Mid.ofWg _ _ _)⟩
          · have HV := Lib.hid (show cmpE f e < 0 by omega)
            clear hup he hA0 hf hm1 hv
            go_wp2_with fail
            refine wp_region_quiet_wg (by kernel_rfl) (by kernel_rfl) ?_
            repeat
              (with_reducible refine wpQuiet_step (fun K hK => ?_))
              go_simp
              first
                | ((with_reducible refine hK _ ?_); clear hK K)
                | (rw [if_neg (by decide)]; (with_reducible refine hK _ ?_); clear hK K)
                | (apply Exists.intro; refine ⟨fun _ => ?_, hK _ ?_⟩; ((first | (go_at_call 163; exact Calls.wg_of (hA _)) | (go_at_call 129; exact Calls.wg_of (hQ _)))); clear hK K)
            with_reducible refine wpQuiet_nil ?_
            intro _ hw'
            obtain ⟨⟨nq, osq⟩, hw''⟩ := hw'
            subst hw''
            go_wp2_with fail
            go_roundw
            case rel =>
              refine ⟨k + 1, by omega, by go_num, by1.mid (Mid.ofWg _ _ _) (Or.inr (Nat.zero_le _)), HUP.out.succ HEK.out HA0.out (fun f' h h' => ?_), (hm.trans hal).trans (Mid.ofWg _ _ _)⟩
              rw [HKM.out, Nat.add_sub_cancel, HF.out] at h'
              injection h' with h'
              subst h'
              exact HV.out
            case measure => simp [intOf]; omega
    · obtain rfl : k = es.length := by omega
      obtain rfl : b = true := HB.out.2 ⟨H1.out, H2.out, HL.out, hup⟩
      go_wp2_with fail
      go_ret
      exact ⟨rfl, hm⟩
end Go.Proofs.YtimmnnncgnnkgaaGreat

/- IsGraph, the reference. -/
namespace Go.Proofs.YtimmnnncgnnkgaaGreat
set_option linter.unusedVariables false
set_option linter.unusedSimpArgs false
open Go.RowKit

set_option maxHeartbeats 1600000 in
theorem spec_IsGraph (r s : Int) (A : Option Addr) (es : List Ed) (c : Nat) (w : World) (lo hi : Nat) (hr : RV w lo hi A (ints (edI es))) (hl : es.length ≤ 1048576) (b : Bool) (hb : b = true ↔ IsGr r s es) :
    Calls Tryz.prog 133 #[graV r s A es.length c] w fun e w' => e = .returned (.bool b) ∧ Mid 0 0 w w' := by
  have HB := Lib.hid (hb.trans grT_iff.symm)
  clear hb
  have bx0 := Box.new w #[.int .i64 r, .int .i64 s, .slice A es.length c] 29
  have hm0 := Mid.alloc w (.cells #[.int .i64 r, .int .i64 s, .slice A es.length c] 29)
  go_enter Tryz.func133, Tryz.ntmps133
  go_wp2_with fail
  go_loopw [2, 3] (fun _ i wr => ∃ k : Nat, k ≤ es.length ∧ i = .int .i64 k ∧ Box wr w.heap.size [.int .i64 r, .int .i64 s, .slice A es.length c] ∧ UpTo r s es k ∧ Mid 0 0 w wr) (fun _ i _ => es.length - (intOf i).toNat)
  case atStart => exact ⟨0, Nat.zero_le _, rfl, bx0, UpTo.zero _ _ _, hm0⟩
  case round =>
    obtain ⟨k, hk, rfl, bx, hup, hm⟩ := hrel
    have G0 := bx.cell 0 rfl
    have G1 := bx.cell 1 rfl
    have G2 := bx.cell 2 rfl
    by_cases hlt : k < es.length
    · have hrm := hr.mid hm (Or.inl (Nat.zero_le _))
      obtain ⟨B, off, e, rfl, -, hbh, he, e0, e1, e2⟩ := hrm.ed hlt
      have hk0 : (0 : Int) ≤ (k : Int) := by omega
      have hkn : (k : Int) < (es.length : Int) := by omega
      have HUP := Lib.hid hup
      have HEK := Lib.hid he
      have zp := Nat.lt_of_lt_of_le hbh hrm.1
      have g0 := wg_cell bx.1 G0
      have g1 := wg_cell bx.1 G1
      have g2 := wg_cell bx.1 G2
      have e0 := wg_cell zp e0
      have e1 := wg_cell zp e1
      have e2 := wg_cell zp e2
      have hA := fun W => spec_l4Edge r s (some ⟨B, off, none⟩) es.length c e W
      cases hA0 : edB r s e with
      | false =>
        obtain rfl : b = false := by cases b with | false => rfl | true => have := ((HB.out.1 rfl).up k e hlt he).1; rw [hA0] at this; cases this
        rw [hA0] at hA
        clear hup he hA0
        go_wp2_with fail
        refine wp_region_quiet_wg (by kernel_rfl) (by kernel_rfl) ?_
        repeat
          (with_reducible refine wpQuiet_step (fun K hK => ?_))
          go_simp
          first
            | ((with_reducible refine hK _ ?_); clear hK K)
            | (rw [if_neg (by decide)]; (with_reducible refine hK _ ?_); clear hK K)
            | (apply Exists.intro; refine ⟨fun _ => ?_, hK _ ?_⟩; ((go_at_call 159; exact Calls.wg_of (hA _))); clear hK K)
        with_reducible refine wpQuiet_nil ?_
        intro _ hw'
        obtain ⟨⟨nq, osq⟩, hw''⟩ := hw'
        subst hw''
        go_wp2_with fail
        go_ret
        exact ⟨rfl, hm.trans (Mid.ofWg _ _ _)⟩
      | true =>
        rw [hA0] at hA
        have HA0 := Lib.hid hA0
        by_cases hkz : k = 0
        · have hkz2 : decide ((0 : Int) < (k : Int)) = false := by simp; omega
          have hkz3 : (0 < k) = False := eq_false (by omega)
          have HKZ := Lib.hid hkz
          clear hup he hA0 hkz
          go_wp2_with fail
          refine wp_region_quiet_wg (by kernel_rfl) (by kernel_rfl) ?_
          repeat
            (with_reducible refine wpQuiet_step (fun K hK => ?_))
            go_simp
            first
              | ((with_reducible refine hK _ ?_); clear hK K)
              | (rw [if_neg (by decide)]; (with_reducible refine hK _ ?_); clear hK K)
              | (apply Exists.intro; refine ⟨fun _ => ?_, hK _ ?_⟩; ((go_at_call 159; exact Calls.wg_of (hA _))); clear hK K)
          with_reducible refine wpQuiet_nil ?_
          intro _ hw'
          obtain ⟨⟨nq, osq⟩, hw''⟩ := hw'
          subst hw''
          go_wp2_with fail
          go_roundw
          case rel => exact ⟨k + 1, by omega, by go_num, bx.mid (Mid.ofWg _ _ _) (Or.inr (Nat.zero_le _)), HUP.out.succ HEK.out HA0.out (fun f h => absurd h (by have := HKZ.out; omega)), hm.trans (Mid.ofWg _ _ _)⟩
          case measure => simp [intOf]; omega
        · obtain ⟨m, hm1⟩ : ∃ m, k = m + 1 := ⟨k - 1, by omega⟩
          obtain ⟨B', off', f, hA1, -, -, hf, p0, p1, p2⟩ := hrm.ed (show m < es.length by omega)
          injection hA1 with hA1
          injection hA1 with hA2 hA3
          subst hA2
          subst hA3
          have hkm : (k : Int) - 1 = (m : Int) := by omega
          have hkp : (0 : Int) < (k : Int) := by omega
          have hkp3 : 0 < k := by omega
          have hwm : IntKind.i64.wrap (m : Int) = (m : Int) := IntWalk.i64_in _ (by omega)
          have hm0' : (0 : Int) ≤ (m : Int) := by omega
          have hmn : (m : Int) < (es.length : Int) := by omega
          have p0 := wg_cell zp p0
          have p1 := wg_cell zp p1
          have p2 := wg_cell zp p2
          obtain ⟨v, hv⟩ : ∃ v, cmpE f e = v := ⟨_, rfl⟩
          have hQ := fun W => spec_CompareEdges f e W
          rw [hv] at hQ
          have HF := Lib.hid hf
          have HKM := Lib.hid hm1
          by_cases hv0 : 0 ≤ v
          · obtain rfl : b = false := by
              cases b with
              | false => rfl
              | true =>
                have := ((HB.out.1 rfl).up k e hlt he).2 f (by omega) (by rw [hm1]; exact hf)
                omega
            clear hup he hA0 hf hm1 hv
            go_wp2_with fail
            refine wp_region_quiet_wg (by kernel_rfl) (by kernel_rfl) ?_
            repeat
              (with_reducible refine wpQuiet_step (fun K hK => ?_))
              go_simp
              first
                | ((with_reducible refine hK _ ?_); clear hK K)
                | (rw [if_neg (by decide)]; (with_reducible refine hK _ ?_); clear hK K)
                | (apply Exists.intro; refine ⟨fun _ => ?_, hK _ ?_⟩; ((first | (go_at_call 159; exact Calls.wg_of (hA _)) | (go_at_call 127; exact Calls.wg_of (hQ _)))); clear hK K)
            with_reducible refine wpQuiet_nil ?_
            intro _ hw'
            obtain ⟨⟨nq, osq⟩, hw''⟩ := hw'
            subst hw''
            go_wp2_with fail
            go_ret
            exact ⟨rfl, hm.trans (Mid.ofWg _ _ _)⟩
          · have HV := Lib.hid (show cmpE f e < 0 by omega)
            clear hup he hA0 hf hm1 hv
            go_wp2_with fail
            refine wp_region_quiet_wg (by kernel_rfl) (by kernel_rfl) ?_
            repeat
              (with_reducible refine wpQuiet_step (fun K hK => ?_))
              go_simp
              first
                | ((with_reducible refine hK _ ?_); clear hK K)
                | (rw [if_neg (by decide)]; (with_reducible refine hK _ ?_); clear hK K)
                | (apply Exists.intro; refine ⟨fun _ => ?_, hK _ ?_⟩; ((first | (go_at_call 159; exact Calls.wg_of (hA _)) | (go_at_call 127; exact Calls.wg_of (hQ _)))); clear hK K)
            with_reducible refine wpQuiet_nil ?_
            intro _ hw'
            obtain ⟨⟨nq, osq⟩, hw''⟩ := hw'
            subst hw''
            go_wp2_with fail
            go_roundw
            case rel =>
              refine ⟨k + 1, by omega, by go_num, bx.mid (Mid.ofWg _ _ _) (Or.inr (Nat.zero_le _)), HUP.out.succ HEK.out HA0.out (fun f' h h' => ?_), hm.trans (Mid.ofWg _ _ _)⟩
              rw [HKM.out, Nat.add_sub_cancel, HF.out] at h'
              injection h' with h'
              subst h'
              exact HV.out
            case measure => simp [intOf]; omega
    · obtain rfl : k = es.length := by omega
      cases h1 : inB r 1 3 with
      | false =>
        obtain rfl : b = false := by cases b with | false => rfl | true => have := (HB.out.1 rfl).rank; rw [h1] at this; cases this
        go_wp2_with fail
        with_reducible refine (l1In_at h1 _).mono ?_
        rintro en w1 ⟨rfl, rfl⟩
        go_wp2_with fail
        go_ret
        exact ⟨rfl, hm⟩
      | true =>
      go_wp2_with fail
      with_reducible refine (l1In_at h1 _).mono ?_
      rintro en w1 ⟨rfl, rfl⟩
      cases h2 : inB s 1 40 with
      | false =>
        obtain rfl : b = false := by cases b with | false => rfl | true => have := (HB.out.1 rfl).size; rw [h2] at this; cases this
        go_wp2_with fail
        with_reducible refine (l1In_at h2 _).mono ?_
        rintro en w1 ⟨rfl, rfl⟩
        go_wp2_with fail
        go_ret
        exact ⟨rfl, hm⟩
      | true =>
      obtain rfl : b = decide (es.length ≤ 120) := by
        rw [Bool.eq_iff_iff, HB.out, decide_eq_true_iff]
        exact ⟨fun h => h.len, fun h => ⟨h1, h2, h, hup⟩⟩
      go_wp2_with fail
      with_reducible refine (l1In_at h2 _).mono ?_
      rintro en w1 ⟨rfl, rfl⟩
      go_wp2_with fail
      go_ret
      have hd : decide ((es.length : Int) ≤ 120) = decide (es.length ≤ 120) := decide_eq_decide.2 (by omega)
      refine ⟨?_, hm⟩
      first
        | rfl
        | exact congrArg (fun x => Ending.returned (Value.bool x)) hd
end Go.Proofs.YtimmnnncgnnkgaaGreat

/- Contracts of the laws' helpers on morphisms. -/
namespace Go.Proofs.YtimmnnncgnnkgaaGreat
set_option linter.unusedVariables false
set_option linter.unusedSimpArgs false
open Go.RowKit

theorem Mid.stored {lo hi : Nat} {a w : World} {p : Addr} (h : Mid lo hi a w) (u : Value) (h1 : lo ≤ p.block) (h2 : p.block < hi) : Mid lo hi a (w.setCell p u) := h.trans (Mid.setCell w u h1 h2)
/-- A morphism's value. -/
def morV (r : Int) (A : Option Addr) (n c : Nat) : Value := .agg #[.int .i64 r, .slice A n c]

/-- A morphism as data. -/
structure Mor where
  rank : Int
  imgs : List (List Int)
def Mor.mark (d : Mor) (q : Int) : Mor := ⟨d.rank, markD q d.imgs⟩

end Go.Proofs.YtimmnnncgnnkgaaGreat

/- Opening of arguments that came in: an int slice reads as a list. -/
namespace Go.Proofs.YtimmnnncgnnkgaaGreat
set_option linter.unusedVariables false
set_option linter.unusedSimpArgs false
open Go.ChangeShapes Go.WideShapes Go.ChangeAt Go.RowKit
open Go.Joins

section
variable {H : Type} {enc : TypeId × Value → H} {P : Program} {W : World} {T E : TypeId}
theorem wf_bounds {n : Int} (h : (Lit.int .i64 n).wf = true) : -9223372036854775808 ≤ n ∧ n ≤ 9223372036854775807 := bounds_i64 h

theorem ints_of_cells (uT : P.underlying T = some (.slice E)) (uE : P.underlying E = some (.int .i64)) (cE : P.cellsOf E = 1) {fuel : Nat} {A : Option Addr} {len c : Nat} {x : DataW H × List MemPlace}
    (h : DataW.trod enc P W 0 (fun _ => true) true fuel T [.slice A len c] = some x) : ∃ xs : List Int, len = xs.length ∧ RV W 0 W.heap.size A (ints xs) ∧ OkI xs ∧ xs.length ≤ 9223372036854775807 := by
  rcases open_ints uT uE cE h with ⟨hcs, _⟩ | ⟨a, l, cc, zs, hcs, _, hl, hm, hz, _, hcell, hwz⟩
  · simp at hcs
    obtain ⟨rfl, rfl, rfl⟩ := hcs
    exact ⟨[], rfl, ⟨Nat.le_refl _, fun hn => absurd rfl hn⟩, fun x hx => by simp at hx, by simp⟩
  · simp at hcs
    obtain ⟨rfl, rfl, rfl⟩ := hcs
    simp at hz
    refine ⟨zs.take len, by simp; omega, ⟨Nat.le_refl _, fun hn => ?_⟩, fun x hx => wf_bounds (hwz x (List.mem_of_mem_take hx)), by unfold maxLen at hm; simp; omega⟩
    have hp : 0 < zs.length := by
      rcases Nat.eq_zero_or_pos zs.length with h0 | h0
      · have := List.eq_nil_of_length_eq_zero h0
        subst this
        simp [ints] at hn
      · exact h0
    obtain ⟨b, off, rfl, hc⟩ := ints_at hcell hp
    refine ⟨b, off, rfl, Nat.zero_le _, World.block_lt_of_cell? _ _ (hc 0 hp), fun j u hu => ?_⟩
    have hj : j < zs.length := by
      have := (List.getElem?_eq_some_iff.1 hu).1
      simp [ints] at this
      omega
    rw [hc j hj]
    rw [ints_get, List.getElem?_take] at hu
    split at hu
    · rw [List.getElem?_eq_getElem hj] at hu
      simp at hu
      rw [← hu]
      simp [List.getD, List.getElem?_eq_getElem hj]
    · simp at hu
theorem open_intS (uT : P.underlying T = some (.slice E)) (uE : P.underlying E = some (.int .i64)) (cE : P.cellsOf E = 1) {r : Reach} {base : Nat} {v : Value} {d : DataW H} {ps : List MemPlace}
    (hok : Value.okWide P W r base T v) (h : DataW.Trod enc P W 0 (fun _ => true) true T v d ps) : ∃ A xs c, v = .slice A (List.length xs) c ∧ RV W 0 W.heap.size A (ints xs) ∧ OkI xs ∧ xs.length ≤ 9223372036854775807 := by
  obtain ⟨A, len, c, rfl⟩ := okWide_slice uT hok
  obtain ⟨fuel, hf⟩ := h
  obtain ⟨xs, rfl, h1, h2⟩ := ints_of_cells (A := A) (len := len) (c := c) uT uE cE (by simpa [Value.cells] using hf)
  exact ⟨A, xs, c, rfl, h1, h2⟩

/-- Every number of every row fits an int, and every length is one that there can be. -/
def OkSS (xss : List (List Int)) : Prop := (xss.length ≤ 9223372036854775807 ∧ ∀ xs ∈ xss, xs.length ≤ 9223372036854775807) ∧ ∀ xs ∈ xss, OkI xs

end
end Go.Proofs.YtimmnnncgnnkgaaGreat

/- Objects of the laws with the blocks they lie in: int slices. Each step of a law leaves a 'Mid'. -/
namespace Go.Proofs.YtimmnnncgnnkgaaGreat
set_option linter.unusedVariables false
set_option linter.unusedSimpArgs false
open Go.RowKit

/-! ### int slices -/
def RI (w : World) (lo hi : Nat) (A : Option Addr) (xs : List Int) : Prop := RV w lo hi A (ints xs)
def OI (w : World) (lo hi : Nat) (A : Option Addr) (c : Nat) (xs : List Int) : Prop := OV w lo hi 3 1 A c xs.length (ints xs)
theorem RI.mid {w w' : World} {lo hi a b : Nat} {A : Option Addr} {xs : List Int} (h : RI w lo hi A xs) (m : Mid a b w w') (hd : b ≤ lo ∨ hi ≤ a) : RI w' lo hi A xs := RV.mid h m hd
theorem OI.mid {w w' : World} {lo hi a b : Nat} {A : Option Addr} {c : Nat} {xs : List Int} (h : OI w lo hi A c xs) (m : Mid a b w w') (hd : b ≤ lo ∨ hi ≤ a) : OI w' lo hi A c xs := OV.mid h m hd
theorem OI.ri {w : World} {lo hi : Nat} {A : Option Addr} {c : Nat} {xs : List Int} (h : OI w lo hi A c xs) : RI w lo hi A xs := OV.rv h
theorem RI.size {w : World} {lo hi : Nat} {A : Option Addr} {xs : List Int} (h : RI w lo hi A xs) : hi ≤ w.heap.size := h.1
theorem OI.size {w : World} {lo hi : Nat} {A : Option Addr} {c : Nat} {xs : List Int} (h : OI w lo hi A c xs) : hi ≤ w.heap.size := h.1
theorem RI.rs {w : World} {lo hi : Nat} {A : Option Addr} {xs : List Int} (h : RI w lo hi A xs) : Rs w w.heap.size A (ints xs) := (RV.rs h).more h.1

/-- What a step leaves: the value, and that no block that was there has turned. -/
abbrev Stp (v : Value) (w : World) (e : Ending) (w' : World) : Prop := e = .returned v ∧ Mid 0 0 w w'
abbrev StpI (xs : List Int) (w : World) (e : Ending) (w' : World) : Prop := ∃ A c, e = .returned (.slice A xs.length c) ∧ OI w' w.heap.size w'.heap.size A c xs ∧ Mid 0 0 w w'
theorem toI (A : Option Addr) (xs : List Int) (c : Nat) (w : World) (lo hi : Nat) (h : RI w lo hi A xs) (hl : xs.length ≤ 1048576) :
    Calls Tryz.prog 12 #[.slice A xs.length c] w (StpI xs w) :=
  (toIntS_any A xs c w h.rs hl).mono fun _ _ ⟨he, ho, hb⟩ => ⟨_, _, he, OV.new ho, Mid.of_below hb⟩
theorem eqI (A A' : Option Addr) (xs : List Int) (c c' : Nat) (w : World) (lo hi lo' hi' : Nat) (h : RI w lo hi A xs) (h' : RI w lo' hi' A' xs) (hl : xs.length ≤ 1048576) :
    Calls Tryz.prog 15 #[.slice A xs.length c, .slice A' xs.length c'] w (Stp (.bool true) w) :=
  (eqIntS_same A A' xs c c' _ _ w h.rs h'.rs hl).mono fun _ _ ⟨he, n, hw⟩ => ⟨he, hw ▸ (Mid.refl 0 0 w).drewN n⟩
theorem markI (A : Option Addr) (xs : List Int) (c : Nat) (q : Int) (w : World) (lo hi : Nat) (h : OI w lo hi A c xs) (hq : 0 ≤ q) (hq2 : q ≤ 16777216) (hl : xs.length ≤ 1048576) :
    Calls Tryz.prog 17 #[.slice A xs.length c, .int .i64 q] w fun e w' => e = .returned (.int .i64 (q + xs.length)) ∧ OI w' lo hi A c (marks q xs.length) ∧ Mid lo hi w w' :=
  (markIntS_any A xs c lo q w h.2.1 hq hq2 hl).mono fun e w' ⟨he, ho, hg⟩ => by
    have hm : Mid lo hi w w' := Mid.of_grown hg (fun g hgg => ⟨(h.2.1.lt g hgg).1, h.2.2 g hgg⟩)
    refine ⟨he, ⟨Nat.le_trans h.1 hm.size, ?_, ?_⟩, hm⟩
    · rw [marks_len]; exact ho
    · rw [marks_len]; exact h.2.2
end Go.Proofs.YtimmnnncgnnkgaaGreat
