
/- Plain: edges in order; lists of edges that ascend are known by their members. -/
import Derived.Test.YtkcfbcbkokabdaaM2
namespace Go.Proofs.Ytkcfbcbkokabdaa
set_option linter.unusedVariables false
set_option linter.unusedSimpArgs false

/-- An edge. -/
structure Ed where
  a : Int
  l : Int
  b : Int
deriving DecidableEq
theorem Ed.ext' {e f : Ed} (h1 : e.a = f.a) (h2 : e.l = f.l) (h3 : e.b = f.b) : e = f := by
  cases e
  cases f
  simp at h1 h2 h3
  simp [h1, h2, h3]
/-- The order of edges. -/
def cmpE (e f : Ed) : Int := if cmpI e.a f.a ≠ 0 then cmpI e.a f.a else if cmpI e.l f.l ≠ 0 then cmpI e.l f.l else cmpI e.b f.b
theorem cmpI_zero {a b : Int} : cmpI a b = 0 ↔ a = b := by
  unfold cmpI
  split
  · simp; omega
  · split
    · simp; omega
    · simp; omega
theorem cmpI_neg {a b : Int} : cmpI a b < 0 ↔ a < b := by
  unfold cmpI
  split
  · simp; omega
  · split
    · simp; omega
    · simp; omega
/-- The lesser edge. -/
def LtE (e f : Ed) : Prop := e.a < f.a ∨ (e.a = f.a ∧ (e.l < f.l ∨ (e.l = f.l ∧ e.b < f.b)))
theorem cmpE_neg {e f : Ed} : cmpE e f < 0 ↔ LtE e f := by
  unfold cmpE LtE
  by_cases h1 : cmpI e.a f.a = 0
  · by_cases h2 : cmpI e.l f.l = 0
    · rw [if_neg (by simpa using h1), if_neg (by simpa using h2), cmpI_neg]
      have := cmpI_zero.1 h1
      have := cmpI_zero.1 h2
      omega
    · rw [if_neg (by simpa using h1), if_pos h2, cmpI_neg]
      have := cmpI_zero.1 h1
      have : e.l ≠ f.l := fun h => h2 (cmpI_zero.2 h)
      omega
  · rw [if_pos h1, cmpI_neg]
    have : e.a ≠ f.a := fun h => h1 (cmpI_zero.2 h)
    omega
theorem cmpE_zero {e f : Ed} : cmpE e f = 0 ↔ e = f := by
  unfold cmpE
  constructor
  · intro h
    split at h
    · contradiction
    · split at h
      · contradiction
      · exact Ed.ext' (cmpI_zero.1 (by simpa using ‹¬ cmpI e.a f.a ≠ 0›)) (cmpI_zero.1 (by simpa using ‹¬ cmpI e.l f.l ≠ 0›)) (cmpI_zero.1 h)
  · rintro rfl
    simp [cmpI]
theorem LtE.trans {e f g : Ed} (h : LtE e f) (k : LtE f g) : LtE e g := by unfold LtE at *; omega
theorem LtE.irrefl (e : Ed) : ¬ LtE e e := by unfold LtE; omega
theorem LtE.tri (e f : Ed) : LtE e f ∨ e = f ∨ LtE f e := by
  by_cases h : e = f
  · exact .inr (.inl h)
  · have : ¬ (e.a = f.a ∧ e.l = f.l ∧ e.b = f.b) := fun ⟨h1, h2, h3⟩ => h (Ed.ext' h1 h2 h3)
    unfold LtE
    omega
theorem LtE.ne {e f : Ed} (h : LtE e f) : e ≠ f := fun hf => LtE.irrefl f (hf ▸ h)
theorem LtE.asymm {e f : Ed} (h : LtE e f) : ¬ LtE f e := fun k => LtE.irrefl e (h.trans k)
/-- Ascending, each once. -/
def Asc (es : List Ed) : Prop := es.Pairwise LtE
theorem asc_ext : ∀ {xs ys : List Ed}, Asc xs → Asc ys → (∀ e, e ∈ xs ↔ e ∈ ys) → xs = ys
  | [], [], _, _, _ => rfl
  | [], y :: ys, _, _, h => absurd ((h y).2 (by simp)) (by simp)
  | x :: xs, [], _, _, h => absurd ((h x).1 (by simp)) (by simp)
  | x :: xs, y :: ys, hx, hy, h => by
    obtain ⟨hx1, hx2⟩ := List.pairwise_cons.1 hx
    obtain ⟨hy1, hy2⟩ := List.pairwise_cons.1 hy
    have hxy : x = y := by
      have h1 := (h x).1 (by simp)
      have h2 := (h y).2 (by simp)
      rcases List.mem_cons.1 h1 with rfl | h1
      · rfl
      · rcases List.mem_cons.1 h2 with rfl | h2
        · rfl
        · exact absurd (hx1 y h2) (hy1 x h1).asymm
    subst hxy
    rw [asc_ext hx2 hy2 (fun e => ?_)]
    have := h e
    simp only [List.mem_cons] at this
    constructor
    · intro he
      rcases this.1 (.inr he) with rfl | h1
      · exact absurd (hx1 e he) (LtE.irrefl e)
      · exact h1
    · intro he
      rcases this.2 (.inr he) with rfl | h1
      · exact absurd (hy1 e he) (LtE.irrefl e)
      · exact h1
/-- An edge put into its place. -/
def putE (e : Ed) : List Ed → List Ed
  | [] => [e]
  | f :: t => if cmpE e f < 0 then e :: f :: t else if cmpE e f = 0 then f :: t else f :: putE e t
theorem mem_putE {e x : Ed} {l : List Ed} : x ∈ putE e l ↔ x = e ∨ x ∈ l := by
  induction l with
  | nil => simp [putE]
  | cons f t ih =>
    unfold putE
    split
    · simp
    · split
      · rename_i h
        rw [cmpE_zero] at h
        subst h
        simp
      · simp only [List.mem_cons, ih]
        constructor
        · rintro (h | h | h)
          · exact .inr (.inl h)
          · exact .inl h
          · exact .inr (.inr h)
        · rintro (h | h | h)
          · exact .inr (.inl h)
          · exact .inl h
          · exact .inr (.inr h)
theorem asc_putE {e : Ed} {l : List Ed} (h : Asc l) : Asc (putE e l) := by
  induction l with
  | nil => simp [putE, Asc]
  | cons f t ih =>
    obtain ⟨h1, h2⟩ := List.pairwise_cons.1 h
    unfold putE
    split
    · rename_i hc
      have hc := cmpE_neg.1 hc
      refine List.pairwise_cons.2 ⟨fun x hx => ?_, h⟩
      rcases List.mem_cons.1 hx with rfl | hx
      · exact hc
      · exact hc.trans (h1 x hx)
    · split
      · exact h
      · rename_i hc hz
        refine List.pairwise_cons.2 ⟨fun x hx => ?_, ih h2⟩
        rcases mem_putE.1 hx with rfl | hx
        · rcases LtE.tri x f with h3 | h3 | h3
          · exact absurd (cmpE_neg.2 h3) hc
          · exact absurd (cmpE_zero.2 h3) hz
          · exact h3
        · exact h1 x hx
theorem putE_len (e : Ed) (l : List Ed) : (putE e l).length ≤ l.length + 1 := by
  induction l with
  | nil => simp [putE]
  | cons f t ih =>
    unfold putE
    split
    · simp
    · split
      · simp
      · simp only [List.length_cons]; omega
/-- Many edges put in, one after the other. -/
def putAll (l es : List Ed) : List Ed := es.foldl (fun l e => putE e l) l
def canon (es : List Ed) : List Ed := putAll [] es
theorem putAll_snoc (l es : List Ed) (e : Ed) : putAll l (es ++ [e]) = putE e (putAll l es) := by simp [putAll]
theorem putAll_app (l es fs : List Ed) : putAll l (es ++ fs) = putAll (putAll l es) fs := by simp [putAll]
theorem mem_putAll {x : Ed} {l es : List Ed} : x ∈ putAll l es ↔ x ∈ l ∨ x ∈ es := by
  induction es generalizing l with
  | nil => simp [putAll]
  | cons e t ih =>
    have : putAll l (e :: t) = putAll (putE e l) t := rfl
    rw [this, ih, mem_putE]
    simp only [List.mem_cons]
    constructor
    · rintro ((h | h) | h)
      · exact .inr (.inl h)
      · exact .inl h
      · exact .inr (.inr h)
    · rintro (h | h | h)
      · exact .inl (.inr h)
      · exact .inl (.inl h)
      · exact .inr h
theorem asc_putAll {l es : List Ed} (h : Asc l) : Asc (putAll l es) := by
  induction es generalizing l with
  | nil => exact h
  | cons e t ih => exact ih (asc_putE h)
theorem putAll_len (l es : List Ed) : (putAll l es).length ≤ l.length + es.length := by
  induction es generalizing l with
  | nil => simp [putAll]
  | cons e t ih =>
    have := ih (putE e l)
    have := putE_len e l
    have h : putAll l (e :: t) = putAll (putE e l) t := rfl
    rw [h]
    simp only [List.length_cons]
    omega
theorem mem_canon {x : Ed} {es : List Ed} : x ∈ canon es ↔ x ∈ es := by simp [canon, mem_putAll]
theorem asc_canon (es : List Ed) : Asc (canon es) := asc_putAll List.Pairwise.nil
theorem canon_len (es : List Ed) : (canon es).length ≤ es.length := by have := putAll_len [] es; simpa [canon] using this
theorem canon_eq {es fs : List Ed} (h : Asc fs) (hm : ∀ e, e ∈ fs ↔ e ∈ es) : fs = canon es := asc_ext h (asc_canon es) fun e => (hm e).trans mem_canon.symm
theorem canon_asc {es : List Ed} (h : Asc es) : canon es = es := (canon_eq h fun e => Iff.rfl).symm
theorem putAll_canon {l es : List Ed} (h : Asc l) : putAll l es = canon (l ++ es) := canon_eq (asc_putAll h) fun e => by rw [mem_putAll, List.mem_append]
theorem canon_congr {es fs : List Ed} (h : ∀ e, e ∈ es ↔ e ∈ fs) : canon es = canon fs := canon_eq (asc_canon es) fun e => mem_canon.trans (h e)

/-- The numbers of a list of edges. -/
def edI (es : List Ed) : List Int := (es.map fun e => [e.a, e.l, e.b]).flatten
theorem edI_len (es : List Ed) : (edI es).length = es.length * 3 := by
  induction es with
  | nil => rfl
  | cons m t ih => simp [edI] at ih ⊢; omega
theorem edI_append (a b : List Ed) : edI (a ++ b) = edI a ++ edI b := by simp [edI]
theorem edI_cons (e : Ed) (t : List Ed) : edI (e :: t) = e.a :: e.l :: e.b :: edI t := by simp [edI]
theorem edI_one (e : Ed) : edI [e] = [e.a, e.l, e.b] := by simp [edI]
theorem edI_at {es : List Ed} {k : Nat} {e : Ed} (h : es[k]? = some e) : (edI es)[k * 3]? = some e.a ∧ (edI es)[k * 3 + 1]? = some e.l ∧ (edI es)[k * 3 + 2]? = some e.b := by
  induction es generalizing k with
  | nil => simp at h
  | cons m t ih =>
    rw [edI_cons]
    cases k with
    | zero => simp at h; subst h; simp
    | succ k =>
      have := ih (by simpa using h)
      rw [show (k + 1) * 3 = k * 3 + 1 + 1 + 1 from by omega]
      simpa using this
theorem edI_take (es : List Ed) (k : Nat) : edI (es.take k) = (edI es).take (k * 3) := by
  induction es generalizing k with
  | nil => simp [edI]
  | cons m t ih =>
    cases k with
    | zero => simp [edI]
    | succ k =>
      rw [List.take_succ_cons, edI_cons, edI_cons, ih, show (k + 1) * 3 = k * 3 + 1 + 1 + 1 from by omega]
      simp
theorem edI_drop (es : List Ed) (k : Nat) : edI (es.drop k) = (edI es).drop (k * 3) := by
  induction es generalizing k with
  | nil => simp [edI]
  | cons m t ih =>
    cases k with
    | zero => simp
    | succ k =>
      rw [List.drop_succ_cons, edI_cons, ih, show (k + 1) * 3 = k * 3 + 1 + 1 + 1 from by omega]
      simp
end Go.Proofs.Ytkcfbcbkokabdaa
