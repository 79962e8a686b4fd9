
/- Plain words on letters and words: inverse letters, the orders of letters and words, reduction. -/
namespace Go.Proofs.Ytkcfbcbkokabdaa
set_option linter.unusedVariables false
set_option linter.unusedSimpArgs false

/-- The least int. -/
def minI : Int := -9223372036854775808
theorem minI_eq : minI = -9223372036854775808 := rfl

/-- Two letters are inverse to each other. -/
def invB (a b : Int) : Bool := decide (a ≠ 0 ∧ a ≠ minI ∧ b = -a)
theorem invB_iff (a b : Int) : invB a b = true ↔ (a ≠ 0 ∧ a ≠ minI ∧ b = -a) := by simp [invB]

/-- A word of a rank. -/
def letB (rank x : Int) : Bool := decide (x ≠ 0 ∧ -rank ≤ x ∧ x ≤ rank)
def WordP (rank : Int) (w : List Int) : Prop :=
  (∀ x ∈ w, x ≠ 0 ∧ -rank ≤ x ∧ x ≤ rank) ∧ (∀ k x y, w[k]? = some x → w[k + 1]? = some y → y ≠ -x)
def IsW (rank : Int) (w : List Int) : Prop := 1 ≤ rank ∧ rank ≤ 3 ∧ w.length ≤ 24 ∧ WordP rank w

/-- -1, 0 or 1 -/
def cmpI (a b : Int) : Int := if a < b then -1 else if b < a then 1 else 0
theorem cmpI_vals (a b : Int) : cmpI a b = -1 ∨ cmpI a b = 0 ∨ cmpI a b = 1 := by
  unfold cmpI
  repeat' split
  all_goals simp
def absI (a : Int) : Int := if a < 0 then -a else a
/-- The order of letters: 0, 1, -1, 2, -2, .., the least int last. -/
def cmpL (a b : Int) : Int :=
  if a = b then 0 else if a = minI then 1 else if b = minI then -1
  else if absI a < absI b then -1 else if absI b < absI a then 1 else if b < a then -1 else 1
theorem cmpL_vals (a b : Int) : cmpL a b = -1 ∨ cmpL a b = 0 ∨ cmpL a b = 1 := by
  unfold cmpL
  repeat' split
  all_goals simp
theorem cmpL_zero {a b : Int} : cmpL a b = 0 ↔ a = b := by
  unfold cmpL
  constructor
  · intro h
    repeat' split at h
    all_goals first | assumption | (simp at h)
  · intro h
    simp [h]
/-- Letter by letter. -/
def cmpLs : List Int → List Int → Int
  | a :: x, b :: y => if cmpL a b = 0 then cmpLs x y else cmpL a b
  | _, _ => 0
/-- The order of words. -/
def cmpW (a b : List Int) : Int := if a.length < b.length then -1 else if b.length < a.length then 1 else cmpLs a b
theorem cmpLs_vals (a b : List Int) : cmpLs a b = -1 ∨ cmpLs a b = 0 ∨ cmpLs a b = 1 := by
  induction a generalizing b with
  | nil => simp [cmpLs]
  | cons x t ih =>
    cases b with
    | nil => simp [cmpLs]
    | cons y s =>
      simp only [cmpLs]
      split
      · exact ih s
      · exact cmpL_vals x y
theorem cmpW_vals (a b : List Int) : cmpW a b = -1 ∨ cmpW a b = 0 ∨ cmpW a b = 1 := by
  unfold cmpW
  split
  · simp
  · split
    · simp
    · exact cmpLs_vals a b

theorem cmpL_swap {a b : Int} (_ha : minI ≤ a) (_hb : minI ≤ b) : cmpL b a = -cmpL a b := by
  unfold cmpL absI minI at *
  repeat' split
  all_goals first | rfl | omega
theorem cmpLs_swap {a b : List Int} (hlen : a.length = b.length) (ha : ∀ x ∈ a, minI ≤ x) (hb : ∀ x ∈ b, minI ≤ x) : cmpLs b a = -cmpLs a b := by
  induction a generalizing b with
  | nil => cases b <;> simp [cmpLs]
  | cons x t ih =>
    cases b with
    | nil => simp at hlen
    | cons y s =>
      have h1 := cmpL_swap (ha x (by simp)) (hb y (by simp))
      have h2 := ih (b := s) (by simpa using hlen) (fun z hz => ha z (by simp [hz])) (fun z hz => hb z (by simp [hz]))
      simp only [cmpLs]
      by_cases h0 : cmpL x y = 0
      · rw [if_pos h0, if_pos (by omega), h2]
      · rw [if_neg h0, if_neg (by omega), h1]
theorem cmpW_swap {a b : List Int} (ha : ∀ x ∈ a, minI ≤ x) (hb : ∀ x ∈ b, minI ≤ x) : cmpW b a = -cmpW a b := by
  unfold cmpW
  by_cases h1 : a.length < b.length
  · rw [if_neg (by omega), if_pos h1, if_pos h1]; rfl
  · by_cases h2 : b.length < a.length
    · rw [if_pos h2, if_neg h1, if_pos h2]
    · rw [if_neg h2, if_neg h1, if_neg h1, if_neg h2]
      exact cmpLs_swap (by omega) ha hb

/-- The negative of a letter as an int; the least int is its own. -/
def negI (x : Int) : Int := if x = minI then minI else -x
def invW (w : List Int) : List Int := (w.map negI).reverse
theorem invW_len (w : List Int) : (invW w).length = w.length := by simp [invW]

/-- One step of the reduction. -/
def redStep (out : List Int) (x : Int) : List Int :=
  match out.getLast? with
  | some a => if invB a x then out.dropLast else out ++ [x]
  | none => [x]
def red (out w : List Int) : List Int := w.foldl redStep out
theorem red_nil (out : List Int) : red out [] = out := rfl
theorem red_cons (out : List Int) (x : Int) (w : List Int) : red out (x :: w) = red (redStep out x) w := rfl
theorem red_append (out a b : List Int) : red out (a ++ b) = red (red out a) b := by simp [red]
theorem redStep_empty (x : Int) : redStep [] x = [x] := rfl
theorem redStep_pop {out : List Int} {a x : Int} (h : invB a x = true) : redStep (out ++ [a]) x = out := by simp [redStep, h]
theorem redStep_push {out : List Int} {a x : Int} (h : invB a x = false) : redStep (out ++ [a]) x = out ++ [a] ++ [x] := by simp [redStep, h]
theorem redStep_len (out : List Int) (x : Int) : (redStep out x).length ≤ out.length + 1 := by
  unfold redStep
  split
  · split <;> simp
    omega
  · simp
theorem red_len (out w : List Int) : (red out w).length ≤ out.length + w.length := by
  induction w generalizing out with
  | nil => simp [red]
  | cons x t ih =>
    rw [red_cons]
    have h1 := ih (redStep out x)
    have h2 := redStep_len out x
    simp
    omega
end Go.Proofs.Ytkcfbcbkokabdaa
