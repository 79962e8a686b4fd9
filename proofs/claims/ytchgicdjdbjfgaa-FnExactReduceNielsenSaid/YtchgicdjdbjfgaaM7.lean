/- Plain: the run of the reduction; lists of moves as numbers. -/
import Derived.Test.YtchgicdjdbjfgaaM6
namespace Go.Proofs.Ytchgicdjdbjfgaa
set_option linter.unusedVariables false
set_option linter.unusedSimpArgs false
open Go.RowKit

/-- At most n moves. -/
def runN : Nat → List (List Int) → List (List Int) × List Mv
  | 0, l => (l, [])
  | n + 1, l => match nextM l with
    | none => (l, [])
    | some m => ((runN n (applyM l m).1).1, m :: (runN n (applyM l m).1).2)
theorem runN_none {n : Nat} {l : List (List Int)} (h : nextM l = none) : runN n l = (l, []) := by
  cases n with
  | zero => rfl
  | succ n => simp [runN, h]
theorem runN_some {n : Nat} {l : List (List Int)} {m : Mv} (h : nextM l = some m) : runN (n + 1) l = ((runN n (applyM l m).1).1, m :: (runN n (applyM l m).1).2) := by simp [runN, h]
theorem find_some_at {α : Type} {f : Nat → Option α} {n : Nat} {x : α} (h : (List.range n).findSome? f = some x) : ∃ k, k < n ∧ f k = some x := by
  obtain ⟨k, hk, hx⟩ := List.exists_of_findSome?_eq_some h
  exact ⟨k, List.mem_range.1 hk, hx⟩
theorem cmpN_len {a b : List Int} (h : cmpN a b < 0) : a.length ≤ b.length := by
  unfold cmpN at h
  split at h
  · omega
  · split at h
    · omega
    · omega
/-- What a move of NextMove does to the sizes. -/
structure Less (d x : List (List Int)) : Prop where
  len : x.length ≤ d.length
  sum : sumL x ≤ sumL d
  ok : (∀ xs ∈ d, OkI xs) → ∀ xs ∈ x, OkI xs
theorem mem_set_or {α : Type} {l : List α} {k : Nat} {a b : α} (h : b ∈ l.set k a) : b ∈ l ∨ b = a := List.mem_or_eq_of_mem_set h
theorem nextM_less {d : List (List Int)} {m : Mv} (h : nextM d = some m) : Less d (applyM d m).1 := by
  unfold nextM at h
  rcases hD : (List.range d.length).findSome? (tryD d) with _ | m'
  · rw [hD] at h
    simp at h
    obtain ⟨i, hi, hI⟩ := find_some_at (by simpa using h : (List.range d.length).findSome? (tryI d) = some m)
    obtain ⟨k, hk, hK⟩ := find_some_at hI
    obtain ⟨n, hn, hN⟩ := find_some_at hK
    unfold tryN at hN
    split at hN
    · rename_i ht
      injection hN with hN
      subst hN
      obtain ⟨xs, hx⟩ := get_of_lt d hi
      obtain ⟨ys, hy⟩ := get_of_lt d hk
      by_cases hik : k = i
      · subst hik
        rw [mvTry_same d k hn] at ht
        cases ht
      · obtain ⟨h1, h2⟩ := mvTry_at hx hy hik hn
        rw [h2] at ht
        have hc := cmpN_len (of_decide_eq_true ht)
        rw [h1]
        refine ⟨by simp, ?_, fun ho zs hz => ?_⟩
        · have := sumL_set (ys := mvRes xs ys n) hx
          show sumL (d.set i (mvRes xs ys n)) ≤ _
          omega
        · rcases mem_set_or hz with hz | rfl
          · exact ho zs hz
          · exact mvRes_ok (ho xs (List.mem_of_getElem? hx)) (ho ys (List.mem_of_getElem? hy)) n
    · cases hN
  · rw [hD] at h
    simp at h
    subst h
    obtain ⟨k, hk, hK⟩ := find_some_at hD
    unfold tryD at hK
    split at hK
    · rename_i ht
      injection hK with hK
      subst hK
      obtain ⟨xs, hx⟩ := get_of_lt d hk
      rw [rowAt_get hx] at ht
      rw [applyM_4 hx, if_neg (by omega)]
      refine ⟨?_, ?_, fun ho zs hz => ho zs (List.mem_of_mem_eraseIdx hz)⟩
      · show (d.eraseIdx k).length ≤ _
        rw [List.length_eraseIdx_of_lt hk]; omega
      · have := sumL_erase hx
        show sumL (d.eraseIdx k) ≤ _
        omega
    · cases hK
theorem runN_less (n : Nat) (d : List (List Int)) : Less d (runN n d).1 ∧ (runN n d).2.length ≤ n := by
  induction n generalizing d with
  | zero => exact ⟨⟨Nat.le_refl _, Nat.le_refl _, fun h => h⟩, Nat.le_refl _⟩
  | succ n ih =>
    cases h : nextM d with
    | none =>
      rw [runN_none h]
      exact ⟨⟨Nat.le_refl _, Nat.le_refl _, fun h => h⟩, Nat.zero_le _⟩
    | some m =>
      rw [runN_some h]
      have h1 := nextM_less h
      obtain ⟨h2, h3⟩ := ih (applyM d m).1
      exact ⟨⟨Nat.le_trans h2.len h1.len, Nat.le_trans h2.sum h1.sum, fun ho => h2.ok (h1.ok ho)⟩, by simp; omega⟩

/-! ### lists of moves -/
def mvI (m : Mv) : List Int := [m.kind, m.i, m.j, m.sign]
def mvsI (ms : List Mv) : List Int := (ms.map mvI).flatten
theorem mvsI_len (ms : List Mv) : (mvsI ms).length = ms.length * 4 := by
  induction ms with
  | nil => rfl
  | cons m t ih => simp [mvsI, mvI] at ih ⊢; omega
theorem mvsI_append (a b : List Mv) : mvsI (a ++ b) = mvsI a ++ mvsI b := by simp [mvsI]
theorem mvsI_one (m : Mv) : mvsI [m] = mvI m := by simp [mvsI]
end Go.Proofs.Ytchgicdjdbjfgaa
