
/- Plain: Nielsen moves on lists of words. -/
import Derived.Test.YtchgicdjdbjfgaaL21
namespace Go.Proofs.Ytchgicdjdbjfgaa
set_option linter.unusedVariables false
set_option linter.unusedSimpArgs false
open Go.RowKit

/-- A move. -/
structure Mv where
  kind : Int
  i : Int
  j : Int
  sign : Int
deriving DecidableEq
def Mv.v (m : Mv) : Value := .agg #[.int .i64 m.kind, .int .i64 m.i, .int .i64 m.j, .int .i64 m.sign]
/-- The row at a place. -/
def rowAt (l : List (List Int)) (i : Int) : List Int := l.getD i.toNat []
/-- Is the second place of a move good? -/
def MvOk (l : List (List Int)) (m : Mv) : Prop := 0 ≤ m.j ∧ m.j < l.length ∧ m.j ≠ m.i ∧ (m.sign = 1 ∨ m.sign = -1)
instance (l : List (List Int)) (m : Mv) : Decidable (MvOk l m) := by unfold MvOk; infer_instance
/-- The other word of a move. -/
def mvWord (l : List (List Int)) (m : Mv) : List Int := if m.sign < 0 then invW (rowAt l m.j) else rowAt l m.j
def applyM (l : List (List Int)) (m : Mv) : List (List Int) × Bool :=
  if ¬ (0 ≤ m.i ∧ m.i < l.length) then (l, false)
  else if m.kind = 1 then (l.set m.i.toNat (invW (rowAt l m.i)), true)
  else if m.kind = 4 then (if 0 < (rowAt l m.i).length then (l, false) else (l.eraseIdx m.i.toNat, true))
  else if ¬ MvOk l m then (l, false)
  else if m.kind = 2 then (l.set m.i.toNat (red [] (rowAt l m.i ++ mvWord l m)), true)
  else if m.kind = 3 then (l.set m.i.toNat (red [] (mvWord l m ++ rowAt l m.i)), true)
  else (l, false)

theorem rowAt_get {l : List (List Int)} {k : Nat} {xs : List Int} (h : l[k]? = some xs) : rowAt l (k : Int) = xs := by
  unfold rowAt
  rw [Int.toNat_natCast, List.getD_eq_getElem?_getD, h]
  rfl
theorem sumL_set {l : List (List Int)} {k : Nat} {xs ys : List Int} (h : l[k]? = some xs) : sumL (l.set k ys) + xs.length = sumL l + ys.length := by
  induction l generalizing k with
  | nil => simp at h
  | cons a t ih =>
    cases k with
    | zero =>
      simp at h
      subst h
      simp [sumL]
      omega
    | succ k =>
      simp at h
      have := ih h
      simp [sumL] at this ⊢
      omega
theorem sumL_erase {l : List (List Int)} {k : Nat} {xs : List Int} (h : l[k]? = some xs) : sumL (l.eraseIdx k) + xs.length = sumL l := by
  induction l generalizing k with
  | nil => simp at h
  | cons a t ih =>
    cases k with
    | zero =>
      simp at h
      subst h
      simp [sumL]
      omega
    | succ k =>
      simp at h
      have := ih h
      simp [sumL] at this ⊢
      omega
theorem two_le_sumL {l : List (List Int)} {i k : Nat} {xs ys : List Int} (h : l[i]? = some xs) (h' : l[k]? = some ys) (hne : i ≠ k) : xs.length + ys.length ≤ sumL l := by
  induction l generalizing i k with
  | nil => simp at h
  | cons a t ih =>
    cases i with
    | zero =>
      cases k with
      | zero => omega
      | succ k =>
        simp at h h'
        subst h
        have := len_le_sumL (List.mem_of_getElem? h')
        simp [sumL] at this ⊢
        omega
    | succ i =>
      cases k with
      | zero =>
        simp at h h'
        subst h'
        have := len_le_sumL (List.mem_of_getElem? h)
        simp [sumL] at this ⊢
        omega
      | succ k =>
        simp at h h'
        have := ih h h' (by omega)
        simp [sumL] at this ⊢
        omega
theorem okI_app {xs ys : List Int} (h : OkI xs) (h' : OkI ys) : OkI (xs ++ ys) := fun x hx => by
  rcases List.mem_append.1 hx with h1 | h1
  · exact h x h1
  · exact h' x h1

/-! ### the next move -/
/-- The four moves of a pair, in order. -/
def mvOf (i k n : Nat) : Mv := ⟨2 + (n : Int) / 2, i, k, 1 - 2 * ((n : Int) % 2)⟩
def mvTry (l : List (List Int)) (i k n : Nat) : Bool :=
  (applyM l (mvOf i k n)).2 && decide (cmpN (rowAt (applyM l (mvOf i k n)).1 i) (rowAt l i) < 0)
def tryN (l : List (List Int)) (i k n : Nat) : Option Mv := if mvTry l i k n then some (mvOf i k n) else none
def tryK (l : List (List Int)) (i k : Nat) : Option Mv := (List.range 4).findSome? (tryN l i k)
def tryI (l : List (List Int)) (i : Nat) : Option Mv := (List.range l.length).findSome? (tryK l i)
def tryD (l : List (List Int)) (i : Nat) : Option Mv := if (rowAt l i).length = 0 then some ⟨4, i, 0, 0⟩ else none
def nextM (l : List (List Int)) : Option Mv :=
  ((List.range l.length).findSome? (tryD l)).or ((List.range l.length).findSome? (tryI l))
theorem find_range_succ {α : Type} (f : Nat → Option α) (k : Nat) (h : (List.range k).findSome? f = none) : (List.range (k + 1)).findSome? f = f k := by
  rw [List.range_succ, List.findSome?_append, h]
  cases hf : f k <;> simp [hf]
theorem find_range_some {α : Type} (f : Nat → Option α) {k n : Nat} {x : α} (h : (List.range k).findSome? f = none) (hk : k < n) (hx : f k = some x) : (List.range n).findSome? f = some x := by
  obtain ⟨m, rfl⟩ : ∃ m, n = k + 1 + m := ⟨n - (k + 1), by omega⟩
  rw [List.range_add, List.findSome?_append, find_range_succ f k h, hx]
  rfl
end Go.Proofs.Ytchgicdjdbjfgaa
