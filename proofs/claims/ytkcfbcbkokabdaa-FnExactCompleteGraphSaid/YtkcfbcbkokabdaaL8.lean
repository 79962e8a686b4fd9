
/- Contracts of the laws' helpers on slices of int slices. -/
import Derived.Test.YtkcfbcbkokabdaaL1
import Derived.Test.YtkcfbcbkokabdaaB2
namespace Go.Proofs.Ytkcfbcbkokabdaa
set_option linter.unusedVariables false
set_option linter.unusedSimpArgs false
open Go.RowKit

theorem infoSI : (Try.prog.info? 41).map (fun i => (i.zero, i.size, i.bytes)) = some (some (.slice none 0 0), 1, 24) := by kernel_rfl
theorem undSSI : Try.prog.underlying 70 = some (.slice 41) := by kernel_rfl

/-- What is left of a budget, or -1. -/
def szI (left : Int) (n : Nat) : Int := if (n : Int) ≤ left then left - n else -1

/-- How many numbers stand in the rows. -/
def sumL (xss : List (List Int)) : Nat := (xss.map List.length).sum
theorem sumL_append (a b : List (List Int)) : sumL (a ++ b) = sumL a + sumL b := by simp [sumL]
theorem sumL_one (a : List Int) : sumL [a] = a.length := by simp [sumL]
theorem sumL_take_succ {xss : List (List Int)} {k : Nat} {xs : List Int} (h : xss[k]? = some xs) : sumL (xss.take (k + 1)) = sumL (xss.take k) + xs.length := by
  rw [take_succ_of xss h, sumL_append, sumL_one]
theorem sumL_take_le (xss : List (List Int)) (k : Nat) : sumL (xss.take k) ≤ sumL xss := by
  have h := List.take_append_drop k xss
  have := sumL_append (xss.take k) (xss.drop k)
  rw [h] at this
  omega
theorem len_le_sumL {xss : List (List Int)} {xs : List Int} (h : xs ∈ xss) : xs.length ≤ sumL xss := by
  obtain ⟨k, hk⟩ := List.mem_iff_getElem?.1 h
  have h1 := sumL_take_succ hk
  have h2 := sumL_take_le xss (k + 1)
  omega

/-- The lengths are lengths of slices that there can be. -/
def LenOk (xss : List (List Int)) : Prop := xss.length ≤ 9223372036854775807 ∧ ∀ xs ∈ xss, xs.length ≤ 9223372036854775807

/-- The rows with marks in them, from q on. -/
def markD (q : Int) : List (List Int) → List (List Int)
  | [] => []
  | xs :: r => marks q xs.length :: markD (q + xs.length) r
def markRows (q : Int) : List Row → List Row
  | [] => []
  | r :: t => { r with xs := marks q r.xs.length } :: markRows (q + r.xs.length) t
theorem markRows_D (q : Int) (rows : List Row) : rowsD (markRows q rows) = markD q (rowsD rows) := by
  induction rows generalizing q with
  | nil => rfl
  | cons r t ih =>
    show marks q r.xs.length :: rowsD (markRows (q + r.xs.length) t) = marks q r.xs.length :: markD (q + r.xs.length) (rowsD t)
    rw [ih]
theorem markD_len (q : Int) (xss : List (List Int)) : (markD q xss).length = xss.length := by
  induction xss generalizing q with
  | nil => rfl
  | cons x t ih => simp [markD, ih]
theorem markD_sum (q : Int) (xss : List (List Int)) : sumL (markD q xss) = sumL xss := by
  induction xss generalizing q with
  | nil => rfl
  | cons x t ih =>
    have := ih (q + x.length)
    simp [sumL, markD, marks_len] at this ⊢
    omega
theorem markD_get (q : Int) (xss : List (List Int)) {k : Nat} {xs : List Int} (h : xss[k]? = some xs) : (markD q xss)[k]? = some (marks (q + sumL (xss.take k)) xs.length) := by
  induction xss generalizing q k with
  | nil => simp at h
  | cons x t ih =>
    cases k with
    | zero =>
      simp at h
      subst h
      simp [markD, sumL]
    | succ k =>
      simp at h
      have := ih (q + x.length) h
      simp [markD, this, sumL]
      rw [Int.add_assoc]
theorem rowsD_map_xs (rows : List Row) (f : Row → List Int) : rowsD (rows.map fun r => { r with xs := f r }) = rows.map f := by
  simp [rowsD]

theorem OwnRows.mark {w w' : World} {lo hi : Nat} {tI : TypeId} {fs bs : List Row} {r : Row} {ys : List Int} (h : OwnRows w lo hi tI (fs ++ r :: bs)) (hg : w.grownBy w' r.v.ownBlock) (hy : ys.length = r.xs.length)
    (ho : w'.ownsRow lo tI 1 r.v r.xs.length (ints ys)) : OwnRows w' lo hi tI (fs ++ { r with xs := ys } :: bs) := by
  have hvv : ({ r with xs := ys } : Row).v = r.v := by simp [Row.v, hy]
  have hp := h.2
  rw [List.pairwise_append, List.pairwise_cons] at hp
  obtain ⟨hp1, ⟨hp2, hp3⟩, hp4⟩ := hp
  refine ⟨fun s hs => ?_, ?_⟩
  · rcases List.mem_append.1 hs with hm | hm
    · have ⟨h1, h2, h3⟩ := h.1 s (List.mem_append_left _ hm)
      exact ⟨Nat.le_trans h1 hg.size, h2.kept hg (hp4 s hm r List.mem_cons_self), h3⟩
    · rcases List.mem_cons.1 hm with hm | hm
      · subst hm
        have ⟨h1, h2, h3⟩ := h.1 r (List.mem_append_right _ List.mem_cons_self)
        refine ⟨Nat.le_trans h1 hg.size, ?_, ?_⟩
        · show w'.ownsRow lo tI 1 (.slice r.A ys.length r.c) ys.length (ints ys)
          rw [hy]
          exact ho
        · show ∀ g, Value.ownBlock (.slice r.A ys.length r.c) = some g → g < hi
          rw [hy]
          exact h3
      · have ⟨h1, h2, h3⟩ := h.1 s (List.mem_append_right _ (List.mem_cons_of_mem _ hm))
        refine ⟨Nat.le_trans h1 hg.size, h2.kept hg ?_, h3⟩
        rcases hp2 s hm with hn | hn
        · cases hv : s.v.ownBlock with
          | none => exact .inl hv
          | some g =>
            refine .inr ?_
            show s.v.ownBlock ≠ _
            rw [hn, hv]
            simp
        · exact .inr (fun e => hn e.symm)
  · rw [List.pairwise_append, List.pairwise_cons]
    refine ⟨hp1, ⟨fun s hs => by rw [hvv]; exact hp2 s hs, hp3⟩, fun s hs t ht => ?_⟩
    rcases List.mem_cons.1 ht with rfl | ht
    · rw [hvv]
      exact hp4 s hs r List.mem_cons_self
    · exact hp4 s hs t (List.mem_cons_of_mem _ ht)

theorem markRows_snoc (q : Int) (fs : List Row) (r : Row) : markRows q (fs ++ [r]) = markRows q fs ++ [{ r with xs := marks (q + sumL (rowsD fs)) r.xs.length }] := by
  induction fs generalizing q with
  | nil => simp [markRows, sumL, rowsD]
  | cons s t ih =>
    have := ih (q + s.xs.length)
    simp [markRows, this, sumL, rowsD]
    rw [Int.add_assoc]
theorem markRows_V (q : Int) (rows : List Row) : rowsV (markRows q rows) = rowsV rows := by
  induction rows generalizing q with
  | nil => rfl
  | cons r t ih =>
    show Row.v _ :: rowsV (markRows (q + r.xs.length) t) = Row.v r :: rowsV t
    rw [ih]
    simp [Row.v, marks_len]
theorem OV.grown {w w' : World} {lo hi : Nat} {e : TypeId} {size : Nat} {A : Option Addr} {c n : Nat} {cs : List Value} {row : Option Nat} (h : OV w lo hi e size A c n cs) (hg : w.grownBy w' row)
    (hne : Value.ownBlock (.slice A n c) = none ∨ Value.ownBlock (.slice A n c) ≠ row) : OV w' lo hi e size A c n cs :=
  ⟨Nat.le_trans h.1 hg.size, h.2.1.kept hg hne, h.2.2⟩

end Go.Proofs.Ytkcfbcbkokabdaa
