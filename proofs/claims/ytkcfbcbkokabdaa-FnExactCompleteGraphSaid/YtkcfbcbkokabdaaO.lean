
/- Opening of arguments that came in: an int slice reads as a list. -/
import Derived.Test.YtkcfbcbkokabdaaB2
import Derived.Deep.Matrix
import Derived.Lib.SmallJoins
import Derived.ProofKit
import Derived.OpenShut
import Derived.ShutString
import Derived.ChangeOld
namespace Go.Proofs.Ytkcfbcbkokabdaa
set_option linter.unusedVariables false
set_option linter.unusedSimpArgs false
open Go.ChangeShapes Go.WideShapes Go.ChangeAt Go.RowKit
open Go.Joins

section
variable {H : Type} {enc : TypeId × Value → H} {P : Program} {W : World} {T E : TypeId}
theorem wf_bounds {n : Int} (h : (Lit.int .i64 n).wf = true) : -9223372036854775808 ≤ n ∧ n ≤ 9223372036854775807 := bounds_i64 h

theorem ints_of_cells (uT : P.underlying T = some (.slice E)) (uE : P.underlying E = some (.int .i64)) (cE : P.cellsOf E = 1) {fuel : Nat} {A : Option Addr} {len c : Nat} {x : DataW H × List MemPlace}
    (h : DataW.trod enc P W 0 (fun _ => true) true fuel T [.slice A len c] = some x) : ∃ xs : List Int, len = xs.length ∧ RV W 0 W.heap.size A (ints xs) ∧ OkI xs ∧ xs.length ≤ 9223372036854775807 := by
  rcases open_ints uT uE cE h with ⟨hcs, _⟩ | ⟨a, l, cc, zs, hcs, _, hl, hm, hz, _, hcell, hwz⟩
  · simp at hcs
    obtain ⟨rfl, rfl, rfl⟩ := hcs
    exact ⟨[], rfl, ⟨Nat.le_refl _, fun hn => absurd rfl hn⟩, fun x hx => by simp at hx, by simp⟩
  · simp at hcs
    obtain ⟨rfl, rfl, rfl⟩ := hcs
    simp at hz
    refine ⟨zs.take len, by simp; omega, ⟨Nat.le_refl _, fun hn => ?_⟩, fun x hx => wf_bounds (hwz x (List.mem_of_mem_take hx)), by unfold maxLen at hm; simp; omega⟩
    have hp : 0 < zs.length := by
      rcases Nat.eq_zero_or_pos zs.length with h0 | h0
      · have := List.eq_nil_of_length_eq_zero h0
        subst this
        simp [ints] at hn
      · exact h0
    obtain ⟨b, off, rfl, hc⟩ := ints_at hcell hp
    refine ⟨b, off, rfl, Nat.zero_le _, World.block_lt_of_cell? _ _ (hc 0 hp), fun j u hu => ?_⟩
    have hj : j < zs.length := by
      have := (List.getElem?_eq_some_iff.1 hu).1
      simp [ints] at this
      omega
    rw [hc j hj]
    rw [ints_get, List.getElem?_take] at hu
    split at hu
    · rw [List.getElem?_eq_getElem hj] at hu
      simp at hu
      rw [← hu]
      simp [List.getD, List.getElem?_eq_getElem hj]
    · simp at hu
theorem open_intS (uT : P.underlying T = some (.slice E)) (uE : P.underlying E = some (.int .i64)) (cE : P.cellsOf E = 1) {r : Reach} {base : Nat} {v : Value} {d : DataW H} {ps : List MemPlace}
    (hok : Value.okWide P W r base T v) (h : DataW.Trod enc P W 0 (fun _ => true) true T v d ps) : ∃ A xs c, v = .slice A (List.length xs) c ∧ RV W 0 W.heap.size A (ints xs) ∧ OkI xs ∧ xs.length ≤ 9223372036854775807 := by
  obtain ⟨A, len, c, rfl⟩ := okWide_slice uT hok
  obtain ⟨fuel, hf⟩ := h
  obtain ⟨xs, rfl, h1, h2⟩ := ints_of_cells (A := A) (len := len) (c := c) uT uE cE (by simpa [Value.cells] using hf)
  exact ⟨A, xs, c, rfl, h1, h2⟩

theorem rv_of_ints {A : Option Addr} {L C : Nat} {Z : List Int} (hL : L ≤ C) (hZ : Z.length = C) (hn : A = none → C = 0) (hc : ∀ a', A = some a' → 0 ≤ a'.block ∧ ∀ c, c < C → W.cell? (a'.add c) = some (.int .i64 (Z.getD c 0))) :
    RV W 0 W.heap.size A (ints (Z.take L)) := by
  refine ⟨Nat.le_refl _, fun hne => ?_⟩
  have hp : 0 < Z.length := by
    rcases Nat.eq_zero_or_pos Z.length with h0 | h0
    · have := List.eq_nil_of_length_eq_zero h0
      subst this
      simp [ints] at hne
    · exact h0
  cases hA : A with
  | none => have := hn hA; omega
  | some a' =>
    obtain ⟨b, off, rfl, hcc⟩ := ints_at (w := W) (k := .i64) (a := a') (zs := Z) (fun i hi => (hc a' hA).2 i (by omega)) hp
    refine ⟨b, off, rfl, Nat.zero_le _, World.block_lt_of_cell? _ _ (hcc 0 hp), fun j u hu => ?_⟩
    have hj : j < Z.length := by
      have := (List.getElem?_eq_some_iff.1 hu).1
      simp [ints] at this
      omega
    rw [hcc j hj]
    rw [ints_get, List.getElem?_take] at hu
    split at hu
    · rw [List.getElem?_eq_getElem hj] at hu
      simp at hu
      rw [← hu]
      simp [List.getD, List.getElem?_eq_getElem hj]
    · simp at hu

/-- Every number of every row fits an int, and every length is one that there can be. -/
def OkSS (xss : List (List Int)) : Prop := (xss.length ≤ 9223372036854775807 ∧ ∀ xs ∈ xss, xs.length ≤ 9223372036854775807) ∧ ∀ xs ∈ xss, OkI xs

theorem rss_of_cells {E2 : TypeId} (uT : P.underlying T = some (.slice E)) (uE : P.underlying E = some (.slice E2)) (uE2 : P.underlying E2 = some (.int .i64)) (cE : P.cellsOf E = 1) (cE2 : P.cellsOf E2 = 1)
    {fuel : Nat} {A : Option Addr} {len c : Nat} {x : DataW H × List MemPlace} (h : DataW.trod enc P W 0 (fun _ => true) true fuel T [.slice A len c] = some x) :
    ∃ xss : List (List Int), len = xss.length ∧ RSS W 0 W.heap.size A xss ∧ OkSS xss := by
  rcases Go.Deep.open_int_rows uT uE uE2 cE cE2 h with ⟨hcs, _⟩ | ⟨a, l, cc, AA, L, C, Z, hcs, _, hl, hm, _, hx⟩
  · simp at hcs
    obtain ⟨rfl, rfl, rfl⟩ := hcs
    exact ⟨[], rfl, RSS.nil (Nat.le_refl _), ⟨by simp, by simp⟩, by simp⟩
  · simp at hcs
    obtain ⟨rfl, rfl, rfl⟩ := hcs
    refine ⟨(List.range len).map fun r => (Z r).take (L r), by simp, ⟨(List.range len).map fun r => ⟨AA r, C r, (Z r).take (L r)⟩, by simp [rowsD], ⟨Nat.le_refl _, fun hne => ?_⟩, ?_⟩, ⟨?_, ?_⟩, ?_⟩
    · have hpos : 0 < len := by
        rcases Nat.eq_zero_or_pos len with h0 | h0
        · subst h0
          simp [rowsV] at hne
        · exact h0
      have hc0 := (hx 0 (by omega)).1
      obtain ⟨b, off, spot⟩ := a
      have hspot : spot = none := by simpa [Addr.add] using World.cell?_spot hc0
      subst hspot
      refine ⟨b, off, rfl, Nat.zero_le _, ?_, fun j u hu => ?_⟩
      · have := World.block_lt_of_cell? _ _ hc0
        simpa [Addr.add] using this
      · have hj : j < len := by
          have := (List.getElem?_eq_some_iff.1 hu).1
          simpa [rowsV] using this
        obtain ⟨h1, h2, h3, h4, _⟩ := hx j (by omega)
        rw [Addr.add_lit] at h1
        rw [h1]
        simp [rowsV, hj, Row.v] at hu
        rw [← hu]
        congr 1
        congr 1
        omega
    · intro r hr
      obtain ⟨j, hj, rfl⟩ := List.mem_map.1 hr
      have hj' : j < len := by simpa using hj
      obtain ⟨h1, h2, h3, h4, h5, h6, h7⟩ := hx j (by omega)
      exact rv_of_ints h2 h4 h6 h7
    · unfold maxLen at hm; simp; omega
    · intro xs hxs
      obtain ⟨j, hj, rfl⟩ := List.mem_map.1 hxs
      have hj' : j < len := by simpa using hj
      obtain ⟨h1, h2, h3, h4, _⟩ := hx j (by omega)
      unfold maxLen at h3
      simp; omega
    · intro xs hxs
      obtain ⟨j, hj, rfl⟩ := List.mem_map.1 hxs
      have hj' : j < len := by simpa using hj
      obtain ⟨h1, h2, h3, h4, h5, _⟩ := hx j (by omega)
      exact fun y hy => wf_bounds (h5 y (List.mem_of_mem_take hy))
theorem open_intSS {E2 : TypeId} (uT : P.underlying T = some (.slice E)) (uE : P.underlying E = some (.slice E2)) (uE2 : P.underlying E2 = some (.int .i64)) (cE : P.cellsOf E = 1) (cE2 : P.cellsOf E2 = 1)
    {r : Reach} {base : Nat} {v : Value} {d : DataW H} {ps : List MemPlace} (hok : Value.okWide P W r base T v) (h : DataW.Trod enc P W 0 (fun _ => true) true T v d ps) :
    ∃ A xss c, v = .slice A (List.length xss) c ∧ RSS W 0 W.heap.size A xss ∧ OkSS xss := by
  obtain ⟨A, len, c, rfl⟩ := okWide_slice uT hok
  obtain ⟨fuel, hf⟩ := h
  obtain ⟨xss, rfl, h1, h2⟩ := rss_of_cells (A := A) (len := len) (c := c) uT uE uE2 cE cE2 (by simpa [Value.cells] using hf)
  exact ⟨A, xss, c, rfl, h1, h2⟩
end
end Go.Proofs.Ytkcfbcbkokabdaa
