/- Opening of arguments that came in: an int slice reads as a list. -/
import Derived.Test.YtpgbpdnijpjfjaaL7
import Derived.ProofKit
import Derived.OpenShut
import Derived.ShutString
import Derived.ChangeOld
namespace Go.Proofs.Ytpgbpdnijpjfjaa
open Go.ChangeShapes Go.WideShapes Go.ChangeAt Go.RowKit

section
variable {H : Type} {enc : TypeId × Value → H} {P : Program} {W : World} {T E : TypeId}
theorem wf_bounds {n : Int} (h : (Lit.int .i64 n).wf = true) : -9223372036854775808 ≤ n ∧ n ≤ 9223372036854775807 := bounds_i64 h

theorem ints_of_cells (uT : P.underlying T = some (.slice E)) (uE : P.underlying E = some (.int .i64)) (cE : P.cellsOf E = 1) {fuel : Nat} {A : Option Addr} {len c : Nat} {x : DataW H × List MemPlace}
    (h : DataW.trod enc P W 0 (fun _ => true) true fuel T [.slice A len c] = some x) : ∃ xs : List Int, len = xs.length ∧ RI W 0 W.heap.size A xs ∧ OkI xs := by
  rcases open_ints uT uE cE h with ⟨hcs, _⟩ | ⟨a, l, cc, zs, hcs, _, hl, hm, hz, _, hcell, hwz⟩
  · simp at hcs
    obtain ⟨rfl, rfl, rfl⟩ := hcs
    exact ⟨[], rfl, ⟨Nat.le_refl _, fun hn => absurd rfl hn⟩, fun x hx => by simp at hx⟩
  · simp at hcs
    obtain ⟨rfl, rfl, rfl⟩ := hcs
    simp at hz
    refine ⟨zs.take len, by simp; omega, ⟨Nat.le_refl _, fun hn => ?_⟩, fun x hx => wf_bounds (hwz x (List.mem_of_mem_take hx))⟩
    have hp : 0 < zs.length := by
      rcases Nat.eq_zero_or_pos zs.length with h0 | h0
      · have := List.eq_nil_of_length_eq_zero h0
        subst this
        simp [ints] at hn
      · exact h0
    obtain ⟨b, off, rfl, hc⟩ := ints_at hcell hp
    refine ⟨b, off, rfl, Nat.zero_le _, World.block_lt_of_cell? _ _ (hc 0 hp), fun j u hu => ?_⟩
    have hj : j < zs.length := by
      have := (List.getElem?_eq_some_iff.1 hu).1
      simp [ints] at this
      omega
    rw [hc j hj]
    rw [ints_get, List.getElem?_take] at hu
    split at hu
    · rw [List.getElem?_eq_getElem hj] at hu
      simp at hu
      rw [← hu]
      simp [List.getD, List.getElem?_eq_getElem hj]
    · simp at hu
theorem open_intS (uT : P.underlying T = some (.slice E)) (uE : P.underlying E = some (.int .i64)) (cE : P.cellsOf E = 1) {r : Reach} {base : Nat} {v : Value} {d : DataW H} {ps : List MemPlace}
    (hok : Value.okWide P W r base T v) (h : DataW.Trod enc P W 0 (fun _ => true) true T v d ps) : ∃ A xs c, v = .slice A (List.length xs) c ∧ RI W 0 W.heap.size A xs ∧ OkI xs := by
  obtain ⟨A, len, c, rfl⟩ := okWide_slice uT hok
  obtain ⟨fuel, hf⟩ := h
  obtain ⟨xs, rfl, h1, h2⟩ := ints_of_cells (A := A) (len := len) (c := c) uT uE cE (by simpa [Value.cells] using hf)
  exact ⟨A, xs, c, rfl, h1, h2⟩
end
end Go.Proofs.Ytpgbpdnijpjfjaa
