
/- Regions that draw their order, only read, and call functions that read and lay blocks of their own: one walk. -/
import Derived.Test.YtkcfbcbkokabdaaB3
import Derived.Deep.QuietTactic
namespace Go.Proofs.Ytkcfbcbkokabdaa
set_option linter.unusedVariables false
set_option linter.unusedSimpArgs false
open Go.RowKit

/-- w with blocks laid behind it, at another count of draws. -/
def wg (w : World) (m : Nat) (os : Array Obj) : World := { w with heap := w.heap ++ os, drawn := m }
structure GB where
  n : Nat
  os : Array Obj
  deriving Inhabited
theorem Mid.ofWg (w : World) (m : Nat) (os : Array Obj) : Mid 0 0 w (wg w m os) :=
  ⟨rfl, rfl, rfl, by simp [wg], fun k hk _ => by simp [wg, Array.getElem?_append, hk]⟩
theorem Mid.toWg {w w' : World} (h : Mid 0 0 w w') : ∃ p : GB, w' = wg w p.n p.os := by
  refine ⟨⟨w'.drawn, w'.heap.extract w.heap.size w'.heap.size⟩, ?_⟩
  have hh : w'.heap = w.heap ++ w'.heap.extract w.heap.size w'.heap.size := by
    apply Array.ext_getElem?
    intro k
    by_cases hk : k < w.heap.size
    · rw [Array.getElem?_append_left hk]
      exact h.block k hk (by omega)
    · rw [Array.getElem?_append_right (by omega), Array.getElem?_extract]
      have hs := h.size
      by_cases hk2 : k < w'.heap.size
      · rw [if_pos (by omega), show w.heap.size + (k - w.heap.size) = k by omega]
      · rw [if_neg (by omega), Array.getElem?_eq_none (by omega)]
  have h1 := h.os
  have h2 := h.tape
  have h3 := h.output
  cases w'
  cases w
  simp only [wg] at *
  subst h1 h2 h3
  congr 1
theorem wg_cell {w : World} {a : Addr} {v : Value} (hb : a.block < w.heap.size) (h : w.cell? a = some v) (n : Nat) (os : Array Obj) : (wg w n os).cell? a = some v :=
  (World.cell?_of_block ((Mid.ofWg w n os).block a.block hb (by omega))).trans h
theorem wg_size (w : World) (n : Nat) (os : Array Obj) : (wg w n os).heap.size = w.heap.size + os.size := by simp [wg]
theorem wp_region_quiet_wg {P : Program} {id : Nat} {Q : Exit → Act → World → Prop} {a : Act} {w : World} {l : List Oper} (hm : P.follows .mixedOrders = true) (hB : Region.lexB .any l.toArray = true)
    (h : wpQuiet P l.toArray (fun w' => ∃ p : GB, w' = wg w p.n p.os) (fun a' => ∀ w', (∃ p : GB, w' = wg w p.n p.os) → Q .normal a' w') l a) : (Code.region id l.toArray true).wp P Q a w :=
  wp_region_quiet (C := fun w' => ∃ p : GB, w' = wg w p.n p.os) hm hB (Mid.drew1 w).toWg (by simpa using h)
/-- A callee's contract, met in a world of the class. -/
theorem Calls.wg_of {P : Program} {f : FuncId} {args : Array Value} {w : World} {n : Nat} {os : Array Obj} {v : Value}
    (h : Calls P f args (wg w n os) fun e w' => e = .returned v ∧ Mid 0 0 (wg w n os) w') : Calls P f args (wg w n os) fun e w'' => e = .returned v ∧ ∃ p : GB, w'' = wg w p.n p.os :=
  h.mono fun _ _ ⟨he, hm⟩ => ⟨he, ((Mid.ofWg w n os).trans hm).toWg⟩
/-- The same where the callee leaves the world alone. -/
theorem Calls.wg_same {P : Program} {f : FuncId} {args : Array Value} {w : World} {n : Nat} {os : Array Obj} {v : Value}
    (h : Calls P f args (wg w n os) fun e w' => e = .returned v ∧ wg w n os = w') : Calls P f args (wg w n os) fun e w'' => e = .returned v ∧ ∃ p : GB, w'' = wg w p.n p.os :=
  h.mono fun _ _ ⟨he, hm⟩ => ⟨he, ⟨n, os⟩, hm.symm⟩
end Go.Proofs.Ytkcfbcbkokabdaa
