
/- Boxes: the block of a struct that a call holds by its address. -/
import Derived.Test.YtkcfbcbkokabdaaB2
namespace Go.Proofs.Ytkcfbcbkokabdaa
set_option linter.unusedVariables false
set_option linter.unusedSimpArgs false
open Go.RowKit

/-- Block b holds the cells cs, and may be written. -/
def Box (w : World) (b : Nat) (cs : List Value) : Prop := b < w.heap.size ∧ (∀ i u, cs[i]? = some u → w.cell? ⟨b, i, none⟩ = some u) ∧ ∀ i, w.frozen? ⟨b, i, none⟩ = false
section
variable {w w' : World} {b lo hi : Nat} {cs ys : List Value}
theorem Box.new (w : World) (a : Array Value) (t : TypeId) : Box (w.alloc (.cells a t)) w.heap.size a.toList :=
  ⟨by simp, fun i u hu => (World.cell?_alloc_at _ _ _ _ rfl).trans (by simpa using hu), fun i => World.frozen?_alloc_at _ _ _ _ rfl⟩
theorem Box.mid (h : Box w b cs) (m : Mid lo hi w w') (hd : b < lo ∨ hi ≤ b) : Box w' b cs :=
  ⟨Nat.lt_of_lt_of_le h.1 m.size, fun i u hu => (World.cell?_of_block (m.block b h.1 (by omega))).trans (h.2.1 i u hu), fun i => (World.frozen?_of_block (m.block b h.1 (by omega))).trans (h.2.2 i)⟩
theorem Box.cell (h : Box w b cs) (i : Nat) {u : Value} (hu : cs[i]? = some u) : w.cell? ⟨b, i, none⟩ = some u := h.2.1 i u hu
theorem Box.set (h : Box w b cs) (i : Nat) (u : Value) (hi : i < cs.length) (hy : cs.set i u = ys) : Box (w.setCell ⟨b, i, none⟩ u) b ys := by
  subst hy
  have hc := h.2.1 i cs[i] (List.getElem?_eq_getElem hi)
  refine ⟨by simpa using h.1, fun j v hv => ?_, fun j => by rw [World.frozen?_setCell]; exact h.2.2 j⟩
  by_cases hj : j = i
  · subst hj
    rw [List.getElem?_set_self hi] at hv
    rw [World.cell?_setCell_same w _ u hc]
    exact hv
  · rw [List.getElem?_set_ne (Ne.symm hj)] at hv
    rw [World.cell?_setCell_other w _ _ u (by intro e; injection e; omega)]
    exact h.2.1 j v hv
theorem Box.drewN (h : Box w b cs) (n : Nat) : Box (w.drewN n) b cs := h
/-- A step within an interval of blocks that a row of the call's own, or a growing one, spans. -/
theorem Mid.of_grownRow {base : Nat} {e : TypeId} {size : Nat} {v : Value} {n : Nat} {xs : List Value} (h : w.ownsRow base e size v n xs) (hg : w.grownBy w' v.ownBlock) : Mid base w.heap.size w w' :=
  Mid.of_grown hg fun g hg' => h.lt g hg'
theorem owns_mid {base : Nat} {e : TypeId} {size : Nat} {v : Value} {n : Nat} {xs : List Value} (h : w.ownsRow base e size v n xs) (m : Mid lo hi w w') (hd : hi ≤ base ∨ w.heap.size ≤ lo) : w'.ownsRow base e size v n xs := by
  refine ⟨h.1, ?_⟩
  rcases h.2 with hn | ⟨g, cap, cur, hv, hbg, hgg, rest⟩
  · exact .inl hn
  · refine .inr ⟨g, cap, cur, hv, hbg, ?_, rest⟩
    have hlt := (Array.getElem?_eq_some_iff.1 hgg).1
    rw [m.block g hlt (by omega)]
    exact hgg
theorem Mid.drew1 (w : World) : Mid 0 0 w w.drew := ⟨rfl, rfl, rfl, Nat.le_refl _, fun _ _ _ => rfl⟩
/-- A step that turns only blocks that are new since w. -/
theorem Mid.transNew {a b : Nat} {wa : World} (h : Mid lo hi w wa) (m : Mid a b wa w') (ha : w.heap.size ≤ a ∨ b = 0) : Mid lo hi w w' :=
  ⟨m.os.trans h.os, m.tape.trans h.tape, m.output.trans h.output, Nat.le_trans h.size m.size, fun k hk hn =>
    (m.block k (Nat.lt_of_lt_of_le hk h.size) (by omega)).trans (h.block k hk hn)⟩
theorem OSS.mk' {tSI tI : TypeId} {A : Option Addr} {c : Nat} {rows : List Row} {n : Nat} {base : Nat} {xss : List (List Int)} (h : w.ownsRow base tSI 1 (.slice A n c) n (rowsV rows)) (hr : OwnRows w base w.heap.size tI rows) (hd : rowsD rows = xss) :
    OSS w base w.heap.size tSI tI A c xss := by
  have hl : xss.length = n := by rw [← hd, rowsD_len, ← rowsV_len]; simpa using h.1
  subst hl
  exact ⟨Nat.le_refl _, rows, hd, ⟨Nat.le_refl _, h, fun g hg => (h.lt g hg).2⟩, hr⟩
theorem OSS.nil {tSI tI : TypeId} : OSS w lo w.heap.size tSI tI none 0 [] := ⟨Nat.le_refl _, [], rfl, ⟨Nat.le_refl _, ⟨rfl, .inl ⟨rfl, rfl⟩⟩, fun g hg => by simp [Value.ownBlock] at hg⟩, OwnRows.nil⟩
end
end Go.Proofs.Ytkcfbcbkokabdaa
