/- Words for slices of int slices, and for frames between two block numbers. -/
import Derived.Test.YtpgbpdnijpjfjaaB
namespace Go.Proofs.Ytpgbpdnijpjfjaa
open Go.RowKit

/-- One row of a slice of slices: its address, its capacity, its numbers. -/
structure Row where
  A : Option Addr
  c : Nat
  xs : List Int
def Row.v (r : Row) : Value := .slice r.A r.xs.length r.c
def rowsV (rows : List Row) : List Value := rows.map Row.v
def rowsD (rows : List Row) : List (List Int) := rows.map Row.xs
theorem rowsV_len (rows : List Row) : (rowsV rows).length = rows.length := by simp [rowsV]
theorem rowsD_len (rows : List Row) : (rowsD rows).length = rows.length := by simp [rowsD]
theorem rowsV_append (a b : List Row) : rowsV (a ++ b) = rowsV a ++ rowsV b := by simp [rowsV]
theorem rowsD_append (a b : List Row) : rowsD (a ++ b) = rowsD a ++ rowsD b := by simp [rowsD]

/-- The slice of slices at A reads as the rows. -/
def RdSS (w : World) (B : Nat) (A : Option Addr) (rows : List Row) : Prop :=
  Rs w B A (rowsV rows) ∧ ∀ r ∈ rows, Rs w B r.A (ints r.xs)

section
variable {w w' : World} {B B' : Nat} {A : Option Addr} {rows : List Row}
theorem RdSS.nil : RdSS w B A [] := ⟨Rs.nil, by simp⟩
theorem RdSS.keep (h : RdSS w B A rows) (hk : ∀ p : Addr, p.block < B → w'.cell? p = w.cell? p) : RdSS w' B A rows :=
  ⟨h.1.keep hk, fun r hr => (h.2 r hr).keep hk⟩
theorem RdSS.more (h : RdSS w B A rows) (hB : B ≤ B') : RdSS w B' A rows := ⟨h.1.more hB, fun r hr => (h.2 r hr).more hB⟩
theorem RdSS.below (h : RdSS w B A rows) (hb : Below B w w') : RdSS w' B A rows := ⟨h.1.below hb, fun r hr => (h.2 r hr).below hb⟩
theorem RdSS.belowM {C : Nat} (h : RdSS w B A rows) (hb : Below C w w') (hC : B ≤ C) : RdSS w' B A rows := ⟨h.1.belowM hb hC, fun r hr => (h.2 r hr).belowM hb hC⟩
theorem RdSS.drewN (h : RdSS w B A rows) (k : Nat) : RdSS (w.drewN k) B A rows := h
theorem RdSS.alloc (h : RdSS w B A rows) (hB : B ≤ w.heap.size) (o : Obj) : RdSS (w.alloc o) B A rows := ⟨h.1.alloc hB o, fun r hr => (h.2 r hr).alloc hB o⟩
theorem RdSS.row (h : RdSS w B A rows) {k : Nat} (hk : k < rows.length) :
    ∃ b off r, A = some ⟨b, off, none⟩ ∧ b < B ∧ rows[k]? = some r ∧ w.cell? ⟨b, off + k, none⟩ = some (.slice r.A r.xs.length r.c) ∧ Rs w B r.A (ints r.xs) := by
  obtain ⟨b, off, u, e, hb, hu, hc⟩ := h.1.at (j := k) (by simpa [rowsV] using hk)
  obtain ⟨r, hr⟩ := get_of_lt rows hk
  rw [rowsV, List.getElem?_map, hr] at hu
  simp at hu
  subst hu
  exact ⟨b, off, r, e, hb, hr, hc, h.2 r (List.mem_of_getElem? hr)⟩
end

/-- The rows are the call's own: each in a block of its own, from number lo on. -/
def OwnSS (w : World) (lo : Nat) (tSI tI : TypeId) (A : Option Addr) (c : Nat) (rows : List Row) : Prop :=
  w.ownsRow lo tSI 1 (.slice A rows.length c) rows.length (rowsV rows) ∧
  (∀ r ∈ rows, w.ownsRow lo tI 1 r.v r.xs.length (ints r.xs)) ∧
  rows.Pairwise (fun r s => r.v.ownBlock = none ∨ r.v.ownBlock ≠ s.v.ownBlock)

theorem OwnSS.rd {w : World} {lo : Nat} {tSI tI : TypeId} {A : Option Addr} {c : Nat} {rows : List Row} (h : OwnSS w lo tSI tI A c rows) : RdSS w w.heap.size A rows :=
  ⟨Rs.of_own h.1, fun r hr => Rs.of_own (h.2.1 r hr)⟩
theorem OwnSS.belowS {w w' : World} {lo : Nat} {tSI tI : TypeId} {A : Option Addr} {c : Nat} {rows : List Row} (h : OwnSS w lo tSI tI A c rows) (hb : Below w.heap.size w w') : OwnSS w' lo tSI tI A c rows :=
  ⟨owns_belowS h.1 hb, fun r hr => owns_belowS (h.2.1 r hr) hb, h.2.2⟩

/-- Only blocks from lo up to hi (and new ones) have turned. -/
structure Mid (lo hi : Nat) (w w' : World) : Prop where
  os : w'.os = w.os
  tape : w'.tape = w.tape
  output : w'.output = w.output
  size : w.heap.size ≤ w'.heap.size
  block : ∀ k, k < w.heap.size → ¬ (lo ≤ k ∧ k < hi) → w'.heap[k]? = w.heap[k]?
theorem Mid.below {lo hi : Nat} {w w' : World} (h : Mid lo hi w w') (hl : lo ≤ w.heap.size) : Below lo w w' :=
  ⟨h.os, h.tape, h.output, h.size, fun k hk => h.block k (by omega) (by omega)⟩
theorem Mid.of_grown {lo hi : Nat} {w w' : World} {row : Option Nat} (h : w.grownBy w' row) (hr : ∀ g, row = some g → lo ≤ g ∧ g < hi) : Mid lo hi w w' :=
  ⟨h.os, h.tape, h.output, h.size, fun k hk hn => h.block k hk (fun e => hn (hr k e.symm))⟩
theorem Mid.trans {lo hi : Nat} {a b c : World} (h : Mid lo hi a b) (k : Mid lo hi b c) : Mid lo hi a c :=
  ⟨k.os.trans h.os, k.tape.trans h.tape, k.output.trans h.output, Nat.le_trans h.size k.size,
    fun i hi' hn => (k.block i (Nat.lt_of_lt_of_le hi' h.size) hn).trans (h.block i hi' hn)⟩
theorem Mid.refl (lo hi : Nat) (w : World) : Mid lo hi w w := ⟨rfl, rfl, rfl, Nat.le_refl _, fun _ _ _ => rfl⟩
theorem Mid.of_below {lo hi : Nat} {w w' : World} (h : Below w.heap.size w w') : Mid lo hi w w' := ⟨h.os, h.tape, h.output, h.size, fun k hk _ => h.block k hk⟩
theorem Mid.drewN {lo hi : Nat} {w w' : World} (h : Mid lo hi w w') (n : Nat) : Mid lo hi w (w'.drewN n) := ⟨h.os, h.tape, h.output, h.size, h.block⟩
theorem Mid.of_drewN {lo hi : Nat} {w w' : World} {n : Nat} (h : Mid lo hi (w.drewN n) w') : Mid lo hi w w' := ⟨h.os, h.tape, h.output, h.size, h.block⟩
theorem owns_mid {w w' : World} {lo hi base : Nat} {e : TypeId} {size : Nat} {v : Value} {n : Nat} {xs : List Value} (h : w.ownsRow base e size v n xs) (hm : Mid lo hi w w') (hh : hi ≤ base) : w'.ownsRow base e size v n xs := by
  refine ⟨h.1, ?_⟩
  rcases h.2 with hn | ⟨g, cap, cur, rfl, hbg, hgg, rest⟩
  · exact .inl hn
  · refine .inr ⟨g, cap, cur, rfl, hbg, ?_, rest⟩
    rw [hm.block g (Array.getElem?_eq_some_iff.1 hgg).1 (by omega)]
    exact hgg
theorem OwnSS.mid {w w' : World} {lo hi base : Nat} {tSI tI : TypeId} {A : Option Addr} {c : Nat} {rows : List Row} (h : OwnSS w base tSI tI A c rows) (hm : Mid lo hi w w') (hh : hi ≤ base) : OwnSS w' base tSI tI A c rows :=
  ⟨owns_mid h.1 hm hh, fun r hr => owns_mid (h.2.1 r hr) hm hh, h.2.2⟩

/-- A call hands back a new slice of new slices that reads xss; nothing that was there has turned. -/
def RetSS (tSI tI : TypeId) (xss : List (List Int)) (w : World) (e : Ending) (w' : World) : Prop :=
  ∃ A c rows, e = .returned (.slice A rows.length c) ∧ rowsD rows = xss ∧ OwnSS w' w.heap.size tSI tI A c rows ∧ Below w.heap.size w w'
end Go.Proofs.Ytpgbpdnijpjfjaa
