
/- Frames between two block numbers; objects with the blocks they lie in; slices of int slices. -/
import Derived.Test.YtkcfbcbkokabdaaB
namespace Go.Proofs.Ytkcfbcbkokabdaa
set_option linter.unusedVariables false
set_option linter.unusedSimpArgs false
open Go.RowKit

/-- Every number fits an int. -/
def OkI (xs : List Int) : Prop := ∀ x ∈ xs, -9223372036854775808 ≤ x ∧ x ≤ 9223372036854775807

/-- Only blocks from lo up to hi (and new ones) have turned. -/
structure Mid (lo hi : Nat) (w w' : World) : Prop where
  os : w'.os = w.os
  tape : w'.tape = w.tape
  output : w'.output = w.output
  size : w.heap.size ≤ w'.heap.size
  block : ∀ k, k < w.heap.size → ¬ (lo ≤ k ∧ k < hi) → w'.heap[k]? = w.heap[k]?
theorem Mid.below {lo hi : Nat} {w w' : World} (h : Mid lo hi w w') (hl : lo ≤ w.heap.size) : Below lo w w' :=
  ⟨h.os, h.tape, h.output, h.size, fun k hk => h.block k (by omega) (by omega)⟩
theorem Mid.of_grown {lo hi : Nat} {w w' : World} {row : Option Nat} (h : w.grownBy w' row) (hr : ∀ g, row = some g → lo ≤ g ∧ g < hi) : Mid lo hi w w' :=
  ⟨h.os, h.tape, h.output, h.size, fun k hk hn => h.block k hk (fun e => hn (hr k e.symm))⟩
theorem Mid.trans {lo hi : Nat} {a b c : World} (h : Mid lo hi a b) (k : Mid lo hi b c) : Mid lo hi a c :=
  ⟨k.os.trans h.os, k.tape.trans h.tape, k.output.trans h.output, Nat.le_trans h.size k.size,
    fun i hi' hn => (k.block i (Nat.lt_of_lt_of_le hi' h.size) hn).trans (h.block i hi' hn)⟩
theorem Mid.refl (lo hi : Nat) (w : World) : Mid lo hi w w := ⟨rfl, rfl, rfl, Nat.le_refl _, fun _ _ _ => rfl⟩
theorem Mid.of_below {lo hi : Nat} {w w' : World} (h : Below w.heap.size w w') : Mid lo hi w w' := ⟨h.os, h.tape, h.output, h.size, fun k hk _ => h.block k hk⟩
theorem Mid.drewN {lo hi : Nat} {w w' : World} (h : Mid lo hi w w') (n : Nat) : Mid lo hi w (w'.drewN n) := ⟨h.os, h.tape, h.output, h.size, h.block⟩
theorem Mid.of_drewN {lo hi : Nat} {w w' : World} {n : Nat} (h : Mid lo hi (w.drewN n) w') : Mid lo hi w w' := ⟨h.os, h.tape, h.output, h.size, h.block⟩
theorem Mid.alloc (w : World) (o : Obj) : Mid 0 0 w (w.alloc o) := Mid.of_grown (World.grownBy_alloc w o none) (by intro g h; cases h)
theorem Mid.setCell (w : World) {lo hi : Nat} {p : Addr} (u : Value) (h1 : lo ≤ p.block) (h2 : p.block < hi) : Mid lo hi w (w.setCell p u) :=
  ⟨rfl, rfl, rfl, by simp [World.setCell], fun k _ hn => Below.heap_setCell w p u k (by rintro rfl; exact hn ⟨h1, h2⟩)⟩
/-- A step that turns only blocks that are new since w. -/
theorem Mid.grownNew {lo hi : Nat} {w wr w' : World} {row : Option Nat} (h : Mid lo hi w wr) (hg : wr.grownBy w' row) (hr : ∀ g, row = some g → w.heap.size ≤ g) : Mid lo hi w w' :=
  ⟨hg.os.trans h.os, hg.tape.trans h.tape, hg.output.trans h.output, Nat.le_trans h.size hg.size, fun k hk hn =>
    (hg.block k (Nat.lt_of_lt_of_le hk h.size) (fun e => by have := hr k e.symm; omega)).trans (h.block k hk hn)⟩
theorem Mid.storeNew {lo hi : Nat} {w wr : World} {p : Addr} (h : Mid lo hi w wr) (hp : w.heap.size ≤ p.block) (u : Value) : Mid lo hi w (wr.setCell p u) :=
  ⟨h.os, h.tape, h.output, by simpa [World.setCell] using h.size, fun k hk hn => (Below.heap_setCell wr p u k (by omega)).trans (h.block k hk hn)⟩
theorem Mid.mono {lo hi lo' hi' : Nat} {w w' : World} (h : Mid lo hi w w') (h1 : lo' ≤ lo) (h2 : hi ≤ hi') : Mid lo' hi' w w' :=
  ⟨h.os, h.tape, h.output, h.size, fun k hk hn => h.block k hk (fun hh => hn ⟨by omega, by omega⟩)⟩
theorem Mid.zero {lo hi : Nat} {w w' : World} (h : Mid 0 0 w w') : Mid lo hi w w' := ⟨h.os, h.tape, h.output, h.size, fun k hk _ => h.block k hk (by omega)⟩
theorem Mid.bel {w w' : World} (h : Mid 0 0 w w') : Below w.heap.size w w' := ⟨h.os, h.tape, h.output, h.size, fun k hk => h.block k hk (by omega)⟩
theorem below_mid {n a b : Nat} {w0 w w' : World} (h : Below n w0 w) (hs : n ≤ w.heap.size) (m : Mid a b w w') (hn : n ≤ a ∨ b = 0) : Below n w0 w' :=
  h.trans ⟨m.os, m.tape, m.output, m.size, fun k hk => m.block k (by omega) (by omega)⟩

/-- The cells cs at A, in blocks from lo up to hi. -/
def RV (w : World) (lo hi : Nat) (A : Option Addr) (cs : List Value) : Prop :=
  hi ≤ w.heap.size ∧ (cs ≠ [] → ∃ b off, A = some ⟨b, off, none⟩ ∧ lo ≤ b ∧ b < hi ∧ ∀ j u, cs[j]? = some u → w.cell? ⟨b, off + j, none⟩ = some u)
theorem RV.rs {w : World} {lo hi : Nat} {A : Option Addr} {cs : List Value} (h : RV w lo hi A cs) : Rs w hi A cs := fun hn => by
  obtain ⟨b, off, e, _, hb, hc⟩ := h.2 hn
  exact ⟨b, off, e, hb, hc⟩
theorem RV.rsS {w : World} {lo hi : Nat} {A : Option Addr} {cs : List Value} (h : RV w lo hi A cs) : Rs w w.heap.size A cs := h.rs.more h.1
theorem RV.of_rs {w : World} {hi : Nat} {A : Option Addr} {cs : List Value} (h : Rs w hi A cs) (hs : hi ≤ w.heap.size) : RV w 0 hi A cs := ⟨hs, fun hn => by
  obtain ⟨b, off, e, hb, hc⟩ := h hn
  exact ⟨b, off, e, Nat.zero_le _, hb, hc⟩⟩
theorem RV.mid {w w' : World} {lo hi a b : Nat} {A : Option Addr} {cs : List Value} (h : RV w lo hi A cs) (m : Mid a b w w') (hd : b ≤ lo ∨ hi ≤ a) : RV w' lo hi A cs :=
  ⟨Nat.le_trans h.1 m.size, fun hn => by
    obtain ⟨g, off, e, h1, h2, hc⟩ := h.2 hn
    have hs := h.1
    exact ⟨g, off, e, h1, h2, fun j u hu => (World.cell?_of_block (m.block g (by omega) (by omega))).trans (hc j u hu)⟩⟩
theorem RV.wide {w : World} {lo hi lo' hi' : Nat} {A : Option Addr} {cs : List Value} (h : RV w lo hi A cs) (h1 : lo' ≤ lo) (h2 : hi ≤ hi') (h3 : hi' ≤ w.heap.size) : RV w lo' hi' A cs :=
  ⟨h3, fun hn => by
    obtain ⟨g, off, e, ha, hb, hc⟩ := h.2 hn
    exact ⟨g, off, e, by omega, by omega, hc⟩⟩
/-- The same, the call's own: a row at the head of a block. -/
def OV (w : World) (lo hi : Nat) (e : TypeId) (size : Nat) (A : Option Addr) (c n : Nat) (cs : List Value) : Prop :=
  hi ≤ w.heap.size ∧ w.ownsRow lo e size (.slice A n c) n cs ∧ ∀ g, Value.ownBlock (.slice A n c) = some g → g < hi
section
variable {w w' : World} {lo hi a b : Nat} {e : TypeId} {size : Nat} {A : Option Addr} {c n : Nat} {cs : List Value}
theorem OV.new {w0 : World} (h : w.ownsRow w0.heap.size e size (.slice A n c) n cs) : OV w w0.heap.size w.heap.size e size A c n cs :=
  ⟨Nat.le_refl _, h, fun g hg => (h.lt g hg).2⟩
theorem OV.mid (h : OV w lo hi e size A c n cs) (m : Mid a b w w') (hd : b ≤ lo ∨ hi ≤ a) : OV w' lo hi e size A c n cs := by
  refine ⟨Nat.le_trans h.1 m.size, ⟨h.2.1.1, ?_⟩, h.2.2⟩
  rcases h.2.1.2 with hn | ⟨g, cap, cur, hv, hbg, hgg, rest⟩
  · exact .inl hn
  · refine .inr ⟨g, cap, cur, hv, hbg, ?_, rest⟩
    have hlt := h.2.2 g (by rw [hv]; rfl)
    rw [m.block g (Array.getElem?_eq_some_iff.1 hgg).1 (by omega)]
    exact hgg
theorem OV.rv (h : OV w lo hi e size A c n cs) : RV w lo hi A cs := ⟨h.1, fun hn => by
  obtain ⟨g, off, hA, _, hc⟩ := Rs.of_own h.2.1 hn
  have hg : Value.ownBlock (.slice A n c) = some g := by rw [hA]; rfl
  exact ⟨g, off, hA, (h.2.1.lt g hg).1, h.2.2 g hg, hc⟩⟩
theorem OV.wide {lo' hi' : Nat} (h : OV w lo hi e size A c n cs) (h1 : lo' ≤ lo) (h2 : hi ≤ hi') (h3 : hi' ≤ w.heap.size) : OV w lo' hi' e size A c n cs :=
  ⟨h3, owns_base h.2.1 h1, fun g hg => by have := h.2.2 g hg; omega⟩
end

/-- Two rows of different element types lie in different blocks. -/
theorem owns_ne {w : World} {b b' : Nat} {e e' : TypeId} {s s' : Nat} {v v' : Value} {n n' : Nat} {xs xs' : List Value} (h : w.ownsRow b e s v n xs) (h' : w.ownsRow b' e' s' v' n' xs') (hne : e ≠ e') :
    v.ownBlock = none ∨ v.ownBlock ≠ v'.ownBlock := by
  rcases h.2 with ⟨rfl, _⟩ | ⟨g, cap, cur, rfl, _, hg, _⟩
  · exact .inl rfl
  · rcases h'.2 with ⟨rfl, _⟩ | ⟨g', cap', cur', rfl, _, hg', _⟩
    · exact .inr (by simp [Value.ownBlock])
    · refine .inr fun he => ?_
      have : g = g' := by simpa [Value.ownBlock] using he
      subst this
      rw [hg] at hg'
      injection hg' with hg'
      injection hg' with _ ht
      exact hne ht
theorem grown_of_setCell (w : World) (g j : Nat) (u : Value) : w.grownBy (w.setCell ⟨g, j, none⟩ u) (some g) := grown_setCell (World.grownBy.refl w _) j u

/-! ### slices of int slices -/

/-- One row of a slice of slices: its address, its capacity, its numbers. -/
structure Row where
  A : Option Addr
  c : Nat
  xs : List Int
def Row.v (r : Row) : Value := .slice r.A r.xs.length r.c
def rowsV (rows : List Row) : List Value := rows.map Row.v
def rowsD (rows : List Row) : List (List Int) := rows.map Row.xs
theorem rowsV_len (rows : List Row) : (rowsV rows).length = rows.length := by simp [rowsV]
theorem rowsD_len (rows : List Row) : (rowsD rows).length = rows.length := by simp [rowsD]
theorem rowsV_append (a b : List Row) : rowsV (a ++ b) = rowsV a ++ rowsV b := by simp [rowsV]
theorem rowsD_append (a b : List Row) : rowsD (a ++ b) = rowsD a ++ rowsD b := by simp [rowsD]
theorem one_of_rows (rows : List Row) : ∀ u ∈ rowsV rows, u.oneCell' = true := by
  intro u hu
  obtain ⟨r, _, rfl⟩ := List.mem_map.1 hu
  rfl

/-- The slice of slices at A reads xss, all in blocks from lo up to hi. -/
def RSS (w : World) (lo hi : Nat) (A : Option Addr) (xss : List (List Int)) : Prop :=
  ∃ rows, rowsD rows = xss ∧ RV w lo hi A (rowsV rows) ∧ ∀ r ∈ rows, RV w lo hi r.A (ints r.xs)
section
variable {w w' : World} {lo hi a b : Nat} {A : Option Addr} {xss : List (List Int)}
theorem RSS.size (h : RSS w lo hi A xss) : hi ≤ w.heap.size := by obtain ⟨_, _, h, _⟩ := h; exact h.1
theorem RSS.mid (h : RSS w lo hi A xss) (m : Mid a b w w') (hd : b ≤ lo ∨ hi ≤ a) : RSS w' lo hi A xss := by
  obtain ⟨rows, h1, h2, h3⟩ := h
  exact ⟨rows, h1, h2.mid m hd, fun r hr => (h3 r hr).mid m hd⟩
theorem RSS.wide {lo' hi' : Nat} (h : RSS w lo hi A xss) (h1 : lo' ≤ lo) (h2 : hi ≤ hi') (h3 : hi' ≤ w.heap.size) : RSS w lo' hi' A xss := by
  obtain ⟨rows, ha, hb, hc⟩ := h
  exact ⟨rows, ha, hb.wide h1 h2 h3, fun r hr => (hc r hr).wide h1 h2 h3⟩
theorem RSS.nil (hs : hi ≤ w.heap.size) : RSS w lo hi A [] := ⟨[], rfl, ⟨hs, fun h => absurd rfl h⟩, by simp⟩
theorem RSS.row (h : RSS w lo hi A xss) {k : Nat} (hk : k < xss.length) :
    ∃ b off A' c' xs, A = some ⟨b, off, none⟩ ∧ lo ≤ b ∧ b < hi ∧ xss[k]? = some xs ∧ w.cell? ⟨b, off + k, none⟩ = some (.slice A' xs.length c') ∧ RV w lo hi A' (ints xs) := by
  obtain ⟨rows, rfl, h2, h3⟩ := h
  rw [rowsD_len] at hk
  obtain ⟨b, off, e, hb, hb2, hc⟩ := h2.2 (by intro h0; have := congrArg List.length h0; rw [rowsV_len] at this; simp at this; subst this; simp at hk)
  obtain ⟨r, hr⟩ := get_of_lt rows hk
  refine ⟨b, off, r.A, r.c, r.xs, e, hb, hb2, by simp [rowsD, hr], hc k _ (by simp [rowsV, hr, Row.v]), h3 r (List.mem_of_getElem? hr)⟩
end

/-- The same, the call's own: every row in a block of its own. -/
def OwnRows (w : World) (lo hi : Nat) (tI : TypeId) (rows : List Row) : Prop :=
  (∀ r ∈ rows, OV w lo hi tI 1 r.A r.c r.xs.length (ints r.xs)) ∧ rows.Pairwise (fun r s => r.v.ownBlock = none ∨ r.v.ownBlock ≠ s.v.ownBlock)
def OSS (w : World) (lo hi : Nat) (tSI tI : TypeId) (A : Option Addr) (c : Nat) (xss : List (List Int)) : Prop :=
  hi ≤ w.heap.size ∧ ∃ rows, rowsD rows = xss ∧ OV w lo hi tSI 1 A c xss.length (rowsV rows) ∧ OwnRows w lo hi tI rows
section
variable {w w' : World} {lo hi a b : Nat} {tSI tI : TypeId} {A : Option Addr} {c : Nat} {xss : List (List Int)} {rows : List Row}
theorem OwnRows.mid (h : OwnRows w lo hi tI rows) (m : Mid a b w w') (hd : b ≤ lo ∨ hi ≤ a) : OwnRows w' lo hi tI rows := ⟨fun r hr => (h.1 r hr).mid m hd, h.2⟩
theorem OwnRows.wide {lo' hi' : Nat} (h : OwnRows w lo hi tI rows) (h1 : lo' ≤ lo) (h2 : hi ≤ hi') (h3 : hi' ≤ w.heap.size) : OwnRows w lo' hi' tI rows := ⟨fun r hr => (h.1 r hr).wide h1 h2 h3, h.2⟩
theorem OwnRows.nil : OwnRows w lo hi tI [] := ⟨by simp, List.Pairwise.nil⟩
/-- A row of another type is written, or grows: the int rows stay. -/
theorem OwnRows.grown {bb : Nat} {e' : TypeId} {s' : Nat} {v' : Value} {n' : Nat} {xs' : List Value} (h : OwnRows w lo hi tI rows) (ho : w.ownsRow bb e' s' v' n' xs') (hne : tI ≠ e') (hg : w.grownBy w' v'.ownBlock) : OwnRows w' lo hi tI rows :=
  ⟨fun r hr => by
    obtain ⟨h1, h2, h3⟩ := h.1 r hr
    exact ⟨Nat.le_trans h1 hg.size, h2.kept hg (owns_ne h2 ho hne), h3⟩, h.2⟩
/-- One row more, in a block behind all others. -/
theorem OwnRows.push {base hi' : Nat} {r : Row} (h : OwnRows w lo hi tI rows) (hr : w.ownsRow base tI 1 r.v r.xs.length (ints r.xs)) (hb : hi ≤ base) (hl : lo ≤ base) (hh : hi ≤ hi') (hs : hi' ≤ w.heap.size) (hlt : ∀ g, r.v.ownBlock = some g → g < hi') :
    OwnRows w lo hi' tI (rows ++ [r]) := by
  refine ⟨fun s hs' => ?_, ?_⟩
  · rcases List.mem_append.1 hs' with hm | hm
    · exact (h.1 s hm).wide (Nat.le_refl _) hh hs
    · simp at hm
      subst hm
      exact ⟨hs, owns_base hr hl, hlt⟩
  · rw [List.pairwise_append]
    refine ⟨h.2, by simp, fun s hsm t ht => ?_⟩
    simp at ht
    subst ht
    cases hv : s.v.ownBlock with
    | none => exact .inl rfl
    | some g =>
      refine .inr fun e => ?_
      have h1 := (h.1 s hsm).2.2 g hv
      have h2 := (hr.lt g e.symm).1
      omega
theorem OSS.size (h : OSS w lo hi tSI tI A c xss) : hi ≤ w.heap.size := h.1
theorem OSS.mid (h : OSS w lo hi tSI tI A c xss) (m : Mid a b w w') (hd : b ≤ lo ∨ hi ≤ a) : OSS w' lo hi tSI tI A c xss := by
  obtain ⟨h0, rows, h1, h2, h3⟩ := h
  exact ⟨Nat.le_trans h0 m.size, rows, h1, h2.mid m hd, h3.mid m hd⟩
theorem OSS.wide {lo' hi' : Nat} (h : OSS w lo hi tSI tI A c xss) (h1 : lo' ≤ lo) (h2 : hi ≤ hi') (h3 : hi' ≤ w.heap.size) : OSS w lo' hi' tSI tI A c xss := by
  obtain ⟨_, rows, ha, hb, hc⟩ := h
  exact ⟨h3, rows, ha, hb.wide h1 h2 h3, hc.wide h1 h2 h3⟩
theorem OSS.rss (h : OSS w lo hi tSI tI A c xss) : RSS w lo hi A xss := by
  obtain ⟨_, rows, h1, h2, h3⟩ := h
  exact ⟨rows, h1, h2.rv, fun r hr => (h3.1 r hr).rv⟩
end

/-- A call hands back a new slice of new slices that reads xss; nothing that was there has turned. -/
def RetSS (tSI tI : TypeId) (xss : List (List Int)) (w : World) (e : Ending) (w' : World) : Prop :=
  ∃ A c, e = .returned (.slice A xss.length c) ∧ OSS w' w.heap.size w'.heap.size tSI tI A c xss ∧ Mid 0 0 w w'
end Go.Proofs.Ytkcfbcbkokabdaa
