/- Contracts and lemmas of this seat, many texts in one: see the words ahead of each. No condition beyond those typed in each lemma. -/
import Derived.WalkKit
import Derived.WalkSpells
import Derived.WalkLawsBesides
import Derived.Maps.AppendAt
import Derived.Lib.Hide
import Derived.Deep.Draws
import Derived.Deep.QuietTactic
import Derived.BigQuiet
import Derived.Test.YtkaofcakelpnpaaRows
import Derived.Laws.Bits128
import Derived.IntWalk
import Derived.Deep.RegionHeld3
import Derived.Deep.DrawnRows
import Derived.StillTail
import Derived.Deep.AppendLies
import Derived.RegionTactic
import Derived.Shelf.Small.Wraps
import Derived.Shelf.Sort.Plain
import Derived.Shelf.Slices.Reverse
import Derived.Shelf.Slices.Cells
import Derived.Shelf.Slices.In.SortNone
import Derived.Test.YtkaofcakelpnpaaProg
import Derived.Lib.OwnBridge

/- Words and lemmas on memory for all walks of this seat: a slice that reads as a list of cells, frames by sets of blocks, append and make on rows of the call's own. No condition beyond those typed in each lemma. -/
namespace Go.Proofs.Ytkaofcakelpnpaa
set_option linter.unusedVariables false
set_option linter.unusedSimpArgs false
open Go.RowKit

/-- A list of ints as cells. -/
def ints (xs : List Int) : List Value := xs.map (Value.int .i64)
theorem ints_len (xs : List Int) : (ints xs).length = xs.length := by simp [ints]
theorem ints_append (xs ys : List Int) : ints (xs ++ ys) = ints xs ++ ints ys := by simp [ints]
theorem ints_get (xs : List Int) (k : Nat) : (ints xs)[k]? = (xs[k]?).map (Value.int .i64) := by simp [ints]

/-- The address A leads to the cells cs, all below block B (nothing is said where cs is empty). -/
def Rs (w : World) (B : Nat) (A : Option Addr) (cs : List Value) : Prop :=
  cs ≠ [] → ∃ b off, A = some ⟨b, off, none⟩ ∧ b < B ∧ ∀ j u, cs[j]? = some u → w.cell? ⟨b, off + j, none⟩ = some u

section
variable {w w' w0 : World} {B B' : Nat} {A : Option Addr} {cs : List Value}
theorem Rs.nil : Rs w B A [] := fun h => absurd rfl h
theorem Rs.keep (h : Rs w B A cs) (hk : ∀ p : Addr, p.block < B → w'.cell? p = w.cell? p) : Rs w' B A cs := fun hn => by
  obtain ⟨b, off, e, hb, hc⟩ := h hn
  exact ⟨b, off, e, hb, fun j u hu => (hk _ hb).trans (hc j u hu)⟩
theorem Rs.more (h : Rs w B A cs) (hB : B ≤ B') : Rs w B' A cs := fun hn => by
  obtain ⟨b, off, e, hb, hc⟩ := h hn
  exact ⟨b, off, e, by omega, hc⟩
theorem Rs.below (h : Rs w B A cs) (hb : Below B w w') : Rs w' B A cs := h.keep fun _ hp => hb.cell hp
theorem Rs.belowM {C : Nat} (h : Rs w B A cs) (hb : Below C w w') (hC : B ≤ C) : Rs w' B A cs := h.keep fun _ hp => hb.cell (by omega)
theorem Rs.drew (h : Rs w B A cs) : Rs w.drew B A cs := h
theorem Rs.drewN (h : Rs w B A cs) (k : Nat) : Rs (w.drewN k) B A cs := h
theorem Rs.alloc (h : Rs w B A cs) (hB : B ≤ w.heap.size) (o : Obj) : Rs (w.alloc o) B A cs := h.keep fun p hp => World.cell?_alloc_lt w o p (by omega)
theorem Rs.setCell (h : Rs w B A cs) {p : Addr} (hB : B ≤ p.block) (u : Value) : Rs (w.setCell p u) B A cs :=
  h.keep fun q hq => World.cell?_setCell_other w p q u (fun e => by subst e; omega)
theorem Rs.grown (h : Rs w B A cs) {row : Option Nat} (hg : w.grownBy w' row) (hB : B ≤ w.heap.size) (hr : ∀ g, row = some g → B ≤ g) : Rs w' B A cs :=
  h.keep fun p hp => World.cell?_of_block (hg.block p.block (by omega) (fun e => by have := hr _ e.symm; omega))
theorem Rs.of_own {base : Nat} {e : TypeId} {size n c : Nat} (h : w.ownsRow base e size (.slice A n c) n cs) : Rs w w.heap.size A cs := fun hn => by
  rcases h.2 with ⟨hv, h0⟩ | ⟨g, cap, cur, hv, hg, hh, hnc, hcm, hcs, htake⟩
  · subst h0
    exact absurd (List.eq_nil_of_length_eq_zero (by simpa using h.1)) hn
  · injection hv with hA _ hc
    subst hA
    subst hc
    refine ⟨g, 0, rfl, (Array.getElem?_eq_some_iff.1 hh).1, fun j u hu => ?_⟩
    rw [Nat.zero_add]
    have hjl := (List.getElem?_eq_some_iff.1 hu).1
    rw [h.cellAt j (by have := h.1; omega)]
    exact hu
/-- The cell at place j. -/
theorem Rs.at (h : Rs w B A cs) {j : Nat} (hj : j < cs.length) : ∃ b off u, A = some ⟨b, off, none⟩ ∧ b < B ∧ cs[j]? = some u ∧ w.cell? ⟨b, off + j, none⟩ = some u := by
  obtain ⟨b, off, e, hb, hc⟩ := h (by intro h0; subst h0; simp at hj)
  exact ⟨b, off, cs[j], e, hb, List.getElem?_eq_getElem hj, hc j _ (List.getElem?_eq_getElem hj)⟩
/-- A cut x[k:], whatever its end. -/
theorem Rs.drop (h : Rs w B A cs) {k n cap : Nat} (size : Nat) (hn : cs.length = n * size) (hc : n ≤ cap) :
    Rs w B (if cap = k then A else A.map (·.add (k * size))) (cs.drop (k * size)) := by
  intro hne
  have hlt : k * size < cs.length := by
    rcases Nat.lt_or_ge (k * size) cs.length with h1 | h1
    · exact h1
    · exact absurd (List.drop_eq_nil_of_le h1) hne
  obtain ⟨b, off, rfl, hb, hcell⟩ := h (by intro h0; subst h0; simp at hlt)
  have hk : ¬ cap = k := by
    intro e
    subst e
    rw [hn] at hlt
    exact absurd (Nat.lt_of_mul_lt_mul_right hlt) (by omega)
  rw [if_neg hk]
  refine ⟨b, off + k * size, ?_, hb, fun j u hu => ?_⟩
  · simp [Addr.add]
  · rw [Nat.add_assoc]
    exact hcell _ u (by rw [← hu, List.getElem?_drop])
theorem Rs.take (h : Rs w B A cs) (k : Nat) : Rs w B A (cs.take k) := fun hne => by
  obtain ⟨b, off, e, hb, hc⟩ := h (by intro h0; subst h0; simp at hne)
  refine ⟨b, off, e, hb, fun j u hu => hc j u ?_⟩
  rw [List.getElem?_take] at hu
  split at hu
  · exact hu
  · cases hu
end

/-! ### Frames -/

theorem below_of_grown {w w' : World} {row : Option Nat} (hg : w.grownBy w' row) {B : Nat} (hB : B ≤ w.heap.size) (hr : ∀ g, row = some g → B ≤ g) : Below B w w' :=
  (Below.refl B w).grown hg hB hr
theorem below_none {w w' : World} (hg : w.grownBy w' none) : Below w.heap.size w w' := below_of_grown hg (Nat.le_refl _) (by intro g h; cases h)
theorem below_drewN {B : Nat} {a w : World} (h : Below B a w) (n : Nat) : Below B a (w.drewN n) := ⟨h.os, h.tape, h.output, h.size, h.block⟩
theorem grown_trans {a b c : World} {row : Option Nat} (h : a.grownBy b row) (k : b.grownBy c row) : a.grownBy c row :=
  ⟨k.os.trans h.os, k.tape.trans h.tape, k.output.trans h.output, Nat.le_trans h.size k.size,
    fun i hi hn => (k.block i (Nat.lt_of_lt_of_le hi h.size) hn).trans (h.block i hi hn)⟩
section
variable {w w' : World} {base : Nat} {e : TypeId} {size : Nat} {v : Value} {n : Nat} {xs : List Value}
theorem owns_below {C : Nat} (h : w.ownsRow base e size v n xs) (hb : Below C w w') (hC : ∀ g, v.ownBlock = some g → g < C) : w'.ownsRow base e size v n xs := by
  refine ⟨h.1, ?_⟩
  rcases h.2 with hn | ⟨g, cap, cur, rfl, hbg, hgg, rest⟩
  · exact .inl hn
  · exact .inr ⟨g, cap, cur, rfl, hbg, (hb.block g (hC g rfl)).trans hgg, rest⟩
theorem owns_belowS (h : w.ownsRow base e size v n xs) (hb : Below w.heap.size w w') : w'.ownsRow base e size v n xs :=
  owns_below h hb fun g hg => (h.lt g hg).2
theorem owns_base {base' : Nat} (h : w.ownsRow base e size v n xs) (hb : base' ≤ base) : w.ownsRow base' e size v n xs := by
  refine ⟨h.1, ?_⟩
  rcases h.2 with hn | ⟨g, cap, cur, rfl, hbg, rest⟩
  · exact .inl hn
  · exact .inr ⟨g, cap, cur, rfl, by omega, rest⟩
/-- The shape of an owned value. -/
theorem owns_shape (h : w.ownsRow base e size v n xs) : ∃ A c, v = .slice A n c ∧ n ≤ c ∧ c ≤ maxLen := by
  rcases h.2 with ⟨rfl, rfl⟩ | ⟨g, cap, cur, rfl, _, _, hnc, hcm, _⟩
  · exact ⟨none, 0, rfl, Nat.le_refl _, Nat.zero_le _⟩
  · exact ⟨_, cap, rfl, hnc, hcm⟩
end

theorem owns_empty (w : World) (e : TypeId) (size : Nat) : (w.alloc (.cells #[] e)).ownsRow w.heap.size e size (.slice (some ⟨w.heap.size, 0, none⟩) 0 0) 0 [] :=
  World.ownsRow_lit (size := size) w #[] 0 (Nat.le_refl _) (Nat.zero_le _) (by simp)

theorem owns_drewN {w : World} {base : Nat} {e : TypeId} {size : Nat} {v : Value} {n : Nat} {xs : List Value} (h : w.ownsRow base e size v n xs) (k : Nat) : (w.drewN k).ownsRow base e size v n xs := h

theorem dn (w : World) (a b : Nat) : (w.drewN a).drewN b = w.drewN (a + b) := World.drewN_drewN _ _ _
theorem owns_row {w w' : World} {row : Option Nat} {n : Nat} (h : (w.drewN n).grownBy w' row) : w.grownBy w' row := ⟨h.os, h.tape, h.output, h.size, h.block⟩

/-- A call hands back a new slice that reads xs; nothing that was there has turned. -/
def RetI (eI : TypeId) (xs : List Int) (w : World) (e : Ending) (w' : World) : Prop :=
  ∃ A c, e = .returned (.slice A xs.length c) ∧ w'.ownsRow w.heap.size eI 1 (.slice A xs.length c) xs.length (ints xs) ∧ Below w.heap.size w w'
theorem RetI.mk {eI : TypeId} {xs : List Int} {w w' : World} {v : Value} {n : Nat} (hn : xs.length = n) (h : w'.ownsRow w.heap.size eI 1 v n (ints xs)) (hb : Below w.heap.size w w') : RetI eI xs w (.returned v) w' := by
  subst hn
  obtain ⟨A, c, rfl, -, -⟩ := owns_shape h
  exact ⟨A, c, rfl, h, hb⟩

/-! ### append of new cells that the call has just laid in a block of their own -/

section
variable {P : Program} {W : World} {ops : Array Oper} {rest : List Oper} {o : Oper} {a : Act} {Q : Exit → Act → World → Prop}
theorem wpList_push (hgd : o.guard = none) (s x : Operand) (t : TypeId)
    (ho : o.op = .call { callee := .builtin .append, args := #[s, x], argTypes := #[t, t] })
    (base : Nat) (e : TypeId) (z : Value) (size bytes : Nat) (ht : P.underlying t = some (.slice e)) (hinfo : (P.info? e).map (fun i => (i.zero, i.size, i.bytes)) = some (some z, size, bytes))
    (hzs : z.cells.size = size) (hsz : 0 < size)
    (v : Value) (n : Nat) (xs : List Value) (hs : a.eval s = v) (hown : W.ownsRow base e size v n xs)
    (m : Nat) (news : List Value) (hx : a.eval x = .slice (some ⟨W.heap.size, 0, none⟩) m m) (hl : news.length = m * size) (h1 : ∀ u ∈ news, u.oneCell' = true)
    (h63 : n + m ≤ maxLen) (hbytes : (n + m) * bytes ≤ 140737488355328) (hbase : base ≤ W.heap.size)
    (h : ∀ v' w', w'.ownsRow base e size v' (n + m) (xs ++ news) → W.grownBy w' v.ownBlock → (v'.ownBlock = v.ownBlock ∨ v'.ownBlock = some (W.heap.size + 1)) → wpList P ops Q rest (a.put o.dst v') w') :
    wpList P ops Q (o :: rest) a (W.alloc (.cells news.toArray e)) := by
  obtain ⟨i, hi, hz, hsize, hby⟩ := info_parts hinfo
  refine wpList_append_own_at _ hgd s x t ho base e i z size bytes ht hi hz hsize hby hzs hsz v n xs hs (hown.alloc _) ⟨W.heap.size, 0, none⟩ m m news hx hl ?_ h1 h63 hbytes (by simp; omega) ?_
  · intro j u hu
    rw [Addr.add_lit, Nat.zero_add, World.cell?_alloc_new]
    simpa using hu
  · intro v' w' h2 h3 _ h4
    exact h v' w' h2 (grown_trans (World.grownBy_alloc W _ _) h3) (by simpa using h4)

theorem run_append_none (base : Nat) (t ty e : TypeId) (i : TypeInfo) (size : Nat) (ht : P.underlying t = some (.slice e)) (hi : P.info? e = some i)
    (v : Value) (n : Nat) (xs : List Value) (hown : W.ownsRow base e size v n xs) (c : Nat) : (Builtin.append_ #[t, t] ty #[v, .slice none 0 c]).run P W = .ok v W := by
  rcases hown.2 with ⟨rfl, rfl⟩ | ⟨g, cap, cur, rfl, _, _, hnc, _⟩
  · simp [Builtin.append_, run_underlying ht, sizeOf, typeInfo, hi, Builtin.lenOf, Builtin.firstCells]
  · simp [Builtin.append_, run_underlying ht, sizeOf, typeInfo, hi, Builtin.lenOf, Builtin.firstCells, hnc, storeCells]
/-- make([]T, n), T of one cell. -/
theorem wpList_mk (hgd : o.guard = none) (l c : Operand) (t : TypeId) (hop : o.op = Op.makeSlice t l c)
    (e : TypeId) (z : Value) (bytes : Nat) (ht : P.underlying t = some (.slice e)) (hinfo : (P.info? e).map (fun i => (i.zero, i.size, i.bytes)) = some (some z, 1, bytes)) (hz1 : z.cells = #[z])
    (kl kc : IntKind) (L C : Int) (n : Nat) (hl : a.eval l = .int kl L) (hc : a.eval c = .int kc C) (hL : L = (n : Int)) (hC : C = (n : Int)) (b2 : bytes * n ≤ 281474976710656) (b3 : n ≤ maxLen)
    (hK : ∀ w', w'.ownsRow W.heap.size e 1 (.slice (some ⟨W.heap.size, 0, none⟩) n n) n (List.replicate n z) → W.grownBy w' none → W.heap.size < w'.heap.size → wpList P ops Q rest (a.put o.dst (.slice (some ⟨W.heap.size, 0, none⟩) n n)) w') :
    wpList P ops Q (o :: rest) a W := by
  obtain ⟨i, hi, hz, hsize, hby⟩ := info_parts hinfo
  refine wpList_make_full W hgd l c t hop W.heap.size e i z 1 ht hi hz hsize kl kc L C n hl hc hL hC (by rw [hby]; exact b2) b3 (Nat.le_refl _) ?_
  intro w' h1 h2
  rw [hz1, Nat.mul_one, toList_madeCells_one] at h1
  exact hK w' h1 h2 ((h1.lt W.heap.size rfl).2)
end

section
variable {w w' w0 : World} {base B : Nat} {e : TypeId} {g n cap : Nat} {xs ys : List Value}
/-- A store into a row of the call's own. -/
theorem owns_set (h : w.ownsRow base e 1 (.slice (some ⟨g, 0, none⟩) n cap) n xs) (j : Nat) (u : Value) (hy : xs.set j u = ys) :
    (w.setCell ⟨g, j, none⟩ u).ownsRow base e 1 (.slice (some ⟨g, 0, none⟩) n cap) n ys := by
  subst hy
  exact (h.stored j u).1
theorem owns_cell (h : w.ownsRow base e 1 (.slice (some ⟨g, 0, none⟩) n cap) n xs) {j : Nat} (hj : j < n) : ∃ u, xs[j]? = some u ∧ w.cell? ⟨g, j, none⟩ = some u := by
  have hl : j < xs.length := by have := h.1; omega
  exact ⟨xs[j], List.getElem?_eq_getElem hl, (h.cellAt j (by omega)).trans (List.getElem?_eq_getElem hl)⟩
end
theorem owns_addr {w : World} {base : Nat} {e : TypeId} {size : Nat} {A : Option Addr} {n c : Nat} {xs : List Value} (h : w.ownsRow base e size (.slice A n c) n xs) (hn : 0 < n) :
    ∃ g, A = some ⟨g, 0, none⟩ ∧ base ≤ g ∧ g < w.heap.size := by
  rcases h.2 with ⟨_, h0⟩ | ⟨g, cap, cur, hv, hbg, hh, _⟩
  · omega
  · injection hv with hA
    exact ⟨g, hA, hbg, (Array.getElem?_eq_some_iff.1 hh).1⟩
theorem grown_setCell {a w : World} {g : Nat} (h : a.grownBy w (some g)) (i : Nat) (u : Value) : a.grownBy (w.setCell ⟨g, i, none⟩ u) (some g) :=
  ⟨h.os, h.tape, h.output, by simpa [World.setCell] using h.size, fun k hk hne => (Below.heap_setCell w _ u k (by rintro rfl; exact hne rfl)).trans (h.block k hk hne)⟩
theorem one_of_ints (xs : List Int) : ∀ u ∈ ints xs, u.oneCell' = true := ints_oneCell .i64 xs
/-- 0, 1, .., k-1 -/
def upto (k : Nat) : List Int := (List.range k).map (fun (i : Nat) => (i : Int))
theorem upto_succ (k : Nat) : upto (k + 1) = upto k ++ [(k : Int)] := by simp [upto, List.range_succ]
theorem upto_len (k : Nat) : (upto k).length = k := by simp [upto]
/-- The marks k, k+1, .. -/
def marks (k : Int) (n : Nat) : List Int := (List.range n).map (fun (i : Nat) => k + (i : Int))
theorem take_succ_of {α : Type} (xs : List α) {k : Nat} {x : α} (h : xs[k]? = some x) : xs.take (k + 1) = xs.take k ++ [x] := by
  rw [List.take_add_one, h]; rfl
theorem get_of_lt {α : Type} (xs : List α) {k : Nat} (h : k < xs.length) : ∃ x, xs[k]? = some x := ⟨_, List.getElem?_eq_getElem h⟩
/-- The cell of an int slice at place k. -/
theorem Rs.int {w : World} {B : Nat} {A : Option Addr} {xs : List Int} (h : Rs w B A (ints xs)) {k : Nat} (hk : k < xs.length) :
    ∃ b off x, A = some ⟨b, off, none⟩ ∧ b < B ∧ xs[k]? = some x ∧ w.cell? ⟨b, off + k, none⟩ = some (.int .i64 x) := by
  obtain ⟨b, off, u, e, hb, hu, hc⟩ := h.at (j := k) (by simpa [ints] using hk)
  rw [ints_get] at hu
  obtain ⟨x, hx⟩ := get_of_lt xs hk
  rw [hx] at hu
  simp at hu
  subst hu
  exact ⟨b, off, x, e, hb, hx, hc⟩

/-! ### Calls that only read, inside a region that draws its order -/
section
variable {P : Program} {f : FuncId} {args : Array Value} {v : Value}
theorem qz0 {W : World} {n : Nat} (h : Calls P f args (W.drewN n) fun e w' => e = .returned v ∧ ∃ m, w' = (W.drewN n).drewN m) :
    Calls P f args (W.drewN n) fun e w'' => e = .returned v ∧ ∃ m, w'' = W.drewN m := Calls.quiet_of h
theorem qz1 {w : World} {a n : Nat} (h : Calls P f args (w.drewN (a + n)) fun e w' => e = .returned v ∧ ∃ m, w' = (w.drewN (a + n)).drewN m) :
    Calls P f args (w.drewN (a + n)) fun e w'' => e = .returned v ∧ ∃ m, w'' = w.drewN (a + m) :=
  h.mono fun _ _ ⟨he, m, hm⟩ => ⟨he, n + m, by rw [hm, World.drewN_drewN, Nat.add_assoc]⟩
theorem pq {W : World} (h : Calls P f args W fun e w' => e = .returned v ∧ W = w') : Calls P f args W fun e w' => e = .returned v ∧ ∃ m, w' = W.drewN m :=
  h.mono fun _ _ ⟨he, hw⟩ => ⟨he, 0, hw ▸ rfl⟩
end
end Go.Proofs.Ytkaofcakelpnpaa

/- Frames between two block numbers; objects with the blocks they lie in; slices of int slices. -/
namespace Go.Proofs.Ytkaofcakelpnpaa
set_option linter.unusedVariables false
set_option linter.unusedSimpArgs false
open Go.RowKit

/-- Every number fits an int. -/
def OkI (xs : List Int) : Prop := ∀ x ∈ xs, -9223372036854775808 ≤ x ∧ x ≤ 9223372036854775807

/-- Only blocks from lo up to hi (and new ones) have turned. -/
structure Mid (lo hi : Nat) (w w' : World) : Prop where
  os : w'.os = w.os
  tape : w'.tape = w.tape
  output : w'.output = w.output
  size : w.heap.size ≤ w'.heap.size
  block : ∀ k, k < w.heap.size → ¬ (lo ≤ k ∧ k < hi) → w'.heap[k]? = w.heap[k]?
theorem Mid.below {lo hi : Nat} {w w' : World} (h : Mid lo hi w w') (hl : lo ≤ w.heap.size) : Below lo w w' :=
  ⟨h.os, h.tape, h.output, h.size, fun k hk => h.block k (by omega) (by omega)⟩
theorem Mid.of_grown {lo hi : Nat} {w w' : World} {row : Option Nat} (h : w.grownBy w' row) (hr : ∀ g, row = some g → lo ≤ g ∧ g < hi) : Mid lo hi w w' :=
  ⟨h.os, h.tape, h.output, h.size, fun k hk hn => h.block k hk (fun e => hn (hr k e.symm))⟩
theorem Mid.trans {lo hi : Nat} {a b c : World} (h : Mid lo hi a b) (k : Mid lo hi b c) : Mid lo hi a c :=
  ⟨k.os.trans h.os, k.tape.trans h.tape, k.output.trans h.output, Nat.le_trans h.size k.size,
    fun i hi' hn => (k.block i (Nat.lt_of_lt_of_le hi' h.size) hn).trans (h.block i hi' hn)⟩
theorem Mid.refl (lo hi : Nat) (w : World) : Mid lo hi w w := ⟨rfl, rfl, rfl, Nat.le_refl _, fun _ _ _ => rfl⟩
theorem Mid.of_below {lo hi : Nat} {w w' : World} (h : Below w.heap.size w w') : Mid lo hi w w' := ⟨h.os, h.tape, h.output, h.size, fun k hk _ => h.block k hk⟩
theorem Mid.drewN {lo hi : Nat} {w w' : World} (h : Mid lo hi w w') (n : Nat) : Mid lo hi w (w'.drewN n) := ⟨h.os, h.tape, h.output, h.size, h.block⟩
theorem Mid.alloc (w : World) (o : Obj) : Mid 0 0 w (w.alloc o) := Mid.of_grown (World.grownBy_alloc w o none) (by intro g h; cases h)
theorem Mid.setCell (w : World) {lo hi : Nat} {p : Addr} (u : Value) (h1 : lo ≤ p.block) (h2 : p.block < hi) : Mid lo hi w (w.setCell p u) :=
  ⟨rfl, rfl, rfl, by simp [World.setCell], fun k _ hn => Below.heap_setCell w p u k (by rintro rfl; exact hn ⟨h1, h2⟩)⟩
theorem Mid.mono {lo hi lo' hi' : Nat} {w w' : World} (h : Mid lo hi w w') (h1 : lo' ≤ lo) (h2 : hi ≤ hi') : Mid lo' hi' w w' :=
  ⟨h.os, h.tape, h.output, h.size, fun k hk hn => h.block k hk (fun hh => hn ⟨by omega, by omega⟩)⟩
theorem Mid.zero {lo hi : Nat} {w w' : World} (h : Mid 0 0 w w') : Mid lo hi w w' := ⟨h.os, h.tape, h.output, h.size, fun k hk _ => h.block k hk (by omega)⟩
theorem Mid.bel {w w' : World} (h : Mid 0 0 w w') : Below w.heap.size w w' := ⟨h.os, h.tape, h.output, h.size, fun k hk => h.block k hk (by omega)⟩
/-- The cells cs at A, in blocks from lo up to hi. -/
def RV (w : World) (lo hi : Nat) (A : Option Addr) (cs : List Value) : Prop :=
  hi ≤ w.heap.size ∧ (cs ≠ [] → ∃ b off, A = some ⟨b, off, none⟩ ∧ lo ≤ b ∧ b < hi ∧ ∀ j u, cs[j]? = some u → w.cell? ⟨b, off + j, none⟩ = some u)
theorem RV.rs {w : World} {lo hi : Nat} {A : Option Addr} {cs : List Value} (h : RV w lo hi A cs) : Rs w hi A cs := fun hn => by
  obtain ⟨b, off, e, _, hb, hc⟩ := h.2 hn
  exact ⟨b, off, e, hb, hc⟩
theorem RV.mid {w w' : World} {lo hi a b : Nat} {A : Option Addr} {cs : List Value} (h : RV w lo hi A cs) (m : Mid a b w w') (hd : b ≤ lo ∨ hi ≤ a) : RV w' lo hi A cs :=
  ⟨Nat.le_trans h.1 m.size, fun hn => by
    obtain ⟨g, off, e, h1, h2, hc⟩ := h.2 hn
    have hs := h.1
    exact ⟨g, off, e, h1, h2, fun j u hu => (World.cell?_of_block (m.block g (by omega) (by omega))).trans (hc j u hu)⟩⟩
theorem RV.wide {w : World} {lo hi lo' hi' : Nat} {A : Option Addr} {cs : List Value} (h : RV w lo hi A cs) (h1 : lo' ≤ lo) (h2 : hi ≤ hi') (h3 : hi' ≤ w.heap.size) : RV w lo' hi' A cs :=
  ⟨h3, fun hn => by
    obtain ⟨g, off, e, ha, hb, hc⟩ := h.2 hn
    exact ⟨g, off, e, by omega, by omega, hc⟩⟩
/-- The same, the call's own: a row at the head of a block. -/
def OV (w : World) (lo hi : Nat) (e : TypeId) (size : Nat) (A : Option Addr) (c n : Nat) (cs : List Value) : Prop :=
  hi ≤ w.heap.size ∧ w.ownsRow lo e size (.slice A n c) n cs ∧ ∀ g, Value.ownBlock (.slice A n c) = some g → g < hi
section
variable {w w' : World} {lo hi a b : Nat} {e : TypeId} {size : Nat} {A : Option Addr} {c n : Nat} {cs : List Value}
theorem OV.new {w0 : World} (h : w.ownsRow w0.heap.size e size (.slice A n c) n cs) : OV w w0.heap.size w.heap.size e size A c n cs :=
  ⟨Nat.le_refl _, h, fun g hg => (h.lt g hg).2⟩
theorem OV.mid (h : OV w lo hi e size A c n cs) (m : Mid a b w w') (hd : b ≤ lo ∨ hi ≤ a) : OV w' lo hi e size A c n cs := by
  refine ⟨Nat.le_trans h.1 m.size, ⟨h.2.1.1, ?_⟩, h.2.2⟩
  rcases h.2.1.2 with hn | ⟨g, cap, cur, hv, hbg, hgg, rest⟩
  · exact .inl hn
  · refine .inr ⟨g, cap, cur, hv, hbg, ?_, rest⟩
    have hlt := h.2.2 g (by rw [hv]; rfl)
    rw [m.block g (Array.getElem?_eq_some_iff.1 hgg).1 (by omega)]
    exact hgg
theorem OV.rv (h : OV w lo hi e size A c n cs) : RV w lo hi A cs := ⟨h.1, fun hn => by
  obtain ⟨g, off, hA, _, hc⟩ := Rs.of_own h.2.1 hn
  have hg : Value.ownBlock (.slice A n c) = some g := by rw [hA]; rfl
  exact ⟨g, off, hA, (h.2.1.lt g hg).1, h.2.2 g hg, hc⟩⟩
theorem OV.wide {lo' hi' : Nat} (h : OV w lo hi e size A c n cs) (h1 : lo' ≤ lo) (h2 : hi ≤ hi') (h3 : hi' ≤ w.heap.size) : OV w lo' hi' e size A c n cs :=
  ⟨h3, owns_base h.2.1 h1, fun g hg => by have := h.2.2 g hg; omega⟩
end

/-- Two rows of different element types lie in different blocks. -/
theorem owns_ne {w : World} {b b' : Nat} {e e' : TypeId} {s s' : Nat} {v v' : Value} {n n' : Nat} {xs xs' : List Value} (h : w.ownsRow b e s v n xs) (h' : w.ownsRow b' e' s' v' n' xs') (hne : e ≠ e') :
    v.ownBlock = none ∨ v.ownBlock ≠ v'.ownBlock := by
  rcases h.2 with ⟨rfl, _⟩ | ⟨g, cap, cur, rfl, _, hg, _⟩
  · exact .inl rfl
  · rcases h'.2 with ⟨rfl, _⟩ | ⟨g', cap', cur', rfl, _, hg', _⟩
    · exact .inr (by simp [Value.ownBlock])
    · refine .inr fun he => ?_
      have : g = g' := by simpa [Value.ownBlock] using he
      subst this
      rw [hg] at hg'
      injection hg' with hg'
      injection hg' with _ ht
      exact hne ht
theorem grown_of_setCell (w : World) (g j : Nat) (u : Value) : w.grownBy (w.setCell ⟨g, j, none⟩ u) (some g) := grown_setCell (World.grownBy.refl w _) j u

/-! ### slices of int slices -/

/-- One row of a slice of slices: its address, its capacity, its numbers. -/
structure Row where
  A : Option Addr
  c : Nat
  xs : List Int
def Row.v (r : Row) : Value := .slice r.A r.xs.length r.c
def rowsV (rows : List Row) : List Value := rows.map Row.v
def rowsD (rows : List Row) : List (List Int) := rows.map Row.xs
theorem rowsV_len (rows : List Row) : (rowsV rows).length = rows.length := by simp [rowsV]
theorem rowsD_len (rows : List Row) : (rowsD rows).length = rows.length := by simp [rowsD]
/-- The slice of slices at A reads xss, all in blocks from lo up to hi. -/
def RSS (w : World) (lo hi : Nat) (A : Option Addr) (xss : List (List Int)) : Prop :=
  ∃ rows, rowsD rows = xss ∧ RV w lo hi A (rowsV rows) ∧ ∀ r ∈ rows, RV w lo hi r.A (ints r.xs)
section
variable {w w' : World} {lo hi a b : Nat} {A : Option Addr} {xss : List (List Int)}
theorem RSS.size (h : RSS w lo hi A xss) : hi ≤ w.heap.size := by obtain ⟨_, _, h, _⟩ := h; exact h.1
theorem RSS.mid (h : RSS w lo hi A xss) (m : Mid a b w w') (hd : b ≤ lo ∨ hi ≤ a) : RSS w' lo hi A xss := by
  obtain ⟨rows, h1, h2, h3⟩ := h
  exact ⟨rows, h1, h2.mid m hd, fun r hr => (h3 r hr).mid m hd⟩
theorem RSS.wide {lo' hi' : Nat} (h : RSS w lo hi A xss) (h1 : lo' ≤ lo) (h2 : hi ≤ hi') (h3 : hi' ≤ w.heap.size) : RSS w lo' hi' A xss := by
  obtain ⟨rows, ha, hb, hc⟩ := h
  exact ⟨rows, ha, hb.wide h1 h2 h3, fun r hr => (hc r hr).wide h1 h2 h3⟩
theorem RSS.nil (hs : hi ≤ w.heap.size) : RSS w lo hi A [] := ⟨[], rfl, ⟨hs, fun h => absurd rfl h⟩, by simp⟩
theorem RSS.row (h : RSS w lo hi A xss) {k : Nat} (hk : k < xss.length) :
    ∃ b off A' c' xs, A = some ⟨b, off, none⟩ ∧ lo ≤ b ∧ b < hi ∧ xss[k]? = some xs ∧ w.cell? ⟨b, off + k, none⟩ = some (.slice A' xs.length c') ∧ RV w lo hi A' (ints xs) := by
  obtain ⟨rows, rfl, h2, h3⟩ := h
  rw [rowsD_len] at hk
  obtain ⟨b, off, e, hb, hb2, hc⟩ := h2.2 (by intro h0; have := congrArg List.length h0; rw [rowsV_len] at this; simp at this; subst this; simp at hk)
  obtain ⟨r, hr⟩ := get_of_lt rows hk
  refine ⟨b, off, r.A, r.c, r.xs, e, hb, hb2, by simp [rowsD, hr], hc k _ (by simp [rowsV, hr, Row.v]), h3 r (List.mem_of_getElem? hr)⟩
end

/-- The same, the call's own: every row in a block of its own. -/
def OwnRows (w : World) (lo hi : Nat) (tI : TypeId) (rows : List Row) : Prop :=
  (∀ r ∈ rows, OV w lo hi tI 1 r.A r.c r.xs.length (ints r.xs)) ∧ rows.Pairwise (fun r s => r.v.ownBlock = none ∨ r.v.ownBlock ≠ s.v.ownBlock)
def OSS (w : World) (lo hi : Nat) (tSI tI : TypeId) (A : Option Addr) (c : Nat) (xss : List (List Int)) : Prop :=
  hi ≤ w.heap.size ∧ ∃ rows, rowsD rows = xss ∧ OV w lo hi tSI 1 A c xss.length (rowsV rows) ∧ OwnRows w lo hi tI rows
section
variable {w w' : World} {lo hi a b : Nat} {tSI tI : TypeId} {A : Option Addr} {c : Nat} {xss : List (List Int)} {rows : List Row}
theorem OwnRows.mid (h : OwnRows w lo hi tI rows) (m : Mid a b w w') (hd : b ≤ lo ∨ hi ≤ a) : OwnRows w' lo hi tI rows := ⟨fun r hr => (h.1 r hr).mid m hd, h.2⟩
theorem OwnRows.wide {lo' hi' : Nat} (h : OwnRows w lo hi tI rows) (h1 : lo' ≤ lo) (h2 : hi ≤ hi') (h3 : hi' ≤ w.heap.size) : OwnRows w lo' hi' tI rows := ⟨fun r hr => (h.1 r hr).wide h1 h2 h3, h.2⟩
theorem OwnRows.nil : OwnRows w lo hi tI [] := ⟨by simp, List.Pairwise.nil⟩
/-- A row of another type is written, or grows: the int rows stay. -/
theorem OwnRows.grown {bb : Nat} {e' : TypeId} {s' : Nat} {v' : Value} {n' : Nat} {xs' : List Value} (h : OwnRows w lo hi tI rows) (ho : w.ownsRow bb e' s' v' n' xs') (hne : tI ≠ e') (hg : w.grownBy w' v'.ownBlock) : OwnRows w' lo hi tI rows :=
  ⟨fun r hr => by
    obtain ⟨h1, h2, h3⟩ := h.1 r hr
    exact ⟨Nat.le_trans h1 hg.size, h2.kept hg (owns_ne h2 ho hne), h3⟩, h.2⟩
/-- One row more, in a block behind all others. -/
theorem OwnRows.push {base hi' : Nat} {r : Row} (h : OwnRows w lo hi tI rows) (hr : w.ownsRow base tI 1 r.v r.xs.length (ints r.xs)) (hb : hi ≤ base) (hl : lo ≤ base) (hh : hi ≤ hi') (hs : hi' ≤ w.heap.size) (hlt : ∀ g, r.v.ownBlock = some g → g < hi') :
    OwnRows w lo hi' tI (rows ++ [r]) := by
  refine ⟨fun s hs' => ?_, ?_⟩
  · rcases List.mem_append.1 hs' with hm | hm
    · exact (h.1 s hm).wide (Nat.le_refl _) hh hs
    · simp at hm
      subst hm
      exact ⟨hs, owns_base hr hl, hlt⟩
  · rw [List.pairwise_append]
    refine ⟨h.2, by simp, fun s hsm t ht => ?_⟩
    simp at ht
    subst ht
    cases hv : s.v.ownBlock with
    | none => exact .inl rfl
    | some g =>
      refine .inr fun e => ?_
      have h1 := (h.1 s hsm).2.2 g hv
      have h2 := (hr.lt g e.symm).1
      omega
theorem OSS.size (h : OSS w lo hi tSI tI A c xss) : hi ≤ w.heap.size := h.1
theorem OSS.mid (h : OSS w lo hi tSI tI A c xss) (m : Mid a b w w') (hd : b ≤ lo ∨ hi ≤ a) : OSS w' lo hi tSI tI A c xss := by
  obtain ⟨h0, rows, h1, h2, h3⟩ := h
  exact ⟨Nat.le_trans h0 m.size, rows, h1, h2.mid m hd, h3.mid m hd⟩
theorem OSS.wide {lo' hi' : Nat} (h : OSS w lo hi tSI tI A c xss) (h1 : lo' ≤ lo) (h2 : hi ≤ hi') (h3 : hi' ≤ w.heap.size) : OSS w lo' hi' tSI tI A c xss := by
  obtain ⟨_, rows, ha, hb, hc⟩ := h
  exact ⟨h3, rows, ha, hb.wide h1 h2 h3, hc.wide h1 h2 h3⟩
end

/-- A call hands back a new slice of new slices that reads xss; nothing that was there has turned. -/
def RetSS (tSI tI : TypeId) (xss : List (List Int)) (w : World) (e : Ending) (w' : World) : Prop :=
  ∃ A c, e = .returned (.slice A xss.length c) ∧ OSS w' w.heap.size w'.heap.size tSI tI A c xss ∧ Mid 0 0 w w'
end Go.Proofs.Ytkaofcakelpnpaa

/- Boxes: the block of a struct that a call holds by its address. -/
namespace Go.Proofs.Ytkaofcakelpnpaa
set_option linter.unusedVariables false
set_option linter.unusedSimpArgs false
open Go.RowKit

/-- Block b holds the cells cs, and may be written. -/
def Box (w : World) (b : Nat) (cs : List Value) : Prop := b < w.heap.size ∧ (∀ i u, cs[i]? = some u → w.cell? ⟨b, i, none⟩ = some u) ∧ ∀ i, w.frozen? ⟨b, i, none⟩ = false
section
variable {w w' : World} {b lo hi : Nat} {cs ys : List Value}
theorem Box.new (w : World) (a : Array Value) (t : TypeId) : Box (w.alloc (.cells a t)) w.heap.size a.toList :=
  ⟨by simp, fun i u hu => (World.cell?_alloc_at _ _ _ _ rfl).trans (by simpa using hu), fun i => World.frozen?_alloc_at _ _ _ _ rfl⟩
theorem Box.mid (h : Box w b cs) (m : Mid lo hi w w') (hd : b < lo ∨ hi ≤ b) : Box w' b cs :=
  ⟨Nat.lt_of_lt_of_le h.1 m.size, fun i u hu => (World.cell?_of_block (m.block b h.1 (by omega))).trans (h.2.1 i u hu), fun i => (World.frozen?_of_block (m.block b h.1 (by omega))).trans (h.2.2 i)⟩
theorem Box.cell (h : Box w b cs) (i : Nat) {u : Value} (hu : cs[i]? = some u) : w.cell? ⟨b, i, none⟩ = some u := h.2.1 i u hu
theorem Box.set (h : Box w b cs) (i : Nat) (u : Value) (hi : i < cs.length) (hy : cs.set i u = ys) : Box (w.setCell ⟨b, i, none⟩ u) b ys := by
  subst hy
  have hc := h.2.1 i cs[i] (List.getElem?_eq_getElem hi)
  refine ⟨by simpa using h.1, fun j v hv => ?_, fun j => by rw [World.frozen?_setCell]; exact h.2.2 j⟩
  by_cases hj : j = i
  · subst hj
    rw [List.getElem?_set_self hi] at hv
    rw [World.cell?_setCell_same w _ u hc]
    exact hv
  · rw [List.getElem?_set_ne (Ne.symm hj)] at hv
    rw [World.cell?_setCell_other w _ _ u (by intro e; injection e; omega)]
    exact h.2.1 j v hv
theorem Box.drewN (h : Box w b cs) (n : Nat) : Box (w.drewN n) b cs := h
/-- A step within an interval of blocks that a row of the call's own, or a growing one, spans. -/
theorem Mid.of_grownRow {base : Nat} {e : TypeId} {size : Nat} {v : Value} {n : Nat} {xs : List Value} (h : w.ownsRow base e size v n xs) (hg : w.grownBy w' v.ownBlock) : Mid base w.heap.size w w' :=
  Mid.of_grown hg fun g hg' => h.lt g hg'
theorem owns_mid {base : Nat} {e : TypeId} {size : Nat} {v : Value} {n : Nat} {xs : List Value} (h : w.ownsRow base e size v n xs) (m : Mid lo hi w w') (hd : hi ≤ base ∨ w.heap.size ≤ lo) : w'.ownsRow base e size v n xs := by
  refine ⟨h.1, ?_⟩
  rcases h.2 with hn | ⟨g, cap, cur, hv, hbg, hgg, rest⟩
  · exact .inl hn
  · refine .inr ⟨g, cap, cur, hv, hbg, ?_, rest⟩
    have hlt := (Array.getElem?_eq_some_iff.1 hgg).1
    rw [m.block g hlt (by omega)]
    exact hgg
theorem Mid.drew1 (w : World) : Mid 0 0 w w.drew := ⟨rfl, rfl, rfl, Nat.le_refl _, fun _ _ _ => rfl⟩
/-- A step that turns only blocks that are new since w. -/
theorem Mid.transNew {a b : Nat} {wa : World} (h : Mid lo hi w wa) (m : Mid a b wa w') (ha : w.heap.size ≤ a ∨ b = 0) : Mid lo hi w w' :=
  ⟨m.os.trans h.os, m.tape.trans h.tape, m.output.trans h.output, Nat.le_trans h.size m.size, fun k hk hn =>
    (m.block k (Nat.lt_of_lt_of_le hk h.size) (by omega)).trans (h.block k hk hn)⟩
theorem OSS.nil {tSI tI : TypeId} : OSS w lo w.heap.size tSI tI none 0 [] := ⟨Nat.le_refl _, [], rfl, ⟨Nat.le_refl _, ⟨rfl, .inl ⟨rfl, rfl⟩⟩, fun g hg => by simp [Value.ownBlock] at hg⟩, OwnRows.nil⟩
end
end Go.Proofs.Ytkaofcakelpnpaa

/- Facts on the tables of this seat's program: the element types' rows. -/
namespace Go.Proofs.Ytkaofcakelpnpaa
set_option linter.unusedVariables false
set_option linter.unusedSimpArgs false
theorem infoI : (Try.prog.info? 3).map (fun i => (i.zero, i.size, i.bytes)) = some (some (.int .i64 0), 1, 8) := by kernel_rfl
theorem infoB : (Try.prog.info? 4).map (fun i => (i.zero, i.size, i.bytes)) = some (some (.bool false), 1, 1) := by kernel_rfl
theorem undSI : Try.prog.underlying 24 = some (.slice 3) := by kernel_rfl
theorem undSB : Try.prog.underlying 40 = some (.slice 4) := by kernel_rfl
end Go.Proofs.Ytkaofcakelpnpaa

/- Contracts of the small helpers of the laws: copies, comparisons and marks of int slices. -/
namespace Go.Proofs.Ytkaofcakelpnpaa
set_option linter.unusedVariables false
set_option linter.unusedSimpArgs false
open Go.RowKit

/-- lo ≤ x ≤ hi -/
def inB (x lo hi : Int) : Bool := decide (lo ≤ x) && decide (x ≤ hi)

set_option maxHeartbeats 400000 in
theorem within_any (x lo hi : Int) (w : World) :
    Calls Try.prog 29 #[.int .i64 x, .int .i64 lo, .int .i64 hi] w fun e w' => e = .returned (.bool (inB x lo hi)) ∧ w = w' := by
  go_enter Try.func29, Try.ntmps29
  go_wp2_with fail
  all_goals
    go_ret
    exact ⟨by simp [inB]; omega, rfl⟩

set_option maxHeartbeats 400000 in
theorem l1In_any (x lo hi : Int) (w : World) :
    Calls Try.prog 30 #[.int .i64 x, .int .i64 lo, .int .i64 hi] w fun e w' => e = .returned (.bool (inB x lo hi)) ∧ w = w' := by
  go_enter Try.func30, Try.ntmps30
  go_wp2_with fail
  all_goals
    go_ret
    exact ⟨by simp [inB]; omega, rfl⟩

end Go.Proofs.Ytkaofcakelpnpaa

/- Objects of the laws with the blocks they lie in: int slices. Each step of a law leaves a 'Mid'. -/
namespace Go.Proofs.Ytkaofcakelpnpaa
set_option linter.unusedVariables false
set_option linter.unusedSimpArgs false
open Go.RowKit

/-! ### int slices -/
def RI (w : World) (lo hi : Nat) (A : Option Addr) (xs : List Int) : Prop := RV w lo hi A (ints xs)
def OI (w : World) (lo hi : Nat) (A : Option Addr) (c : Nat) (xs : List Int) : Prop := OV w lo hi 3 1 A c xs.length (ints xs)
theorem RI.mid {w w' : World} {lo hi a b : Nat} {A : Option Addr} {xs : List Int} (h : RI w lo hi A xs) (m : Mid a b w w') (hd : b ≤ lo ∨ hi ≤ a) : RI w' lo hi A xs := RV.mid h m hd
theorem OI.mid {w w' : World} {lo hi a b : Nat} {A : Option Addr} {c : Nat} {xs : List Int} (h : OI w lo hi A c xs) (m : Mid a b w w') (hd : b ≤ lo ∨ hi ≤ a) : OI w' lo hi A c xs := OV.mid h m hd
theorem OI.ri {w : World} {lo hi : Nat} {A : Option Addr} {c : Nat} {xs : List Int} (h : OI w lo hi A c xs) : RI w lo hi A xs := OV.rv h
theorem RI.size {w : World} {lo hi : Nat} {A : Option Addr} {xs : List Int} (h : RI w lo hi A xs) : hi ≤ w.heap.size := h.1
theorem OI.size {w : World} {lo hi : Nat} {A : Option Addr} {c : Nat} {xs : List Int} (h : OI w lo hi A c xs) : hi ≤ w.heap.size := h.1
theorem RI.rs {w : World} {lo hi : Nat} {A : Option Addr} {xs : List Int} (h : RI w lo hi A xs) : Rs w w.heap.size A (ints xs) := (RV.rs h).more h.1

/-- What a step leaves: the value, and that no block that was there has turned. -/
abbrev Stp (v : Value) (w : World) (e : Ending) (w' : World) : Prop := e = .returned v ∧ Mid 0 0 w w'
abbrev StpI (xs : List Int) (w : World) (e : Ending) (w' : World) : Prop := ∃ A c, e = .returned (.slice A xs.length c) ∧ OI w' w.heap.size w'.heap.size A c xs ∧ Mid 0 0 w w'
theorem RetI.stp {xs : List Int} {w : World} {e : Ending} {w' : World} (h : RetI 3 xs w e w') : StpI xs w e w' := by
  obtain ⟨A, c, he, ho, hb⟩ := h
  exact ⟨A, c, he, OV.new ho, Mid.of_below hb⟩

end Go.Proofs.Ytkaofcakelpnpaa

/- The draws' cursor: the code's bytes; a byte drawn, a number below a bound. -/
namespace Go.Proofs.Ytkaofcakelpnpaa
set_option linter.unusedVariables false
set_option linter.unusedSimpArgs false
open Go.RowKit

theorem and255 (n : Int) : bits .and .i64 n 255 = n % 256 := by
  have h255 : (BitVec.ofInt 64 255).toNat = 2 ^ 8 - 1 := by decide
  have key : (BitVec.ofInt 64 n &&& BitVec.ofInt 64 255).toNat = (n % ((2 ^ 64 : Nat) : Int)).toNat % 2 ^ 8 := by
    rw [BitVec.toNat_and, BitVec.toNat_ofInt, h255, Nat.and_two_pow_sub_one_eq_mod]
  show IntKind.i64.wrap ((BitVec.ofInt 64 n &&& BitVec.ofInt 64 255).toNat : Nat) = n % 256
  rw [key, IntKind.wrap_i64]
  omega
theorem and30 (n : Int) : bits .and .i64 n 1073741823 = n % 1073741824 := by
  have h30 : (BitVec.ofInt 64 1073741823).toNat = 2 ^ 30 - 1 := by decide
  have key : (BitVec.ofInt 64 n &&& BitVec.ofInt 64 1073741823).toNat = (n % ((2 ^ 64 : Nat) : Int)).toNat % 2 ^ 30 := by
    rw [BitVec.toNat_and, BitVec.toNat_ofInt, h30, Nat.and_two_pow_sub_one_eq_mod]
  show IntKind.i64.wrap ((BitVec.ofInt 64 n &&& BitVec.ofInt 64 1073741823).toNat : Nat) = n % 1073741824
  rw [key, IntKind.wrap_i64]
  omega

/-- Bytes as cells. -/
def byts (xs : List Int) : List Value := xs.map (Value.int .u8)
theorem byts_len (xs : List Int) : (byts xs).length = xs.length := by simp [byts]
def OkB (xs : List Int) : Prop := ∀ x ∈ xs, 0 ≤ x ∧ x ≤ 255
theorem Rs.byte {w : World} {B : Nat} {A : Option Addr} {xs : List Int} (h : Rs w B A (byts xs)) {k : Nat} (hk : k < xs.length) :
    ∃ b off x, A = some ⟨b, off, none⟩ ∧ b < B ∧ xs[k]? = some x ∧ w.cell? ⟨b, off + k, none⟩ = some (.int .u8 x) := by
  obtain ⟨b, off, u, e, hb, hu, hc⟩ := h.at (j := k) (by rw [byts_len]; exact hk)
  obtain ⟨x, hx⟩ := get_of_lt xs hk
  unfold byts at hu
  rw [List.getElem?_map, hx] at hu
  simp at hu
  subst hu
  exact ⟨b, off, x, e, hb, hx, hc⟩
/-- The cursor: a place within the code, and a state of 64 bits. -/
def Cur (w : World) (p : Nat) (A : Option Addr) (bs : List Int) (c : Nat) : Prop :=
  ∃ (i : Nat) (h : Int), i ≤ bs.length ∧ (-9223372036854775808 ≤ h ∧ h ≤ 9223372036854775807) ∧ Box w p [.slice A bs.length c, .int .i64 i, .int .i64 h] ∧ RV w 0 p A (byts bs)
theorem Cur.mid {w w' : World} {p : Nat} {A : Option Addr} {bs : List Int} {c a b : Nat} (h : Cur w p A bs c) (m : Mid a b w w') (hd : p < a ∨ b = 0) : Cur w' p A bs c := by
  obtain ⟨i, x, h1, h2, h3, h4⟩ := h
  exact ⟨i, x, h1, h2, h3.mid m (by omega), h4.mid m (by omega)⟩
theorem Cur.lt {w : World} {p : Nat} {A : Option Addr} {bs : List Int} {c : Nat} (h : Cur w p A bs c) : p < w.heap.size := by
  obtain ⟨i, x, h1, h2, h3, h4⟩ := h
  exact h3.1

set_option maxHeartbeats 800000 in
theorem l1Byte_any (p : Nat) (A : Option Addr) (bs : List Int) (c : Nat) (w : World) (hb : OkB bs) (hl : bs.length ≤ 1048576) (h : Cur w p A bs c) :
    Calls Try.prog 38 #[.pointer (some ⟨p, 0, none⟩)] w fun e w' => ∃ x : Nat, e = .returned (.int .i64 x) ∧ x < 256 ∧ Cur w' p A bs c ∧ Mid p (p + 1) w w' := by
  obtain ⟨i, s, hi, hs, hbox, hrv⟩ := h
  have cc0 := hbox.cell 0 rfl
  have cc1 := hbox.cell 1 rfl
  have cc2 := hbox.cell 2 rfl
  have hfz := hbox.2.2
  have hpw := hbox.1
  go_enter Try.func38, Try.ntmps38
  go_wp2_with fail
  obtain ⟨s2, hs2⟩ : ∃ x, wrap64 (wrap64 (s * 6364136223846793005) + 1442695040888963407) = x := ⟨_, rfl⟩
  have hs2b : -9223372036854775808 ≤ s2 ∧ s2 ≤ 9223372036854775807 := by rw [← hs2]; unfold wrap64; omega
  rw [hs2]
  clear hs2
  have hbox1 := hbox.set 2 (.int .i64 s2) (by simp) rfl
  have hm1 : Mid p (p + 1) w (w.setCell ⟨p, 2, none⟩ (.int .i64 s2)) := Mid.setCell w _ (Nat.le_refl _) (Nat.lt_succ_self _)
  have hrv1 := hrv.mid hm1 (Or.inr (Nat.le_refl _))
  generalize w.setCell ⟨p, 2, none⟩ (.int .i64 s2) = w1 at hbox1 hm1 hrv1 ⊢
  clear cc0 cc1 cc2 hbox hrv hpw hfz
  have cc0 := hbox1.cell 0 rfl
  have cc1 := hbox1.cell 1 rfl
  have cc2 := hbox1.cell 2 rfl
  have hfz := hbox1.2.2
  have hpw := hbox1.1
  go_quiet (fail)
  go_wp2_with fail
  obtain ⟨x1, hx1⟩ : ∃ x : Nat, bits BinOp.and IntKind.i64 (bits BinOp.xor IntKind.i64 (s2 / 8589934592) (s2 / 35184372088832)) 255 = x := ⟨_, (Int.toNat_of_nonneg (by rw [and255]; omega)).symm⟩
  have hx1b : x1 < 256 := by rw [and255] at hx1; omega
  rw [hx1]
  clear hx1
  have hm2 := hm1.drewN nq
  have hbox2 := hbox1.drewN nq
  have hrv2 : RV (w1.drewN nq) 0 p A (byts bs) := hrv1
  generalize w1.drewN nq = w2 at hbox2 hm2 hrv2 ⊢
  clear cc0 cc1 cc2 hbox1 hrv1 hpw hfz hm1
  have cc0 := hbox2.cell 0 rfl
  have cc1 := hbox2.cell 1 rfl
  have cc2 := hbox2.cell 2 rfl
  have hfz := hbox2.2.2
  have hpw := hbox2.1
  by_cases hlt : i < bs.length
  · go_quiet (fail)
    have hm3 := hm2.drewN nq
    have hbox3 := hbox2.drewN nq
    have hrv3 : RV (w2.drewN nq) 0 p A (byts bs) := hrv2
    generalize w2.drewN nq = w3 at hbox3 hm3 hrv3 ⊢
    clear cc0 cc1 cc2 hbox2 hrv2 hpw hfz hm2
    have cc0 := hbox3.cell 0 rfl
    have cc1 := hbox3.cell 1 rfl
    have cc2 := hbox3.cell 2 rfl
    have hfz := hbox3.2.2
    have hpw := hbox3.1
    go_wp2_with fail
    obtain ⟨B, off, y, rfl, hB, hy, hcy⟩ := hrv3.rs.byte hlt
    have hyb := hb y (List.mem_of_getElem? hy)
    clear hy
    go_quiet (fail)
    go_wp2_with fail
    obtain ⟨x2, hx2⟩ : ∃ x : Nat, bits BinOp.and IntKind.i64 ((x1 : Int) + y) 255 = x := ⟨_, (Int.toNat_of_nonneg (by rw [and255]; omega)).symm⟩
    have hx2b : x2 < 256 := by rw [and255] at hx2; omega
    rw [hx2]
    go_ret
    have hm4 := (hm3.drewN nq).trans (Mid.setCell (w3.drewN nq) (p := ⟨p, 1, none⟩) (.int .i64 ((i : Int) + 1)) (Nat.le_refl _) (Nat.lt_succ_self _))
    refine ⟨x2, rfl, hx2b, ⟨i + 1, s2, by omega, hs2b, ?_, ?_⟩, hm4⟩
    · simpa using (hbox3.drewN nq).set 1 (.int .i64 ((i : Int) + 1)) (by simp) rfl
    · exact RV.mid (w := w3.drewN nq) hrv3 (Mid.setCell (w3.drewN nq) (p := ⟨p, 1, none⟩) (.int .i64 ((i : Int) + 1)) (Nat.le_refl _) (Nat.lt_succ_self _)) (Or.inr (Nat.le_refl _))
  · go_quiet (fail)
    go_wp2_with fail
    go_ret
    exact ⟨x1, rfl, hx1b, ⟨i, s2, hi, hs2b, hbox2.drewN _, hrv2⟩, hm2.drewN _⟩

set_option maxHeartbeats 800000 in
/-- A number below n. -/
theorem l1Below_pos (n : Nat) (hn : 0 < n) (hn2 : n ≤ 1048576) (p : Nat) (A : Option Addr) (bs : List Int) (c : Nat) (w : World) (hb : OkB bs) (hl : bs.length ≤ 1048576) (h : Cur w p A bs c) :
    Calls Try.prog 35 #[.pointer (some ⟨p, 0, none⟩), .int .i64 n] w fun e w' => ∃ x : Nat, e = .returned (.int .i64 x) ∧ x < n ∧ Cur w' p A bs c ∧ Mid p (p + 1) w w' := by
  have hn0 : ¬ n = 0 := by omega
  by_cases hs : n ≤ 256
  · go_enter Try.func35, Try.ntmps35
    go_wp2_with fail
    with_reducible refine (l1Byte_any p A bs c _ hb hl h).mono ?_
    rintro e w1 ⟨x, rfl, hx, h1, m1⟩
    go_wp2_with fail
    go_ret
    exact ⟨x % n, rfl, Nat.mod_lt _ hn, h1, m1⟩
  · go_enter Try.func35, Try.ntmps35
    go_wp2_with fail
    with_reducible refine (l1Byte_any p A bs c _ hb hl h).mono ?_
    rintro e w1 ⟨x, rfl, hx, h1, m1⟩
    go_wp2_with fail
    with_reducible refine (l1Byte_any p A bs c _ hb hl h1).mono ?_
    rintro e w2 ⟨y, rfl, hy, h2, m2⟩
    go_wp2_with fail
    with_reducible refine (l1Byte_any p A bs c _ hb hl h2).mono ?_
    rintro e w3 ⟨z, rfl, hz, h3, m3⟩
    go_wp2_with fail
    with_reducible refine (l1Byte_any p A bs c _ hb hl h3).mono ?_
    rintro e w4 ⟨t, rfl, ht, h4, m4⟩
    go_wp2_with fail
    go_ret
    exact ⟨(x * 16777216 + y * 65536 + z * 256 + t) % n, by simp, Nat.mod_lt _ hn, h4, ((m1.trans m2).trans m3).trans m4⟩
set_option maxHeartbeats 800000 in
theorem l1Once_any (n : Nat) (hn : 0 < n) (hn2 : n ≤ 1048576) (p : Nat) (A : Option Addr) (bs : List Int) (c : Nat) (w : World) (hb : OkB bs) (hl : bs.length ≤ 1048576) (h : Cur w p A bs c) :
    Calls Try.prog 27 #[.pointer (some ⟨p, 0, none⟩), .int .i64 n] w fun e w' => ∃ x : Bool, e = .returned (.bool x) ∧ Cur w' p A bs c ∧ Mid p (p + 1) w w' := by
  go_enter Try.func27, Try.ntmps27
  go_wp2_with fail
  with_reducible refine (l1Below_pos n hn hn2 p A bs c _ hb hl h).mono ?_
  rintro e w1 ⟨x, rfl, hx, h1, m1⟩
  go_wp2_with fail
  all_goals
    go_ret
    exact ⟨_, rfl, h1, m1⟩
set_option maxHeartbeats 800000 in
/-- An element of a list. -/
theorem l1PickInt_any (B : Option Addr) (xs : List Int) (d : Nat) (hne : 0 < xs.length) (hln : xs.length ≤ 1048576) (p : Nat) (A : Option Addr) (bs : List Int) (c : Nat) (w : World) (lo hi : Nat) (hx : RI w lo hi B xs) (hp : p < lo ∨ hi ≤ p) (hb : OkB bs) (hl : bs.length ≤ 1048576) (h : Cur w p A bs c) :
    Calls Try.prog 33 #[.pointer (some ⟨p, 0, none⟩), .slice B xs.length d] w fun e w' => ∃ x : Int, e = .returned (.int .i64 x) ∧ x ∈ xs ∧ Cur w' p A bs c ∧ Mid p (p + 1) w w' := by
  go_enter Try.func33, Try.ntmps33
  go_wp2_with fail
  with_reducible refine (l1Below_pos xs.length hne hln p A bs c _ hb hl h).mono ?_
  rintro e w1 ⟨k, rfl, hk, h1, m1⟩
  have hx1 := hx.mid m1 (by omega)
  obtain ⟨b, off, x, rfl, -, hxx, hcx⟩ := hx1.rs.int hk
  have hmem := List.mem_of_getElem? hxx
  clear hxx
  go_wp2_with fail
  go_ret
  exact ⟨x, rfl, hmem, h1, m1⟩
/-- The same, the bound an Int that is written out. -/
theorem l1BelowI (n : Int) (hn : 0 < n) (hn2 : n ≤ 1048576) (p : Nat) (A : Option Addr) (bs : List Int) (c : Nat) (w : World) (hb : OkB bs) (hl : bs.length ≤ 1048576) (h : Cur w p A bs c) :
    Calls Try.prog 35 #[.pointer (some ⟨p, 0, none⟩), .int .i64 n] w fun e w' => ∃ x : Nat, e = .returned (.int .i64 x) ∧ (x : Int) < n ∧ Cur w' p A bs c ∧ Mid p (p + 1) w w' := by
  obtain ⟨m, rfl⟩ := Int.eq_ofNat_of_zero_le (by omega : 0 ≤ n)
  exact (l1Below_pos m (by omega) (by omega) p A bs c w hb hl h).mono fun _ _ ⟨x, he, hx, h⟩ => ⟨x, he, by omega, h⟩
theorem l1OnceI (n : Int) (hn : 0 < n) (hn2 : n ≤ 1048576) (p : Nat) (A : Option Addr) (bs : List Int) (c : Nat) (w : World) (hb : OkB bs) (hl : bs.length ≤ 1048576) (h : Cur w p A bs c) :
    Calls Try.prog 27 #[.pointer (some ⟨p, 0, none⟩), .int .i64 n] w fun e w' => ∃ x : Bool, e = .returned (.bool x) ∧ Cur w' p A bs c ∧ Mid p (p + 1) w w' := by
  obtain ⟨m, rfl⟩ := Int.eq_ofNat_of_zero_le (by omega : 0 ≤ n)
  exact l1Once_any m (by omega) (by omega) p A bs c w hb hl h
theorem l1PickIntN (B : Option Addr) (xs : List Int) (n d : Nat) (hxn : xs.length = n) (hne : 0 < n) (hln : n ≤ 1048576) (p : Nat) (A : Option Addr) (bs : List Int) (c : Nat) (w : World) (lo hi : Nat) (hx : RI w lo hi B xs) (hp : p < lo ∨ hi ≤ p) (hb : OkB bs) (hl : bs.length ≤ 1048576) (h : Cur w p A bs c) :
    Calls Try.prog 33 #[.pointer (some ⟨p, 0, none⟩), .slice B n d] w fun e w' => ∃ x : Int, e = .returned (.int .i64 x) ∧ x ∈ xs ∧ Cur w' p A bs c ∧ Mid p (p + 1) w w' := by
  subst hxn
  exact l1PickInt_any B xs d hne hln p A bs c w lo hi hx hp hb hl h
set_option maxHeartbeats 800000 in
/-- A cursor at the head of the code. -/
theorem l1New_any (A : Option Addr) (bs : List Int) (c : Nat) (w : World) (hi : Nat) (hb : OkB bs) (hl : bs.length ≤ 1048576) (hr : RV w 0 hi A (byts bs)) :
    Calls Try.prog 25 #[.slice A bs.length c] w fun e w' => ∃ p, e = .returned (.pointer (some ⟨p, 0, none⟩)) ∧ w.heap.size ≤ p ∧ Cur w' p A bs c ∧ Mid 0 0 w w' := by
  have hfin : ∀ x : Int, (0 ≤ x ∧ x ≤ 1073741824) → Cur (w.alloc (.cells #[.slice A bs.length c, .int .i64 0, .int .i64 x] 46)) w.heap.size A bs c := fun x hx =>
    ⟨0, x, Nat.zero_le _, by omega, by simpa using Box.new w #[.slice A bs.length c, .int .i64 0, .int .i64 x] 46, (hr.mid (Mid.alloc w _) (Or.inl (Nat.zero_le _))).wide (Nat.zero_le _) hr.1 (by simp)⟩
  have hfin := Lib.hid hfin
  go_enter Try.func25, Try.ntmps25
  go_wp2_with fail
  go_loop [3, 4] (fun hv i => ∃ (k : Nat) (x : Int), k ≤ bs.length ∧ i = .int .i64 k ∧ hv = .int .i64 x ∧ (0 ≤ x ∧ x ≤ 1073741824)) (fun _ i => bs.length - (intOf i).toNat)
  case atStart => exact ⟨0, _, Nat.zero_le _, rfl, rfl, by omega, by omega⟩
  case round =>
    obtain ⟨k, x, hk, rfl, rfl, hx⟩ := hrel
    by_cases hlt : k < bs.length
    · obtain ⟨K, hK⟩ : ∃ x : Bool, decide ((k : Int) < 4000) = x := ⟨_, rfl⟩
      cases K
      · go_wp2_with fail
        go_ret
        exact ⟨w.heap.size, rfl, Nat.le_refl _, hfin.out x hx, Mid.alloc _ _⟩
      · obtain ⟨b, off, y, rfl, -, hy, hcy⟩ := hr.rs.byte hlt
        have hyb := hb y (List.mem_of_getElem? hy)
        clear hy
        go_wp2_with fail
        obtain ⟨x2, hx2⟩ : ∃ z, bits BinOp.and IntKind.i64 (x * 131 + y + 7) 1073741823 = z := ⟨_, rfl⟩
        have hx2b : 0 ≤ x2 ∧ x2 ≤ 1073741824 := by rw [and30] at hx2; omega
        rw [hx2]
        go_round
        case rel => exact ⟨k + 1, x2, by omega, by go_num, rfl, hx2b⟩
        case measure => simp [intOf]; omega
    · go_wp2_with fail
      go_ret
      exact ⟨w.heap.size, rfl, Nat.le_refl _, hfin.out x hx, Mid.alloc _ _⟩
end Go.Proofs.Ytkaofcakelpnpaa

/- Contracts: permutations. -/
namespace Go.Proofs.Ytkaofcakelpnpaa
set_option linter.unusedVariables false
set_option linter.unusedSimpArgs false
open Go.RowKit

set_option maxHeartbeats 400000 in
theorem impl_IdentityPermutation (n : Int) (w : World) :
    Calls Try.prog 11 #[.int .i64 n] w fun e w' => RetI 3 (upto (min n.toNat 40)) w e w' := by
  go_enter Try.func11, Try.ntmps11
  go_wp2_with fail
  have hb0 := (Below.refl w.heap.size w).alloc (Nat.le_refl _) (.cells #[] 3)
  have ho0 := owns_empty w 3 1
  go_loopw [3, 4] (fun v i wr => ∃ k : Nat, k ≤ 40 ∧ k ≤ n.toNat ∧ i = .int .i64 k ∧ wr.ownsRow w.heap.size 3 1 v k (ints (upto k)) ∧ Below w.heap.size w wr)
    (fun _ i _ => 40 - (intOf i).toNat)
  case atStart => exact ⟨0, by omega, by omega, rfl, ho0, hb0⟩
  case round =>
    obtain ⟨k, hk, hkn, rfl, hown, hb⟩ := hrel
    by_cases h1 : (k : Int) < n
    · by_cases h2 : k < 40
      · have hsz := hb.size
        go_wp2_with (at_builtin; refine wpList_push rfl _ _ 24 rfl w.heap.size 3 (.int .i64 0) 1 8 undSI infoI rfl (by decide) _ _ _ rfl hown 1 [.int .i64 k] rfl rfl ?c1 ?c2 ?c3 hsz ?next)
        case c1 => exact one_of_ints [(k : Int)]
        case c2 => unfold maxLen; omega
        case c3 => omega
        case next =>
          intro v' w1 hown1 hgr _
          go_wp2_with fail
          go_roundw
          case rel => exact ⟨k + 1, by omega, by omega, by go_num, by rw [upto_succ, ints_append]; exact hown1, hb.grown hgr hsz (fun g hg => (hown.lt g hg).1)⟩
          case measure => simp [intOf]; omega
      · go_wp2_with fail
        go_ret
        obtain rfl : k = 40 := by omega
        rw [show min n.toNat 40 = 40 from by omega]
        exact RetI.mk (upto_len _) hown hb
    · go_wp2_with fail
      go_ret
      rw [show min n.toNat 40 = k from by omega]
      exact RetI.mk (upto_len _) hown hb
set_option maxHeartbeats 400000 in
theorem spec_IdentityPermutation (n : Int) (w : World) :
    Calls Try.prog 24 #[.int .i64 n] w fun e w' => RetI 3 (upto (min n.toNat 40)) w e w' := by
  go_enter Try.func24, Try.ntmps24
  go_wp2_with fail
  have hb0 := (Below.refl w.heap.size w).alloc (Nat.le_refl _) (.cells #[] 3)
  have ho0 := owns_empty w 3 1
  go_loopw [3, 4] (fun v i wr => ∃ k : Nat, k ≤ 40 ∧ k ≤ n.toNat ∧ i = .int .i64 k ∧ wr.ownsRow w.heap.size 3 1 v k (ints (upto k)) ∧ Below w.heap.size w wr)
    (fun _ i _ => 40 - (intOf i).toNat)
  case atStart => exact ⟨0, by omega, by omega, rfl, ho0, hb0⟩
  case round =>
    obtain ⟨k, hk, hkn, rfl, hown, hb⟩ := hrel
    by_cases h1 : (k : Int) < n
    · by_cases h2 : k < 40
      · have hsz := hb.size
        go_wp2_with (at_builtin; refine wpList_push rfl _ _ 24 rfl w.heap.size 3 (.int .i64 0) 1 8 undSI infoI rfl (by decide) _ _ _ rfl hown 1 [.int .i64 k] rfl rfl ?c1 ?c2 ?c3 hsz ?next)
        case c1 => exact one_of_ints [(k : Int)]
        case c2 => unfold maxLen; omega
        case c3 => omega
        case next =>
          intro v' w1 hown1 hgr _
          go_wp2_with fail
          go_roundw
          case rel => exact ⟨k + 1, by omega, by omega, by go_num, by rw [upto_succ, ints_append]; exact hown1, hb.grown hgr hsz (fun g hg => (hown.lt g hg).1)⟩
          case measure => simp [intOf]; omega
      · go_wp2_with fail
        go_ret
        obtain rfl : k = 40 := by omega
        rw [show min n.toNat 40 = 40 from by omega]
        exact RetI.mk (upto_len _) hown hb
    · go_wp2_with fail
      go_ret
      rw [show min n.toNat 40 = k from by omega]
      exact RetI.mk (upto_len _) hown hb
end Go.Proofs.Ytkaofcakelpnpaa

/- Plain lemmas on lists of ints: permutations. -/
namespace Go.Proofs.Ytkaofcakelpnpaa
set_option linter.unusedVariables false
set_option linter.unusedSimpArgs false

/-- A permutation of at most 40 places. -/
def IsPerm (p : List Int) : Prop := p.length ≤ 40 ∧ (∀ x ∈ p, 0 ≤ x ∧ x < p.length) ∧ p.Nodup

theorem nodup_snoc {α : Type} {l : List α} {x : α} : (l ++ [x]).Nodup ↔ l.Nodup ∧ x ∉ l := by
  rw [List.nodup_append]
  simp
  intro _
  constructor
  · intro h hx
    exact h x hx rfl
  · intro h a ha e
    subst e
    exact h ha

theorem mem_take_succ {α : Type} {p : List α} {k : Nat} {x y : α} (hx : p[k]? = some x) : y ∈ p.take (k + 1) ↔ y ∈ p.take k ∨ y = x := by
  rw [List.take_add_one, hx]
  simp

theorem nodup_take_succ {α : Type} {p : List α} {k : Nat} {x : α} (hx : p[k]? = some x) : (p.take (k + 1)).Nodup ↔ (p.take k).Nodup ∧ x ∉ p.take k := by
  rw [List.take_add_one, hx]
  exact nodup_snoc

theorem not_nodup_of {α : Type} {p : List α} {k : Nat} {x : α} (hx : p[k]? = some x) (h : x ∈ p.take k) : ¬ p.Nodup := fun hn => by
  have h1 : (p.take (k + 1)).Nodup := (List.take_sublist _ _).nodup hn
  exact ((nodup_take_succ hx).1 h1).2 h

theorem mem_of_get {α : Type} {p : List α} {k : Nat} {x : α} (hx : p[k]? = some x) : x ∈ p := List.mem_of_getElem? hx
end Go.Proofs.Ytkaofcakelpnpaa

/- Contracts: IsPermutation of the program and of the reference. -/
namespace Go.Proofs.Ytkaofcakelpnpaa
set_option linter.unusedVariables false
set_option linter.unusedSimpArgs false
open Go.RowKit

/-- seen: which of the first n numbers stand among l -/
def seenOf (n : Nat) (l : List Int) : List Value := (List.range n).map (fun (j : Nat) => Value.bool (decide ((j : Int) ∈ l)))
theorem seenOf_nil (n : Nat) : seenOf n [] = List.replicate n (.bool false) := by
  unfold seenOf
  apply List.ext_getElem <;> simp
theorem seenOf_get {n j : Nat} {l : List Int} (h : j < n) : (seenOf n l)[j]? = some (.bool (decide ((j : Int) ∈ l))) := by simp [seenOf, h]
theorem seenOf_set {n m : Nat} {l : List Int} (_h : m < n) : (seenOf n l).set m (.bool true) = seenOf n (l ++ [(m : Int)]) := by
  unfold seenOf
  apply List.ext_getElem
  · simp
  · intro i h1 h2
    rw [List.getElem_set]
    by_cases e : m = i
    · subst e
      simp
    · simp [e]
      intro e'
      omega

set_option maxHeartbeats 800000 in
theorem impl_IsPermutation (A : Option Addr) (p : List Int) (c B : Nat) (w : World) (hr : Rs w B A (ints p)) (hB : B ≤ w.heap.size) (hl : p.length ≤ 1048576) (r : Bool) (hres : r = true ↔ IsPerm p) :
    Calls Try.prog 9 #[.slice A p.length c] w fun e w' => e = .returned (.bool r) ∧ Below w.heap.size w w' := by
  have HR := Lib.hid hres
  clear hres
  by_cases hbig : 40 < p.length
  · go_enter Try.func9, Try.ntmps9
    go_wp2_with fail
    go_ret
    have hf : r = false := by
      cases r with
      | false => rfl
      | true => have := (HR.out.1 rfl).1; omega
    subst hf
    exact ⟨rfl, Below.refl _ _⟩
  · have hmx : p.length ≤ maxLen := by unfold maxLen; omega
    go_enter Try.func9, Try.ntmps9
    go_wp2_with (at_make; refine wpList_mk rfl _ _ 40 rfl 4 (.bool false) 1 undSB infoB rfl .i64 .i64 _ _ p.length rfl rfl rfl rfl (by omega) hmx ?_; intro w1 hown1 hgr1 hsz1)
    have hb1 := below_none hgr1
    go_loopw [5, 14] (fun _ i wr => ∃ k : Nat, k ≤ p.length ∧ i = .int .i64 k ∧ wr.ownsRow w.heap.size 4 1 (.slice (some ⟨w.heap.size, 0, none⟩) p.length p.length) p.length (seenOf p.length (p.take k)) ∧ Below w.heap.size w wr ∧ (∀ x ∈ p.take k, 0 ≤ x ∧ x < p.length) ∧ (p.take k).Nodup)
      (fun _ i _ => p.length - (intOf i).toNat)
    case atStart => exact ⟨0, Nat.zero_le _, rfl, by simpa [seenOf_nil] using hown1, hb1, by simp, by simp⟩
    case round =>
      obtain ⟨k, hk, rfl, hown, hb, hin, hnd⟩ := hrel
      have HI := Lib.hid hin
      have HN := Lib.hid hnd
      clear hin hnd
      by_cases hlt : k < p.length
      · obtain ⟨b, off, x, rfl, -, hx, hc⟩ := ((hr.more hB).below hb).int hlt
        have HX := Lib.hid hx
        clear hx
        by_cases hxi : 0 ≤ x ∧ x < p.length
        · obtain ⟨m, rfl⟩ : ∃ m : Nat, x = m := ⟨x.toNat, by omega⟩
          have hm : m < p.length := by omega
          have hi : inB (m : Int) 0 ((p.length : Int) - 1) = true := by simp [inB]; omega
          obtain ⟨u, hu0, hu⟩ := owns_cell hown hm
          rw [seenOf_get hm] at hu0
          obtain rfl := Option.some.inj hu0
          clear hu0
          have hfz := hown.frozenAt m
          by_cases hse : (m : Int) ∈ p.take k
          · have hd : decide ((m : Int) ∈ p.take k) = true := by simpa using hse
            rw [hd] at hu
            have HSE := Lib.hid hse
            clear hse hd
            go_wp2_with (go_at_call 29; refine (within_any _ _ _ _).mono ?_; rintro e w' ⟨rfl, rfl⟩)
            go_ret
            have hf : r = false := by
              cases r with
              | false => rfl
              | true => exact absurd (HR.out.1 rfl).2.2 (not_nodup_of HX.out HSE.out)
            subst hf
            exact ⟨rfl, hb⟩
          · have hd : decide ((m : Int) ∈ p.take k) = false := by simpa using hse
            rw [hd] at hu
            have HSE := Lib.hid hse
            clear hse hd
            go_wp2_with (go_at_call 29; refine (within_any _ _ _ _).mono ?_; rintro e w' ⟨rfl, rfl⟩)
            go_roundw
            case rel =>
              refine ⟨k + 1, by omega, by go_num, owns_set hown m _ ?_, hb.setCell (Nat.le_refl _) _, ?_, (nodup_take_succ HX.out).2 ⟨HN.out, HSE.out⟩⟩
              · rw [seenOf_set hm, take_succ_of p HX.out]
              · intro y hy
                rcases (mem_take_succ HX.out).1 hy with hy | rfl
                · exact HI.out y hy
                · exact hxi
            case measure => simp [intOf]; omega
        · have hi : inB x 0 ((p.length : Int) - 1) = false := by simp [inB]; omega
          go_wp2_with (go_at_call 29; refine (within_any _ _ _ _).mono ?_; rintro e w' ⟨rfl, rfl⟩)
          go_ret
          have hf : r = false := by
            cases r with
            | false => rfl
            | true => exact absurd ((HR.out.1 rfl).2.1 x (mem_of_get HX.out)) hxi
          subst hf
          exact ⟨rfl, hb⟩
      · go_wp2_with fail
        go_ret
        have hkl : k = p.length := by omega
        have ht : p.take k = p := by rw [hkl]; exact List.take_length
        have hf : r = true := HR.out.2 ⟨by omega, by have := HI.out; rwa [ht] at this, by have := HN.out; rwa [ht] at this⟩
        subst hf
        exact ⟨rfl, hb⟩

set_option maxHeartbeats 800000 in
theorem spec_IsPermutation (A : Option Addr) (p : List Int) (c B : Nat) (w : World) (hr : Rs w B A (ints p)) (hl : p.length ≤ 1048576) (r : Bool) (hres : r = true ↔ IsPerm p) :
    Calls Try.prog 10 #[.slice A p.length c] w fun e w' => e = .returned (.bool r) ∧ ∃ n, w' = w.drewN n := by
  have HR := Lib.hid hres
  clear hres
  go_enter Try.func10, Try.ntmps10
  go_wp2_with fail
  go_loopw [3, 4] (fun i _ wr => ∃ k : Nat, k ≤ p.length ∧ i = .int .i64 k ∧ (∃ n, wr = w.drewN n) ∧ (∀ x ∈ p.take k, 0 ≤ x ∧ x < p.length) ∧ (p.take k).Nodup)
    (fun i _ _ => p.length - (intOf i).toNat)
  case atStart => exact ⟨0, Nat.zero_le _, rfl, ⟨0, rfl⟩, by simp, by simp⟩
  case round =>
    obtain ⟨k, hk, rfl, ⟨nd, rfl⟩, hin, hnd⟩ := hrel
    have HI := Lib.hid hin
    have HN := Lib.hid hnd
    clear hin hnd
    by_cases hlt : k < p.length
    · obtain ⟨b, off, x, rfl, -, hx, hc⟩ := hr.int hlt
      have HX := Lib.hid hx
      clear hx
      by_cases hxi : 0 ≤ x ∧ x < p.length
      · have hi : inB x 0 ((p.length : Int) - 1) = true := by simp [inB]; omega
        go_wp2_with (go_at_call 30; refine (l1In_any _ _ _ _).mono ?_; rintro e w' ⟨rfl, rfl⟩)
        go_loopw [4] (fun j wr => ∃ l : Nat, l ≤ k ∧ j = .int .i64 l ∧ (∃ n, wr = w.drewN n) ∧ x ∉ p.take l)
          (fun j _ => k - (intOf j).toNat)
        case atStart => exact ⟨0, Nat.zero_le _, rfl, ⟨_, rfl⟩, by simp⟩
        case round =>
          obtain ⟨l, hlk, rfl, ⟨nd2, rfl⟩, hno⟩ := hrel
          have HNO := Lib.hid hno
          clear hno
          by_cases hl2 : l < k
          · obtain ⟨b', off', y, hA', -, hy, hc'⟩ := hr.int (show l < p.length by omega)
            injection hA' with hA'
            injection hA' with hA1 hA2
            subst hA1
            subst hA2
            have HY := Lib.hid hy
            clear hy
            by_cases hyx : (y == x) = true
            · go_wp2_with fail
              go_quiet (fail)
              go_wp2_with fail
              go_ret
              have hf : r = false := by
                cases r with
                | false => rfl
                | true =>
                  refine absurd (HR.out.1 rfl).2.2 (not_nodup_of HX.out ?_)
                  have e : y = x := by simpa using hyx
                  rw [← e]
                  exact List.mem_of_getElem? (by rw [List.getElem?_take, if_pos hl2]; exact HY.out)
              subst hf
              exact ⟨rfl, _, dn _ _ _⟩
            · have hyx' : (y == x) = false := by simpa using hyx
              clear hyx
              go_wp2_with fail
              go_quiet (fail)
              go_wp2_with fail
              go_roundw
              case rel =>
                refine ⟨l + 1, by omega, by go_num, ⟨_, rfl⟩, fun hm => ?_⟩
                rcases (mem_take_succ HY.out).1 hm with hm | hm
                · exact HNO.out hm
                · subst hm
                  simp at hyx'
              case measure => simp [intOf]; omega
          · go_wp2_with fail
            go_roundw
            case rel =>
              have hlk' : l = k := by omega
              subst hlk'
              refine ⟨l + 1, by omega, by go_num, ⟨_, rfl⟩, ?_, (nodup_take_succ HX.out).2 ⟨HN.out, HNO.out⟩⟩
              intro y hy
              rcases (mem_take_succ HX.out).1 hy with hy | rfl
              · exact HI.out y hy
              · exact hxi
            case measure => simp [intOf]; omega
      · have hi : inB x 0 ((p.length : Int) - 1) = false := by simp [inB]; omega
        go_wp2_with (go_at_call 30; refine (l1In_any _ _ _ _).mono ?_; rintro e w' ⟨rfl, rfl⟩)
        go_ret
        have hf : r = false := by
          cases r with
          | false => rfl
          | true => exact absurd ((HR.out.1 rfl).2.1 x (mem_of_get HX.out)) hxi
        subst hf
        exact ⟨rfl, _, rfl⟩
    · by_cases hbig : 40 < p.length
      · go_wp2_with fail
        go_ret
        have hf : r = false := by
          cases r with
          | false => rfl
          | true => have := (HR.out.1 rfl).1; omega
        subst hf
        exact ⟨by simp; omega, _, rfl⟩
      · go_wp2_with fail
        go_ret
        have hkl : k = p.length := by omega
        have ht : p.take k = p := by rw [hkl]; exact List.take_length
        have hf : r = true := HR.out.2 ⟨by omega, by have := HI.out; rwa [ht] at this, by have := HN.out; rwa [ht] at this⟩
        subst hf
        exact ⟨by simp; omega, _, rfl⟩
end Go.Proofs.Ytkaofcakelpnpaa

/- Contracts: ComposePermutations, InversePermutation, FixedPoints. -/
namespace Go.Proofs.Ytkaofcakelpnpaa
set_option linter.unusedVariables false
set_option linter.unusedSimpArgs false
open Go.RowKit

def composeP (p q : List Int) : List Int := p.map (fun x => q.getD x.toNat 0)

set_option maxHeartbeats 800000 in
theorem impl_Compose_good (A : Option Addr) (p : List Int) (c B : Nat) (A' : Option Addr) (q : List Int) (c' B' : Nat) (w : World) (hr : Rs w B A (ints p)) (hB : B ≤ w.heap.size) (hr' : Rs w B' A' (ints q)) (hB' : B' ≤ w.heap.size)
    (hp : IsPerm p) (hq : IsPerm q) (hlen : p.length = q.length) :
    Calls Try.prog 6 #[.slice A p.length c, .slice A' q.length c'] w fun e w' => RetI 3 (composeP p q) w e w' := by
  have hp40 := hp.1
  have hq40 := hq.1
  have hne : ((p.length : Int) != (q.length : Int)) = false := by simp; omega
  have HL := Lib.hid hlen
  have hle1 : p.length ≤ q.length := by omega
  have hle2 : q.length ≤ p.length := by omega
  have HP := Lib.hid hp
  have HQ := Lib.hid hq
  clear hlen hp hq
  go_enter Try.func6, Try.ntmps6
  go_wp2_with fail
  have hb0 := (Below.refl w.heap.size w).alloc (Nat.le_refl _) (.cells #[] 3)
  have ho0 := owns_empty w 3 1
  with_reducible refine (impl_IsPermutation A p c B _ (hr.alloc hB _) (by simp; omega) (by omega) true (by simp [HP.out])).mono ?_
  rintro e w1 ⟨rfl, hb1⟩
  have ho1 := owns_belowS ho0 hb1
  have hb1' := hb0.trans (hb1.mono hb0.size)
  go_wp2_with fail
  with_reducible refine (impl_IsPermutation A' q c' B' _ ((hr'.alloc hB' _).belowM hb1 (by simp; omega)) (by have := hb1'.size; omega) (by omega) true (by simp [HQ.out])).mono ?_
  rintro e w2 ⟨rfl, hb2⟩
  have ho2 := owns_belowS ho1 hb2
  have hb2' := hb1'.trans (hb2.mono hb1'.size)
  clear ho0 ho1 hb0 hb1 hb1' hb2
  go_wp2_with fail
  go_loopw [5, 7, 27] (fun v _ i wr => ∃ k : Nat, k ≤ p.length ∧ i = .int .i64 k ∧ wr.ownsRow w.heap.size 3 1 v k (ints (composeP (p.take k) q)) ∧ Below w.heap.size w wr)
    (fun _ _ i _ => p.length - (intOf i).toNat)
  case atStart => exact ⟨0, Nat.zero_le _, rfl, ho2, hb2'⟩
  case round =>
    obtain ⟨k, hk, rfl, hown, hb⟩ := hrel
    have hsz := hb.size
    by_cases hlt : k < p.length
    · obtain ⟨b, off, x, rfl, -, hx, hc⟩ := ((hr.more hB).below hb).int hlt
      have hxi := HP.out.2.1 x (mem_of_get hx)
      obtain ⟨m, rfl⟩ : ∃ m : Nat, x = m := ⟨x.toNat, by omega⟩
      have hm : m < q.length := by omega
      obtain ⟨b', off', y, rfl, -, hy, hc'⟩ := ((hr'.more hB').below hb).int hm
      have HX := Lib.hid hx
      have HY := Lib.hid hy
      clear hx hy hxi
      go_wp2_with (at_builtin; refine wpList_push rfl _ _ 24 rfl w.heap.size 3 (.int .i64 0) 1 8 undSI infoI rfl (by decide) _ _ _ rfl hown 1 [.int .i64 y] rfl rfl ?c1 ?c2 ?c3 hsz ?next)
      case c1 => exact one_of_ints [y]
      case c2 => unfold maxLen; omega
      case c3 => omega
      case next =>
        intro v' w3 hown1 hgr _
        go_wp2_with fail
        go_roundw
        case rel =>
          refine ⟨k + 1, by omega, by go_num, ?_, hb.grown hgr hsz (fun g hg => (hown.lt g hg).1)⟩
          rw [composeP, take_succ_of p HX.out, List.map_append, ints_append]
          simpa [ints, HY.out, composeP] using hown1
        case measure => simp [intOf]; omega
    · go_wp2_with fail
      go_ret
      have hkl : k = p.length := by omega
      subst hkl
      rw [List.take_length] at hown
      exact RetI.mk (by simp [composeP]) hown hb

set_option maxHeartbeats 800000 in
theorem impl_Compose_bad (A : Option Addr) (p : List Int) (c B : Nat) (A' : Option Addr) (q : List Int) (c' B' : Nat) (w : World) (hr : Rs w B A (ints p)) (hB : B ≤ w.heap.size) (hr' : Rs w B' A' (ints q)) (hB' : B' ≤ w.heap.size)
    (hlp : p.length ≤ 1048576) (hlq : q.length ≤ 1048576) (hbad : ¬ (IsPerm p ∧ IsPerm q ∧ p.length = q.length)) :
    Calls Try.prog 6 #[.slice A p.length c, .slice A' q.length c'] w fun e w' => RetI 3 [] w e w' := by
  have hb0 := (Below.refl w.heap.size w).alloc (Nat.le_refl _) (.cells #[] 3)
  have ho0 := owns_empty w 3 1
  by_cases hp : IsPerm p
  · by_cases hq : IsPerm q
    · have hne : ((p.length : Int) != (q.length : Int)) = true := by
        simp
        intro h
        exact hbad ⟨hp, hq, by omega⟩
      have HP := Lib.hid hp
      have HQ := Lib.hid hq
      clear hp hq hbad
      go_enter Try.func6, Try.ntmps6
      go_wp2_with fail
      with_reducible refine (impl_IsPermutation A p c B _ (hr.alloc hB _) (by simp; omega) (by omega) true (by simp [HP.out])).mono ?_
      rintro e w1 ⟨rfl, hb1⟩
      have ho1 := owns_belowS ho0 hb1
      have hb1' := hb0.trans (hb1.mono hb0.size)
      go_wp2_with fail
      with_reducible refine (impl_IsPermutation A' q c' B' _ ((hr'.alloc hB' _).belowM hb1 (by simp; omega)) (by have := hb1'.size; omega) (by omega) true (by simp [HQ.out])).mono ?_
      rintro e w2 ⟨rfl, hb2⟩
      have ho2 := owns_belowS ho1 hb2
      have hb2' := hb1'.trans (hb2.mono hb1'.size)
      clear ho0 ho1 hb0 hb1 hb1' hb2
      go_wp2_with fail
      go_ret
      exact RetI.mk (xs := []) rfl ho2 hb2'
    · have HP := Lib.hid hp
      have HQ := Lib.hid hq
      clear hp hq hbad
      go_enter Try.func6, Try.ntmps6
      go_wp2_with fail
      with_reducible refine (impl_IsPermutation A p c B _ (hr.alloc hB _) (by simp; omega) (by omega) true (by simp [HP.out])).mono ?_
      rintro e w1 ⟨rfl, hb1⟩
      have ho1 := owns_belowS ho0 hb1
      have hb1' := hb0.trans (hb1.mono hb0.size)
      go_wp2_with fail
      with_reducible refine (impl_IsPermutation A' q c' B' _ ((hr'.alloc hB' _).belowM hb1 (by simp; omega)) (by have := hb1'.size; omega) (by omega) false (by simp [HQ.out])).mono ?_
      rintro e w2 ⟨rfl, hb2⟩
      have ho2 := owns_belowS ho1 hb2
      have hb2' := hb1'.trans (hb2.mono hb1'.size)
      clear ho0 ho1 hb0 hb1 hb1' hb2
      go_wp2_with fail
      go_ret
      exact RetI.mk (xs := []) rfl ho2 hb2'
  · have HP := Lib.hid hp
    clear hp hbad
    go_enter Try.func6, Try.ntmps6
    go_wp2_with fail
    with_reducible refine (impl_IsPermutation A p c B _ (hr.alloc hB _) (by simp; omega) (by omega) false (by simp [HP.out])).mono ?_
    rintro e w1 ⟨rfl, hb1⟩
    have ho1 := owns_belowS ho0 hb1
    have hb1' := hb0.trans (hb1.mono hb0.size)
    clear ho0 hb0 hb1
    go_wp2_with fail
    go_ret
    exact RetI.mk (xs := []) rfl ho1 hb1'
end Go.Proofs.Ytkaofcakelpnpaa

/- Contracts: ComposePermutations of the reference. -/
namespace Go.Proofs.Ytkaofcakelpnpaa
set_option linter.unusedVariables false
set_option linter.unusedSimpArgs false
open Go.RowKit

set_option maxHeartbeats 1600000 in
theorem spec_Compose_good (A : Option Addr) (p : List Int) (c B : Nat) (A' : Option Addr) (q : List Int) (c' B' : Nat) (w : World) (hr : Rs w B A (ints p)) (hB : B ≤ w.heap.size) (hr' : Rs w B' A' (ints q)) (hB' : B' ≤ w.heap.size)
    (hp : IsPerm p) (hq : IsPerm q) (hlen : p.length = q.length) :
    Calls Try.prog 8 #[.slice A p.length c, .slice A' q.length c'] w fun e w' => RetI 3 (composeP p q) w e w' := by
  have hp40 := hp.1
  have hq40 := hq.1
  have hne : ((p.length : Int) == (q.length : Int)) = true := by simp; omega
  have hle1 : p.length ≤ q.length := by omega
  have hle2 : q.length ≤ p.length := by omega
  have HP := Lib.hid hp
  have HQ := Lib.hid hq
  clear hlen hp hq
  go_enter Try.func8, Try.ntmps8
  go_wp2_with fail
  have hb0 := (Below.refl w.heap.size w).alloc (Nat.le_refl _) (.cells #[] 3)
  have ho0 := owns_empty w 3 1
  go_loopw [5, 6] (fun v i wr => ∃ k : Nat, k ≤ p.length ∧ i = .int .i64 k ∧ wr.ownsRow w.heap.size 3 1 v k (ints (composeP (p.take k) q)) ∧ Below w.heap.size w wr)
    (fun _ i _ => p.length - (intOf i).toNat)
  case atStart => exact ⟨0, Nat.zero_le _, rfl, ho0, hb0⟩
  case round =>
    obtain ⟨k, hk, rfl, hown, hb⟩ := hrel
    have hsz := hb.size
    by_cases hlt : k < p.length
    · obtain ⟨b, off, x, hA, -, hx, hc⟩ := ((hr.more hB).below hb).int hlt
      have hxi := HP.out.2.1 x (mem_of_get hx)
      obtain ⟨m, rfl⟩ : ∃ m : Nat, x = m := ⟨x.toNat, by omega⟩
      have hm : m < q.length := by omega
      obtain ⟨b', off', y, hA', -, hy, hc'⟩ := ((hr'.more hB').below hb).int hm
      subst hA
      subst hA'
      have HX := Lib.hid hx
      have HY := Lib.hid hy
      clear hx hy hxi
      go_wp2_with fail
      with_reducible refine (spec_IsPermutation _ p c B _ ((hr.belowM hb hB)) (by omega) true (by simp [HP.out])).mono ?_
      rintro e w1 ⟨rfl, n1, rfl⟩
      go_wp2_with fail
      with_reducible refine (spec_IsPermutation _ q c' B' _ ((hr'.belowM hb hB').drewN n1) (by omega) true (by simp [HQ.out])).mono ?_
      rintro e w1 ⟨rfl, n2, rfl⟩
      go_wp2_with (at_builtin; refine wpList_push rfl _ _ 24 rfl w.heap.size 3 (.int .i64 0) 1 8 undSI infoI rfl (by decide) _ _ _ rfl (owns_drewN hown _) 1 [.int .i64 y] rfl rfl ?c1 ?c2 ?c3 hsz ?next)
      case c1 => exact one_of_ints [y]
      case c2 => unfold maxLen; omega
      case c3 => omega
      case next =>
        intro v' w3 hown1 hgr _
        go_wp2_with fail
        go_roundw
        case rel =>
          refine ⟨k + 1, by omega, by go_num, ?_, hb.grown (owns_row hgr) hsz (fun g hg => (hown.lt g hg).1)⟩
          rw [composeP, take_succ_of p HX.out, List.map_append, ints_append]
          simpa [ints, HY.out, composeP] using hown1
        case measure => simp [intOf]; omega
    · go_wp2_with fail
      go_ret
      have hkl : k = p.length := by omega
      subst hkl
      rw [List.take_length] at hown
      exact RetI.mk (by simp [composeP]) hown hb

set_option maxHeartbeats 1600000 in
theorem spec_Compose_bad (A : Option Addr) (p : List Int) (c B : Nat) (A' : Option Addr) (q : List Int) (c' B' : Nat) (w : World) (hr : Rs w B A (ints p)) (hB : B ≤ w.heap.size) (hr' : Rs w B' A' (ints q)) (hB' : B' ≤ w.heap.size)
    (hlp : p.length ≤ 1048576) (hlq : q.length ≤ 1048576) (hbad : ¬ (IsPerm p ∧ IsPerm q ∧ p.length = q.length)) :
    Calls Try.prog 8 #[.slice A p.length c, .slice A' q.length c'] w fun e w' => RetI 3 [] w e w' := by
  have hb0 := (Below.refl w.heap.size w).alloc (Nat.le_refl _) (.cells #[] 3)
  have ho0 := owns_empty w 3 1
  by_cases hlen : p.length = q.length
  · have hne : ((p.length : Int) == (q.length : Int)) = true := by simp; omega
    have HL := Lib.hid hlen
    clear hlen
    by_cases hp : IsPerm p
    · by_cases hq : IsPerm q
      · exact absurd ⟨hp, hq, HL.out⟩ hbad
      · have HP := Lib.hid hp
        have HQ := Lib.hid hq
        clear hp hq hbad
        go_enter Try.func8, Try.ntmps8
        go_wp2_with fail
        refine wp_loop_rounds 1 ?_
        rw [rounds_succ]
        by_cases h0 : 0 < p.length
        · go_wp2_with fail
          with_reducible refine (spec_IsPermutation A p c B _ (hr.alloc hB _) (by omega) true (by simp [HP.out])).mono ?_
          rintro e w1 ⟨rfl, n1, rfl⟩
          go_wp2_with fail
          with_reducible refine (spec_IsPermutation A' q c' B' _ ((hr'.alloc hB' _).drewN n1) (by omega) false (by simp [HQ.out])).mono ?_
          rintro e w1 ⟨rfl, n2, rfl⟩
          go_wp2_with fail
          go_ret
          exact RetI.mk (xs := []) rfl (owns_drewN ho0 _) (below_drewN hb0 _)
        · go_wp2_with fail
          go_ret
          exact RetI.mk (xs := []) rfl ho0 hb0
    · have HP := Lib.hid hp
      clear hp hbad
      go_enter Try.func8, Try.ntmps8
      go_wp2_with fail
      refine wp_loop_rounds 1 ?_
      rw [rounds_succ]
      by_cases h0 : 0 < p.length
      · go_wp2_with fail
        with_reducible refine (spec_IsPermutation A p c B _ (hr.alloc hB _) (by omega) false (by simp [HP.out])).mono ?_
        rintro e w1 ⟨rfl, n1, rfl⟩
        go_wp2_with fail
        go_ret
        exact RetI.mk (xs := []) rfl (owns_drewN ho0 _) (below_drewN hb0 _)
      · go_wp2_with fail
        go_ret
        exact RetI.mk (xs := []) rfl ho0 hb0
  · have hne : ((p.length : Int) == (q.length : Int)) = false := by simp; omega
    clear hlen hbad
    go_enter Try.func8, Try.ntmps8
    go_wp2_with fail
    refine wp_loop_rounds 1 ?_
    rw [rounds_succ]
    by_cases h0 : 0 < p.length
    · go_wp2_with fail
      go_ret
      exact RetI.mk (xs := []) rfl ho0 hb0
    · go_wp2_with fail
      go_ret
      exact RetI.mk (xs := []) rfl ho0 hb0

/-- What ComposePermutations hands back. -/
def ComposeIs (p q res : List Int) : Prop := ((IsPerm p ∧ IsPerm q ∧ p.length = q.length) → res = composeP p q) ∧ (¬ (IsPerm p ∧ IsPerm q ∧ p.length = q.length) → res = [])

theorem impl_Compose (A : Option Addr) (p : List Int) (c B : Nat) (A' : Option Addr) (q : List Int) (c' B' : Nat) (w : World) (hr : Rs w B A (ints p)) (hB : B ≤ w.heap.size) (hr' : Rs w B' A' (ints q)) (hB' : B' ≤ w.heap.size)
    (hlp : p.length ≤ 1048576) (hlq : q.length ≤ 1048576) (res : List Int) (hres : ComposeIs p q res) :
    Calls Try.prog 6 #[.slice A p.length c, .slice A' q.length c'] w fun e w' => RetI 3 res w e w' := by
  by_cases h : IsPerm p ∧ IsPerm q ∧ p.length = q.length
  · rw [hres.1 h]
    exact impl_Compose_good A p c B A' q c' B' w hr hB hr' hB' h.1 h.2.1 h.2.2
  · rw [hres.2 h]
    exact impl_Compose_bad A p c B A' q c' B' w hr hB hr' hB' hlp hlq h
theorem spec_Compose (A : Option Addr) (p : List Int) (c B : Nat) (A' : Option Addr) (q : List Int) (c' B' : Nat) (w : World) (hr : Rs w B A (ints p)) (hB : B ≤ w.heap.size) (hr' : Rs w B' A' (ints q)) (hB' : B' ≤ w.heap.size)
    (hlp : p.length ≤ 1048576) (hlq : q.length ≤ 1048576) (res : List Int) (hres : ComposeIs p q res) :
    Calls Try.prog 8 #[.slice A p.length c, .slice A' q.length c'] w fun e w' => RetI 3 res w e w' := by
  by_cases h : IsPerm p ∧ IsPerm q ∧ p.length = q.length
  · rw [hres.1 h]
    exact spec_Compose_good A p c B A' q c' B' w hr hB hr' hB' h.1 h.2.1 h.2.2
  · rw [hres.2 h]
    exact spec_Compose_bad A p c B A' q c' B' w hr hB hr' hB' hlp hlq h
end Go.Proofs.Ytkaofcakelpnpaa

/- Contracts: InversePermutation, FixedPoints, of the program and of the reference. -/
namespace Go.Proofs.Ytkaofcakelpnpaa
set_option linter.unusedVariables false
set_option linter.unusedSimpArgs false
open Go.RowKit

def invK (p : List Int) : Nat → List Int
  | 0 => List.replicate p.length 0
  | k + 1 => (invK p k).set (p.getD k 0).toNat (k : Int)
theorem invK_len (p : List Int) (k : Nat) : (invK p k).length = p.length := by
  induction k with
  | zero => simp [invK]
  | succ k ih => simp [invK, ih]
theorem invK_set {p : List Int} {k m : Nat} (h : p[k]? = some (m : Int)) : (ints (invK p k)).set m (.int .i64 k) = ints (invK p (k + 1)) := by
  have e : p.getD k 0 = (m : Int) := by simp [List.getD, h]
  rw [invK, e]
  simp [ints, List.map_set]
def fixK (p : List Int) : Nat → List Int
  | 0 => []
  | k + 1 => if p.getD k 0 = (k : Int) then fixK p k ++ [(k : Int)] else fixK p k
theorem fixK_len (p : List Int) (k : Nat) : (fixK p k).length ≤ k := by
  induction k with
  | zero => simp [fixK]
  | succ k ih =>
    rw [fixK]
    split
    · simp; omega
    · omega
theorem fixK_hit {p : List Int} {k : Nat} (h : p[k]? = some (k : Int)) : fixK p (k + 1) = fixK p k ++ [(k : Int)] := by
  rw [fixK, if_pos (by simp [List.getD, h])]
theorem fixK_miss {p : List Int} {k : Nat} {x : Int} (h : p[k]? = some x) (hne : ((k : Int) == x) = false) : fixK p (k + 1) = fixK p k := by
  rw [fixK, if_neg (by simp [List.getD, h]; simp at hne; omega)]

/-- What InversePermutation, FixedPoints hand back. -/
def InvIs (p res : List Int) : Prop := (IsPerm p → res = invK p p.length) ∧ (¬ IsPerm p → res = [])
def FixIs (p res : List Int) : Prop := (IsPerm p → res = fixK p p.length) ∧ (¬ IsPerm p → res = [])

set_option maxHeartbeats 800000 in
theorem impl_Inverse (A : Option Addr) (p : List Int) (c B : Nat) (w : World) (hr : Rs w B A (ints p)) (hB : B ≤ w.heap.size) (hlp : p.length ≤ 1048576) (res : List Int) (hres : InvIs p res) :
    Calls Try.prog 12 #[.slice A p.length c] w fun e w' => RetI 3 res w e w' := by
  by_cases hp : IsPerm p
  · rw [hres.1 hp]
    have hmx : p.length ≤ maxLen := by unfold maxLen; omega
    have HP := Lib.hid hp
    clear hp hres
    go_enter Try.func12, Try.ntmps12
    go_wp2_with fail
    with_reducible refine (impl_IsPermutation A p c B _ hr hB (by omega) true (by simp [HP.out])).mono ?_
    rintro e w0 ⟨rfl, hb0⟩
    have hsz0 := hb0.size
    go_wp2_with (at_make; refine wpList_mk rfl _ _ 24 rfl 3 (.int .i64 0) 8 undSI infoI rfl .i64 .i64 _ _ p.length rfl rfl rfl rfl (by omega) hmx ?_; intro w1 hown1 hgr1 hsz1)
    have hb1 := hb0.trans (below_of_grown hgr1 hsz0 (by intro g hg; cases hg))
    have hown1 := owns_base hown1 hsz0
    go_loopw [4, 5, 15] (fun _ _ i wr => ∃ k : Nat, k ≤ p.length ∧ i = .int .i64 k ∧ wr.ownsRow w.heap.size 3 1 (.slice (some ⟨w0.heap.size, 0, none⟩) p.length p.length) p.length (ints (invK p k)) ∧ Below w.heap.size w wr)
      (fun _ _ i _ => p.length - (intOf i).toNat)
    case atStart => exact ⟨0, Nat.zero_le _, rfl, by simpa [invK, ints] using hown1, hb1⟩
    case round =>
      obtain ⟨k, hk, rfl, hown, hb⟩ := hrel
      by_cases hlt : k < p.length
      · obtain ⟨b, off, x, rfl, -, hx, hc⟩ := ((hr.more hB).below hb).int hlt
        have hxi := HP.out.2.1 x (mem_of_get hx)
        obtain ⟨m, rfl⟩ : ∃ m : Nat, x = m := ⟨x.toNat, by omega⟩
        have hm : m < p.length := by omega
        have HX := Lib.hid hx
        clear hx hxi
        obtain ⟨u, -, hu⟩ := owns_cell hown hm
        have hfz := hown.frozenAt m
        go_wp2_with fail
        go_roundw
        case rel => exact ⟨k + 1, by omega, by go_num, owns_set hown m _ (invK_set HX.out), hb.setCell hsz0 _⟩
        case measure => simp [intOf]; omega
      · go_wp2_with fail
        go_ret
        have hkl : k = p.length := by omega
        subst hkl
        exact RetI.mk (invK_len _ _) hown hb
  · rw [hres.2 hp]
    have HP := Lib.hid hp
    clear hp hres
    go_enter Try.func12, Try.ntmps12
    go_wp2_with fail
    with_reducible refine (impl_IsPermutation A p c B _ hr hB (by omega) false (by simp [HP.out])).mono ?_
    rintro e w0 ⟨rfl, hb0⟩
    go_wp2_with fail
    go_ret
    exact RetI.mk (xs := []) rfl (owns_base (owns_empty w0 3 1) hb0.size) (hb0.alloc hb0.size _)

set_option maxHeartbeats 800000 in
theorem spec_Inverse (A : Option Addr) (p : List Int) (c B : Nat) (w : World) (hr : Rs w B A (ints p)) (hB : B ≤ w.heap.size) (hlp : p.length ≤ 1048576) (res : List Int) (hres : InvIs p res) :
    Calls Try.prog 23 #[.slice A p.length c] w fun e w' => RetI 3 res w e w' := by
  by_cases hp : IsPerm p
  · rw [hres.1 hp]
    have hmx : p.length ≤ maxLen := by unfold maxLen; omega
    have HP := Lib.hid hp
    clear hp hres
    go_enter Try.func23, Try.ntmps23
    go_wp2_with fail
    with_reducible refine (spec_IsPermutation A p c B _ hr (by omega) true (by simp [HP.out])).mono ?_
    rintro e w0 ⟨rfl, n0, rfl⟩
    go_wp2_with (at_make; refine wpList_mk rfl _ _ 24 rfl 3 (.int .i64 0) 8 undSI infoI rfl .i64 .i64 _ _ p.length rfl rfl rfl rfl (by omega) hmx ?_; intro w1 hown1 hgr1 hsz1)
    have hb1 : Below w.heap.size w w1 := below_none (owns_row hgr1)
    have hown1 : w1.ownsRow w.heap.size 3 1 (.slice (some ⟨w.heap.size, 0, none⟩) p.length p.length) p.length (List.replicate p.length (.int .i64 0)) := hown1
    go_loopw [4] (fun i wr => ∃ k : Nat, k ≤ p.length ∧ i = .int .i64 k ∧ wr.ownsRow w.heap.size 3 1 (.slice (some ⟨w.heap.size, 0, none⟩) p.length p.length) p.length (ints (invK p k)) ∧ Below w.heap.size w wr)
      (fun i _ => p.length - (intOf i).toNat)
    case atStart => exact ⟨0, Nat.zero_le _, rfl, by simpa [invK, ints] using hown1, hb1⟩
    case round =>
      obtain ⟨k, hk, rfl, hown, hb⟩ := hrel
      by_cases hlt : k < p.length
      · obtain ⟨b, off, x, rfl, -, hx, hc⟩ := ((hr.more hB).below hb).int hlt
        have hxi := HP.out.2.1 x (mem_of_get hx)
        obtain ⟨m, rfl⟩ : ∃ m : Nat, x = m := ⟨x.toNat, by omega⟩
        have hm : m < p.length := by omega
        have HX := Lib.hid hx
        clear hx hxi
        obtain ⟨u, -, hu⟩ := owns_cell hown hm
        have hfz := hown.frozenAt m
        go_wp2_with fail
        go_roundw
        case rel => exact ⟨k + 1, by omega, by go_num, owns_set hown m _ (invK_set HX.out), hb.setCell (Nat.le_refl _) _⟩
        case measure => simp [intOf]; omega
      · go_wp2_with fail
        go_ret
        have hkl : k = p.length := by omega
        subst hkl
        exact RetI.mk (invK_len _ _) hown hb
  · rw [hres.2 hp]
    have HP := Lib.hid hp
    clear hp hres
    go_enter Try.func23, Try.ntmps23
    go_wp2_with fail
    with_reducible refine (spec_IsPermutation A p c B _ hr (by omega) false (by simp [HP.out])).mono ?_
    rintro e w0 ⟨rfl, n0, rfl⟩
    go_wp2_with fail
    go_ret
    exact RetI.mk (xs := []) rfl (owns_drewN (owns_empty w 3 1) _) (below_drewN ((Below.refl w.heap.size w).alloc (Nat.le_refl _) _) _)

set_option maxHeartbeats 800000 in
theorem impl_Fixed (A : Option Addr) (p : List Int) (c B : Nat) (w : World) (hr : Rs w B A (ints p)) (hB : B ≤ w.heap.size) (hlp : p.length ≤ 1048576) (res : List Int) (hres : FixIs p res) :
    Calls Try.prog 20 #[.slice A p.length c] w fun e w' => RetI 3 res w e w' := by
  have hb0 := (Below.refl w.heap.size w).alloc (Nat.le_refl _) (.cells #[] 3)
  have ho0 := owns_empty w 3 1
  by_cases hp : IsPerm p
  · rw [hres.1 hp]
    have HP := Lib.hid hp
    clear hp hres
    go_enter Try.func20, Try.ntmps20
    go_wp2_with fail
    with_reducible refine (impl_IsPermutation A p c B _ (hr.alloc hB _) (by simp; omega) (by omega) true (by simp [HP.out])).mono ?_
    rintro e w1 ⟨rfl, hb1⟩
    have ho1 := owns_belowS ho0 hb1
    have hb1' := hb0.trans (hb1.mono hb0.size)
    clear ho0 hb0 hb1
    go_wp2_with fail
    go_loopw [3, 4, 5, 13] (fun v _ _ i wr => ∃ k : Nat, k ≤ p.length ∧ i = .int .i64 k ∧ wr.ownsRow w.heap.size 3 1 v (fixK p k).length (ints (fixK p k)) ∧ Below w.heap.size w wr)
      (fun _ _ _ i _ => p.length - (intOf i).toNat)
    case atStart => exact ⟨0, Nat.zero_le _, rfl, ho1, hb1'⟩
    case round =>
      obtain ⟨k, hk, rfl, hown, hb⟩ := hrel
      have hsz := hb.size
      have hfl := fixK_len p k
      by_cases hlt : k < p.length
      · obtain ⟨b, off, x, rfl, -, hx, hc⟩ := ((hr.more hB).below hb).int hlt
        have HX := Lib.hid hx
        clear hx
        by_cases hkx : ((k : Int) == x) = true
        · go_wp2_with (at_builtin; refine wpList_push rfl _ _ 24 rfl w.heap.size 3 (.int .i64 0) 1 8 undSI infoI rfl (by decide) _ _ _ rfl hown 1 [.int .i64 k] rfl rfl ?c1 ?c2 ?c3 hsz ?next)
          case c1 => exact one_of_ints [(k : Int)]
          case c2 => unfold maxLen; omega
          case c3 => omega
          case next =>
            intro v' w3 hown1 hgr _
            go_wp2_with fail
            go_roundw
            case rel =>
              have e : (k : Int) = x := by simpa using hkx
              have hx := HX.out
              rw [← e] at hx
              refine ⟨k + 1, by omega, by go_num, ?_, hb.grown hgr hsz (fun g hg => (hown.lt g hg).1)⟩
              rw [fixK_hit hx, ints_append]
              simpa [ints] using hown1
            case measure => simp [intOf]; omega
        · have hkx' : ((k : Int) == x) = false := by simpa using hkx
          clear hkx
          go_wp2_with fail
          go_roundw
          case rel => exact ⟨k + 1, by omega, by go_num, by rw [fixK_miss HX.out hkx']; exact hown, hb⟩
          case measure => simp [intOf]; omega
      · go_wp2_with fail
        go_ret
        have hkl : k = p.length := by omega
        subst hkl
        exact RetI.mk rfl hown hb
  · rw [hres.2 hp]
    have HP := Lib.hid hp
    clear hp hres
    go_enter Try.func20, Try.ntmps20
    go_wp2_with fail
    with_reducible refine (impl_IsPermutation A p c B _ (hr.alloc hB _) (by simp; omega) (by omega) false (by simp [HP.out])).mono ?_
    rintro e w1 ⟨rfl, hb1⟩
    have ho1 := owns_belowS ho0 hb1
    have hb1' := hb0.trans (hb1.mono hb0.size)
    clear ho0 hb0 hb1
    go_wp2_with fail
    go_ret
    exact RetI.mk (xs := []) rfl ho1 hb1'

set_option maxHeartbeats 800000 in
theorem spec_Fixed (A : Option Addr) (p : List Int) (c B : Nat) (w : World) (hr : Rs w B A (ints p)) (hB : B ≤ w.heap.size) (hlp : p.length ≤ 1048576) (res : List Int) (hres : FixIs p res) :
    Calls Try.prog 21 #[.slice A p.length c] w fun e w' => RetI 3 res w e w' := by
  have hb0 := (Below.refl w.heap.size w).alloc (Nat.le_refl _) (.cells #[] 3)
  have ho0 := owns_empty w 3 1
  by_cases hp : IsPerm p
  · rw [hres.1 hp]
    have HP := Lib.hid hp
    clear hp hres
    go_enter Try.func21, Try.ntmps21
    go_wp2_with fail
    go_loopw [3, 4] (fun v i wr => ∃ k : Nat, k ≤ p.length ∧ i = .int .i64 k ∧ wr.ownsRow w.heap.size 3 1 v (fixK p k).length (ints (fixK p k)) ∧ Below w.heap.size w wr)
      (fun _ i _ => p.length - (intOf i).toNat)
    case atStart => exact ⟨0, Nat.zero_le _, rfl, ho0, hb0⟩
    case round =>
      obtain ⟨k, hk, rfl, hown, hb⟩ := hrel
      have hsz := hb.size
      have hfl := fixK_len p k
      by_cases hlt : k < p.length
      · obtain ⟨b, off, x, hA, -, hx, hc⟩ := ((hr.more hB).below hb).int hlt
        subst hA
        have HX := Lib.hid hx
        clear hx
        by_cases hkx : (x == (k : Int)) = true
        · go_wp2_with fail
          with_reducible refine (spec_IsPermutation _ p c B _ (hr.belowM hb hB) (by omega) true (by simp [HP.out])).mono ?_
          rintro e w1 ⟨rfl, n1, rfl⟩
          go_wp2_with (at_builtin; refine wpList_push rfl _ _ 24 rfl w.heap.size 3 (.int .i64 0) 1 8 undSI infoI rfl (by decide) _ _ _ rfl (owns_drewN hown _) 1 [.int .i64 k] rfl rfl ?c1 ?c2 ?c3 hsz ?next)
          case c1 => exact one_of_ints [(k : Int)]
          case c2 => unfold maxLen; omega
          case c3 => omega
          case next =>
            intro v' w3 hown1 hgr _
            go_wp2_with fail
            go_roundw
            case rel =>
              have e : x = (k : Int) := by simpa using hkx
              have hx := HX.out
              rw [e] at hx
              refine ⟨k + 1, by omega, by go_num, ?_, hb.grown (owns_row hgr) hsz (fun g hg => (hown.lt g hg).1)⟩
              rw [fixK_hit hx, ints_append]
              simpa [ints] using hown1
            case measure => simp [intOf]; omega
        · have hkx' : (x == (k : Int)) = false := by simpa using hkx
          have hkx2 : ((k : Int) == x) = false := by simp at hkx' ⊢; omega
          have HKX := Lib.hid hkx2
          clear hkx hkx2
          go_wp2_with fail
          with_reducible refine (spec_IsPermutation _ p c B _ (hr.belowM hb hB) (by omega) true (by simp [HP.out])).mono ?_
          rintro e w1 ⟨rfl, n1, rfl⟩
          go_wp2_with fail
          go_roundw
          case rel => exact ⟨k + 1, by omega, by go_num, by rw [fixK_miss HX.out HKX.out]; exact owns_drewN hown _, below_drewN hb _⟩
          case measure => simp [intOf]; omega
      · go_wp2_with fail
        go_ret
        have hkl : k = p.length := by omega
        subst hkl
        exact RetI.mk rfl hown hb
  · rw [hres.2 hp]
    have HP := Lib.hid hp
    clear hp hres
    go_enter Try.func21, Try.ntmps21
    go_wp2_with fail
    refine wp_loop_rounds 1 ?_
    rw [rounds_succ]
    by_cases h0 : 0 < p.length
    · go_wp2_with fail
      with_reducible refine (spec_IsPermutation A p c B _ (hr.alloc hB _) (by omega) false (by simp [HP.out])).mono ?_
      rintro e w1 ⟨rfl, n1, rfl⟩
      go_wp2_with fail
      go_ret
      exact RetI.mk (xs := []) rfl (owns_drewN ho0 _) (below_drewN hb0 _)
    · go_wp2_with fail
      go_ret
      exact RetI.mk (xs := []) rfl ho0 hb0
end Go.Proofs.Ytkaofcakelpnpaa

/- The contracts of the permutations' functions, in the laws' words. -/
namespace Go.Proofs.Ytkaofcakelpnpaa
set_option linter.unusedVariables false
set_option linter.unusedSimpArgs false
open Go.RowKit

def IdentityPermutationIs (n : Int) (res : List Int) : Prop := res = upto (min n.toNat 40)
theorem IdentityPermutationIs_ex (n : Int) : ∃ res, IdentityPermutationIs n res := ⟨_, rfl⟩
theorem IdentityPermutationIs_len {n : Int} {res : List Int} (h : IdentityPermutationIs n res) : res.length ≤ 1048576 := by rw [h, upto_len]; omega
theorem sspec_IdentityPermutation (n : Int) (w : World) (_o : (Lit.int .i64 n).wf = true) (res : List Int) (h : IdentityPermutationIs n res) :
    Calls Try.prog 24 #[.int .i64 n] w (StpI res w) := by
  rw [h]
  exact (spec_IdentityPermutation n w).mono fun _ _ h => h.stp
theorem simpl_IdentityPermutation (n : Int) (w : World) (_o : (Lit.int .i64 n).wf = true) (res : List Int) (h : IdentityPermutationIs n res) :
    Calls Try.prog 11 #[.int .i64 n] w (StpI res w) := by
  rw [h]
  exact (impl_IdentityPermutation n w).mono fun _ _ h => h.stp

def IsPermutationIs (p : List Int) (r : Bool) : Prop := r = true ↔ IsPerm p
theorem sspec_IsPermutation (A : Option Addr) (p : List Int) (c : Nat) (w : World) (lo hi : Nat) (h : RI w lo hi A p) (hl : p.length ≤ 1048576) (r : Bool) (hr : IsPermutationIs p r) :
    Calls Try.prog 10 #[.slice A p.length c] w (Stp (.bool r) w) :=
  (spec_IsPermutation A p c _ w h.rs hl r hr).mono fun _ _ ⟨he, n, hw⟩ => ⟨he, hw ▸ (Mid.refl 0 0 w).drewN n⟩
theorem simpl_IsPermutation (A : Option Addr) (p : List Int) (c : Nat) (w : World) (lo hi : Nat) (h : RI w lo hi A p) (hl : p.length ≤ 1048576) (r : Bool) (hr : IsPermutationIs p r) :
    Calls Try.prog 9 #[.slice A p.length c] w (Stp (.bool r) w) :=
  (impl_IsPermutation A p c _ w h.rs (Nat.le_refl _) hl r hr).mono fun _ _ ⟨he, hb⟩ => ⟨he, Mid.of_below hb⟩

def ComposePermutationsIs (p q res : List Int) : Prop := ComposeIs p q res
theorem ComposePermutationsIs_ex (p q : List Int) (_h : p.length ≤ 1048576) (_h' : q.length ≤ 1048576) : ∃ r, ComposePermutationsIs p q r := by
  by_cases h : IsPerm p ∧ IsPerm q ∧ p.length = q.length
  · exact ⟨composeP p q, fun _ => rfl, fun h' => absurd h h'⟩
  · exact ⟨[], fun h' => absurd h' h, fun _ => rfl⟩
theorem ComposePermutationsIs_len {p q res : List Int} (h : ComposePermutationsIs p q res) (hp : p.length ≤ 1048576) (_h' : q.length ≤ 1048576) : res.length ≤ 1048576 := by
  by_cases hg : IsPerm p ∧ IsPerm q ∧ p.length = q.length
  · rw [h.1 hg]; simpa [composeP] using hp
  · rw [h.2 hg]; simp
theorem sspec_ComposePermutations (A : Option Addr) (p : List Int) (c : Nat) (A' : Option Addr) (q : List Int) (c' : Nat) (w : World) (lo hi : Nat) (h : RI w lo hi A p) (hl : p.length ≤ 1048576) (lo' hi' : Nat) (h' : RI w lo' hi' A' q) (hl' : q.length ≤ 1048576) (r : List Int) (hr : ComposePermutationsIs p q r) :
    Calls Try.prog 8 #[.slice A p.length c, .slice A' q.length c'] w (StpI r w) :=
  (spec_Compose A p c _ A' q c' _ w h.rs (Nat.le_refl _) h'.rs (Nat.le_refl _) hl hl' r hr).mono fun _ _ h => h.stp
theorem simpl_ComposePermutations (A : Option Addr) (p : List Int) (c : Nat) (A' : Option Addr) (q : List Int) (c' : Nat) (w : World) (lo hi : Nat) (h : RI w lo hi A p) (hl : p.length ≤ 1048576) (lo' hi' : Nat) (h' : RI w lo' hi' A' q) (hl' : q.length ≤ 1048576) (r : List Int) (hr : ComposePermutationsIs p q r) :
    Calls Try.prog 6 #[.slice A p.length c, .slice A' q.length c'] w (StpI r w) :=
  (impl_Compose A p c _ A' q c' _ w h.rs (Nat.le_refl _) h'.rs (Nat.le_refl _) hl hl' r hr).mono fun _ _ h => h.stp

def InversePermutationIs (p res : List Int) : Prop := InvIs p res
theorem InversePermutationIs_ex (p : List Int) (_h : p.length ≤ 1048576) : ∃ r, InversePermutationIs p r := by
  by_cases h : IsPerm p
  · exact ⟨invK p p.length, fun _ => rfl, fun h' => absurd h h'⟩
  · exact ⟨[], fun h' => absurd h' h, fun _ => rfl⟩
theorem InversePermutationIs_len {p res : List Int} (h : InversePermutationIs p res) (hp : p.length ≤ 1048576) : res.length ≤ 1048576 := by
  by_cases hg : IsPerm p
  · rw [h.1 hg, invK_len]; exact hp
  · rw [h.2 hg]; simp
theorem sspec_InversePermutation (A : Option Addr) (p : List Int) (c : Nat) (w : World) (lo hi : Nat) (h : RI w lo hi A p) (hl : p.length ≤ 1048576) (r : List Int) (hr : InversePermutationIs p r) :
    Calls Try.prog 23 #[.slice A p.length c] w (StpI r w) :=
  (spec_Inverse A p c _ w h.rs (Nat.le_refl _) hl r hr).mono fun _ _ h => h.stp
theorem simpl_InversePermutation (A : Option Addr) (p : List Int) (c : Nat) (w : World) (lo hi : Nat) (h : RI w lo hi A p) (hl : p.length ≤ 1048576) (r : List Int) (hr : InversePermutationIs p r) :
    Calls Try.prog 12 #[.slice A p.length c] w (StpI r w) :=
  (impl_Inverse A p c _ w h.rs (Nat.le_refl _) hl r hr).mono fun _ _ h => h.stp

def FixedPointsIs (p res : List Int) : Prop := FixIs p res
theorem FixedPointsIs_ex (p : List Int) (_h : p.length ≤ 1048576) : ∃ r, FixedPointsIs p r := by
  by_cases h : IsPerm p
  · exact ⟨fixK p p.length, fun _ => rfl, fun h' => absurd h h'⟩
  · exact ⟨[], fun h' => absurd h' h, fun _ => rfl⟩
theorem FixedPointsIs_len {p res : List Int} (h : FixedPointsIs p res) (hp : p.length ≤ 1048576) : res.length ≤ 1048576 := by
  by_cases hg : IsPerm p
  · rw [h.1 hg]; have := fixK_len p p.length; omega
  · rw [h.2 hg]; simp
theorem sspec_FixedPoints (A : Option Addr) (p : List Int) (c : Nat) (w : World) (lo hi : Nat) (h : RI w lo hi A p) (hl : p.length ≤ 1048576) (r : List Int) (hr : FixedPointsIs p r) :
    Calls Try.prog 21 #[.slice A p.length c] w (StpI r w) :=
  (spec_Fixed A p c _ w h.rs (Nat.le_refl _) hl r hr).mono fun _ _ h => h.stp
theorem simpl_FixedPoints (A : Option Addr) (p : List Int) (c : Nat) (w : World) (lo hi : Nat) (h : RI w lo hi A p) (hl : p.length ≤ 1048576) (r : List Int) (hr : FixedPointsIs p r) :
    Calls Try.prog 20 #[.slice A p.length c] w (StpI r w) :=
  (impl_Fixed A p c _ w h.rs (Nat.le_refl _) hl r hr).mono fun _ _ h => h.stp
end Go.Proofs.Ytkaofcakelpnpaa

/- Regions that draw their order, only read, and call functions that read and lay blocks of their own: one walk. -/
namespace Go.Proofs.Ytkaofcakelpnpaa
set_option linter.unusedVariables false
set_option linter.unusedSimpArgs false
open Go.RowKit

/-- w with blocks laid behind it, at another count of draws. -/
def wg (w : World) (m : Nat) (os : Array Obj) : World := { w with heap := w.heap ++ os, drawn := m }
structure GB where
  n : Nat
  os : Array Obj
  deriving Inhabited
end Go.Proofs.Ytkaofcakelpnpaa

/- Regions that draw their order, with cells that every operation but the last one leaves as they are. -/
namespace Go.Proofs.Ytkaofcakelpnpaa
set_option linter.unusedVariables false
set_option linter.unusedSimpArgs false
open Go.RowKit

section
variable {P : Program} {ops : Array Oper} {Q : Exit → Act → World → Prop} {md : Region.Mode} {S : World → Prop} {z : Nat}

/-- Whatever order is picked from here on; S holds behind every operation but number z. -/
def wpAnyT (P : Program) (md : Region.Mode) (ops : Array Oper) (Q : Exit → Act → World → Prop) (S : World → Prop) (z : Nat) : Nat → Array Bool → Act → World → Prop
  | 0, listed, a, w => Region.ready md ops listed = [] ∧ Q .normal a w
  | fuel + 1, listed, a, w =>
    (Region.ready md ops listed = [] → Q .normal a w) ∧
    ∀ i ∈ Region.ready md ops listed, wpOp P ops Q i (fun a' w' => (i = z ∨ S w') ∧ wpAnyT P md ops Q S z fuel (listed.setIfInBounds i true) a' w') a w
def AllReadyT (P : Program) (md : Region.Mode) (ops : Array Oper) (Q : Exit → Act → World → Prop) (S : World → Prop) (z fuel : Nat) (listed : Array Bool) (a : Act) (w : World) (rs : List Nat) : Prop :=
  ∀ i ∈ rs, wpOp P ops Q i (fun a' w' => (i = z ∨ S w') ∧ wpAnyT P md ops Q S z fuel (listed.setIfInBounds i true) a' w') a w
theorem AllReadyT.nil {fuel : Nat} {listed : Array Bool} {a : Act} {w : World} : AllReadyT P md ops Q S z fuel listed a w [] := fun _ h => by cases h
theorem AllReadyT.cons {fuel : Nat} {listed : Array Bool} {a : Act} {w : World} {i : Nat} {o : Oper} {rs : List Nat} (ho : ops[i]? = some o)
    (h : ∀ K' : Act → World → Prop, Shut (∀ a w, (i = z ∨ S w) → ((i = z ∨ S w) → wpAnyT P md ops Q S z fuel (listed.setIfInBounds i true) a w) → K' a w) → if Region.wanted o (yielded ops a.tmps) = true then Oper.wp P o a w K' Q else K' (a.put o.dst undef) w)
    (hs : AllReadyT P md ops Q S z fuel listed a w rs) : AllReadyT P md ops Q S z fuel listed a w (i :: rs) := fun j hj => by
  rcases List.mem_cons.1 hj with rfl | hj
  · exact wpOp_step ho (fun K' hK => h K' (fun a w hS hW => hK a w ⟨hS, hW hS⟩))
  · exact hs j hj
end
end Go.Proofs.Ytkaofcakelpnpaa

/- Regions that draw their order, with cells that every operation but the last ones leaves as they are. -/
namespace Go.Proofs.Ytkaofcakelpnpaa
set_option linter.unusedVariables false
set_option linter.unusedSimpArgs false
open Go.RowKit

section
variable {P : Program} {ops : Array Oper} {Q : Exit → Act → World → Prop} {md : Region.Mode} {S : World → Prop} {Z : List Nat}

/-- Whatever order is picked from here on; S holds behind every operation but those of Z. -/
def wpAnyZ (P : Program) (md : Region.Mode) (ops : Array Oper) (Q : Exit → Act → World → Prop) (S : World → Prop) (Z : List Nat) : Nat → Array Bool → Act → World → Prop
  | 0, listed, a, w => Region.ready md ops listed = [] ∧ Q .normal a w
  | fuel + 1, listed, a, w =>
    (Region.ready md ops listed = [] → Q .normal a w) ∧
    ∀ i ∈ Region.ready md ops listed, wpOp P ops Q i (fun a' w' => (i ∈ Z ∨ S w') ∧ wpAnyZ P md ops Q S Z fuel (listed.setIfInBounds i true) a' w') a w
theorem wpAny_of_Z : ∀ (fuel : Nat) (listed : Array Bool) (a : Act) (w : World), wpAnyZ P md ops Q S Z fuel listed a w → wpAny P md ops Q fuel listed a w
  | 0, _, _, _, h => h
  | fuel + 1, _, _, _, h => ⟨h.1, fun i hi => wpOp_mono (fun a' w' h' => wpAny_of_Z fuel _ a' w' h'.2) (h.2 i hi)⟩
/-- The last operation does not come up while one that it waits for has not. -/
theorem not_lastZ {z i : Nat} {listed : Array Bool} (hz : Region.waitsFor md ops z i = true) (hun : listed.getD i true = false) : z ∉ Region.ready md ops listed := by
  intro hr
  obtain ⟨-, oz, hoz, hall⟩ := mem_ready.1 hr
  obtain ⟨oz', hoz', e, he, hb, hon⟩ := Region.waitsFor_spec hz
  obtain rfl : oz' = oz := Option.some.inj (hoz'.symm.trans hoz)
  have h1 := hall e he hb
  rw [hon, getD_both hun] at h1
  cases h1
theorem not_lastC {i m : Nat} {C : List Nat} {listed : Array Bool} (hC : ∀ m ∈ C, listed.getD m true = false ∧ ∃ p ∈ i :: C, Region.waitsFor md ops m p = true) (hi : listed.getD i true = false) (hm : m ∈ C) : m ∉ Region.ready md ops listed := by
  obtain ⟨-, p, hp, hw⟩ := hC m hm
  have hun : listed.getD p true = false := by
    rcases List.mem_cons.1 hp with rfl | hp
    · exact hi
    · exact (hC p hp).1
  exact not_lastZ hw hun
theorem wpAnyZ_firstC {i : Nat} {oi : Oper} {v : Value} {C : List Nat} (hi : ops[i]? = some oi) (hsel : ∀ (j : Nat) (o : Oper) cs b, ops[j]? = some o → o.op ≠ .select cs b)
    (hQ : ∀ c a w, Q (.panic c) (a.put oi.dst v) w → Q (.panic c) a w) (hZC : ∀ z ∈ Z, z ∈ C) :
    ∀ (fuel : Nat) (listed : Array Bool) (a : Act) (w : World),
      (∀ j oj, ops[j]? = some oj → j ≠ i → listed.getD j true = false → (∀ e ∈ oj.after, Region.binds md e = true → e.on ≠ i) → oi.apart ops oj = true) →
      (∀ m ∈ C, listed.getD m true = false ∧ ∃ p ∈ i :: C, Region.waitsFor md ops m p = true) →
      i ∈ Region.ready md ops listed → YieldsIf P ops S oi v a → S w →
      wpAnyZ P md ops Q S Z fuel (listed.setIfInBounds i true) (a.put oi.dst v) w → wpAnyZ P md ops Q S Z (fuel + 1) listed a w := by
  intro fuel
  induction fuel with
  | zero =>
    intro listed a w _ _ hr hy hS H
    refine ⟨fun h => (by rw [h] at hr; cases hr), fun j hj => ?_⟩
    by_cases hji : j = i
    · subst hji; exact hy.wpOp hi hS ⟨.inr hS, H⟩
    · have := ready_mono hj hji
      rw [H.1] at this
      cases this
  | succ fuel ih =>
    intro listed a w hfree hC hr hy hS H
    refine ⟨fun h => (by rw [h] at hr; cases hr), fun j hj => ?_⟩
    by_cases hji : j = i
    · subst hji; exact hy.wpOp hi hS ⟨.inr hS, H⟩
    · have hjC : j ∉ C := fun e => not_lastC hC (mem_ready.1 hr).1 e hj
      have hjz : j ∉ Z := fun e => hjC (hZC j e)
      have h1 := H.2 j (ready_mono hj hji)
      obtain ⟨hjun, oj, hoj, hall⟩ := mem_ready.1 hj
      have hnot : ∀ e ∈ oj.after, Region.binds md e = true → e.on ≠ i := fun e he hb heq => by
        have h1 := hall e he hb
        have h0 := (mem_ready.1 hr).1
        rw [heq] at h1
        rcases Nat.lt_or_ge i listed.size with h' | h'
        · simp [h'] at h0 h1; rw [h0] at h1; cases h1
        · simp [Array.getElem?_eq_none h'] at h1
      have h2 := wpOp_putIf hoj (hfree j oj hoj hji hjun hnot) (fun cs b => hsel i oi cs b hi) (fun cs b => hsel j oj cs b hoj) hQ hy h1
      have hfree' : ∀ k ok, ops[k]? = some ok → k ≠ i → (listed.setIfInBounds j true).getD k true = false →
          (∀ e ∈ ok.after, Region.binds md e = true → e.on ≠ i) → oi.apart ops ok = true := fun k ok hk hki hun hno => by
        refine hfree k ok hk hki ?_ hno
        by_cases hjk : j = k
        · subst hjk; exact hjun
        · rw [getD_set_ne true hjk] at hun; exact hun
      have hC' : ∀ m ∈ C, (listed.setIfInBounds j true).getD m true = false ∧ ∃ p ∈ i :: C, Region.waitsFor md ops m p = true := fun m hm => by
        refine ⟨?_, (hC m hm).2⟩
        have hjm : j ≠ m := fun e => hjC (e ▸ hm)
        rw [getD_set_ne true hjm]
        exact (hC m hm).1
      refine wpOp_mono (fun a' w' h3 => ?_) h2
      have hS' : S w' := h3.2.1.resolve_left hjz
      refine ⟨.inr hS', ih (listed.setIfInBounds j true) a' w' hfree' hC' (ready_mono hr (Ne.symm hji)) h3.1 hS' ?_⟩
      rw [Array.setIfInBounds_comm _ _ hji]
      exact h3.2.2
theorem wpAnyZ_takeC (C : List Nat) {i : Nat} {oi : Oper} {v : Value} {fuel : Nat} {listed : Array Bool} {a : Act} {w : World} (hi : ops[i]? = some oi)
    (hs : Region.noSelect ops = true) (hf : Region.free md ops listed i = true) (hr : (Region.ready md ops listed).contains i = true)
    (hz : ((Z.all fun z => C.contains z) && C.all fun m => (listed.getD m true == false) && (i :: C).any fun p => Region.waitsFor md ops m p) = true)
    (hQ : ∀ c a w, Q (.panic c) (a.put oi.dst v) w → Q (.panic c) a w) (hy : YieldsIf P ops S oi v a) (hS : S w)
    (h : wpAnyZ P md ops Q S Z fuel (listed.setIfInBounds i true) (a.put oi.dst v) w) : wpAnyZ P md ops Q S Z (fuel + 1) listed a w := by
  rw [Bool.and_eq_true] at hz
  refine wpAnyZ_firstC hi (Region.noSelect_spec hs) hQ (C := C) (fun z hzm => by simpa using List.all_eq_true.1 hz.1 z hzm) fuel listed a w (Region.free_spec hi hf) (fun m hm => ?_) (by simpa using hr) hy hS h
  have := List.all_eq_true.1 hz.2 m hm
  rw [Bool.and_eq_true] at this
  refine ⟨by simpa using this.1, ?_⟩
  obtain ⟨p, hp, hw⟩ := List.any_eq_true.1 this.2
  exact ⟨p, hp, hw⟩
def AllReadyZ (P : Program) (md : Region.Mode) (ops : Array Oper) (Q : Exit → Act → World → Prop) (S : World → Prop) (Z : List Nat) (fuel : Nat) (listed : Array Bool) (a : Act) (w : World) (rs : List Nat) : Prop :=
  ∀ i ∈ rs, wpOp P ops Q i (fun a' w' => (i ∈ Z ∨ S w') ∧ wpAnyZ P md ops Q S Z fuel (listed.setIfInBounds i true) a' w') a w
theorem AllReadyZ.nil {fuel : Nat} {listed : Array Bool} {a : Act} {w : World} : AllReadyZ P md ops Q S Z fuel listed a w [] := fun _ h => by cases h
theorem AllReadyZ.cons {fuel : Nat} {listed : Array Bool} {a : Act} {w : World} {i : Nat} {o : Oper} {rs : List Nat} (ho : ops[i]? = some o)
    (h : ∀ K' : Act → World → Prop, Shut (∀ a w, (i ∈ Z ∨ S w) → ((i ∈ Z ∨ S w) → wpAnyZ P md ops Q S Z fuel (listed.setIfInBounds i true) a w) → K' a w) → if Region.wanted o (yielded ops a.tmps) = true then Oper.wp P o a w K' Q else K' (a.put o.dst undef) w)
    (hs : AllReadyZ P md ops Q S Z fuel listed a w rs) : AllReadyZ P md ops Q S Z fuel listed a w (i :: rs) := fun j hj => by
  rcases List.mem_cons.1 hj with rfl | hj
  · exact wpOp_step ho (fun K' hK => h K' (fun a w hS hW => hK a w ⟨hS, hW hS⟩))
  · exact hs j hj
theorem wpAnyZ_ready {rs : List Nat} {fuel : Nat} {listed : Array Bool} {a : Act} {w : World} (hr : Region.ready md ops listed = rs) (hne : rs ≠ [])
    (h : AllReadyZ P md ops Q S Z fuel listed a w rs) : wpAnyZ P md ops Q S Z (fuel + 1) listed a w :=
  ⟨fun h0 => absurd (hr.symm.trans h0) hne, fun i hi => h i (hr ▸ hi)⟩
theorem wpAnyZ_done {listed : Array Bool} {a : Act} {w : World} (hr : Region.ready md ops listed = []) (h : Q .normal a w) : ∀ fuel, wpAnyZ P md ops Q S Z fuel listed a w
  | 0 => ⟨hr, h⟩
  | _ + 1 => ⟨fun _ => h, by rw [hr]; simp⟩
theorem wp_region_Z {id : Nat} {a : Act} {w : World} (Z : List Nat) (hm : P.follows .mixedOrders = true) (hS : S w.drew)
    (h : wpAnyZ P .any ops Q S Z ops.size (Array.replicate ops.size false) a w.drew) : (Code.region id ops true).wp P Q a w :=
  wp_region_any hm (wpAny_of_Z _ _ _ _ h)
end
end Go.Proofs.Ytkaofcakelpnpaa

/- append(out, xs...) at a step of a region that draws its order, and at one operation; a cell behind a step. -/
namespace Go.Proofs.Ytkaofcakelpnpaa
set_option linter.unusedVariables false
set_option linter.unusedSimpArgs false
open Go.RowKit

section
variable {P : Program} {w : World}
theorem run_cat (base : Nat) (t ty e : TypeId) (z : Value) (size bytes : Nat) (ht : P.underlying t = some (.slice e)) (hinfo : (P.info? e).map (fun i => (i.zero, i.size, i.bytes)) = some (some z, size, bytes))
    (hzs : z.cells.size = size) (hsz : 0 < size)
    (v : Value) (n : Nat) (xs : List Value) (hown : w.ownsRow base e size v n xs)
    (A : Option Addr) (m c B : Nat) (news : List Value) (hr : Rs w B A news) (hl : news.length = m * size) (h1 : ∀ u ∈ news, u.oneCell' = true)
    (h63 : n + m ≤ maxLen) (hbytes : (n + m) * bytes ≤ 140737488355328) (hbase : base ≤ w.heap.size) :
    ∃ v' w', (Builtin.append_ #[t, t] ty #[v, .slice A m c]).run P w = .ok v' w' ∧ w'.ownsRow base e size v' (n + m) (xs ++ news) ∧ w.grownBy w' v.ownBlock ∧
      (v'.ownBlock = v.ownBlock ∨ v'.ownBlock = some w.heap.size) := by
  obtain ⟨i, hi, hz, hsize, hby⟩ := info_parts hinfo
  rcases A with _ | ad
  · have hn : news = [] := by
      cases hne : news with
      | nil => rfl
      | cons u r =>
        obtain ⟨b, off, he, _⟩ := hr (by rw [hne]; simp)
        cases he
    subst hn
    have hm : m = 0 := by
      rcases Nat.eq_zero_or_pos m with h0 | h0
      · exact h0
      · have := Nat.mul_pos h0 hsz
        simp at hl
        omega
    subst hm
    exact ⟨v, w, run_append_none base t ty e i size ht hi v n xs hown c, by simpa using hown, World.grownBy.refl w _, .inl rfl⟩
  · have hcells : ∀ j u, news[j]? = some u → w.cell? (ad.add j) = some u := by
      intro j u hu
      obtain ⟨b, off, he, _, hc⟩ := hr (by intro h0; subst h0; simp at hu)
      injection he with he
      subst he
      rw [Addr.add_lit]
      exact hc j u hu
    obtain ⟨v', w', hrun, h2, h3, _, h5⟩ := run_append_own_at (P := P) w base t ty e i z size bytes ht hi hz hsize hby hzs hsz v n xs hown ad m c news hl hcells h1 h63 hbytes hbase
    exact ⟨v', w', hrun, h2, h3, h5⟩
theorem wp_cat {o : Oper} {a : Act} {K : Act → World → Prop} {Q : Exit → Act → World → Prop} (s x : Operand) (t : TypeId)
    (ho : o.op = .call { callee := .builtin .append, args := #[s, x], argTypes := #[t, t] })
    (base : Nat) (e : TypeId) (z : Value) (size bytes : Nat) (ht : P.underlying t = some (.slice e)) (hinfo : (P.info? e).map (fun i => (i.zero, i.size, i.bytes)) = some (some z, size, bytes))
    (hzs : z.cells.size = size) (hsz : 0 < size)
    (v : Value) (n : Nat) (xs : List Value) (hs : a.eval s = v) (hown : w.ownsRow base e size v n xs)
    (A : Option Addr) (m c B : Nat) (news : List Value) (hx : a.eval x = .slice A m c) (hr : Rs w B A news) (hl : news.length = m * size) (h1 : ∀ u ∈ news, u.oneCell' = true)
    (h63 : n + m ≤ maxLen) (hbytes : (n + m) * bytes ≤ 140737488355328) (hbase : base ≤ w.heap.size)
    (h : ∀ v' w', w'.ownsRow base e size v' (n + m) (xs ++ news) → w.grownBy w' v.ownBlock → (v'.ownBlock = v.ownBlock ∨ v'.ownBlock = some w.heap.size) → K (a.put o.dst v') w') : o.wp P a w K Q := by
  obtain ⟨v', w', hrun, h2, h3, h4⟩ := run_cat (P := P) base t o.type e z size bytes ht hinfo hzs hsz v n xs hown A m c B news hr hl h1 h63 hbytes hbase
  unfold Oper.wp execOp
  simp only [ho, resolve, invoke, builtin, Sem.run_bind, Sem.run_pure, Result.andThen_ok, List.map_toArray, List.map_cons, List.map_nil, hs, hx, hrun]
  exact h v' w' h2 h3 h4
theorem step_cat {ops : Array Oper} {o : Oper} {a : Act} {K : Act → World → Prop} {Q : Exit → Act → World → Prop} {E : Prop} (hgd : o.guard = none) (s x : Operand) (t : TypeId)
    (ho : o.op = .call { callee := .builtin .append, args := #[s, x], argTypes := #[t, t] })
    (base : Nat) (e : TypeId) (z : Value) (size bytes : Nat) (ht : P.underlying t = some (.slice e)) (hinfo : (P.info? e).map (fun i => (i.zero, i.size, i.bytes)) = some (some z, size, bytes))
    (hzs : z.cells.size = size) (hsz : 0 < size)
    (v : Value) (n : Nat) (xs : List Value) (hs : a.eval s = v) (hown : w.ownsRow base e size v n xs)
    (A : Option Addr) (m c B : Nat) (news : List Value) (hx : a.eval x = .slice A m c) (hr : Rs w B A news) (hl : news.length = m * size) (h1 : ∀ u ∈ news, u.oneCell' = true)
    (h63 : n + m ≤ maxLen) (hbytes : (n + m) * bytes ≤ 140737488355328) (hbase : base ≤ w.heap.size)
    (h : ∀ v' w', w'.ownsRow base e size v' (n + m) (xs ++ news) → w.grownBy w' v.ownBlock → (v'.ownBlock = v.ownBlock ∨ v'.ownBlock = some w.heap.size) → K (a.put o.dst v') w') :
    if Region.wanted o (yielded ops a.tmps) = true then Oper.wp P o a w K Q else E := by
  have hw : Region.wanted o (yielded ops a.tmps) = true := by simp [Region.wanted, hgd]
  rw [if_pos hw]
  exact wp_cat s x t ho base e z size bytes ht hinfo hzs hsz v n xs hs hown A m c B news hx hr hl h1 h63 hbytes hbase h
end
end Go.Proofs.Ytkaofcakelpnpaa

/- Draws of permutations: what they hand back has at most forty-one places, and no more is said. -/
namespace Go.Proofs.Ytkaofcakelpnpaa
set_option linter.unusedVariables false
set_option linter.unusedSimpArgs false
open Go.RowKit

set_option maxHeartbeats 400000 in
theorem big_any (A : Option Addr) (n c : Nat) (w : World) :
    Calls Try.prog 4 #[.slice A n c] w fun e w' => e = .returned (.bool (decide ((n : Int) > 1048576))) ∧ w = w' := by
  go_enter Try.func4, Try.ntmps4
  go_wp2_with fail
  all_goals
    go_ret
    exact ⟨rfl, rfl⟩
set_option maxHeartbeats 800000 in
theorem sameInts_any (A : Option Addr) (xs : List Int) (c : Nat) (A' : Option Addr) (ys : List Int) (c' : Nat) (w : World) (lo hi lo' hi' : Nat) (h : RI w lo hi A xs) (h' : RI w lo' hi' A' ys) (hl : xs.length ≤ 1048576) (hl' : ys.length ≤ 1048576) (r : Bool) (hr : r = decide (xs = ys)) :
    Calls Try.prog 7 #[.slice A xs.length c, .slice A' ys.length c'] w (Stp (.bool r) w) := by
  have HR := Lib.hid hr
  clear hr
  by_cases hne : xs.length = ys.length
  · obtain ⟨n, hn⟩ : ∃ n, n = ys.length := ⟨_, rfl⟩
    rw [hne, ← hn]
    have HN1 : Hid (xs.length = n) := Lib.hid (by omega)
    have HN2 : Hid (ys.length = n) := Lib.hid (by omega)
    have hl2 : n ≤ 1048576 := by omega
    clear hl hl' hne hn
    go_enter Try.func7, Try.ntmps7
    go_wp2_with fail
    go_loopw [5] (fun i wr => ∃ k : Nat, k ≤ n ∧ i = .int .i64 k ∧ Hid (xs.take k = ys.take k) ∧ (∃ m, wr = w.drewN m)) (fun i _ => n - (intOf i).toNat)
    case atStart => exact ⟨0, Nat.zero_le _, rfl, Lib.hid rfl, 0, rfl⟩
    case round =>
      obtain ⟨k, hk, rfl, HT, m, rfl⟩ := hrel
      by_cases hlt : k < n
      · obtain ⟨b, off, x, rfl, -, hx, hc⟩ := h.rs.int (k := k) (by rw [HN1.out]; exact hlt)
        obtain ⟨b', off', x', rfl, -, hx', hc'⟩ := h'.rs.int (k := k) (by rw [HN2.out]; exact hlt)
        have HX := Lib.hid hx
        have HX' := Lib.hid hx'
        clear hx hx'
        go_wp2_with fail
        go_quiet (fail)
        by_cases hxx : x = x'
        · subst hxx
          go_wp2_with fail
          go_roundw
          case rel => exact ⟨k + 1, by omega, by go_num, Lib.hid (by rw [take_succ_of xs HX.out, take_succ_of ys HX'.out, HT.out]), _, rfl⟩
          case measure => simp [intOf]; omega
        · go_wp2_with fail
          go_ret
          have hrf : r = false := by
            rw [HR.out]
            refine decide_eq_false fun e => hxx ?_
            have e1 := HX.out
            rw [e, HX'.out] at e1
            exact (Option.some.inj e1).symm
          rw [hrf]
          exact ⟨rfl, ((Mid.refl 0 0 w).drewN _).drewN _⟩
      · go_wp2_with fail
        go_ret
        have hkn : k = n := by omega
        have e1 := HT.out
        rw [hkn, List.take_of_length_le (by rw [HN1.out]; exact Nat.le_refl _), List.take_of_length_le (by rw [HN2.out]; exact Nat.le_refl _)] at e1
        have hrt : r = true := by rw [HR.out]; exact decide_eq_true e1
        rw [hrt]
        exact ⟨rfl, (Mid.refl 0 0 w).drewN _⟩
  · have hrf : r = false := by
      rw [HR.out]
      exact decide_eq_false fun e => hne (by rw [e])
    rw [hrf]
    go_enter Try.func7, Try.ntmps7
    go_wp2_with fail
    go_ret
    exact ⟨rfl, Mid.refl 0 0 w⟩

def lenV : Value → Nat
  | .slice _ n _ => n
  | _ => 0
theorem dropAt_len {xs : List Int} {n k : Nat} (h : xs.length = n) (hk : k < n) : (xs.take k ++ xs.drop (k + 1)).length + 1 = n := by
  rw [List.length_append, List.length_take, List.length_drop]
  omega
theorem dropAt_mem {xs : List Int} {k : Nat} {x : Int} (h : x ∈ xs.take k ++ xs.drop (k + 1)) : x ∈ xs := by
  rcases List.mem_append.1 h with h | h
  · exact List.mem_of_mem_take h
  · exact List.mem_of_mem_drop h
theorem ints_take (xs : List Int) (k : Nat) : (ints xs).take k = ints (xs.take k) := by simp [ints]
theorem ints_drop (xs : List Int) (k : Nat) : (ints xs).drop k = ints (xs.drop k) := by simp [ints]

set_option maxHeartbeats 1600000 in
theorem l17Perm_any (n : Nat) (hn : n ≤ 40) (p : Nat) (A : Option Addr) (bs : List Int) (c : Nat) (w : World) (hb : OkB bs) (hl : bs.length ≤ 1048576) (h : Cur w p A bs c) :
    Calls Try.prog 28 #[.pointer (some ⟨p, 0, none⟩), .int .i64 n] w fun e w' => ∃ A' c' xs, e = .returned (.slice A' (List.length xs) c') ∧ (xs.length = n ∧ ∀ x ∈ xs, 0 ≤ x ∧ x ≤ 40) ∧ OI w' w.heap.size w'.heap.size A' c' xs ∧ Cur w' p A bs c ∧ Mid p (p + 1) w w' := by
  have hpw := h.lt
  go_enter Try.func28, Try.ntmps28
  obtain ⟨left0, hl0⟩ := IdentityPermutationIs_ex n
  go_wp2_with fail
  with_reducible refine (sspec_IdentityPermutation n w (by simp [Lit.wf, IntKind.min, IntKind.max, IntKind.signed, IntKind.bits]; omega) left0 hl0).mono ?_
  rintro e w1 ⟨A1, c1, rfl, o1, m1⟩
  have hup : left0.length = n := by rw [hl0, upto_len]; omega
  have hup2 : ∀ x ∈ left0, 0 ≤ x ∧ x ≤ 40 := fun x hx => by
    rw [hl0] at hx
    unfold upto at hx
    obtain ⟨j, hj, rfl⟩ := List.mem_map.1 hx
    have := List.mem_range.1 hj
    omega
  obtain ⟨-, o1, -⟩ := o1
  rw [hup] at o1 ⊢
  have HUP := Lib.hid hup
  clear hl0 hup
  have h1 := h.mid m1 (Or.inr rfl)
  have hs1 := m1.size
  go_wp2_with fail
  go_loopw [5, 6] (fun lv ov wr => ∃ (left out : List Int) (Al Ao : Option Addr) (cl co L O : Nat), lv = .slice Al L cl ∧ ov = .slice Ao O co ∧ Hid (left.length = L ∧ out.length = O ∧ L + O = n) ∧ L + O ≤ 40 ∧
      Hid (∀ x ∈ left, 0 ≤ x ∧ x ≤ 40) ∧ Hid (∀ x ∈ out, 0 ≤ x ∧ x ≤ 40) ∧ wr.ownsRow w.heap.size 3 1 (.slice Al L cl) L (ints left) ∧ wr.ownsRow w.heap.size 3 1 (.slice Ao O co) O (ints out) ∧
      (Value.ownBlock (.slice Al L cl) = none ∨ Value.ownBlock (.slice Al L cl) ≠ Value.ownBlock (.slice Ao O co)) ∧ Cur wr p A bs c ∧ Mid p (p + 1) w wr)
    (fun lv _ _ => lenV lv)
  case atStart =>
    have hal := Mid.alloc w1 (.cells #[] 3)
    have ho := owns_empty w1 3 1
    refine ⟨left0, [], A1, _, c1, _, n, 0, rfl, rfl, Lib.hid ⟨HUP.out, rfl, rfl⟩, by omega, Lib.hid hup2, Lib.hid (by simp), owns_mid o1 hal (Or.inl (Nat.zero_le _)), owns_base (by simpa [ints] using ho) hs1, ?_, h1.mid hal (Or.inr rfl), m1.zero.trans hal.zero⟩
    cases hv : Value.ownBlock (.slice A1 n c1) with
    | none => exact .inl rfl
    | some g =>
      refine .inr fun e => ?_
      have e2 : g = w1.heap.size := by simpa [Value.ownBlock] using e
      have := (o1.lt g hv).2
      omega
  case round =>
    obtain ⟨left, out, Al, Ao, cl, co, L, O, rfl, rfl, HL, hLO, HB1, HB2, hol, hoo, hne, hcur, hm⟩ := hrel
    by_cases hlt : 0 < L
    · go_wp2_with fail
      with_reducible refine (l1Below_pos L hlt (by omega) p A bs c _ hb hl hcur).mono ?_
      rintro e w2 ⟨k, rfl, hk, hc2, m2⟩
      have hszr := hm.size
      have hol2 := owns_mid hol m2 (Or.inl hpw)
      have hoo2 := owns_mid hoo m2 (Or.inl hpw)
      have hm2 := hm.trans m2
      have hs2 := hm2.size
      have hbl : ∀ g, Value.ownBlock (.slice Al L cl) = some g → g < w2.heap.size := fun g hg => (hol2.lt g hg).2
      obtain ⟨b, off, x, rfl, hBx, hx, hcx⟩ := (Rs.of_own hol2).int (k := k) (by have := HL.out; omega)
      have hxb := HB1.out x (List.mem_of_getElem? hx)
      clear hol hoo hcur m2 hm hx
      go_wp2_with (at_builtin; refine wpList_push rfl _ _ 24 rfl w.heap.size 3 (.int .i64 0) 1 8 undSI infoI rfl (by decide) _ _ _ rfl hoo2 1 [.int .i64 x] rfl rfl ?c1 ?c2 ?c3 hs2 ?next)
      case c1 => exact one_of_ints [x]
      case c2 => unfold maxLen; omega
      case c3 => omega
      case next =>
        intro v3 w3 hoo3 hgr3 hat3
        have hol3 := hol2.kept hgr3 hne
        have m3 : Mid w.heap.size w2.heap.size w2 w3 := Mid.of_grownRow hoo2 hgr3
        have hc3 := hc2.mid m3 (Or.inl hpw)
        have hm3 := hm2.transNew m3 (Or.inl (Nat.le_refl _))
        obtain ⟨A3, c3, rfl, -, -⟩ := owns_shape hoo3
        have hbl3 : ∀ g, Value.ownBlock (.slice A3 (O + 1) c3) = some g → g < w3.heap.size := fun g hg => (hoo3.lt g hg).2
        have hcl : L ≤ cl := by
          obtain ⟨A', c', hv, h1, h2⟩ := owns_shape hol3
          injection hv with _ _ hc
          omega
        have hrs := Rs.of_own hol3
        have hs3 := hm3.size
        clear hbl hcx hne hol2 hoo2 hgr3 hat3 m3 hc2 hm2 hs2 hol3 hszr
        go_wp2_with fail
        replace hoo3 := owns_mid hoo3 (Mid.drew1 w3) (Or.inl (Nat.zero_le _))
        replace hc3 := hc3.mid (Mid.drew1 w3) (Or.inr rfl)
        replace hm3 := hm3.trans (Mid.drew1 w3).zero
        replace hs3 := hm3.size
        replace hbl3 : ∀ g, Value.ownBlock (.slice A3 (O + 1) c3) = some g → g < (World.drew w3).heap.size := hbl3
        replace hrs : Rs (World.drew w3) (World.drew w3).heap.size (some ⟨b, off, none⟩) (ints left) := hrs
        refine wp_region_Z (S := (fun _ => True)) [] (by kernel_rfl) trivial ?_
        generalize World.drew w3 = wz at hoo3 hc3 hm3 hs3 hrs hbl3 ⊢
        have hkc : k ≤ cl := by omega
        have hkL : k + 1 ≤ L := by omega
        have ek1 : IntKind.i64.wrap ((k : Int) + 1) = (k : Int) + 1 := IntWalk.i64_in _ (by omega)
        have ek2 : (0 : Int) ≤ (k : Int) + 1 := by omega
        have ek3 : ((k : Int) + 1).toNat = k + 1 := by omega
        have ek4 : (k : Int) + 1 ≤ (L : Int) := by omega
        have hlt1 : (ints (left.take k)).length = k * 1 := by have := HL.out; rw [ints_len, List.length_take]; omega
        have hlt2 : (ints (left.drop (k + 1))).length = (L - (k + 1)) * 1 := by have := HL.out; rw [ints_len, List.length_drop]; omega
        have hrs1 : Rs wz wz.heap.size (some ⟨b, off, none⟩) (ints (left.take k)) := by rw [← ints_take]; exact hrs.take k
        have hrs2 : Rs wz wz.heap.size (if cl = k + 1 then some ⟨b, off, none⟩ else some ⟨b, off + (k + 1), none⟩) (ints (left.drop (k + 1))) := by
          have := hrs.drop (k := k + 1) (n := L) (cap := cl) 1 (by have := HL.out; rw [ints_len]; omega) hcl
          rw [Nat.mul_one, ints_drop] at this
          have e : Option.map (fun x : Addr => x.add (k + 1)) (some (⟨b, off, none⟩ : Addr)) = some ⟨b, off + (k + 1), none⟩ := rfl
          rw [e] at this
          exact this
        have hmx : 0 + k ≤ maxLen := by unfold maxLen; omega
        have hby : (0 + k) * 8 ≤ 140737488355328 := by omega
        have hmx2 : k + (L - (k + 1)) ≤ maxLen := by unfold maxLen; omega
        have hby2 : (k + (L - (k + 1))) * 8 ≤ 140737488355328 := by omega
        clear hrs
        refine wpAnyZ_takeC [] (i := 1) (v := ?_) rfl (by kernel_rfl) (by kernel_rfl) (by kernel_rfl) (by kernel_rfl) (fun _ _ _ h => h) (Or.inl ⟨by rfl, ?_⟩) trivial ?_
        rotate_left
        focus (intro w hSw; (try dsimp only at hSw); go_simp; try with_reducible rfl)
        try simp only [Act.put, List.setIfInBounds_toArray, List.set_cons_zero, List.set_cons_succ, List.getElem_toArray, List.getElem_cons_zero, List.getElem_cons_succ]
        refine wpAnyZ_takeC [] (i := 2) (v := ?_) rfl (by kernel_rfl) (by kernel_rfl) (by kernel_rfl) (by kernel_rfl) (fun _ _ _ h => h) (Or.inl ⟨by rfl, ?_⟩) trivial ?_
        rotate_left
        focus (intro w hSw; (try dsimp only at hSw); go_simp; try with_reducible rfl)
        try simp only [Act.put, List.setIfInBounds_toArray, List.set_cons_zero, List.set_cons_succ, List.getElem_toArray, List.getElem_cons_zero, List.getElem_cons_succ]
        refine wpAnyZ_takeC [] (i := 3) (v := ?_) rfl (by kernel_rfl) (by kernel_rfl) (by kernel_rfl) (by kernel_rfl) (fun _ _ _ h => h) (Or.inl ⟨by rfl, ?_⟩) trivial ?_
        rotate_left
        focus (intro w hSw; (try dsimp only at hSw); go_simp; try with_reducible rfl)
        try simp only [Act.put, List.setIfInBounds_toArray, List.set_cons_zero, List.set_cons_succ, List.getElem_toArray, List.getElem_cons_zero, List.getElem_cons_succ]
        refine wpAnyZ_takeC [] (i := 5) (v := ?_) rfl (by kernel_rfl) (by kernel_rfl) (by kernel_rfl) (by kernel_rfl) (fun _ _ _ h => h) (Or.inl ⟨by rfl, ?_⟩) trivial ?_
        rotate_left
        focus (intro w hSw; (try dsimp only at hSw); go_simp; try with_reducible rfl)
        try simp only [Act.put, List.setIfInBounds_toArray, List.set_cons_zero, List.set_cons_succ, List.getElem_toArray, List.getElem_cons_zero, List.getElem_cons_succ]
        refine wpAnyZ_takeC [] (i := 6) (v := ?_) rfl (by kernel_rfl) (by kernel_rfl) (by kernel_rfl) (by kernel_rfl) (fun _ _ _ h => h) (Or.inl ⟨by rfl, ?_⟩) trivial ?_
        rotate_left
        focus (intro w hSw; (try dsimp only at hSw); go_simp; try with_reducible rfl)
        try simp only [Act.put, List.setIfInBounds_toArray, List.set_cons_zero, List.set_cons_succ, List.getElem_toArray, List.getElem_cons_zero, List.getElem_cons_succ]
        refine wpAnyZ_takeC [] (i := 7) (v := ?_) rfl (by kernel_rfl) (by kernel_rfl) (by kernel_rfl) (by kernel_rfl) (fun _ _ _ h => h) (Or.inl ⟨by rfl, ?_⟩) trivial ?_
        rotate_left
        focus (intro w hSw; (try dsimp only at hSw); go_simp; try with_reducible rfl)
        try simp only [Act.put, List.setIfInBounds_toArray, List.set_cons_zero, List.set_cons_succ, List.getElem_toArray, List.getElem_cons_zero, List.getElem_cons_succ]
        refine wpAnyZ_takeC [] (i := 8) (v := ?_) rfl (by kernel_rfl) (by kernel_rfl) (by kernel_rfl) (by kernel_rfl) (fun _ _ _ h => h) (Or.inl ⟨by rfl, ?_⟩) trivial ?_
        rotate_left
        focus (intro w hSw; (try dsimp only at hSw); go_simp; try with_reducible rfl)
        try simp only [Act.put, List.setIfInBounds_toArray, List.set_cons_zero, List.set_cons_succ, List.getElem_toArray, List.getElem_cons_zero, List.getElem_cons_succ]
        refine wpAnyZ_ready (rs := [0]) (by kernel_rfl) (by simp) (AllReadyZ.cons rfl (fun K hK => ?_) AllReadyZ.nil)
        go_simp
        refine hK.out _ _ (Or.inr trivial) (fun _ => ?_)
        clear hK K
        try simp only [Act.put, List.setIfInBounds_toArray, List.set_cons_zero, List.set_cons_succ, List.getElem_toArray, List.getElem_cons_zero, List.getElem_cons_succ]
        have hal := Mid.alloc wz (.cells #[] 3)
        have e0 := owns_empty wz 3 1
        have hrs1a := hrs1.alloc (Nat.le_refl _) (.cells #[] 3)
        have hrs2a := hrs2.alloc (Nat.le_refl _) (.cells #[] 3)
        have hsa : (wz.alloc (.cells #[] 3)).heap.size = wz.heap.size + 1 := by simp
        generalize wz.alloc (.cells #[] 3) = wa at hal e0 hrs1a hrs2a hsa ⊢
        have hsa2 : wz.heap.size ≤ wa.heap.size := by omega
        refine wpAnyZ_ready (rs := [4]) (by kernel_rfl) (by simp) (AllReadyZ.cons rfl (fun K hK => ?_) AllReadyZ.nil)
        (refine step_cat (by rfl) (.tmp 25) (.tmp 28) 24 (by rfl) wz.heap.size 3 (.int .i64 0) 1 8 undSI infoI rfl (by decide) _ 0 [] (by rfl) e0 (some ⟨b, off, none⟩) k cl _ (ints (left.take k)) (by rfl) hrs1a hlt1 (one_of_ints _) hmx hby hsa2 ?_; intro v4 w4 ho4 hgr4 hat4; obtain ⟨A4, c4, rfl, -, -⟩ := owns_shape ho4)
        refine hK.out _ _ (Or.inr trivial) (fun _ => ?_)
        clear hK K
        try simp only [Act.put, List.setIfInBounds_toArray, List.set_cons_zero, List.set_cons_succ, List.getElem_toArray, List.getElem_cons_zero, List.getElem_cons_succ]
        have m4 : Mid wz.heap.size wa.heap.size wa w4 := Mid.of_grownRow e0 hgr4
        have hm4 : Mid 0 0 wz w4 := hal.transNew m4 (Or.inl (Nat.le_refl _))
        have hrs2b : Rs w4 wz.heap.size _ (ints (left.drop (k + 1))) := hrs2a.keep fun q hq => World.cell?_of_block (m4.block _ (by omega) (by omega))
        rw [Nat.zero_add, List.nil_append] at ho4
        try rw [Nat.zero_add]
        clear hgr4 hat4 e0 hrs1a hrs2a hrs1 hrs2 hal m4
        refine wpAnyZ_ready (rs := [9]) (by kernel_rfl) (by simp) (AllReadyZ.cons rfl (fun K hK => ?_) AllReadyZ.nil)
        (refine step_cat (by rfl) (.tmp 29) (.tmp 33) 24 (by rfl) wz.heap.size 3 (.int .i64 0) 1 8 undSI infoI rfl (by decide) (.slice A4 k c4) k _ (by rfl) ho4 _ (L - (k + 1)) _ _ (ints (left.drop (k + 1))) (by rfl) hrs2b hlt2 (one_of_ints _) hmx2 hby2 hm4.size ?_; intro v9 w9 ho9 hgr9 hat9; obtain ⟨A9, c9, rfl, -, -⟩ := owns_shape ho9)
        refine hK.out _ _ (Or.inr trivial) (fun _ => ?_)
        clear hK K
        try simp only [Act.put, List.setIfInBounds_toArray, List.set_cons_zero, List.set_cons_succ, List.getElem_toArray, List.getElem_cons_zero, List.getElem_cons_succ]
        have m9 : Mid wz.heap.size w4.heap.size w4 w9 := Mid.of_grownRow ho4 hgr9
        have hm9 : Mid 0 0 wz w9 := hm4.transNew m9 (Or.inl (Nat.le_refl _))
        clear hgr9 hat9 hrs2b ho4 m9 hm4
        refine wpAnyZ_takeC [] (i := 10) (v := ?_) rfl (by kernel_rfl) (by kernel_rfl) (by kernel_rfl) (by kernel_rfl) (fun _ _ _ h => h) (Or.inl ⟨by rfl, ?_⟩) trivial ?_
        rotate_left
        focus (intro w hSw; (try dsimp only at hSw); go_simp; try with_reducible rfl)
        try simp only [Act.put, List.setIfInBounds_toArray, List.set_cons_zero, List.set_cons_succ, List.getElem_toArray, List.getElem_cons_zero, List.getElem_cons_succ]
        refine wpAnyZ_done (by kernel_rfl) ?_ _
        have hbl9 : ∀ g, Value.ownBlock (.slice A9 (k + (L - (k + 1))) c9) = some g → wz.heap.size ≤ g := fun g hg => (ho9.lt g hg).1
        go_wp2_with fail
        go_roundw
        case rel =>
          have hle := HL.out
          refine ⟨left.take k ++ left.drop (k + 1), out ++ [x], A9, A3, c9, c3, _, _, rfl, rfl, Lib.hid ⟨?_, ?_, ?_⟩, by omega, Lib.hid fun y hy => HB1.out y (dropAt_mem hy), Lib.hid fun y hy => ?_, ?_, ?_, ?_, hc3.mid hm9 (Or.inr rfl), hm3.trans hm9.zero⟩
          · have := dropAt_len hle.1 hk
            omega
          · simp [hle.2.1]
          · omega
          · rcases List.mem_append.1 hy with hy | hy
            · exact HB2.out y hy
            · rw [List.mem_singleton] at hy
              omega
          · rw [ints_append]
            exact owns_base ho9 hs3
          · rw [ints_append]
            exact owns_mid hoo3 hm9 (Or.inl (Nat.zero_le _))
          · cases hv : Value.ownBlock (.slice A9 (k + (L - (k + 1))) c9) with
            | none => exact .inl rfl
            | some g =>
              refine .inr fun e => ?_
              have h1 := hbl9 g hv
              have h2 := hbl3 g e.symm
              omega
        case measure => simp [lenV]; omega
    · go_wp2_with fail
      go_ret
      have hle := HL.out
      have hO : O = n := by omega
      refine ⟨Ao, co, out, ?_, ⟨by omega, HB2.out⟩, ⟨Nat.le_refl _, ?_, ?_⟩, hcur, hm⟩
      · rw [hle.2.1]
        rfl
      · rw [hle.2.1]
        exact hoo
      · rw [hle.2.1]
        exact fun g hg => (hoo.lt g hg).2
end Go.Proofs.Ytkaofcakelpnpaa

/- Draws of permutations, as the laws call them. -/
namespace Go.Proofs.Ytkaofcakelpnpaa
set_option linter.unusedVariables false
set_option linter.unusedSimpArgs false
open Go.RowKit

/-- A drawn list: at most sixty numbers between -1 and 40. -/
def Drawn (xs : List Int) : Prop := xs.length ≤ 60 ∧ ∀ x ∈ xs, -1 ≤ x ∧ x ≤ 40
theorem Drawn.ok {xs : List Int} (h : Drawn xs) : OkI xs := fun x hx => by have := h.2 x hx; omega
theorem Drawn.len {xs : List Int} (h : Drawn xs) : xs.length ≤ 1048576 := by have := h.1; omega

set_option maxHeartbeats 1600000 in
theorem l17Any_any (p : Nat) (A : Option Addr) (bs : List Int) (c : Nat) (w : World) (hb : OkB bs) (hl : bs.length ≤ 1048576) (h : Cur w p A bs c) :
    Calls Try.prog 26 #[.pointer (some ⟨p, 0, none⟩)] w fun e w' => ∃ A' c' xs, e = .returned (.slice A' (List.length xs) c') ∧ (xs.length ≤ 8 ∧ ∀ x ∈ xs, -1 ≤ x ∧ x ≤ 40) ∧ OI w' w.heap.size w'.heap.size A' c' xs ∧ Cur w' p A bs c ∧ Mid p (p + 1) w w' := by
  have hpw := h.lt
  go_enter Try.func26, Try.ntmps26
  go_wp2_with fail
  with_reducible refine (l1BelowI 8 (by decide) (by decide) p A bs c w hb hl h).mono ?_
  rintro e w1 ⟨k, rfl, hk, h1, m1⟩
  go_wp2_with fail
  with_reducible refine (l17Perm_any k (by omega) p A bs c _ hb hl h1).mono ?_
  rintro e w2 ⟨A2, c2, xs, rfl, ⟨hxl, hx⟩, o2, h2, m2⟩
  have hx2 : xs.length ≤ 7 := by omega
  clear hxl
  go_wp2_with fail
  with_reducible refine (l1OnceI 10 (by decide) (by decide) p A bs c _ hb hl h2).mono ?_
  rintro e w3 ⟨b, rfl, h3, m3⟩
  have o3 := o2.mid m3 (Or.inl (by have := m1.size; omega))
  have hm3 := (m1.trans m2).trans m3
  have hs1 := m1.size
  cases b
  · go_wp2_with fail
    go_ret
    exact ⟨A2, c2, xs, rfl, ⟨by omega, fun x hxm => by have := hx x hxm; omega⟩, o3.wide hs1 o3.size (Nat.le_refl _), h3, hm3⟩
  · go_wp2_with fail
    with_reducible refine (l1BelowI 9 (by decide) (by decide) p A bs c _ hb hl h3).mono ?_
    rintro e w4 ⟨j, rfl, hj, h4, m4⟩
    have o4 := (o3.mid m4 (Or.inl (by omega))).2.1
    have hm4 := hm3.trans m4
    have hs4 := hm4.size
    have ew : IntKind.i64.wrap ((j : Int) - 1) = (j : Int) - 1 := IntWalk.i64_in _ (by omega)
    replace o4 := owns_base o4 hs1
    clear o3 hm3 m4 m3 m2 o2 h2 h3 h1
    go_wp2_with (at_builtin; refine wpList_push rfl _ _ 24 rfl w.heap.size 3 (.int .i64 0) 1 8 undSI infoI rfl (by decide) _ _ _ rfl o4 1 [.int .i64 ((j : Int) - 1)] rfl rfl ?c1 ?c2 ?c3 hs4 ?next)
    case c1 => exact one_of_ints [(j : Int) - 1]
    case c2 => unfold maxLen; omega
    case c3 => omega
    case next =>
      intro v5 w5 ho5 hgr5 hat5
      obtain ⟨A5, c5, rfl, -, -⟩ := owns_shape ho5
      go_wp2_with fail
      go_ret
      have m5 : Mid w.heap.size w4.heap.size w4 w5 := Mid.of_grownRow o4 hgr5
      refine ⟨A5, c5, xs ++ [(j : Int) - 1], by simp, ⟨by simp; omega, fun x hxm => ?_⟩, ⟨Nat.le_refl _, ?_, ?_⟩, h4.mid m5 (Or.inl hpw), hm4.transNew m5 (Or.inl (Nat.le_refl _))⟩
      · rcases List.mem_append.1 hxm with hxm | hxm
        · have := hx x hxm; omega
        · rw [List.mem_singleton] at hxm
          omega
      · rw [ints_append, List.length_append]
        exact ho5
      · rw [List.length_append]
        exact fun g hg => (ho5.lt g hg).2

set_option maxHeartbeats 1600000 in
theorem DrawCycleType_any (A : Option Addr) (bs : List Int) (c : Nat) (w : World) (hi : Nat) (hb : OkB bs) (hl : bs.length ≤ 1048576) (hr : RV w 0 hi A (byts bs)) :
    Calls Try.prog 16 #[.slice A bs.length c] w fun e w' => ∃ A' c' xs, e = .returned (.slice A' (List.length xs) c') ∧ Drawn xs ∧ OI w' w.heap.size w'.heap.size A' c' xs ∧ Mid 0 0 w w' := by
  go_enter Try.func16, Try.ntmps16
  go_wp2_with fail
  with_reducible refine (l1New_any A bs c w hi hb hl hr).mono ?_
  rintro e w1 ⟨p, rfl, hp, h1, m1⟩
  go_wp2_with fail
  with_reducible refine (l17Any_any p A bs c _ hb hl h1).mono ?_
  rintro e w2 ⟨A2, c2, xs, rfl, ⟨hxl, hx⟩, o2, h2, m2⟩
  go_wp2_with fail
  go_ret
  exact ⟨A2, c2, xs, rfl, ⟨by omega, hx⟩, o2.wide m1.size (Nat.le_refl _) (Nat.le_refl _), m1.transNew m2 (Or.inl hp)⟩

set_option maxHeartbeats 1600000 in
theorem DrawComposePermutations_any (A : Option Addr) (bs : List Int) (c : Nat) (w : World) (hi : Nat) (hb : OkB bs) (hl : bs.length ≤ 1048576) (hr : RV w 0 hi A (byts bs)) :
    Calls Try.prog 5 #[.slice A bs.length c] w fun e w' => ∃ A1 c1 xs A2 c2 ys, e = .returned (.tuple #[.slice A1 (List.length xs) c1, .slice A2 (List.length ys) c2]) ∧ Drawn xs ∧ Drawn ys ∧
      OI w' w.heap.size w'.heap.size A1 c1 xs ∧ OI w' w.heap.size w'.heap.size A2 c2 ys ∧ Mid 0 0 w w' := by
  go_enter Try.func5, Try.ntmps5
  go_wp2_with fail
  with_reducible refine (l1New_any A bs c w hi hb hl hr).mono ?_
  rintro e w1 ⟨p, rfl, hp, h1, m1⟩
  have hs1 := m1.size
  go_wp2_with fail
  with_reducible refine (l17Any_any p A bs c _ hb hl h1).mono ?_
  rintro e w2 ⟨A2, c2, xs, rfl, ⟨hxl, hx⟩, o2, h2, m2⟩
  have hs2 := m2.size
  have hp1 := h1.lt
  go_wp2_with fail
  with_reducible refine (l1OnceI 5 (by decide) (by decide) p A bs c _ hb hl h2).mono ?_
  rintro e w3 ⟨b, rfl, h3, m3⟩
  have hs3 := m3.size
  have o3 := o2.mid m3 (Or.inl (by omega))
  have hm3 := (m1.transNew m2 (Or.inl hp)).transNew m3 (Or.inl hp)
  cases b
  · go_wp2_with fail
    with_reducible refine (l17Perm_any xs.length (by omega) p A bs c _ hb hl h3).mono ?_
    rintro e w4 ⟨A4, c4, ys, rfl, ⟨hyl, hy⟩, o4, h4, m4⟩
    have HY := Lib.hid hyl
    clear hyl
    go_wp2_with fail
    go_ret2
    exact ⟨A2, c2, xs, A4, c4, ys, rfl, ⟨by omega, hx⟩, ⟨by rw [HY.out]; omega, fun x hx => by have := hy x hx; omega⟩, (o3.mid m4 (Or.inl (by omega))).wide hs1 (o3.mid m4 (Or.inl (by omega))).size (Nat.le_refl _), o4.wide (by omega) (Nat.le_refl _) (Nat.le_refl _), hm3.transNew m4 (Or.inl hp)⟩
  · go_wp2_with fail
    with_reducible refine (l17Any_any p A bs c _ hb hl h3).mono ?_
    rintro e w4 ⟨A4, c4, ys, rfl, ⟨hyl, hy⟩, o4, h4, m4⟩
    go_wp2_with fail
    go_ret2
    exact ⟨A2, c2, xs, A4, c4, ys, rfl, ⟨by omega, hx⟩, ⟨by omega, hy⟩, (o3.mid m4 (Or.inl (by omega))).wide hs1 (o3.mid m4 (Or.inl (by omega))).size (Nat.le_refl _), o4.wide (by omega) (Nat.le_refl _) (Nat.le_refl _), hm3.transNew m4 (Or.inl hp)⟩

set_option maxHeartbeats 1600000 in
theorem DrawIdentityPermutation_any (A : Option Addr) (bs : List Int) (c : Nat) (w : World) (hi : Nat) (hb : OkB bs) (hl : bs.length ≤ 1048576) (hr : RV w 0 hi A (byts bs)) :
    Calls Try.prog 17 #[.slice A bs.length c] w fun e w' => ∃ x : Int, e = .returned (.int .i64 x) ∧ (-1 ≤ x ∧ x ≤ 41) ∧ Mid 0 0 w w' := by
  go_enter Try.func17, Try.ntmps17
  go_wp2_with fail
  with_reducible refine (l1New_any A bs c w hi hb hl hr).mono ?_
  rintro e w1 ⟨p, rfl, hp, h1, m1⟩
  have hal := Mid.alloc w1 (.cells #[.int .i64 (-1), .int .i64 0, .int .i64 1, .int .i64 5, .int .i64 40, .int .i64 41] 3)
  have hbx := Box.new w1 #[.int .i64 (-1), .int .i64 0, .int .i64 1, .int .i64 5, .int .i64 40, .int .i64 41] 3
  have h2 := h1.mid hal (Or.inr rfl)
  have hpl := h1.lt
  have hri : RI (w1.alloc (.cells #[.int .i64 (-1), .int .i64 0, .int .i64 1, .int .i64 5, .int .i64 40, .int .i64 41] 3)) w1.heap.size (w1.heap.size + 1) (some ⟨w1.heap.size, 0, none⟩) [-1, 0, 1, 5, 40, 41] :=
    ⟨by simp, fun _ => ⟨w1.heap.size, 0, rfl, Nat.le_refl _, Nat.lt_succ_self _, fun j u hu => by rw [Nat.zero_add]; exact hbx.2.1 j u (by simpa [ints] using hu)⟩⟩
  go_wp2_with fail
  with_reducible refine (l1PickIntN (some ⟨w1.heap.size, 0, none⟩) [-1, 0, 1, 5, 40, 41] 6 6 rfl (by decide) (by decide) p A bs c _ w1.heap.size _ hri (Or.inl hpl) hb hl h2).mono ?_
  rintro e w2 ⟨x, rfl, hx, h3, m3⟩
  have hxb : -1 ≤ x ∧ x ≤ 41 := by simp at hx; omega
  go_wp2_with fail
  go_ret
  exact ⟨x, rfl, hxb, (m1.trans hal).transNew m3 (Or.inl hp)⟩
end Go.Proofs.Ytkaofcakelpnpaa

/- Plain: orbits of a map that permutes the numbers below n; their number, and how an exchange of two places changes it. -/
namespace Go.Proofs.Ytkaofcakelpnpaa
set_option linter.unusedVariables false
set_option linter.unusedSimpArgs false

def itF (f : Nat → Nat) : Nat → Nat → Nat
  | 0, x => x
  | k + 1, x => f (itF f k x)
theorem itF_add (f : Nat → Nat) (a b x : Nat) : itF f (a + b) x = itF f a (itF f b x) := by
  induction a with
  | zero => simp [itF]
  | succ a ih => rw [Nat.succ_add]; simp [itF, ih]
/-- A map that permutes the numbers below n. -/
structure Bij (n : Nat) (f : Nat → Nat) : Prop where
  to : ∀ x, x < n → f x < n
  inj : ∀ x y, x < n → y < n → f x = f y → x = y
theorem Bij.it {n : Nat} {f : Nat → Nat} (h : Bij n f) (k : Nat) : ∀ x, x < n → itF f k x < n := by
  induction k with
  | zero => exact fun x hx => hx
  | succ k ih => exact fun x hx => h.to _ (ih x hx)
theorem Bij.itInj {n : Nat} {f : Nat → Nat} (h : Bij n f) (k : Nat) : ∀ x y, x < n → y < n → itF f k x = itF f k y → x = y := by
  induction k with
  | zero => exact fun x y _ _ e => e
  | succ k ih => exact fun x y hx hy e => ih x y hx hy (h.inj _ _ (h.it k x hx) (h.it k y hy) e)
theorem nodup_sub_len {α : Type} [DecidableEq α] : ∀ (l m : List α), l.Nodup → (∀ x ∈ l, x ∈ m) → l.length ≤ m.length := by
  intro l
  induction l with
  | nil => intro m _ _; simp
  | cons a t ih =>
    intro m hn hs
    rw [List.nodup_cons] at hn
    have ha := hs a List.mem_cons_self
    have h := ih (m.erase a) hn.2 (fun x hx => by
      have hne : x ≠ a := fun e => hn.1 (e ▸ hx)
      exact (List.mem_erase_of_ne hne).2 (hs x (List.mem_cons_of_mem _ hx)))
    rw [List.length_erase_of_mem ha] at h
    have := List.length_pos_of_mem ha
    simp only [List.length_cons]
    omega
/-- Every place comes back. -/
theorem Bij.back {n : Nat} {f : Nat → Nat} (h : Bij n f) {x : Nat} (hx : x < n) : ∃ d, 0 < d ∧ d ≤ n ∧ itF f d x = x := by
  apply Classical.byContradiction
  intro hno
  have hnd : ((List.range (n + 1)).map fun k => itF f k x).Nodup := by
    unfold List.Nodup
    rw [List.pairwise_map]
    refine List.Pairwise.imp_of_mem ?_ (List.pairwise_lt_range (n := n + 1))
    intro i j hi hj hij e
    have hj' := List.mem_range.1 hj
    refine hno ⟨j - i, by omega, by omega, ?_⟩
    have e2 : itF f i (itF f (j - i) x) = itF f i x := by rw [← itF_add, show i + (j - i) = j by omega, ← e]
    exact h.itInj i _ _ (h.it _ _ hx) hx e2
  have hl := nodup_sub_len _ (List.range n) hnd (fun y hy => by
    obtain ⟨k, -, rfl⟩ := List.mem_map.1 hy
    exact List.mem_range.2 (h.it k x hx))
  simp only [List.length_map, List.length_range] at hl
  omega
theorem least_of {P : Nat → Prop} {d : Nat} (h : P d) : ∃ m, m ≤ d ∧ P m ∧ ∀ k, k < m → ¬ P k := by
  induction d using Nat.strongRecOn with
  | _ d ih =>
    by_cases hk : ∃ k, k < d ∧ P k
    · obtain ⟨k, hk1, hk2⟩ := hk
      obtain ⟨m, h1, h2, h3⟩ := ih k hk1 hk2
      exact ⟨m, by omega, h2, h3⟩
    · exact ⟨d, Nat.le_refl _, h, fun k hk1 hk2 => hk ⟨k, hk1, hk2⟩⟩
/-- The least number of steps after which a place comes back. -/
theorem Bij.per {n : Nat} {f : Nat → Nat} (h : Bij n f) {x : Nat} (hx : x < n) : ∃ d, 0 < d ∧ d ≤ n ∧ itF f d x = x ∧ ∀ k, 0 < k → k < d → itF f k x ≠ x := by
  obtain ⟨d, h1, h2, h3⟩ := h.back hx
  obtain ⟨m, h4, h5, h6⟩ := least_of (P := fun k => 0 < k ∧ itF f k x = x) ⟨h1, h3⟩
  exact ⟨m, h5.1, by omega, h5.2, fun k hk1 hk2 e => h6 k hk2 ⟨hk1, e⟩⟩
def Orb (f : Nat → Nat) (x y : Nat) : Prop := ∃ k, itF f k x = y
theorem Orb.refl (f : Nat → Nat) (x : Nat) : Orb f x x := ⟨0, rfl⟩
theorem Orb.trans {f : Nat → Nat} {x y z : Nat} (h1 : Orb f x y) (h2 : Orb f y z) : Orb f x z := by
  obtain ⟨a, rfl⟩ := h1
  obtain ⟨b, rfl⟩ := h2
  exact ⟨b + a, itF_add f b a x⟩
theorem Orb.one (f : Nat → Nat) (x : Nat) : Orb f x (f x) := ⟨1, rfl⟩
theorem itF_mul {f : Nat → Nat} {d x : Nat} (h : itF f d x = x) (m : Nat) : itF f (m * d) x = x := by
  induction m with
  | zero => simp [itF]
  | succ m ih => rw [Nat.succ_mul, itF_add, h, ih]
theorem Bij.sym {n : Nat} {f : Nat → Nat} (h : Bij n f) {x y : Nat} (hx : x < n) (ho : Orb f x y) : Orb f y x := by
  obtain ⟨k, rfl⟩ := ho
  obtain ⟨d, h1, -, h2⟩ := h.back hx
  refine ⟨k * d - k, ?_⟩
  have hle : k ≤ k * d := Nat.le_mul_of_pos_right k h1
  rw [← itF_add, show k * d - k + k = k * d by omega]
  exact itF_mul h2 k
/-- The least of its orbit. -/
def Mn (f : Nat → Nat) (i : Nat) : Prop := ∀ j, j < i → ¬ Orb f j i
theorem Mn.ex {n : Nat} {f : Nat → Nat} (h : Bij n f) (x : Nat) (hx : x < n) : ∃ m, m ≤ x ∧ Mn f m ∧ Orb f m x := by
  induction x using Nat.strongRecOn with
  | _ x ih =>
    by_cases hm : Mn f x
    · exact ⟨x, Nat.le_refl _, hm, Orb.refl _ _⟩
    · obtain ⟨j, hj, ho⟩ : ∃ j, j < x ∧ Orb f j x := by
        apply Classical.byContradiction
        intro hno
        exact hm fun j hj ho => hno ⟨j, hj, ho⟩
      obtain ⟨m, h1, h2, h3⟩ := ih j hj (by omega)
      exact ⟨m, by omega, h2, h3.trans ho⟩
theorem Mn.uniq {n : Nat} {f : Nat → Nat} (h : Bij n f) {a b : Nat} (ha : a < n) (hb : b < n) (h1 : Mn f a) (h2 : Mn f b) (ho : Orb f a b) : a = b := by
  rcases Nat.lt_trichotomy a b with hlt | he | hgt
  · exact absurd ho (h2 a hlt)
  · exact he
  · exact absurd (h.sym ha ho) (h1 b hgt)
open Classical in
noncomputable def cntP (P : Nat → Prop) : Nat → Nat
  | 0 => 0
  | n + 1 => cntP P n + if P n then 1 else 0
theorem cntP_congr {P Q : Nat → Prop} (n : Nat) (h : ∀ i, i < n → (P i ↔ Q i)) : cntP P n = cntP Q n := by
  induction n with
  | zero => rfl
  | succ n ih =>
    have h1 := ih fun i hi => h i (by omega)
    have h2 := h n (by omega)
    by_cases hp : P n
    · simp only [cntP, h1, if_pos hp, if_pos (h2.1 hp)]
    · simp only [cntP, h1, if_neg hp, if_neg (fun q => hp (h2.2 q))]
theorem cntP_rem {P Q : Nat → Prop} {B : Nat} (n : Nat) (hB : B < n) (hP : P B) (h : ∀ i, i < n → (Q i ↔ P i ∧ i ≠ B)) : cntP Q n + 1 = cntP P n := by
  induction n with
  | zero => omega
  | succ n ih =>
    have h2 := h n (by omega)
    rcases Nat.lt_or_ge B n with hlt | hge
    · have h1 := ih hlt fun i hi => h i (by omega)
      have hne : n ≠ B := by omega
      have h3 : Q n ↔ P n := h2.trans ⟨fun h => h.1, fun h => ⟨h, hne⟩⟩
      by_cases hp : P n
      · simp only [cntP, if_pos hp, if_pos (h3.2 hp)]
        omega
      · simp only [cntP, if_neg hp, if_neg (fun q => hp (h3.1 q))]
        omega
    · obtain rfl : B = n := by omega
      have h1 : cntP Q B = cntP P B := cntP_congr B fun i hi => (h i (by omega)).trans ⟨fun h => h.1, fun h => ⟨h, by omega⟩⟩
      have h3 : ¬ Q B := fun hq => (h2.1 hq).2 rfl
      simp only [cntP, h1, if_neg h3, if_pos hP]
theorem cntP_all {P : Nat → Prop} (n : Nat) (h : ∀ i, i < n → P i) : cntP P n = n := by
  induction n with
  | zero => rfl
  | succ n ih => simp only [cntP, ih fun i hi => h i (by omega), if_pos (h n (by omega))]
/-- The number of orbits. -/
noncomputable def orbs (f : Nat → Nat) (n : Nat) : Nat := cntP (Mn f) n
/-- The exchange of two places. -/
def swp (a b x : Nat) : Nat := if x = a then b else if x = b then a else x
theorem swp_a (a b : Nat) : swp a b a = b := by simp [swp]
theorem swp_b (a b : Nat) : swp a b b = a := by unfold swp; split <;> simp_all
theorem swp_o {a b x : Nat} (h1 : x ≠ a) (h2 : x ≠ b) : swp a b x = x := by simp [swp, h1, h2]
theorem swp_swp (a b x : Nat) : swp a b (swp a b x) = x := by
  by_cases h1 : x = a
  · subst h1; rw [swp_a, swp_b]
  · by_cases h2 : x = b
    · subst h2; rw [swp_b, swp_a]
    · rw [swp_o h1 h2, swp_o h1 h2]
theorem Bij.swp {n : Nat} {f : Nat → Nat} (h : Bij n f) {a b : Nat} (ha : a < n) (hb : b < n) : Bij n fun x => swp a b (f x) := by
  refine ⟨fun x hx => ?_, fun x y hx hy e => h.inj x y hx hy ?_⟩
  · have := h.to x hx
    unfold Go.Proofs.Ytkaofcakelpnpaa.swp
    split
    · exact hb
    · split
      · exact ha
      · exact this
  · have e2 : Go.Proofs.Ytkaofcakelpnpaa.swp a b (Go.Proofs.Ytkaofcakelpnpaa.swp a b (f x)) = Go.Proofs.Ytkaofcakelpnpaa.swp a b (Go.Proofs.Ytkaofcakelpnpaa.swp a b (f y)) := congrArg _ e
    rwa [swp_swp, swp_swp] at e2
/-- Two orbits, joined by an exchange: there and back. -/
theorem swp_reach {n : Nat} {f : Nat → Nat} (h : Bij n f) {a b : Nat} (ha : a < n) (hno : ¬ Orb f a b) : Orb (fun x => swp a b (f x)) a b := by
  obtain ⟨d, h1, -, h2, h3⟩ := h.per ha
  have key : ∀ j, j < d → itF (fun x => swp a b (f x)) j a = itF f j a := by
    intro j
    induction j with
    | zero => intro _; rfl
    | succ j ih =>
      intro hj
      have e := ih (by omega)
      show swp a b (f (itF _ j a)) = f (itF f j a)
      rw [e]
      exact swp_o (h3 (j + 1) (by omega) hj) (fun e => hno ⟨j + 1, e⟩)
  refine ⟨d, ?_⟩
  obtain ⟨m, rfl⟩ : ∃ m, d = m + 1 := ⟨d - 1, by omega⟩
  show swp a b (f (itF _ m a)) = b
  rw [key m (by omega)]
  have : f (itF f m a) = a := h2
  rw [this, swp_a]
/-- The orbits after an exchange of places of two orbits. -/
theorem swp_orb {n : Nat} {f : Nat → Nat} (h : Bij n f) {a b : Nat} (ha : a < n) (hb : b < n) (hno : ¬ Orb f a b) {x y : Nat} (hx : x < n) :
    Orb (fun x => swp a b (f x)) x y ↔ Orb f x y ∨ ((Orb f a x ∨ Orb f b x) ∧ (Orb f a y ∨ Orb f b y)) := by
  have hg := h.swp ha hb
  have hab : Orb (fun x => swp a b (f x)) a b := swp_reach h ha hno
  have hba := hg.sym ha hab
  have hstep : ∀ z, z < n → Orb (fun x => swp a b (f x)) z (f z) := by
    intro z hz
    have h1 : Orb (fun x => swp a b (f x)) z (swp a b (f z)) := Orb.one (fun x => swp a b (f x)) z
    by_cases e1 : f z = a
    · rw [e1, swp_a] at h1
      rw [e1]
      exact h1.trans hba
    · by_cases e2 : f z = b
      · rw [e2, swp_b] at h1
        rw [e2]
        exact h1.trans hab
      · rwa [swp_o e1 e2] at h1
  have hlift : ∀ {u v : Nat}, u < n → Orb f u v → Orb (fun x => swp a b (f x)) u v := by
    intro u v hu ⟨k, hk⟩
    subst hk
    induction k with
    | zero => exact Orb.refl _ _
    | succ k ih => exact ih.trans (hstep _ (h.it k u hu))
  constructor
  · rintro ⟨k, rfl⟩
    induction k with
    | zero => exact .inl (Orb.refl _ _)
    | succ k ih =>
      have hz := hg.it k x hx
      show Orb f x (swp a b (f (itF (fun x => swp a b (f x)) k x))) ∨ (_ ∧ (Orb f a (swp a b (f (itF (fun x => swp a b (f x)) k x))) ∨ Orb f b (swp a b (f (itF (fun x => swp a b (f x)) k x)))))
      generalize itF (fun x => swp a b (f x)) k x = z at ih hz ⊢
      have h1 : Orb f z (f z) := Orb.one f z
      by_cases e1 : f z = a
      · rw [e1] at h1 ⊢
        rw [swp_a]
        refine .inr ⟨?_, .inr (Orb.refl _ _)⟩
        rcases ih with ih | ih
        · exact .inl (h.sym hx (ih.trans h1))
        · exact ih.1
      · by_cases e2 : f z = b
        · rw [e2] at h1 ⊢
          rw [swp_b]
          refine .inr ⟨?_, .inl (Orb.refl _ _)⟩
          rcases ih with ih | ih
          · exact .inr (h.sym hx (ih.trans h1))
          · exact ih.1
        · rw [swp_o e1 e2]
          rcases ih with ih | ⟨ih1, ih2⟩
          · exact .inl (ih.trans h1)
          · exact .inr ⟨ih1, ih2.imp (fun q => q.trans h1) (fun q => q.trans h1)⟩
  · rintro (ho | ⟨h1, h2⟩)
    · exact hlift hx ho
    · have hax : Orb (fun x => swp a b (f x)) x a := by
        rcases h1 with h1 | h1
        · exact hg.sym ha (hlift ha h1)
        · exact (hg.sym hb (hlift hb h1)).trans hba
      rcases h2 with h2 | h2
      · exact hax.trans (hlift ha h2)
      · exact (hax.trans hab).trans (hlift hb h2)
theorem swp_merge {n : Nat} {f : Nat → Nat} (h : Bij n f) {a b : Nat} (ha : a < n) (hb : b < n) (hno : ¬ Orb f a b) : orbs (fun x => swp a b (f x)) n + 1 = orbs f n := by
  obtain ⟨A, hA1, hA2, hA3⟩ := Mn.ex h a ha
  obtain ⟨B, hB1, hB2, hB3⟩ := Mn.ex h b hb
  have hAn : A < n := by omega
  have hBn : B < n := by omega
  have hAB : A ≠ B := fun e => by
    subst e
    exact hno ((h.sym hAn hA3).trans hB3)
  have hnoAB : ¬ Orb f A B := fun e => hno (((h.sym hAn hA3).trans e).trans hB3)
  -- the greater of the two is the least of its orbit no more
  obtain ⟨L, M, hLM, hLn, hMn, hL, hM, hor, hLM2⟩ : ∃ L M, L < M ∧ L < n ∧ M < n ∧ Mn f L ∧ Mn f M ∧ (∀ z, (Orb f a z ∨ Orb f b z) ↔ (Orb f L z ∨ Orb f M z)) ∧ ¬ Orb f L M := by
    have ho : ∀ z, (Orb f a z ∨ Orb f b z) ↔ (Orb f A z ∨ Orb f B z) := fun z =>
      ⟨fun q => q.imp (fun q => hA3.trans q) (fun q => hB3.trans q), fun q => q.imp (fun q => (h.sym hAn hA3).trans q) (fun q => (h.sym hBn hB3).trans q)⟩
    rcases Nat.lt_or_gt_of_ne hAB with hl | hl
    · exact ⟨A, B, hl, hAn, hBn, hA2, hB2, ho, hnoAB⟩
    · exact ⟨B, A, hl, hBn, hAn, hB2, hA2, fun z => (ho z).trans or_comm, fun e => hnoAB (h.sym hBn e)⟩
  refine cntP_rem n hMn hM fun i hi => ?_
  constructor
  · intro hq
    refine ⟨fun j hj ho => hq j hj ((swp_orb h ha hb hno (by omega)).2 (.inl ho)), fun e => ?_⟩
    subst e
    exact hq L hLM ((swp_orb h ha hb hno hLn).2 (.inr ⟨(hor L).2 (.inl (Orb.refl _ _)), (hor i).2 (.inr (Orb.refl _ _))⟩))
  · rintro ⟨hp, hne⟩ j hj ho
    rcases (swp_orb h ha hb hno (by omega)).1 ho with ho | ⟨h1, h2⟩
    · exact hp j hj ho
    · rcases (hor i).1 h2 with h2 | h2
      · have e := Mn.uniq h hLn hi hL hp h2
        subst e
        rcases (hor j).1 h1 with h1 | h1
        · exact hL j hj (h.sym hLn h1)
        · exact hM j (by omega) (h.sym hMn h1)
      · exact hne (Mn.uniq h hMn hi hM hp h2).symm
theorem swp_split {n : Nat} {f : Nat → Nat} (h : Bij n f) {a b : Nat} (ha : a < n) (hab : a ≠ b) (ho : Orb f a b) : ¬ Orb (fun x => swp a b (f x)) a b := by
  obtain ⟨k0, hk0⟩ := ho
  have hk0p : 0 < k0 := by
    rcases Nat.eq_zero_or_pos k0 with h0 | h0
    · subst h0; exact absurd hk0 hab
    · exact h0
  obtain ⟨k, -, ⟨hk1, hk2⟩, hk3⟩ := least_of (P := fun k => 0 < k ∧ itF f k a = b) ⟨hk0p, hk0⟩
  have hna : ∀ j, 0 < j → j < k → itF f j a ≠ a := by
    intro j hj1 hj2 e
    refine hk3 (k - j) (by omega) ⟨by omega, ?_⟩
    have e2 : itF f ((k - j) + j) a = b := by rw [show k - j + j = k by omega]; exact hk2
    rwa [itF_add, e] at e2
  have hS : ∀ m, ∃ j, j < k ∧ itF (fun x => swp a b (f x)) m a = itF f j a := by
    intro m
    induction m with
    | zero => exact ⟨0, hk1, rfl⟩
    | succ m ih =>
      obtain ⟨j, hj, e⟩ := ih
      show ∃ j, j < k ∧ swp a b (f (itF _ m a)) = itF f j a
      rw [e]
      rcases Nat.lt_or_ge (j + 1) k with hlt | hge
      · refine ⟨j + 1, hlt, ?_⟩
        show swp a b (itF f (j + 1) a) = itF f (j + 1) a
        exact swp_o (hna _ (by omega) hlt) (fun e => hk3 (j + 1) hlt ⟨by omega, e⟩)
      · refine ⟨0, hk1, ?_⟩
        have : itF f (j + 1) a = b := by rw [show j + 1 = k by omega]; exact hk2
        show swp a b (itF f (j + 1) a) = a
        rw [this, swp_b]
  rintro ⟨m, hm⟩
  obtain ⟨j, hj, e⟩ := hS m
  rw [hm] at e
  rcases Nat.eq_zero_or_pos j with h0 | h0
  · subst h0
    exact hab e.symm
  · exact hk3 j hj ⟨h0, e.symm⟩
theorem orbs_congr {f g : Nat → Nat} {n : Nat} (hf : Bij n f) (h : ∀ x, x < n → f x = g x) : orbs f n = orbs g n := by
  have hit : ∀ k x, x < n → itF f k x = itF g k x := by
    intro k
    induction k with
    | zero => intro x _; rfl
    | succ k ih =>
      intro x hx
      show f (itF f k x) = g (itF g k x)
      rw [← ih x hx]
      exact h _ (hf.it k x hx)
  refine cntP_congr n fun i hi => ⟨fun hm j hj ⟨k, hk⟩ => hm j hj ⟨k, (hit k j (by omega)).trans hk⟩, fun hm j hj ⟨k, hk⟩ => hm j hj ⟨k, (hit k j (by omega)).symm.trans hk⟩⟩
/-- An exchange turns the parity. -/
theorem orbs_swp {n : Nat} {f : Nat → Nat} (h : Bij n f) {a b : Nat} (ha : a < n) (hb : b < n) (hab : a ≠ b) : (orbs (fun x => swp a b (f x)) n + 1) % 2 = orbs f n % 2 := by
  by_cases ho : Orb f a b
  · have h1 := swp_merge (h.swp ha hb) ha hb (swp_split h ha hab ho)
    have h2 : orbs (fun x => swp a b (swp a b (f x))) n = orbs f n := orbs_congr ((h.swp ha hb).swp ha hb) fun x _ => swp_swp a b (f x)
    rw [h2] at h1
    omega
  · have h1 := swp_merge h ha hb ho
    omega
theorem Bij.comp {n : Nat} {f g : Nat → Nat} (hf : Bij n f) (hg : Bij n g) : Bij n fun x => g (f x) :=
  ⟨fun x hx => hg.to _ (hf.to x hx), fun x y hx hy e => hf.inj x y hx hy (hg.inj _ _ (hf.to x hx) (hf.to y hy) e)⟩
theorem orbs_id {n : Nat} {f : Nat → Nat} (h : ∀ x, x < n → f x = x) : orbs f n = n := by
  refine cntP_all n fun i hi j hj ⟨k, hk⟩ => ?_
  have : ∀ k, itF f k j = j := by
    intro k
    induction k with
    | zero => rfl
    | succ k ih => show f (itF f k j) = j; rw [ih]; exact h j (by omega)
  rw [this k] at hk
  omega
/-- The sign of a product. -/
theorem orbs_comp {n : Nat} {f q : Nat → Nat} (hf : Bij n f) (hq : Bij n q) : (orbs (fun x => q (f x)) n + n) % 2 = (orbs f n + orbs q n) % 2 := by
  have key : ∀ m, m ≤ n → ∀ q, Bij n q → (∀ y, y < n - m → q y = y) → (orbs (fun x => q (f x)) n + n) % 2 = (orbs f n + orbs q n) % 2 := by
    intro m
    induction m with
    | zero =>
      intro _ q hq hid
      rw [orbs_id (f := q) (n := n) (fun x hx => hid x (by omega)), orbs_congr (g := f) (hf.comp hq) fun x hx => hid _ (by have := hf.to x hx; omega)]
    | succ m ih =>
      intro hm q hq hid
      by_cases hfix : q (n - (m + 1)) = n - (m + 1)
      · refine ih (by omega) q hq fun y hy => ?_
        by_cases e : y = n - (m + 1)
        · subst e; exact hfix
        · exact hid y (by omega)
      · have ha : n - (m + 1) < n := by omega
        have hb := hq.to _ ha
        obtain ⟨a, ea⟩ : ∃ a, a = n - (m + 1) := ⟨_, rfl⟩
        rw [← ea] at hfix ha hb
        have hqs := hq.swp ha hb
        have h1 := ih (by omega) _ hqs fun y hy => by
          by_cases e : y = a
          · subst e; exact swp_b _ _
          · have hy2 : q y = y := hid y (by omega)
            show Go.Proofs.Ytkaofcakelpnpaa.swp a (q a) (q y) = y
            rw [hy2]
            refine swp_o e fun e2 => e ?_
            exact hq.inj y a (by omega) ha (hy2.trans e2)
        have h2 := orbs_swp (hf.comp hq) ha hb (Ne.symm hfix)
        have h3 := orbs_swp hq ha hb (Ne.symm hfix)
        omega
  exact key n (Nat.le_refl _) q hq fun y hy => by omega
end Go.Proofs.Ytkaofcakelpnpaa

/- Plain: the cycles of a permutation; lists sorted downwards. -/
namespace Go.Proofs.Ytkaofcakelpnpaa
set_option linter.unusedVariables false
set_option linter.unusedSimpArgs false

/-- From x on, till a place that was visited. -/
def cycGo (p : List Int) : Nat → List Int → Nat → Nat → List Int × Nat
  | 0, vis, _, n => (vis, n)
  | f + 1, vis, x, n => if (x : Int) ∈ vis then (vis, n) else cycGo p f (vis ++ [(x : Int)]) (p.getD x 0).toNat (n + 1)
/-- The places visited and the lengths, after the first places. -/
def cycSt (p : List Int) : Nat → List Int × List Int
  | 0 => ([], [])
  | i + 1 => ((cycGo p (p.length + 1) (cycSt p i).1 i 0).1, if 0 < (cycGo p (p.length + 1) (cycSt p i).1 i 0).2 then (cycSt p i).2 ++ [((cycGo p (p.length + 1) (cycSt p i).1 i 0).2 : Int)] else (cycSt p i).2)
def downL (xs : List Int) : List Int := (xs.mergeSort fun x y => decide (x ≤ y)).reverse
def cyc (p : List Int) : List Int := downL (cycSt p p.length).2
theorem downL_perm (xs : List Int) : (downL xs).Perm xs := (List.reverse_perm _).trans (List.mergeSort_perm _ _)
theorem downL_len (xs : List Int) : (downL xs).length = xs.length := (downL_perm xs).length_eq
theorem downL_down (xs : List Int) : (downL xs).Pairwise (fun x y => y ≤ x) := by
  unfold downL
  rw [List.pairwise_reverse]
  have h := List.pairwise_mergeSort (le := fun (x y : Int) => decide (x ≤ y)) (by intro a b c h1 h2; simp at *; omega) (by intro a b; simp; omega) xs
  exact h.imp (fun h => by simpa using h)
theorem down_unique {xs ys : List Int} (hp : ys.Perm xs) (hd : ys.Pairwise (fun x y => y ≤ x)) : ys = downL xs :=
  List.Perm.eq_of_pairwise (le := fun x y => y ≤ x) (fun a b _ _ h1 h2 => by omega) hd (downL_down xs) (hp.trans (downL_perm xs).symm)

/-- A list of places, each once. -/
structure Vis (L : Nat) (vis : List Int) : Prop where
  nd : vis.Nodup
  rng : ∀ v ∈ vis, 0 ≤ v ∧ v < L
theorem nodup_le : ∀ (L : Nat) (l : List Int), l.Nodup → (∀ v ∈ l, 0 ≤ v ∧ v < (L : Int)) → l.length ≤ L := by
  intro L
  induction L with
  | zero =>
    intro l _ h
    cases l with
    | nil => simp
    | cons a t => have := h a List.mem_cons_self; omega
  | succ L ih =>
    intro l hn h
    by_cases hm : (L : Int) ∈ l
    · have h1 := ih (l.erase (L : Int)) (hn.erase _) (fun v hv => by
        have hv2 := List.mem_of_mem_erase hv
        have h3 := h v hv2
        have h4 : v ≠ (L : Int) := fun e => by subst e; exact (hn.not_mem_erase) hv
        omega)
      rw [List.length_erase_of_mem hm] at h1
      omega
    · have h1 := ih l hn (fun v hv => by
        have h3 := h v hv
        have h4 : v ≠ (L : Int) := fun e => by subst e; exact hm hv
        omega)
      omega
theorem Vis.le {L : Nat} {vis : List Int} (h : Vis L vis) : vis.length ≤ L := nodup_le L vis h.nd h.rng
theorem Vis.push {L : Nat} {vis : List Int} {x : Nat} (h : Vis L vis) (hx : x < L) (hm : (x : Int) ∉ vis) : Vis L (vis ++ [(x : Int)]) :=
  ⟨nodup_snoc.2 ⟨h.nd, hm⟩, fun v hv => by
    rcases List.mem_append.1 hv with h1 | h1
    · exact h.rng v h1
    · simp at h1; omega⟩
/-- What the inner loop keeps. -/
structure CycAt (p : List Int) (vis0 : List Int) (i : Nat) (f : Nat) (vis : List Int) (x n : Nat) : Prop where
  hv : Vis p.length vis
  hx : x < p.length
  run : cycGo p (p.length + 1) vis0 i 0 = cycGo p f vis x n
  fuel : p.length < f + vis.length
  cnt : n + vis0.length = vis.length
theorem CycAt.start {p vis0 : List Int} {i : Nat} (hv : Vis p.length vis0) (hi : i < p.length) : CycAt p vis0 i (p.length + 1) vis0 i 0 := ⟨hv, hi, rfl, by omega, by omega⟩
theorem CycAt.step {p vis0 vis : List Int} {i f x n : Nat} (hp : ∀ y ∈ p, 0 ≤ y ∧ y < p.length) (h : CycAt p vis0 i f vis x n) (hm : (x : Int) ∉ vis) : ∃ f', f = f' + 1 ∧ CycAt p vis0 i f' (vis ++ [(x : Int)]) (p.getD x 0).toNat (n + 1) := by
  have hv := h.hv.push h.hx hm
  have hl := hv.le
  have hf := h.fuel
  simp at hl
  obtain ⟨f', rfl⟩ : ∃ f', f = f' + 1 := ⟨f - 1, by omega⟩
  refine ⟨f', rfl, hv, ?_, ?_, by simp; omega, by have := h.cnt; simp; omega⟩
  · have hm := hp (p.getD x 0) (by rw [List.getD_eq_getElem?_getD, List.getElem?_eq_getElem h.hx]; exact List.getElem_mem _)
    omega
  · rw [h.run]
    simp [cycGo, hm]
theorem CycAt.stop {p vis0 vis : List Int} {i f x n : Nat} (h : CycAt p vis0 i f vis x n) (hm : (x : Int) ∈ vis) : cycGo p (p.length + 1) vis0 i 0 = (vis, n) := by
  rw [h.run]
  cases f with
  | zero => rfl
  | succ f => simp [cycGo, hm]
/-- What the outer loop keeps. -/
structure CycOut (p : List Int) (i : Nat) (vis out : List Int) : Prop where
  st : cycSt p i = (vis, out)
  hv : Vis p.length vis
  sum : out.sum = vis.length
  pos : ∀ x ∈ out, 1 ≤ x
  len : out.length ≤ i
theorem CycOut.zero (p : List Int) : CycOut p 0 [] [] := ⟨rfl, ⟨by simp, by simp⟩, by simp, by simp, by simp⟩
theorem CycOut.succ {p vis out vis' : List Int} {i f x n : Nat} (h : CycOut p i vis out) (h2 : CycAt p vis i f vis' x n) (hm : (x : Int) ∈ vis') : CycOut p (i + 1) vis' (if 0 < n then out ++ [(n : Int)] else out) := by
  have hr := h2.stop hm
  have hc := h2.cnt
  refine ⟨by simp [cycSt, h.st, hr], h2.hv, ?_, ?_, ?_⟩
  · split
    · rw [List.sum_append, h.sum]; simp; omega
    · rw [h.sum]; omega
  · split
    · intro x hx
      rcases List.mem_append.1 hx with h1 | h1
      · exact h.pos x h1
      · simp at h1; omega
    · exact h.pos
  · have := h.len
    split
    · simp; omega
    · omega
theorem CycAt.goes {p vis0 : List Int} {i : Nat} (hp : ∀ y ∈ p, 0 ≤ y ∧ y < p.length) : ∀ (f : Nat) (vis : List Int) (x n : Nat), CycAt p vis0 i f vis x n → ∃ f vis x n, CycAt p vis0 i f vis x n ∧ (x : Int) ∈ vis := by
  intro f
  induction f with
  | zero =>
    intro vis x n h
    have := h.fuel
    have := h.hv.le
    omega
  | succ f ih =>
    intro vis x n h
    by_cases hm : (x : Int) ∈ vis
    · exact ⟨_, _, _, _, h, hm⟩
    · obtain ⟨f', he, h'⟩ := h.step hp hm
      obtain rfl : f = f' := by omega
      exact ih _ _ _ h'
theorem CycOut.get {p : List Int} (hp : ∀ y ∈ p, 0 ≤ y ∧ y < p.length) (i : Nat) (hi : i ≤ p.length) : ∃ vis out, CycOut p i vis out := by
  induction i with
  | zero => exact ⟨_, _, CycOut.zero p⟩
  | succ i ih =>
    obtain ⟨vis, out, h⟩ := ih (by omega)
    obtain ⟨f, vis', x, n, h2, hm⟩ := CycAt.goes hp _ _ _ _ (CycAt.start h.hv (by omega : i < p.length))
    exact ⟨_, _, h.succ h2 hm⟩
end Go.Proofs.Ytkaofcakelpnpaa

/-
  DERIVED: THE SHELF's CONTRACTS AT THIS DUMP, IN PLAIN WORDS (tools/lay-plain.mjs out of 'TryShelf.lean', which tools/lay-shelf.mjs wrote): THE SAME DECLARATIONS UNDER THE SAME NAMES: 'import', 'namespace', 'open', 'def', 'theorem' AND NOTHING ELSE: no command of the shelf's: FOR A HAND-IN. Each laying: the table of numbers ('.._ren') and one theorem, a field a fact of the dump's own or the kernel's comparison; each contract: ONE APPLICATION.
-/
namespace Go.Proofs
open Go.Shelf
def Try.lays215_ren : Go.Shelf.Ren := ⟨fun | 215 => 55 | n => n, fun | 3 => 3 | 4 => 4 | n => n, fun | n => n⟩
def Try.lays189_ren : Go.Shelf.Ren := ⟨fun | 189 => 31 | 125 => 37 | 257 => 36 | 128 => 48 | 129 => 49 | 294 => 39 | 295 => 40 | 296 => 41 | 297 => 42 | 298 => 43 | 299 => 44 | 216 => 45 | 300 => 46 | 301 => 47 | 328 => 50 | 329 => 51 | 330 => 52 | 331 => 53 | 332 => 54 | 215 => 55 | 343 => 56 | n => n, fun | 28 => 24 | 3 => 3 | 46 => 50 | 0 => 0 | 51 => 62 | 53 => 64 | 4 => 4 | 183 => 54 | 182 => 53 | 131 => 59 | 5 => 5 | 9 => 9 | 218 => 65 | 222 => 69 | 228 => 72 | 229 => 73 | n => n, fun | n => n⟩
theorem Try.lays189 : Go.Proofs.Lays.n189 Try.prog Try.lays189_ren := {
  mixed := by kernel_rfl
  f125 := Try.func37.trans (congrArg some (by kernel_rfl))
  f128 := Try.func48.trans (congrArg some (by kernel_rfl))
  f129 := Try.func49.trans (congrArg some (by kernel_rfl))
  f189 := Try.func31.trans (congrArg some (by kernel_rfl))
  f215 := Try.func55.trans (congrArg some (by kernel_rfl))
  f216 := Try.func45.trans (congrArg some (by kernel_rfl))
  f257 := Try.func36.trans (congrArg some (by kernel_rfl))
  f294 := Try.func39.trans (congrArg some (by kernel_rfl))
  f295 := Try.func40.trans (congrArg some (by kernel_rfl))
  f296 := Try.func41.trans (congrArg some (by kernel_rfl))
  f297 := Try.func42.trans (congrArg some (by kernel_rfl))
  f298 := Try.func43.trans (congrArg some (by kernel_rfl))
  f299 := Try.func44.trans (congrArg some (by kernel_rfl))
  f300 := Try.func46.trans (congrArg some (by kernel_rfl))
  f301 := Try.func47.trans (congrArg some (by kernel_rfl))
  f328 := Try.func50.trans (congrArg some (by kernel_rfl))
  f329 := Try.func51.trans (congrArg some (by kernel_rfl))
  f330 := Try.func52.trans (congrArg some (by kernel_rfl))
  f331 := Try.func53.trans (congrArg some (by kernel_rfl))
  f332 := Try.func54.trans (congrArg some (by kernel_rfl))
  f343 := Try.func56.trans (congrArg some (by kernel_rfl))
  t0 := Try.underlying0
  a0 := Try.isAgg0
  z0 := Try.sizeOf0
  v0 := Try.zeroValue0
  t3 := Try.underlying3
  a3 := Try.isAgg3
  z3 := Try.sizeOf3
  v3 := Try.zeroValue3
  t4 := Try.underlying4
  a4 := Try.isAgg4
  z4 := Try.sizeOf4
  v4 := Try.zeroValue4
  t5 := Try.underlying5
  a5 := Try.isAgg5
  z5 := Try.sizeOf5
  v5 := Try.zeroValue5
  t9 := Try.underlying9
  a9 := Try.isAgg9
  z9 := Try.sizeOf9
  v9 := Try.zeroValue9
  t28 := Try.underlying24
  a28 := Try.isAgg24
  z28 := Try.sizeOf24
  v28 := Try.zeroValue24
  t46 := Try.underlying50
  a46 := Try.isAgg50
  z46 := Try.sizeOf50
  v46 := Try.zeroValue50
  t51 := Try.underlying62
  a51 := Try.isAgg62
  z51 := Try.sizeOf62
  v51 := Try.zeroValue62
  t53 := Try.underlying64
  a53 := Try.isAgg64
  z53 := Try.sizeOf64
  v53 := Try.zeroValue64
  t131 := Try.underlying59
  a131 := Try.isAgg59
  z131 := Try.sizeOf59
  v131 := Try.zeroValue59
  t182 := Try.underlying53
  a182 := Try.isAgg53
  z182 := Try.sizeOf53
  v182 := Try.zeroValue53
  t183 := Try.underlying54
  a183 := Try.isAgg54
  z183 := Try.sizeOf54
  v183 := Try.zeroValue54
  t218 := Try.underlying65
  a218 := Try.isAgg65
  z218 := Try.sizeOf65
  v218 := Try.zeroValue65
  t222 := Try.underlying69
  a222 := Try.isAgg69
  z222 := Try.sizeOf69
  v222 := Try.zeroValue69
  t228 := Try.underlying72
  a228 := Try.isAgg72
  z228 := Try.sizeOf72
  v228 := Try.zeroValue72
  t229 := Try.underlying73
  a229 := Try.isAgg73
  z229 := Try.sizeOf73
  v229 := Try.zeroValue73 }
open Go.Sort Go.RowKit in
theorem Try.slices_Sort_int (blk off cap : Nat) (zs : List Int) (w : World) (hH : Holds (Value.int .i64) w blk off zs.toArray) (hblk : blk < w.heap.size) (hsz : zs.length < 4611686018427387904) :
    Calls Try.prog 31 #[.slice (some ⟨blk, off, none⟩) zs.length cap] w fun e w' =>
      e = .returned (.tuple #[]) ∧ ∃ n os, w' = grow (putRow (Value.int .i64) (Sort.ahead w n) blk off (zs.mergeSort fun x y => decide (x ≤ y)).toArray) os := Any.slices_Sort_int Try.lays189 blk off cap zs w hH hblk hsz
def Try.lays112_ren : Go.Shelf.Ren := ⟨fun | 112 => 32 | n => n, fun | 28 => 24 | 3 => 3 | 4 => 4 | 0 => 0 | n => n, fun | n => n⟩
theorem Try.lays112 : Go.Proofs.Lays.n112 Try.prog Try.lays112_ren := {
  mixed := by kernel_rfl
  f112 := Try.func32.trans (congrArg some (by kernel_rfl))
  t0 := Try.underlying0
  a0 := Try.isAgg0
  z0 := Try.sizeOf0
  v0 := Try.zeroValue0
  t3 := Try.underlying3
  a3 := Try.isAgg3
  z3 := Try.sizeOf3
  v3 := Try.zeroValue3
  t4 := Try.underlying4
  a4 := Try.isAgg4
  z4 := Try.sizeOf4
  v4 := Try.zeroValue4
  t28 := Try.underlying24
  a28 := Try.isAgg24
  z28 := Try.sizeOf24
  v28 := Try.zeroValue24 }
open Go.RowKit Go.Lib Go.Sort in
/-- slices.Reverse at []int: "Reverse reverses the elements of the slice in place.": THE SLICE's CELLS HOLD 'zs.reverse' BEHIND THE CALL; all else is as it was, but for the count of draws (the exchange 's[i], s[j] = s[j], s[i]' draws its order, once a round). IN THE WORDS OF slices.Sort's CONTRACT: 'Holds': the cells hold zs and none is frozen; 'putRow': the world with those cells holding another array. A slice of length 0 that is not nil is among them ('zs = []'); nil: '.._nil'. (LAID: no walk: one application.) -/
theorem Try.slices_Reverse_int (blk off cap : Nat) (zs : List Int) (w : World) (hH : Holds (Value.int .i64) w blk off zs.toArray) (hsz : zs.length ≤ 9223372036854775807) :
    Calls Try.prog 32 #[.slice (some ⟨blk, off, none⟩) zs.length cap] w fun e w' => e = .returned (.tuple #[]) ∧ ∃ n, w' = putRow (Value.int .i64) (Sort.ahead w n) blk off zs.reverse.toArray := Any.slices_Reverse_int Try.lays112 blk off cap zs w hH hsz
open Go.RowKit Go.Lib Go.Sort in
/-- The same at a slice of length 0, a nil one too: nothing is read, nothing written, nothing drawn. (LAID: no walk: one application.) -/
theorem Try.slices_Reverse_int_empty (a : Option Addr) (cap : Nat) (w : World) :
    Calls Try.prog 32 #[.slice a 0 cap] w fun e w' => e = .returned (.tuple #[]) ∧ w' = w := Any.slices_Reverse_int_empty Try.lays112 a cap w
open Go.RowKit Go.Sort in
/-- .. and plain. (LAID: no walk: one application.) -/
theorem Try.slices_Sort_int_none (p : Option Addr) (cap : Nat) (w : World) :
    Calls Try.prog 31 #[.slice p 0 cap] w fun e w' => e = .returned (.tuple #[]) ∧ w' = w := Any.slices_Sort_int_none Try.lays189 p cap w
end Go.Proofs

/- slices.Sort and slices.Reverse at a slice of ints of the call's own. -/
namespace Go.Proofs.Ytkaofcakelpnpaa
set_option linter.unusedVariables false
set_option linter.unusedSimpArgs false
open Go.RowKit Go.Sort

theorem put_mid {w : World} {g n : Nat} {d : Array Int} {os : Array Obj} : w.grownBy (grow (putRow (Value.int .i64) (Sort.ahead w n) g 0 d) os) (some g) := by
  refine ⟨rfl, rfl, rfl, by simp, fun k hk hne => ?_⟩
  rw [heap_grow_old _ _ (by simpa using hk)]
  have : g ≠ k := fun e => hne (by rw [e])
  simp [putRow, mapBlock, Sort.ahead, Array.getElem?_modify, this]
theorem owns_grow {w : World} {base : Nat} {e : TypeId} {size : Nat} {v : Value} {n : Nat} {xs : List Value} (h : w.ownsRow base e size v n xs) (os : Array Obj) : (grow w os).ownsRow base e size v n xs := by
  refine ⟨h.1, ?_⟩
  rcases h.2 with hn | ⟨g, cap, cur, rfl, hb, hh, rest⟩
  · exact .inl hn
  · refine .inr ⟨g, cap, cur, rfl, hb, ?_, rest⟩
    rw [heap_grow_old _ _ (Array.getElem?_eq_some_iff.1 hh).1]
    exact hh
/-- What a call that turns the slice in place leaves. -/
abbrev Turned (w : World) (lo hi : Nat) (A : Option Addr) (c : Nat) (ys : List Int) (e : Ending) (w' : World) : Prop :=
  e = .returned (.tuple #[]) ∧ w'.ownsRow lo 3 1 (.slice A ys.length c) ys.length (ints ys) ∧ w.grownBy w' (Value.ownBlock (.slice A ys.length c))
theorem sortI (A : Option Addr) (xs : List Int) (c : Nat) (w : World) (lo : Nat) (ho : w.ownsRow lo 3 1 (.slice A xs.length c) xs.length (ints xs)) (hl : xs.length ≤ 1048576) :
    Calls Try.prog 31 #[.slice A xs.length c] w (Turned w lo 0 A c (xs.mergeSort fun x y => decide (x ≤ y))) := by
  by_cases hv : Value.slice A xs.length c = .slice none 0 0
  · injection hv with h1 h2 h3
    obtain rfl := List.eq_nil_of_length_eq_zero h2
    subst h1 h3
    exact (Try.slices_Sort_int_none none 0 w).mono fun e w' ⟨he, hw⟩ => by
      refine ⟨he, ?_⟩
      first
        | (subst hw; exact ⟨by simpa using ho, World.grownBy.refl _ _⟩)
        | (obtain ⟨n, rfl⟩ := hw; exact ⟨by simpa using ho, World.grownBy.refl _ _⟩)
  · obtain ⟨g, cap, he, hb, hg, hn, hm, hz, hH⟩ := Lib.holds_of_ownsRow (enc := Value.int .i64) (zs := xs) ho hv
    injection he with h1 _ h3
    subst h1 h3
    refine (Try.slices_Sort_int g 0 c xs w hH hg (by omega)).mono ?_
    rintro e w' ⟨he, n, os, rfl⟩
    have hlen : (xs.mergeSort fun x y => decide (x ≤ y)).length = xs.length := List.length_mergeSort _
    have h2 := Lib.ownsRow_putRow (enc := Value.int .i64) (q := n) (k := xs.length) (ys := xs.mergeSort fun x y => decide (x ≤ y)) ho hlen (Nat.le_refl _)
    rw [List.take_of_length_le (by omega)] at h2
    refine ⟨he, ?_, ?_⟩
    · rw [hlen]
      exact owns_grow h2 os
    · rw [hlen]
      exact put_mid
theorem reverseI (A : Option Addr) (xs : List Int) (c : Nat) (w : World) (lo : Nat) (ho : w.ownsRow lo 3 1 (.slice A xs.length c) xs.length (ints xs)) (hl : xs.length ≤ 1048576) :
    Calls Try.prog 32 #[.slice A xs.length c] w (Turned w lo 0 A c xs.reverse) := by
  by_cases hv : Value.slice A xs.length c = .slice none 0 0
  · injection hv with h1 h2 h3
    obtain rfl := List.eq_nil_of_length_eq_zero h2
    subst h1 h3
    exact (Try.slices_Reverse_int_empty none 0 w).mono fun e w' ⟨he, hw⟩ => by
      subst hw
      exact ⟨he, by simpa using ho, World.grownBy.refl _ _⟩
  · obtain ⟨g, cap, he, hb, hg, hn, hm, hz, hH⟩ := Lib.holds_of_ownsRow (enc := Value.int .i64) (zs := xs) ho hv
    injection he with h1 _ h3
    subst h1 h3
    refine (Try.slices_Reverse_int g 0 c xs w hH (by omega)).mono ?_
    rintro e w' ⟨he, n, rfl⟩
    have hlen : xs.reverse.length = xs.length := List.length_reverse
    have h2 := Lib.ownsRow_putRow (enc := Value.int .i64) (q := n) (k := xs.length) (ys := xs.reverse) ho hlen (Nat.le_refl _)
    rw [List.take_of_length_le (by omega)] at h2
    refine ⟨he, ?_, ?_⟩
    · rw [hlen]
      exact h2
    · rw [hlen]
      refine ⟨rfl, rfl, rfl, by simp [putRow, mapBlock, Sort.ahead], fun k hk hne => ?_⟩
      have : g ≠ k := fun e => hne (by rw [e]; rfl)
      simp [putRow, mapBlock, Sort.ahead, Array.getElem?_modify, this]
end Go.Proofs.Ytkaofcakelpnpaa

/- CycleType of the program. -/
namespace Go.Proofs.Ytkaofcakelpnpaa
set_option linter.unusedVariables false
set_option linter.unusedSimpArgs false
open Go.RowKit

theorem sortNc (A : Option Addr) (xs ys : List Int) (n c : Nat) (w : World) (lo : Nat) (ho : w.ownsRow lo 3 1 (.slice A n c) n (ints xs)) (hl : n ≤ 1048576) (hy : (xs.mergeSort fun x y => decide (x ≤ y)) = ys) :
    Calls Try.prog 31 #[.slice A n c] w fun e w' => e = .returned (.tuple #[]) ∧ w'.ownsRow lo 3 1 (.slice A n c) n (ints ys) ∧ w.grownBy w' (Value.ownBlock (.slice A n c)) := by
  have hn : xs.length = n := by have := ho.1; rw [ints_len] at this; omega
  subst hn hy
  have h := sortI A xs c w lo ho hl
  unfold Turned at h
  rw [List.length_mergeSort] at h
  exact h
theorem reverseN (A : Option Addr) (xs ys : List Int) (n c : Nat) (w : World) (lo : Nat) (ho : w.ownsRow lo 3 1 (.slice A n c) n (ints xs)) (hl : n ≤ 1048576) (hy : xs.reverse = ys) :
    Calls Try.prog 32 #[.slice A n c] w fun e w' => e = .returned (.tuple #[]) ∧ w'.ownsRow lo 3 1 (.slice A n c) n (ints ys) ∧ w.grownBy w' (Value.ownBlock (.slice A n c)) := by
  have hn : xs.length = n := by have := ho.1; rw [ints_len] at this; omega
  subst hn hy
  have h := reverseI A xs c w lo ho hl
  unfold Turned at h
  rw [List.length_reverse] at h
  exact h
def CycIs (p res : List Int) : Prop := (IsPerm p → res = cyc p) ∧ (¬ IsPerm p → res = [])
theorem cyc_len {p : List Int} (h : IsPerm p) : (cyc p).length ≤ p.length := by
  obtain ⟨vis, out, h2⟩ := CycOut.get h.2.1 p.length (Nat.le_refl _)
  unfold cyc
  rw [h2.st, downL_len]
  exact h2.len

set_option maxHeartbeats 3200000 in
theorem impl_CycleType (A : Option Addr) (p : List Int) (c B : Nat) (w : World) (hr : Rs w B A (ints p)) (hB : B ≤ w.heap.size) (hlp : p.length ≤ 1048576) (res : List Int) (hres : CycIs p res) :
    Calls Try.prog 15 #[.slice A p.length c] w fun e w' => RetI 3 res w e w' := by
  have HRES := Lib.hid hres
  clear hres
  have hmx : p.length ≤ maxLen := by unfold maxLen; omega
  have hb0 := (Below.refl w.heap.size w).alloc (Nat.le_refl _) (.cells #[] 3)
  have ho0 := owns_empty w 3 1
  by_cases hp : IsPerm p
  · have HP := Lib.hid hp
    clear hp
    go_enter Try.func15, Try.ntmps15
    go_wp2_with fail
    with_reducible refine (impl_IsPermutation A p c B _ (hr.alloc hB _) (by simp; omega) hlp true (iff_of_true rfl HP.out)).mono ?_
    rintro e w1 ⟨rfl, hbp⟩
    have hb1 := hb0.trans (hbp.mono hb0.size)
    have hs1 := hb1.size
    have hoe1 := owns_belowS ho0 hbp
    go_wp2_with (at_make; refine wpList_mk rfl _ _ 40 rfl 4 (.bool false) 1 undSB infoB rfl .i64 .i64 _ _ p.length rfl rfl rfl rfl (by omega) hmx ?_; intro w2 hown2 hgr2 hsz2)
    have hb2 := hb1.grown hgr2 hs1 (by intro g h; cases h)
    have ho2 := hoe1.kept hgr2 (.inr (by simp [Value.ownBlock]))
    have hs2 := hb2.size
    clear hoe1 hgr2
    go_loopw [3, 5, 6, 7, 18] (fun v _ _ _ i wr => ∃ (k : Nat) (vis out : List Int) (Ao : Option Addr) (co : Nat), k ≤ p.length ∧ i = .int .i64 k ∧ v = .slice Ao out.length co ∧ CycOut p k vis out ∧ wr.ownsRow w.heap.size 3 1 (.slice Ao out.length co) out.length (ints out) ∧ wr.ownsRow w1.heap.size 4 1 (.slice (some ⟨w1.heap.size, 0, none⟩) p.length p.length) p.length (seenOf p.length vis) ∧ Below w.heap.size w wr) (fun _ _ _ _ i _ => p.length - (intOf i).toNat)
    case atStart => exact ⟨0, [], [], _, _, Nat.zero_le _, rfl, rfl, CycOut.zero p, by simpa [ints] using ho2, by rw [seenOf_nil]; exact hown2, hb2⟩
    case round =>
      clear ho2 hown2 hb2 hs2
      obtain ⟨k, vis, out, Ao, co, hk, rfl, rfl, hco, hown, hseen, hb⟩ := hrel
      have HCO := Lib.hid hco
      have hol := hco.len
      clear hco
      have hsz := hb.size
      by_cases hlt : k < p.length
      · have hlt3 : (k : Int) < (p.length : Int) := by omega
        go_wp2_with fail
        go_loopw [6, 7] (fun nv xv wr2 => ∃ (f : Nat) (vis' : List Int) (x n : Nat), nv = .int .i64 n ∧ xv = .int .i64 x ∧ CycAt p vis k f vis' x n ∧ wr2.ownsRow w.heap.size 3 1 (.slice Ao out.length co) out.length (ints out) ∧ wr2.ownsRow w1.heap.size 4 1 (.slice (some ⟨w1.heap.size, 0, none⟩) p.length p.length) p.length (seenOf p.length vis') ∧ Below w.heap.size w wr2) (fun nv _ _ => p.length + 1 - (intOf nv).toNat)
        case atStart => exact ⟨p.length + 1, vis, k, 0, rfl, rfl, CycAt.start HCO.out.hv hlt, hown, hseen, hb⟩
        case round =>
          clear hown hseen hb hsz
          obtain ⟨f, vis', x, n, rfl, rfl, hat, hown, hseen, hb⟩ := hrel
          have HAT := Lib.hid hat
          have hxl := hat.hx
          have hnl : n ≤ p.length := by have := hat.cnt; have := hat.hv.le; omega
          clear hat
          have hsz := hb.size
          have hx0 : (0 : Int) ≤ (x : Int) := by omega
          have hxl3 : (x : Int) < (p.length : Int) := by omega
          have hfz := hseen.frozenAt x
          by_cases hm : (x : Int) ∈ vis'
          · have hcs := (hseen.cellAt x (by omega)).trans (seenOf_get hxl)
            rw [decide_eq_true hm] at hcs
            have HM := Lib.hid hm
            clear hm
            have HN := Lib.hid (HCO.out.succ HAT.out HM.out)
            by_cases hn0 : 0 < n
            · have hn3 : (0 : Int) < (n : Int) := by omega
              have hn4 : ¬ (n : Int) ≤ 0 := by omega
              go_wp2_with (at_builtin; refine wpList_push rfl _ _ 24 rfl w.heap.size 3 (.int .i64 0) 1 8 undSI infoI rfl (by decide) _ _ _ rfl hown 1 [.int .i64 n] rfl rfl (one_of_ints [(n : Int)]) ?c2 ?c3 hsz ?n1)
              case c2 => unfold maxLen; omega
              case c3 => omega
              case n1 =>
                intro v' w3 hown3 hgr3 _
                obtain ⟨A3, c3, rfl, -, -⟩ := owns_shape hown3
                go_wp2_with fail
                go_roundw
                case rel =>
                  have h2 := HN.out
                  rw [if_pos hn0] at h2
                  refine ⟨k + 1, vis', out ++ [(n : Int)], A3, c3, by omega, by go_num, by simp, h2, ?_, ?_, hb.grown hgr3 hsz (fun g hg => (hown.lt g hg).1)⟩
                  · rw [ints_append, List.length_append]; exact hown3
                  · exact hseen.kept hgr3 (owns_ne hseen hown (by decide))
                case measure => simp [intOf]; omega
            · obtain rfl : n = 0 := by omega
              go_wp2_with fail
              go_roundw
              case rel =>
                have h2 := HN.out
                rw [if_neg hn0] at h2
                exact ⟨k + 1, vis', out, Ao, co, by omega, by go_num, rfl, h2, hown, hseen, hb⟩
              case measure => simp [intOf]; omega
          · have hcs := (hseen.cellAt x (by omega)).trans (seenOf_get hxl)
            rw [decide_eq_false hm] at hcs
            obtain ⟨f', rfl, hst⟩ := HAT.out.step HP.out.2.1 hm
            have HST := Lib.hid hst
            have hnl2 : n + 1 ≤ p.length := by have := hst.cnt; have := hst.hv.le; omega
            clear hm hst
            obtain ⟨b, off, y, rfl, hbB, hy, hc⟩ := ((hr.more hB).below hb).int hxl
            have hyr := HP.out.2.1 y (List.mem_of_getElem? hy)
            obtain ⟨m, rfl⟩ : ∃ m : Nat, y = (m : Int) := ⟨y.toNat, by omega⟩
            have hgd : (p.getD x 0).toNat = m := by rw [List.getD_eq_getElem?_getD, hy]; simp
            have HGD := Lib.hid hgd
            have hset := owns_set hseen x (.bool true) (seenOf_set hxl)
            have hbs := hb.setCell hs1 (.bool true) (p := ⟨w1.heap.size, x, none⟩)
            have hos := hown.kept (grown_of_setCell wr w1.heap.size x (.bool true)) (owns_ne hown hseen (by decide))
            have hcp : (wr.setCell ⟨w1.heap.size, x, none⟩ (.bool true)).cell? ⟨b, off + x, none⟩ = some (.int .i64 m) := (World.cell?_setCell_other wr _ _ _ (by intro e; injection e with e; omega)).trans hc
            clear hy hgd
            go_wp2_with fail
            go_roundw
            case rel => exact ⟨f', vis' ++ [(x : Int)], m, n + 1, by go_num, rfl, by rw [← HGD.out]; exact HST.out, hos, hset, hbs⟩
            case measure => simp [intOf]; omega
      · obtain rfl : k = p.length := by omega
        skip
        have hres2 : res = cyc p := HRES.out.1 HP.out
        have hcy : cyc p = (out.mergeSort fun x y => decide (x ≤ y)).reverse := by unfold cyc; rw [HCO.out.st]; rfl
        have HCY := Lib.hid (hres2.trans hcy)
        clear hres2 hcy
        go_wp2_with fail
        with_reducible refine (sortNc Ao out _ out.length co _ _ hown (by omega) rfl).mono ?_
        rintro e w3 ⟨rfl, ho3, hg3⟩
        have hb3 := hb.grown hg3 hsz (fun g hg => (hown.lt g hg).1)
        go_wp2_with fail
        with_reducible refine (reverseN Ao _ _ out.length co _ _ ho3 (by omega) rfl).mono ?_
        rintro e w4 ⟨rfl, ho4, hg4⟩
        have hb4 := hb3.grown hg4 hb3.size (fun g hg => (ho3.lt g hg).1)
        go_wp2_with fail
        go_ret
        rw [← HCY.out] at ho4
        exact RetI.mk (by have := ho4.1; rw [ints_len] at this; omega) ho4 hb4
  · have HN := Lib.hid hp
    obtain rfl : res = [] := HRES.out.2 hp
    clear hp HRES
    go_enter Try.func15, Try.ntmps15
    go_wp2_with fail
    with_reducible refine (impl_IsPermutation A p c B _ (hr.alloc hB _) (by simp; omega) hlp false (iff_of_false Bool.false_ne_true HN.out)).mono ?_
    rintro e w1 ⟨rfl, hbp⟩
    go_wp2_with fail
    go_ret
    exact RetI.mk rfl (owns_belowS ho0 hbp) (hb0.trans (hbp.mono hb0.size))
end Go.Proofs.Ytkaofcakelpnpaa

/- Plain: the exchange sort downwards. -/
namespace Go.Proofs.Ytkaofcakelpnpaa
set_option linter.unusedVariables false
set_option linter.unusedSimpArgs false

structure ExAt (out : List Int) (a : Nat) (ys : List Int) : Prop where
  perm : ys.Perm out
  down : ∀ i j x y, i < a → i < j → ys[i]? = some x → ys[j]? = some y → y ≤ x
structure ExIn (out : List Int) (a b : Nat) (ys : List Int) : Prop where
  at' : ExAt out a ys
  top : ∀ j x y, a < j → j < b → ys[a]? = some x → ys[j]? = some y → y ≤ x
theorem ExAt.zero (out : List Int) : ExAt out 0 out := ⟨List.Perm.refl _, fun i j x y h => by omega⟩
theorem ExIn.start {out ys : List Int} {a : Nat} (h : ExAt out a ys) : ExIn out a (a + 1) ys := ⟨h, fun j x y h1 h2 => by omega⟩
theorem ExIn.keep {out ys : List Int} {a b : Nat} {ya yb : Int} (h : ExIn out a b ys) (ha : ys[a]? = some ya) (hb : ys[b]? = some yb) (hle : yb ≤ ya) : ExIn out a (b + 1) ys :=
  ⟨h.at', fun j x y h1 h2 hx hy => by
    by_cases hj : j = b
    · subst hj
      rw [ha] at hx; rw [hb] at hy
      injection hx with hx; injection hy with hy
      omega
    · exact h.top j x y h1 (by omega) hx hy⟩
theorem ExIn.swap {out ys : List Int} {a b : Nat} {ya yb : Int} (h : ExIn out a b ys) (hab : a < b) (ha : ys[a]? = some ya) (hb : ys[b]? = some yb) (hlt : ya < yb) : ExIn out a (b + 1) ((ys.set b ya).set a yb) := by
  obtain ⟨hla, hga⟩ := List.getElem?_eq_some_iff.1 ha
  obtain ⟨hlb, hgb⟩ := List.getElem?_eq_some_iff.1 hb
  have hp : ((ys.set b ya).set a yb).Perm ys := by
    have : ((ys.set b ys[a]).set a ys[b]).Perm ys := List.set_set_perm hlb hla
    rw [hga, hgb] at this
    exact this
  have get : ∀ j z, ((ys.set b ya).set a yb)[j]? = some z → (j = a ∧ z = yb) ∨ (j = b ∧ z = ya ∧ j ≠ a) ∨ (j ≠ a ∧ j ≠ b ∧ ys[j]? = some z) := by
    intro j z hz
    by_cases h1 : j = a
    · subst h1
      rw [List.getElem?_set_self (by simpa using hla)] at hz
      injection hz with hz
      exact .inl ⟨rfl, hz.symm⟩
    · rw [List.getElem?_set_ne (Ne.symm h1)] at hz
      by_cases h2 : j = b
      · subst h2
        rw [List.getElem?_set_self hlb] at hz
        injection hz with hz
        exact .inr (.inl ⟨rfl, hz.symm, h1⟩)
      · rw [List.getElem?_set_ne (Ne.symm h2)] at hz
        exact .inr (.inr ⟨h1, h2, hz⟩)
  refine ⟨⟨hp.trans h.at'.perm, fun i j x y hi hij hx hy => ?_⟩, fun j x y h1 h2 hx hy => ?_⟩
  · rcases get i x hx with ⟨e, _⟩ | ⟨e, _, _⟩ | ⟨_, _, hx'⟩
    · omega
    · omega
    · rcases get j y hy with ⟨e, rfl⟩ | ⟨e, rfl, _⟩ | ⟨_, _, hy'⟩
      · exact h.at'.down i b x y hi (by omega) hx' hb
      · exact h.at'.down i a x y hi hi hx' ha
      · exact h.at'.down i j x y hi hij hx' hy'
  · rcases get a x hx with ⟨_, rfl⟩ | ⟨e, _, hne⟩ | ⟨hne, _⟩
    · rcases get j y hy with ⟨e, _⟩ | ⟨_, rfl, _⟩ | ⟨_, hne, hy'⟩
      · omega
      · omega
      · have := h.top j ya y h1 (by omega) ha hy'
        omega
    · exact absurd rfl hne
    · exact absurd rfl hne
theorem ExIn.done {out ys : List Int} {a : Nat} (h : ExIn out a ys.length ys) : ExAt out (a + 1) ys :=
  ⟨h.at'.perm, fun i j x y hi hij hx hy => by
    have hj := (List.getElem?_eq_some_iff.1 hy).1
    by_cases he : i = a
    · subst he
      exact h.top j x y hij hj hx hy
    · exact h.at'.down i j x y (by omega) hij hx hy⟩
theorem ExAt.done {out ys : List Int} (h : ExAt out ys.length ys) : ys = downL out := by
  refine down_unique h.perm ?_
  rw [List.pairwise_iff_getElem]
  intro i j hi hj hij
  exact h.down i j _ _ hi hij (List.getElem?_eq_getElem hi) (List.getElem?_eq_getElem hj)
theorem ExAt.len {out ys : List Int} {a : Nat} (h : ExAt out a ys) : ys.length = out.length := h.perm.length_eq
end Go.Proofs.Ytkaofcakelpnpaa

/- CycleType of the reference. -/
namespace Go.Proofs.Ytkaofcakelpnpaa
set_option linter.unusedVariables false
set_option linter.unusedSimpArgs false
open Go.RowKit

set_option maxRecDepth 100000 in
set_option maxHeartbeats 6400000 in
theorem spec_CycleType (A : Option Addr) (p : List Int) (c B : Nat) (w : World) (hr : Rs w B A (ints p)) (hB : B ≤ w.heap.size) (hlp : p.length ≤ 1048576) (res : List Int) (hres : CycIs p res) :
    Calls Try.prog 18 #[.slice A p.length c] w fun e w' => RetI 3 res w e w' := by
  have HRES := Lib.hid hres
  clear hres
  have hmx : p.length ≤ maxLen := by unfold maxLen; omega
  have hb0 := (Below.refl w.heap.size w).alloc (Nat.le_refl _) (.cells #[] 3)
  have ho0 := owns_empty w 3 1
  have hsa : w.heap.size < (w.alloc (.cells #[] 3)).heap.size := by simp
  by_cases hp : IsPerm p
  · have HP := Lib.hid hp
    clear hp
    go_enter Try.func18, Try.ntmps18
    go_wp2_with (at_make; refine wpList_mk rfl _ _ 40 rfl 4 (.bool false) 1 undSB infoB rfl .i64 .i64 _ _ p.length rfl rfl rfl rfl (by omega) hmx ?_; intro w2 hown2 hgr2 hsz2)
    have hb2 := hb0.grown hgr2 hb0.size (by intro g h; cases h)
    have ho2 := ho0.kept hgr2 (.inr (by simp [Value.ownBlock]))
    have hs2 := hb2.size
    obtain ⟨gs, hgs⟩ : ∃ gs, gs = (w.alloc (.cells #[] 3)).heap.size := ⟨_, rfl⟩
    have hgs1 : w.heap.size ≤ gs := by rw [hgs]; simp
    simp only [← hgs] at hown2
    have HG := Lib.hid hgs
    simp only [World.size_alloc] at hgs
    subst hgs
    clear ho0 hgr2 HG hsz2 hsa
    go_loopw [3, 5, 6, 7] (fun v i _ _ wr => ∃ (k : Nat) (vis out : List Int) (Ao : Option Addr) (co : Nat), k ≤ p.length ∧ i = .int .i64 k ∧ v = .slice Ao out.length co ∧ CycOut p k vis out ∧ wr.ownsRow w.heap.size 3 1 (.slice Ao out.length co) out.length (ints out) ∧ wr.ownsRow (w.heap.size + 1) 4 1 (.slice (some ⟨w.heap.size + 1, 0, none⟩) p.length p.length) p.length (seenOf p.length vis) ∧ Below w.heap.size w wr) (fun _ i _ _ _ => p.length - (intOf i).toNat)
    case atStart => exact ⟨0, [], [], _, _, Nat.zero_le _, rfl, rfl, CycOut.zero p, by simpa [ints] using ho2, by rw [seenOf_nil]; exact hown2, hb2⟩
    case round =>
      clear ho2 hown2 hb2 hs2
      obtain ⟨k, vis, out, Ao, co, hk, rfl, rfl, hco, hown, hseen, hb⟩ := hrel
      have HCO := Lib.hid hco
      have hol := hco.len
      clear hco
      have hsz := hb.size
      by_cases hlt : k < p.length
      · have hlt3 : (k : Int) < (p.length : Int) := by omega
        go_wp2_with fail
        with_reducible refine (spec_IsPermutation A p c _ _ ((hr.more hB).below hb) hlp true (iff_of_true rfl HP.out)).mono ?_
        rintro e w' ⟨rfl, nd, rfl⟩
        have hown' := owns_drewN hown nd
        have hseen' := owns_drewN hseen nd
        have hb' := below_drewN hb nd
        go_wp2_with fail
        go_loopw [6, 7] (fun nv xv wr2 => ∃ (f : Nat) (vis' : List Int) (x n : Nat), nv = .int .i64 n ∧ xv = .int .i64 x ∧ CycAt p vis k f vis' x n ∧ wr2.ownsRow w.heap.size 3 1 (.slice Ao out.length co) out.length (ints out) ∧ wr2.ownsRow (w.heap.size + 1) 4 1 (.slice (some ⟨w.heap.size + 1, 0, none⟩) p.length p.length) p.length (seenOf p.length vis') ∧ Below w.heap.size w wr2) (fun nv _ _ => p.length + 1 - (intOf nv).toNat)
        case atStart => exact ⟨p.length + 1, vis, k, 0, rfl, rfl, CycAt.start HCO.out.hv hlt, hown', hseen', hb'⟩
        case round =>
          clear hown hseen hb hsz hown' hseen' hb'
          obtain ⟨f, vis', x, n, rfl, rfl, hat, hown, hseen, hb⟩ := hrel
          have HAT := Lib.hid hat
          have hxl := hat.hx
          have hnl : n ≤ p.length := by have := hat.cnt; have := hat.hv.le; omega
          clear hat
          have hsz := hb.size
          have hx0 : (0 : Int) ≤ (x : Int) := by omega
          have hxl3 : (x : Int) < (p.length : Int) := by omega
          have hfz := hseen.frozenAt x
          by_cases hm : (x : Int) ∈ vis'
          · have hcs := (hseen.cellAt x (by omega)).trans (seenOf_get hxl)
            rw [decide_eq_true hm] at hcs
            have HM := Lib.hid hm
            clear hm
            have HN := Lib.hid (HCO.out.succ HAT.out HM.out)
            by_cases hn0 : 0 < n
            · have hn3 : (0 : Int) < (n : Int) := by omega
              have hn4 : ¬ (n : Int) ≤ 0 := by omega
              go_wp2_with (at_builtin; refine wpList_push rfl _ _ 24 rfl w.heap.size 3 (.int .i64 0) 1 8 undSI infoI rfl (by decide) _ _ _ rfl hown 1 [.int .i64 n] rfl rfl (one_of_ints [(n : Int)]) ?c2 ?c3 hsz ?n1)
              case c2 => unfold maxLen; omega
              case c3 => omega
              case n1 =>
                intro v' w3 hown3 hgr3 _
                obtain ⟨A3, c3, rfl, -, -⟩ := owns_shape hown3
                go_wp2_with fail
                go_roundw
                case rel =>
                  have h2 := HN.out
                  rw [if_pos hn0] at h2
                  refine ⟨k + 1, vis', out ++ [(n : Int)], A3, c3, by omega, by go_num, by simp, h2, ?_, ?_, hb.grown hgr3 hsz (fun g hg => (hown.lt g hg).1)⟩
                  · rw [ints_append, List.length_append]; exact hown3
                  · exact hseen.kept hgr3 (owns_ne hseen hown (by decide))
                case measure => simp [intOf]; omega
            · obtain rfl : n = 0 := by omega
              go_wp2_with fail
              go_roundw
              case rel =>
                have h2 := HN.out
                rw [if_neg hn0] at h2
                exact ⟨k + 1, vis', out, Ao, co, by omega, by go_num, rfl, h2, hown, hseen, hb⟩
              case measure => simp [intOf]; omega
          · have hcs := (hseen.cellAt x (by omega)).trans (seenOf_get hxl)
            rw [decide_eq_false hm] at hcs
            obtain ⟨f', rfl, hst⟩ := HAT.out.step HP.out.2.1 hm
            have HST := Lib.hid hst
            have hnl2 : n + 1 ≤ p.length := by have := hst.cnt; have := hst.hv.le; omega
            clear hm hst
            obtain ⟨b, off, y, rfl, hbB, hy, hc⟩ := ((hr.more hB).below hb).int hxl
            have hyr := HP.out.2.1 y (List.mem_of_getElem? hy)
            obtain ⟨m, rfl⟩ : ∃ m : Nat, y = (m : Int) := ⟨y.toNat, by omega⟩
            have hgd : (p.getD x 0).toNat = m := by rw [List.getD_eq_getElem?_getD, hy]; simp
            have HGD := Lib.hid hgd
            have hset := owns_set hseen x (.bool true) (seenOf_set hxl)
            have hbs := hb.setCell (Nat.le_succ w.heap.size) (.bool true) (p := ⟨w.heap.size + 1, x, none⟩)
            have hos := hown.kept (grown_of_setCell wr (w.heap.size + 1) x (.bool true)) (owns_ne hown hseen (by decide))
            have hcp : (wr.setCell ⟨w.heap.size + 1, x, none⟩ (.bool true)).cell? ⟨b, off + x, none⟩ = some (.int .i64 m) := (World.cell?_setCell_other wr _ _ _ (by intro e; injection e with e; omega)).trans hc
            clear hy hgd
            go_wp2_with fail
            go_roundw
            case rel => exact ⟨f', vis' ++ [(x : Int)], m, n + 1, by go_num, rfl, by rw [← HGD.out]; exact HST.out, hos, hset, hbs⟩
            case measure => simp [intOf]; omega
      · obtain rfl : k = p.length := by omega
        have hres2 : res = cyc p := HRES.out.1 HP.out
        have hcy : cyc p = downL out := by unfold cyc; rw [HCO.out.st]
        have HCY := Lib.hid (hres2.trans hcy)
        have hout : out.length ≤ 1048576 := by omega
        clear hres2 hcy hseen
        go_wp2_with fail
        go_loopw [8, 9, 10] (fun i _ _ wr2 => ∃ (a : Nat) (ys : List Int), a ≤ out.length ∧ i = .int .i64 a ∧ ExAt out a ys ∧ wr2.ownsRow w.heap.size 3 1 (.slice Ao out.length co) out.length (ints ys) ∧ Below w.heap.size w wr2) (fun i _ _ _ => out.length - (intOf i).toNat)
        case atStart => exact ⟨0, out, Nat.zero_le _, rfl, ExAt.zero out, hown, hb⟩
        case round =>
          clear hown hb hsz
          obtain ⟨a, ys, ha, rfl, hex, hown, hb⟩ := hrel
          have HEX := Lib.hid hex
          have hyl := hex.len
          have HYL := Lib.hid hyl
          clear hex hyl
          have hsz := hb.size
          by_cases hla : a < out.length
          · have hla3 : (a : Int) < (out.length : Int) := by omega
            go_wp2_with fail
            go_loopw [9, 10] (fun j _ wr3 => ∃ (b : Nat) (zs : List Int), a < b ∧ b ≤ out.length ∧ j = .int .i64 b ∧ ExIn out a b zs ∧ wr3.ownsRow w.heap.size 3 1 (.slice Ao out.length co) out.length (ints zs) ∧ Below w.heap.size w wr3) (fun j _ _ => out.length - (intOf j).toNat)
            case atStart => exact ⟨a + 1, ys, Nat.lt_succ_self _, hla, by go_num, ExIn.start HEX.out, hown, hb⟩
            case round =>
              clear hown hb hsz
              obtain ⟨b, zs, hab, hbl, rfl, hin, hown, hb⟩ := hrel
              have HIN := Lib.hid hin
              have hzl := hin.at'.len
              have HZL := Lib.hid hzl
              have hsz := hb.size
              by_cases hlb : b < out.length
              · obtain ⟨ya, hya⟩ := get_of_lt zs (show a < zs.length by omega)
                obtain ⟨yb, hyb⟩ := get_of_lt zs (show b < zs.length by omega)
                obtain ⟨g, rfl, hg1, hg2⟩ := owns_addr hown (by omega)
                have hca := (hown.cellAt a (by omega)).trans (by rw [ints_get, hya]; rfl : (ints zs)[a]? = some (.int .i64 ya))
                have hcb := (hown.cellAt b (by omega)).trans (by rw [ints_get, hyb]; rfl : (ints zs)[b]? = some (.int .i64 yb))
                have hfa := hown.frozenAt a
                have hfb := hown.frozenAt b
                have HYA := Lib.hid hya
                have HYB := Lib.hid hyb
                have hlb3 : (b : Int) < (out.length : Int) := by omega
                have ha0 : (0 : Int) ≤ (a : Int) := by omega
                have hb00 : (0 : Int) ≤ (b : Int) := by omega
                clear hin hzl hya hyb
                by_cases hgt : ya < yb
                · have hne : (wr.setCell ⟨g, b, none⟩ (.int .i64 ya)).frozen? ⟨g, a, none⟩ = false := by rw [World.frozen?_setCell]; exact hfa
                  have hs1 := owns_set hown b (.int .i64 ya) rfl
                  have hcu := (hs1.cellAt a (by omega)).trans (by rw [List.getElem?_set_ne (by omega), ints_get, HYA.out]; rfl : ((ints zs).set b (.int .i64 ya))[a]? = some (.int .i64 ya))
                  have hs2 := owns_set hs1 a (.int .i64 yb) (ys := ints ((zs.set b ya).set a yb)) (by simp [ints, List.map_set])
                  have HS2 := Lib.hid hs2
                  clear hs1 hs2
                  go_wp2_with fail
                  go_quiet (fail)
                  go_wp2_with fail
                  go_roundw
                  case rel => exact ⟨b + 1, (zs.set b ya).set a yb, by omega, hlb, by go_num, HIN.out.swap hab HYA.out HYB.out hgt, by first | exact owns_drewN HS2.out _ | exact HS2.out, by first | exact below_drewN ((hb.setCell hg1 _).setCell hg1 _) _ | exact (below_drewN hb _).setCell hg1 _ |>.setCell hg1 _⟩
                  case measure => simp [intOf]; omega
                · go_wp2_with fail
                  go_quiet (fail)
                  go_wp2_with fail
                  go_roundw
                  case rel => exact ⟨b + 1, zs, by omega, hlb, by go_num, HIN.out.keep HYA.out HYB.out (by omega), owns_drewN hown _, below_drewN hb _⟩
                  case measure => simp [intOf]; omega
              · obtain rfl : b = out.length := by omega
                go_wp2_with fail
                go_roundw
                case rel =>
                  have h3 := HIN.out
                  rw [← HZL.out] at h3
                  exact ⟨a + 1, zs, by omega, by go_num, h3.done, hown, hb⟩
                case measure => simp [intOf]; omega
          · obtain rfl : a = out.length := by omega
            go_wp2_with fail
            go_ret
            have h3 := HEX.out
            rw [← HYL.out] at h3
            have h4 := h3.done
            rw [h4, ← HCY.out] at hown
            have hln := hown.1
            rw [ints_len] at hln
            exact RetI.mk (by omega) hown hb
  · have HN := Lib.hid hp
    obtain rfl : res = [] := HRES.out.2 hp
    have hpl : 0 < p.length := by
      rcases Nat.eq_zero_or_pos p.length with h | h
      · have := List.eq_nil_of_length_eq_zero h
        subst this
        exact absurd ⟨by simp, by simp, by simp⟩ hp
      · exact h
    have hpl3 : (0 : Int) < (p.length : Int) := by omega
    clear hp HRES
    go_enter Try.func18, Try.ntmps18
    go_wp2_with (at_make; refine wpList_mk rfl _ _ 40 rfl 4 (.bool false) 1 undSB infoB rfl .i64 .i64 _ _ p.length rfl rfl rfl rfl (by omega) hmx ?_; intro w2 hown2 hgr2 hsz2)
    have hb2 := hb0.grown hgr2 hb0.size (by intro g h; cases h)
    have ho2 := ho0.kept hgr2 (.inr (by simp [Value.ownBlock]))
    clear hown2 hgr2 hsz2 ho0 hb0
    go_loopw [3, 5, 6, 7] (fun v i _ _ wr => v = .slice (some ⟨w.heap.size, 0, none⟩) 0 0 ∧ i = .int .i64 0 ∧ wr.ownsRow w.heap.size 3 1 (.slice (some ⟨w.heap.size, 0, none⟩) 0 0) 0 [] ∧ Below w.heap.size w wr) (fun _ i _ _ _ => p.length - (intOf i).toNat)
    case atStart => exact ⟨rfl, rfl, ho2, hb2⟩
    case round =>
      clear ho2 hb2
      obtain ⟨rfl, rfl, ho, hb⟩ := hrel
      go_wp2_with fail
      with_reducible refine (spec_IsPermutation A p c _ _ ((hr.more hB).below hb) hlp false (iff_of_false Bool.false_ne_true HN.out)).mono ?_
      rintro e w' ⟨rfl, nd, rfl⟩
      have ho' := owns_drewN ho nd
      have hb' := below_drewN hb nd
      go_wp2_with fail
      go_loopw [8, 9, 10] (fun i _ _ wr2 => i = .int .i64 0 ∧ wr2.ownsRow w.heap.size 3 1 (.slice (some ⟨w.heap.size, 0, none⟩) 0 0) 0 [] ∧ Below w.heap.size w wr2) (fun i _ _ _ => 0)
      case atStart => exact ⟨rfl, ho', hb'⟩
      case round =>
        obtain ⟨rfl, ho2, hb2⟩ := hrel
        go_wp2_with fail
        go_ret
        exact RetI.mk rfl ho2 hb2
end Go.Proofs.Ytkaofcakelpnpaa
