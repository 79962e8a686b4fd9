/- Contracts and lemmas of this seat, many texts in one: see the words ahead of each. No condition beyond those typed in each lemma. -/
import Derived.WalkKit
import Derived.WalkSpells
import Derived.WalkLawsBesides
import Derived.Maps.AppendAt
import Derived.Lib.Hide
import Derived.Deep.Draws
import Derived.Deep.QuietTactic
import Derived.BigQuiet
import Derived.Test.YtimmnnncgnnkgaaRows
import Derived.Shelf.Small.Wraps
import Derived.Shelf.Sort.Plain
import Derived.Ground.Names2Prog
import Derived.Shelf.Slices.CompactI
import Derived.Shelf.Slices.Cells
import Derived.Shelf.Slices.In.SortNone
import Derived.Test.YtimmnnncgnnkgaaProg
import Derived.Lib.OwnBridge
import Derived.Shelf.SlGeneric
import Derived.Shelf.SlSortCmp.WholeK
import Derived.Shelf.SlicesQ.Contains
import Derived.Shelf.SlicesQ.Equal
import Derived.Ground.SlsfProg
import Derived.Ground.SlgqProg
import Derived.Deep.AppendLies
import Derived.RegionTactic
import Derived.Deep.Matrix
import Derived.Lib.SmallJoins
import Derived.ProofKit
import Derived.OpenShut
import Derived.ShutString
import Derived.ChangeOld

/- Words and lemmas on memory for all walks of this seat: a slice that reads as a list of cells, frames by sets of blocks, append and make on rows of the call's own. No condition beyond those typed in each lemma. -/
namespace Go.Proofs.Ytimmnnncgnnkgaa
set_option linter.unusedVariables false
set_option linter.unusedSimpArgs false
open Go.RowKit

/-- A list of ints as cells. -/
def ints (xs : List Int) : List Value := xs.map (Value.int .i64)
theorem ints_len (xs : List Int) : (ints xs).length = xs.length := by simp [ints]
theorem ints_append (xs ys : List Int) : ints (xs ++ ys) = ints xs ++ ints ys := by simp [ints]
theorem ints_get (xs : List Int) (k : Nat) : (ints xs)[k]? = (xs[k]?).map (Value.int .i64) := by simp [ints]

/-- The address A leads to the cells cs, all below block B (nothing is said where cs is empty). -/
def Rs (w : World) (B : Nat) (A : Option Addr) (cs : List Value) : Prop :=
  cs ≠ [] → ∃ b off, A = some ⟨b, off, none⟩ ∧ b < B ∧ ∀ j u, cs[j]? = some u → w.cell? ⟨b, off + j, none⟩ = some u

section
variable {w w' w0 : World} {B B' : Nat} {A : Option Addr} {cs : List Value}
theorem Rs.nil : Rs w B A [] := fun h => absurd rfl h
theorem Rs.keep (h : Rs w B A cs) (hk : ∀ p : Addr, p.block < B → w'.cell? p = w.cell? p) : Rs w' B A cs := fun hn => by
  obtain ⟨b, off, e, hb, hc⟩ := h hn
  exact ⟨b, off, e, hb, fun j u hu => (hk _ hb).trans (hc j u hu)⟩
theorem Rs.more (h : Rs w B A cs) (hB : B ≤ B') : Rs w B' A cs := fun hn => by
  obtain ⟨b, off, e, hb, hc⟩ := h hn
  exact ⟨b, off, e, by omega, hc⟩
theorem Rs.below (h : Rs w B A cs) (hb : Below B w w') : Rs w' B A cs := h.keep fun _ hp => hb.cell hp
theorem Rs.drew (h : Rs w B A cs) : Rs w.drew B A cs := h
theorem Rs.drewN (h : Rs w B A cs) (k : Nat) : Rs (w.drewN k) B A cs := h
theorem Rs.alloc (h : Rs w B A cs) (hB : B ≤ w.heap.size) (o : Obj) : Rs (w.alloc o) B A cs := h.keep fun p hp => World.cell?_alloc_lt w o p (by omega)
theorem Rs.setCell (h : Rs w B A cs) {p : Addr} (hB : B ≤ p.block) (u : Value) : Rs (w.setCell p u) B A cs :=
  h.keep fun q hq => World.cell?_setCell_other w p q u (fun e => by subst e; omega)
theorem Rs.grown (h : Rs w B A cs) {row : Option Nat} (hg : w.grownBy w' row) (hB : B ≤ w.heap.size) (hr : ∀ g, row = some g → B ≤ g) : Rs w' B A cs :=
  h.keep fun p hp => World.cell?_of_block (hg.block p.block (by omega) (fun e => by have := hr _ e.symm; omega))
theorem Rs.of_own {base : Nat} {e : TypeId} {size n c : Nat} (h : w.ownsRow base e size (.slice A n c) n cs) : Rs w w.heap.size A cs := fun hn => by
  rcases h.2 with ⟨hv, h0⟩ | ⟨g, cap, cur, hv, hg, hh, hnc, hcm, hcs, htake⟩
  · subst h0
    exact absurd (List.eq_nil_of_length_eq_zero (by simpa using h.1)) hn
  · injection hv with hA _ hc
    subst hA
    subst hc
    refine ⟨g, 0, rfl, (Array.getElem?_eq_some_iff.1 hh).1, fun j u hu => ?_⟩
    rw [Nat.zero_add]
    have hjl := (List.getElem?_eq_some_iff.1 hu).1
    rw [h.cellAt j (by have := h.1; omega)]
    exact hu
/-- The cell at place j. -/
theorem Rs.at (h : Rs w B A cs) {j : Nat} (hj : j < cs.length) : ∃ b off u, A = some ⟨b, off, none⟩ ∧ b < B ∧ cs[j]? = some u ∧ w.cell? ⟨b, off + j, none⟩ = some u := by
  obtain ⟨b, off, e, hb, hc⟩ := h (by intro h0; subst h0; simp at hj)
  exact ⟨b, off, cs[j], e, hb, List.getElem?_eq_getElem hj, hc j _ (List.getElem?_eq_getElem hj)⟩
/-- A cut x[k:], whatever its end. -/
theorem Rs.drop (h : Rs w B A cs) {k n cap : Nat} (size : Nat) (hn : cs.length = n * size) (hc : n ≤ cap) :
    Rs w B (if cap = k then A else A.map (·.add (k * size))) (cs.drop (k * size)) := by
  intro hne
  have hlt : k * size < cs.length := by
    rcases Nat.lt_or_ge (k * size) cs.length with h1 | h1
    · exact h1
    · exact absurd (List.drop_eq_nil_of_le h1) hne
  obtain ⟨b, off, rfl, hb, hcell⟩ := h (by intro h0; subst h0; simp at hlt)
  have hk : ¬ cap = k := by
    intro e
    subst e
    rw [hn] at hlt
    exact absurd (Nat.lt_of_mul_lt_mul_right hlt) (by omega)
  rw [if_neg hk]
  refine ⟨b, off + k * size, ?_, hb, fun j u hu => ?_⟩
  · simp [Addr.add]
  · rw [Nat.add_assoc]
    exact hcell _ u (by rw [← hu, List.getElem?_drop])
theorem Rs.take (h : Rs w B A cs) (k : Nat) : Rs w B A (cs.take k) := fun hne => by
  obtain ⟨b, off, e, hb, hc⟩ := h (by intro h0; subst h0; simp at hne)
  refine ⟨b, off, e, hb, fun j u hu => hc j u ?_⟩
  rw [List.getElem?_take] at hu
  split at hu
  · exact hu
  · cases hu
end

/-! ### Frames -/

theorem below_of_grown {w w' : World} {row : Option Nat} (hg : w.grownBy w' row) {B : Nat} (hB : B ≤ w.heap.size) (hr : ∀ g, row = some g → B ≤ g) : Below B w w' :=
  (Below.refl B w).grown hg hB hr
theorem below_none {w w' : World} (hg : w.grownBy w' none) : Below w.heap.size w w' := below_of_grown hg (Nat.le_refl _) (by intro g h; cases h)
theorem below_drewN {B : Nat} {a w : World} (h : Below B a w) (n : Nat) : Below B a (w.drewN n) := ⟨h.os, h.tape, h.output, h.size, h.block⟩
theorem grown_trans {a b c : World} {row : Option Nat} (h : a.grownBy b row) (k : b.grownBy c row) : a.grownBy c row :=
  ⟨k.os.trans h.os, k.tape.trans h.tape, k.output.trans h.output, Nat.le_trans h.size k.size,
    fun i hi hn => (k.block i (Nat.lt_of_lt_of_le hi h.size) hn).trans (h.block i hi hn)⟩
theorem grown_drew (w : World) (row : Option Nat) : w.grownBy w.drew row := ⟨rfl, rfl, rfl, Nat.le_refl _, fun _ _ _ => rfl⟩

section
variable {w w' : World} {base : Nat} {e : TypeId} {size : Nat} {v : Value} {n : Nat} {xs : List Value}
theorem owns_below {C : Nat} (h : w.ownsRow base e size v n xs) (hb : Below C w w') (hC : ∀ g, v.ownBlock = some g → g < C) : w'.ownsRow base e size v n xs := by
  refine ⟨h.1, ?_⟩
  rcases h.2 with hn | ⟨g, cap, cur, rfl, hbg, hgg, rest⟩
  · exact .inl hn
  · exact .inr ⟨g, cap, cur, rfl, hbg, (hb.block g (hC g rfl)).trans hgg, rest⟩
theorem owns_belowS (h : w.ownsRow base e size v n xs) (hb : Below w.heap.size w w') : w'.ownsRow base e size v n xs :=
  owns_below h hb fun g hg => (h.lt g hg).2
theorem owns_base {base' : Nat} (h : w.ownsRow base e size v n xs) (hb : base' ≤ base) : w.ownsRow base' e size v n xs := by
  refine ⟨h.1, ?_⟩
  rcases h.2 with hn | ⟨g, cap, cur, rfl, hbg, rest⟩
  · exact .inl hn
  · exact .inr ⟨g, cap, cur, rfl, by omega, rest⟩
/-- The shape of an owned value. -/
theorem owns_shape (h : w.ownsRow base e size v n xs) : ∃ A c, v = .slice A n c ∧ n ≤ c ∧ c ≤ maxLen := by
  rcases h.2 with ⟨rfl, rfl⟩ | ⟨g, cap, cur, rfl, _, _, hnc, hcm, _⟩
  · exact ⟨none, 0, rfl, Nat.le_refl _, Nat.zero_le _⟩
  · exact ⟨_, cap, rfl, hnc, hcm⟩
end

theorem owns_empty (w : World) (e : TypeId) (size : Nat) : (w.alloc (.cells #[] e)).ownsRow w.heap.size e size (.slice (some ⟨w.heap.size, 0, none⟩) 0 0) 0 [] :=
  World.ownsRow_lit (size := size) w #[] 0 (Nat.le_refl _) (Nat.zero_le _) (by simp)

theorem owns_drewN {w : World} {base : Nat} {e : TypeId} {size : Nat} {v : Value} {n : Nat} {xs : List Value} (h : w.ownsRow base e size v n xs) (k : Nat) : (w.drewN k).ownsRow base e size v n xs := h

theorem dn (w : World) (a b : Nat) : (w.drewN a).drewN b = w.drewN (a + b) := World.drewN_drewN _ _ _
theorem owns_row {w w' : World} {row : Option Nat} {n : Nat} (h : (w.drewN n).grownBy w' row) : w.grownBy w' row := ⟨h.os, h.tape, h.output, h.size, h.block⟩

/-- A call hands back a new slice that reads xs; nothing that was there has turned. -/
def RetI (eI : TypeId) (xs : List Int) (w : World) (e : Ending) (w' : World) : Prop :=
  ∃ A c, e = .returned (.slice A xs.length c) ∧ w'.ownsRow w.heap.size eI 1 (.slice A xs.length c) xs.length (ints xs) ∧ Below w.heap.size w w'
theorem RetI.mk {eI : TypeId} {xs : List Int} {w w' : World} {v : Value} {n : Nat} (hn : xs.length = n) (h : w'.ownsRow w.heap.size eI 1 v n (ints xs)) (hb : Below w.heap.size w w') : RetI eI xs w (.returned v) w' := by
  subst hn
  obtain ⟨A, c, rfl, -, -⟩ := owns_shape h
  exact ⟨A, c, rfl, h, hb⟩

/-! ### append of new cells that the call has just laid in a block of their own -/

section
variable {P : Program} {W : World} {ops : Array Oper} {rest : List Oper} {o : Oper} {a : Act} {Q : Exit → Act → World → Prop}
theorem wpList_push (hgd : o.guard = none) (s x : Operand) (t : TypeId)
    (ho : o.op = .call { callee := .builtin .append, args := #[s, x], argTypes := #[t, t] })
    (base : Nat) (e : TypeId) (z : Value) (size bytes : Nat) (ht : P.underlying t = some (.slice e)) (hinfo : (P.info? e).map (fun i => (i.zero, i.size, i.bytes)) = some (some z, size, bytes))
    (hzs : z.cells.size = size) (hsz : 0 < size)
    (v : Value) (n : Nat) (xs : List Value) (hs : a.eval s = v) (hown : W.ownsRow base e size v n xs)
    (m : Nat) (news : List Value) (hx : a.eval x = .slice (some ⟨W.heap.size, 0, none⟩) m m) (hl : news.length = m * size) (h1 : ∀ u ∈ news, u.oneCell' = true)
    (h63 : n + m ≤ maxLen) (hbytes : (n + m) * bytes ≤ 140737488355328) (hbase : base ≤ W.heap.size)
    (h : ∀ v' w', w'.ownsRow base e size v' (n + m) (xs ++ news) → W.grownBy w' v.ownBlock → (v'.ownBlock = v.ownBlock ∨ v'.ownBlock = some (W.heap.size + 1)) → wpList P ops Q rest (a.put o.dst v') w') :
    wpList P ops Q (o :: rest) a (W.alloc (.cells news.toArray e)) := by
  obtain ⟨i, hi, hz, hsize, hby⟩ := info_parts hinfo
  refine wpList_append_own_at _ hgd s x t ho base e i z size bytes ht hi hz hsize hby hzs hsz v n xs hs (hown.alloc _) ⟨W.heap.size, 0, none⟩ m m news hx hl ?_ h1 h63 hbytes (by simp; omega) ?_
  · intro j u hu
    rw [Addr.add_lit, Nat.zero_add, World.cell?_alloc_new]
    simpa using hu
  · intro v' w' h2 h3 _ h4
    exact h v' w' h2 (grown_trans (World.grownBy_alloc W _ _) h3) (by simpa using h4)

theorem run_append_none (base : Nat) (t ty e : TypeId) (i : TypeInfo) (size : Nat) (ht : P.underlying t = some (.slice e)) (hi : P.info? e = some i)
    (v : Value) (n : Nat) (xs : List Value) (hown : W.ownsRow base e size v n xs) (c : Nat) : (Builtin.append_ #[t, t] ty #[v, .slice none 0 c]).run P W = .ok v W := by
  rcases hown.2 with ⟨rfl, rfl⟩ | ⟨g, cap, cur, rfl, _, _, hnc, _⟩
  · simp [Builtin.append_, run_underlying ht, sizeOf, typeInfo, hi, Builtin.lenOf, Builtin.firstCells]
  · simp [Builtin.append_, run_underlying ht, sizeOf, typeInfo, hi, Builtin.lenOf, Builtin.firstCells, hnc, storeCells]
/-- append(out, xs...): xs wherever it lies, nil and empty too. -/
theorem wpList_cat (hgd : o.guard = none) (s x : Operand) (t : TypeId)
    (ho : o.op = .call { callee := .builtin .append, args := #[s, x], argTypes := #[t, t] })
    (base : Nat) (e : TypeId) (z : Value) (size bytes : Nat) (ht : P.underlying t = some (.slice e)) (hinfo : (P.info? e).map (fun i => (i.zero, i.size, i.bytes)) = some (some z, size, bytes))
    (hzs : z.cells.size = size) (hsz : 0 < size)
    (v : Value) (n : Nat) (xs : List Value) (hs : a.eval s = v) (hown : W.ownsRow base e size v n xs)
    (A : Option Addr) (m c B : Nat) (news : List Value) (hx : a.eval x = .slice A m c) (hr : Rs W B A news) (hl : news.length = m * size) (h1 : ∀ u ∈ news, u.oneCell' = true)
    (h63 : n + m ≤ maxLen) (hbytes : (n + m) * bytes ≤ 140737488355328) (hbase : base ≤ W.heap.size)
    (h : ∀ v' w', w'.ownsRow base e size v' (n + m) (xs ++ news) → W.grownBy w' v.ownBlock → (v'.ownBlock = v.ownBlock ∨ v'.ownBlock = some W.heap.size) → wpList P ops Q rest (a.put o.dst v') w') :
    wpList P ops Q (o :: rest) a W := by
  obtain ⟨i, hi, hz, hsize, hby⟩ := info_parts hinfo
  cases A with
  | none =>
    have hn : news = [] := by
      cases hne : news with
      | nil => rfl
      | cons u r =>
        obtain ⟨b, off, he, _⟩ := hr (by rw [hne]; simp)
        cases he
    subst hn
    have hm : m = 0 := by
      rcases Nat.eq_zero_or_pos m with h0 | h0
      · exact h0
      · have := Nat.mul_pos h0 hsz
        simp at hl
        omega
    subst hm
    refine wpList_plain hgd fun K hK => ?_
    have hrun := run_append_none (P := P) (W := W) base t o.type e i size ht hi v n xs hown c
    unfold Oper.wp
    simp [execOp, ho, resolve, invoke, builtin, hs, hx, hrun, Result.andThen]
    exact hK _ _ (h v W (by simpa using hown) (World.grownBy.refl W _) (Or.inl rfl))
  | some ad =>
    refine wpList_append_own_at _ hgd s x t ho base e i z size bytes ht hi hz hsize hby hzs hsz v n xs hs hown ad m c news hx hl ?_ h1 h63 hbytes hbase ?_
    · intro j u hu
      obtain ⟨b, off, he, _, hc⟩ := hr (by intro h0; subst h0; simp at hu)
      injection he with he
      subst he
      rw [Addr.add_lit]
      exact hc j u hu
    · intro v' w' h2 h3 _ h4
      exact h v' w' h2 h3 h4
/-- make([]T, n), T of one cell. -/
theorem wpList_mk (hgd : o.guard = none) (l c : Operand) (t : TypeId) (hop : o.op = Op.makeSlice t l c)
    (e : TypeId) (z : Value) (bytes : Nat) (ht : P.underlying t = some (.slice e)) (hinfo : (P.info? e).map (fun i => (i.zero, i.size, i.bytes)) = some (some z, 1, bytes)) (hz1 : z.cells = #[z])
    (kl kc : IntKind) (L C : Int) (n : Nat) (hl : a.eval l = .int kl L) (hc : a.eval c = .int kc C) (hL : L = (n : Int)) (hC : C = (n : Int)) (b2 : bytes * n ≤ 281474976710656) (b3 : n ≤ maxLen)
    (hK : ∀ w', w'.ownsRow W.heap.size e 1 (.slice (some ⟨W.heap.size, 0, none⟩) n n) n (List.replicate n z) → W.grownBy w' none → W.heap.size < w'.heap.size → wpList P ops Q rest (a.put o.dst (.slice (some ⟨W.heap.size, 0, none⟩) n n)) w') :
    wpList P ops Q (o :: rest) a W := by
  obtain ⟨i, hi, hz, hsize, hby⟩ := info_parts hinfo
  refine wpList_make_full W hgd l c t hop W.heap.size e i z 1 ht hi hz hsize kl kc L C n hl hc hL hC (by rw [hby]; exact b2) b3 (Nat.le_refl _) ?_
  intro w' h1 h2
  rw [hz1, Nat.mul_one, toList_madeCells_one] at h1
  exact hK w' h1 h2 ((h1.lt W.heap.size rfl).2)
end

section
variable {w w' w0 : World} {base B : Nat} {e : TypeId} {g n cap : Nat} {xs ys : List Value}
/-- A store into a row of the call's own. -/
theorem owns_set (h : w.ownsRow base e 1 (.slice (some ⟨g, 0, none⟩) n cap) n xs) (j : Nat) (u : Value) (hy : xs.set j u = ys) :
    (w.setCell ⟨g, j, none⟩ u).ownsRow base e 1 (.slice (some ⟨g, 0, none⟩) n cap) n ys := by
  subst hy
  exact (h.stored j u).1
theorem owns_cell (h : w.ownsRow base e 1 (.slice (some ⟨g, 0, none⟩) n cap) n xs) {j : Nat} (hj : j < n) : ∃ u, xs[j]? = some u ∧ w.cell? ⟨g, j, none⟩ = some u := by
  have hl : j < xs.length := by have := h.1; omega
  exact ⟨xs[j], List.getElem?_eq_getElem hl, (h.cellAt j (by omega)).trans (List.getElem?_eq_getElem hl)⟩
end
theorem set_mid {α : Type} (xs ys : List α) (y x : α) : (xs ++ y :: ys).set xs.length x = (xs ++ [x]) ++ ys := by simp
theorem set_fill {α : Type} (ys : List α) (z u : α) {k n : Nat} (hy : ys.length = k) (h : k < n) : (ys ++ List.replicate (n - k) z).set k u = (ys ++ [u]) ++ List.replicate (n - (k + 1)) z := by
  subst hy
  obtain ⟨m, hm⟩ : ∃ m, n - ys.length = m + 1 := ⟨n - ys.length - 1, by omega⟩
  rw [hm, List.replicate_succ, set_mid, show n - (ys.length + 1) = m from by omega]
theorem owns_addr {w : World} {base : Nat} {e : TypeId} {size : Nat} {A : Option Addr} {n c : Nat} {xs : List Value} (h : w.ownsRow base e size (.slice A n c) n xs) (hn : 0 < n) :
    ∃ g, A = some ⟨g, 0, none⟩ ∧ base ≤ g ∧ g < w.heap.size := by
  rcases h.2 with ⟨_, h0⟩ | ⟨g, cap, cur, hv, hbg, hh, _⟩
  · omega
  · injection hv with hA
    exact ⟨g, hA, hbg, (Array.getElem?_eq_some_iff.1 hh).1⟩
theorem set_over {α : Type} (ys xs : List α) (u : α) {k : Nat} (hy : ys.length = k) (h : k < xs.length) : (ys ++ xs.drop k).set k u = (ys ++ [u]) ++ xs.drop (k + 1) := by
  subst hy
  rw [List.drop_eq_getElem_cons h, set_mid]
theorem grown_setCell {a w : World} {g : Nat} (h : a.grownBy w (some g)) (i : Nat) (u : Value) : a.grownBy (w.setCell ⟨g, i, none⟩ u) (some g) :=
  ⟨h.os, h.tape, h.output, by simpa [World.setCell] using h.size, fun k hk hne => (Below.heap_setCell w _ u k (by rintro rfl; exact hne rfl)).trans (h.block k hk hne)⟩
theorem one_of_ints (xs : List Int) : ∀ u ∈ ints xs, u.oneCell' = true := ints_oneCell .i64 xs
/-- 0, 1, .., k-1 -/
def upto (k : Nat) : List Int := (List.range k).map (fun (i : Nat) => (i : Int))
/-- The marks k, k+1, .. -/
def marks (k : Int) (n : Nat) : List Int := (List.range n).map (fun (i : Nat) => k + (i : Int))
theorem marks_len (k : Int) (n : Nat) : (marks k n).length = n := by simp [marks]
theorem marks_get (k : Int) {n i : Nat} (h : i < n) : (marks k n)[i]? = some (k + i) := by simp [marks, h]
theorem marks_succ (k : Int) (n : Nat) : marks k (n + 1) = marks k n ++ [k + n] := by simp [marks, List.range_succ]
theorem take_succ_of {α : Type} (xs : List α) {k : Nat} {x : α} (h : xs[k]? = some x) : xs.take (k + 1) = xs.take k ++ [x] := by
  rw [List.take_add_one, h]; rfl
theorem drop_of {α : Type} (xs : List α) {k : Nat} {x : α} (h : xs[k]? = some x) : xs.drop k = x :: xs.drop (k + 1) := by
  obtain ⟨hk, rfl⟩ := List.getElem?_eq_some_iff.1 h
  exact List.drop_eq_getElem_cons hk
theorem get_of_lt {α : Type} (xs : List α) {k : Nat} (h : k < xs.length) : ∃ x, xs[k]? = some x := ⟨_, List.getElem?_eq_getElem h⟩
/-- The cell of an int slice at place k. -/
theorem Rs.int {w : World} {B : Nat} {A : Option Addr} {xs : List Int} (h : Rs w B A (ints xs)) {k : Nat} (hk : k < xs.length) :
    ∃ b off x, A = some ⟨b, off, none⟩ ∧ b < B ∧ xs[k]? = some x ∧ w.cell? ⟨b, off + k, none⟩ = some (.int .i64 x) := by
  obtain ⟨b, off, u, e, hb, hu, hc⟩ := h.at (j := k) (by simpa [ints] using hk)
  rw [ints_get] at hu
  obtain ⟨x, hx⟩ := get_of_lt xs hk
  rw [hx] at hu
  simp at hu
  subst hu
  exact ⟨b, off, x, e, hb, hx, hc⟩

/-! ### Calls that only read, inside a region that draws its order -/
section
variable {P : Program} {f : FuncId} {args : Array Value} {v : Value}
theorem qz0 {W : World} {n : Nat} (h : Calls P f args (W.drewN n) fun e w' => e = .returned v ∧ ∃ m, w' = (W.drewN n).drewN m) :
    Calls P f args (W.drewN n) fun e w'' => e = .returned v ∧ ∃ m, w'' = W.drewN m := Calls.quiet_of h
theorem qz1 {w : World} {a n : Nat} (h : Calls P f args (w.drewN (a + n)) fun e w' => e = .returned v ∧ ∃ m, w' = (w.drewN (a + n)).drewN m) :
    Calls P f args (w.drewN (a + n)) fun e w'' => e = .returned v ∧ ∃ m, w'' = w.drewN (a + m) :=
  h.mono fun _ _ ⟨he, m, hm⟩ => ⟨he, n + m, by rw [hm, World.drewN_drewN, Nat.add_assoc]⟩
theorem pq {W : World} (h : Calls P f args W fun e w' => e = .returned v ∧ W = w') : Calls P f args W fun e w' => e = .returned v ∧ ∃ m, w' = W.drewN m :=
  h.mono fun _ _ ⟨he, hw⟩ => ⟨he, 0, hw ▸ rfl⟩
end
end Go.Proofs.Ytimmnnncgnnkgaa

/- Facts on the tables of this seat's program: the element types' rows. -/
namespace Go.Proofs.Ytimmnnncgnnkgaa
set_option linter.unusedVariables false
set_option linter.unusedSimpArgs false
theorem infoI : (Try.prog.info? 3).map (fun i => (i.zero, i.size, i.bytes)) = some (some (.int .i64 0), 1, 8) := by kernel_rfl
theorem undSI : Try.prog.underlying 37 = some (.slice 3) := by kernel_rfl
theorem undI : Try.prog.underlying 3 = some (.int .i64) := by kernel_rfl
theorem cellsI : Try.prog.cellsOf 3 = 1 := by kernel_rfl
end Go.Proofs.Ytimmnnncgnnkgaa

/- Contracts of the small helpers of the laws: copies, comparisons and marks of int slices. -/
namespace Go.Proofs.Ytimmnnncgnnkgaa
set_option linter.unusedVariables false
set_option linter.unusedSimpArgs false
open Go.RowKit

/-- lo ≤ x ≤ hi -/
def inB (x lo hi : Int) : Bool := decide (lo ≤ x) && decide (x ≤ hi)

set_option maxHeartbeats 400000 in
theorem within_any (x lo hi : Int) (w : World) :
    Calls Try.prog 76 #[.int .i64 x, .int .i64 lo, .int .i64 hi] w fun e w' => e = .returned (.bool (inB x lo hi)) ∧ w = w' := by
  go_enter Try.func76, Try.ntmps76
  go_wp2_with fail
  all_goals
    go_ret
    exact ⟨by simp [inB]; omega, rfl⟩

set_option maxHeartbeats 400000 in
theorem l1In_any (x lo hi : Int) (w : World) :
    Calls Try.prog 41 #[.int .i64 x, .int .i64 lo, .int .i64 hi] w fun e w' => e = .returned (.bool (inB x lo hi)) ∧ w = w' := by
  go_enter Try.func41, Try.ntmps41
  go_wp2_with fail
  all_goals
    go_ret
    exact ⟨by simp [inB]; omega, rfl⟩

set_option maxHeartbeats 400000 in
theorem toIntS_any (A : Option Addr) (xs : List Int) (c : Nat) (w : World) (hr : Rs w w.heap.size A (ints xs)) (hl : xs.length ≤ 1048576) :
    Calls Try.prog 98 #[.slice A xs.length c] w fun e w' =>
      e = .returned (.slice (some ⟨w.heap.size, 0, none⟩) xs.length xs.length) ∧
      w'.ownsRow w.heap.size 3 1 (.slice (some ⟨w.heap.size, 0, none⟩) xs.length xs.length) xs.length (ints xs) ∧ Below w.heap.size w w' := by
  have hmx : xs.length ≤ maxLen := by unfold maxLen; omega
  go_enter Try.func98, Try.ntmps98
  go_wp2_with (at_make; refine wpList_mk rfl _ _ 37 rfl 3 (.int .i64 0) 8 undSI infoI rfl .i64 .i64 _ _ xs.length rfl rfl rfl rfl (by omega) hmx ?_; intro w1 hown1 hgr1 hsz1)
  have hb1 := below_none hgr1
  go_loopw [4] (fun i wr => ∃ k : Nat, k ≤ xs.length ∧ i = .int .i64 k ∧ wr.ownsRow w.heap.size 3 1 (.slice (some ⟨w.heap.size, 0, none⟩) xs.length xs.length) xs.length (ints (xs.take k) ++ List.replicate (xs.length - k) (.int .i64 0)) ∧ Below w.heap.size w wr)
    (fun i _ => xs.length - (intOf i).toNat)
  case atStart => exact ⟨0, Nat.zero_le _, rfl, by simpa [ints] using hown1, hb1⟩
  case round =>
    obtain ⟨k, hk, rfl, hown, hb⟩ := hrel
    by_cases hlt : k < xs.length
    · obtain ⟨b, off, x, rfl, hbB, hx, hc⟩ := (hr.below hb).int hlt
      obtain ⟨u, -, hu⟩ := owns_cell hown hlt
      have hfz := hown.frozenAt k
      have HX := Lib.hid hx
      clear hx
      go_wp2_with fail
      go_roundw
      case rel =>
        refine ⟨k + 1, by omega, by go_num, owns_set hown k _ ?_, hb.setCell (Nat.le_refl _) _⟩
        rw [set_fill _ _ _ (by rw [ints_len, List.length_take]; omega) hlt, take_succ_of xs HX.out, ints_append]
        rfl
      case measure => simp [intOf]; omega
    · go_wp2_with fail
      go_ret
      have hkl : k = xs.length := by omega
      subst hkl
      exact ⟨rfl, by simpa using hown, hb⟩

set_option maxHeartbeats 400000 in
/-- Equal lists: eqIntS says yes. -/
theorem eqIntS_same (A A' : Option Addr) (xs : List Int) (c c' B B' : Nat) (w : World) (hr : Rs w B A (ints xs)) (hr' : Rs w B' A' (ints xs)) (hl : xs.length ≤ 1048576) :
    Calls Try.prog 20 #[.slice A xs.length c, .slice A' xs.length c'] w fun e w' => e = .returned (.bool true) ∧ ∃ n, w' = w.drewN n := by
  go_enter Try.func20, Try.ntmps20
  go_wp2_with fail
  go_loopw [5] (fun i wr => ∃ k : Nat, k ≤ xs.length ∧ i = .int .i64 k ∧ ∃ n, wr = w.drewN n) (fun i _ => xs.length - (intOf i).toNat)
  case atStart => exact ⟨0, Nat.zero_le _, rfl, 0, rfl⟩
  case round =>
    obtain ⟨k, hk, rfl, nd, rfl⟩ := hrel
    by_cases hlt : k < xs.length
    · obtain ⟨b, off, x, rfl, -, hx, hc⟩ := hr.int hlt
      obtain ⟨b', off', x', rfl, -, hx', hc'⟩ := hr'.int hlt
      rw [hx] at hx'
      obtain rfl := Option.some.inj hx'
      clear hx hx'
      go_wp2_with fail
      go_quiet (fail)
      go_wp2_with fail
      go_roundw
      case rel => exact ⟨k + 1, by omega, by go_num, _, rfl⟩
      case measure => simp [intOf]; omega
    · go_wp2_with fail
      go_ret
      exact ⟨rfl, _, rfl⟩

set_option maxHeartbeats 400000 in
theorem markIntS_any (A : Option Addr) (xs : List Int) (c base : Nat) (q : Int) (w : World) (ho : w.ownsRow base 3 1 (.slice A xs.length c) xs.length (ints xs)) (hq : 0 ≤ q) (hq2 : q ≤ 16777216) (hl : xs.length ≤ 1048576) :
    Calls Try.prog 21 #[.slice A xs.length c, .int .i64 q] w fun e w' => e = .returned (.int .i64 (q + xs.length)) ∧
      w'.ownsRow base 3 1 (.slice A xs.length c) xs.length (ints (marks q xs.length)) ∧ w.grownBy w' (Value.ownBlock (.slice A xs.length c)) := by
  go_enter Try.func21, Try.ntmps21
  go_wp2_with fail
  go_loopw [1, 5] (fun qv i wr => ∃ k : Nat, k ≤ xs.length ∧ i = .int .i64 k ∧ qv = .int .i64 (q + k) ∧ wr.ownsRow base 3 1 (.slice A xs.length c) xs.length (ints (marks q k) ++ (ints xs).drop k) ∧ w.grownBy wr (Value.ownBlock (.slice A xs.length c)))
    (fun _ i _ => xs.length - (intOf i).toNat)
  case atStart => exact ⟨0, Nat.zero_le _, rfl, by simp, by simpa [marks, ints] using ho, World.grownBy.refl _ _⟩
  case round =>
    obtain ⟨k, hk, rfl, rfl, hown, hg⟩ := hrel
    by_cases hlt : k < xs.length
    · obtain ⟨g, rfl, -, -⟩ := owns_addr hown (by omega)
      obtain ⟨u, -, hu⟩ := owns_cell hown hlt
      have hfz := hown.frozenAt k
      go_wp2_with fail
      go_roundw
      case rel =>
        refine ⟨k + 1, by omega, by go_num, by go_num, owns_set hown k _ ?_, grown_setCell hg _ _⟩
        rw [set_over _ _ _ (by rw [ints_len, marks_len]) (by rw [ints_len]; exact hlt), marks_succ, ints_append]
        rfl
      case measure => simp [intOf]; omega
    · go_wp2_with fail
      go_ret
      have hkl : k = xs.length := by omega
      subst hkl
      rw [List.drop_eq_nil_of_le (by rw [ints_len]; exact Nat.le_refl _), List.append_nil] at hown
      exact ⟨rfl, hown, hg⟩

set_option maxHeartbeats 400000 in
theorem heldIntS_any (A : Option Addr) (n c B : Nat) (q : Int) (w : World) (hr : Rs w B A (ints (marks q n))) (hq : 0 ≤ q) (hq2 : q ≤ 16777216) (hl : n ≤ 1048576) :
    Calls Try.prog 22 #[.slice A n c, .int .i64 q] w fun e w' => e = .returned (.int .i64 (q + n)) ∧ w = w' := by
  go_enter Try.func22, Try.ntmps22
  go_wp2_with fail
  go_loop [1, 5] (fun qv i => ∃ k : Nat, k ≤ n ∧ i = .int .i64 k ∧ qv = .int .i64 (q + k)) (fun _ i => n - (intOf i).toNat)
  case atStart => exact ⟨0, Nat.zero_le _, rfl, by simp⟩
  case round =>
    obtain ⟨k, hk, rfl, rfl⟩ := hrel
    by_cases hlt : k < n
    · obtain ⟨b, off, x, rfl, -, hx, hc⟩ := hr.int (k := k) (by rw [marks_len]; exact hlt)
      rw [marks_get q hlt] at hx
      obtain rfl := Option.some.inj hx
      clear hx
      go_wp2_with fail
      go_round
      case rel => exact ⟨k + 1, by omega, by go_num, by go_num⟩
      case measure => simp [intOf]; omega
    · go_wp2_with fail
      go_ret
      have hkl : k = n := by omega
      subst hkl
      exact ⟨rfl, rfl⟩
end Go.Proofs.Ytimmnnncgnnkgaa

/- Contracts: permutations. -/
namespace Go.Proofs.Ytimmnnncgnnkgaa
set_option linter.unusedVariables false
set_option linter.unusedSimpArgs false
open Go.RowKit

end Go.Proofs.Ytimmnnncgnnkgaa

/- Plain lemmas on lists of ints: permutations. -/
namespace Go.Proofs.Ytimmnnncgnnkgaa
set_option linter.unusedVariables false
set_option linter.unusedSimpArgs false

/-- A permutation of at most 40 places. -/
def IsPerm (p : List Int) : Prop := p.length ≤ 40 ∧ (∀ x ∈ p, 0 ≤ x ∧ x < p.length) ∧ p.Nodup

theorem nodup_snoc {α : Type} {l : List α} {x : α} : (l ++ [x]).Nodup ↔ l.Nodup ∧ x ∉ l := by
  rw [List.nodup_append]
  simp
  intro _
  constructor
  · intro h hx
    exact h x hx rfl
  · intro h a ha e
    subst e
    exact h ha

end Go.Proofs.Ytimmnnncgnnkgaa

/- Contracts: IsPermutation of the program and of the reference. -/
namespace Go.Proofs.Ytimmnnncgnnkgaa
set_option linter.unusedVariables false
set_option linter.unusedSimpArgs false
open Go.RowKit

/-- seen: which of the first n numbers stand among l -/
def seenOf (n : Nat) (l : List Int) : List Value := (List.range n).map (fun (j : Nat) => Value.bool (decide ((j : Int) ∈ l)))
end Go.Proofs.Ytimmnnncgnnkgaa

/- Contracts: ComposePermutations, InversePermutation, FixedPoints. -/
namespace Go.Proofs.Ytimmnnncgnnkgaa
set_option linter.unusedVariables false
set_option linter.unusedSimpArgs false
open Go.RowKit

def composeP (p q : List Int) : List Int := p.map (fun x => q.getD x.toNat 0)

end Go.Proofs.Ytimmnnncgnnkgaa

/- Contracts: ComposePermutations of the reference. -/
namespace Go.Proofs.Ytimmnnncgnnkgaa
set_option linter.unusedVariables false
set_option linter.unusedSimpArgs false
open Go.RowKit

/-- What ComposePermutations hands back. -/
def ComposeIs (p q res : List Int) : Prop := ((IsPerm p ∧ IsPerm q ∧ p.length = q.length) → res = composeP p q) ∧ (¬ (IsPerm p ∧ IsPerm q ∧ p.length = q.length) → res = [])

end Go.Proofs.Ytimmnnncgnnkgaa

/- Plain: the group that a list of permutations makes, at most 200 of them. -/
namespace Go.Proofs.Ytimmnnncgnnkgaa
set_option linter.unusedVariables false
set_option linter.unusedSimpArgs false
open Classical in
noncomputable def cmpX (p q : List Int) : List Int := if IsPerm p ∧ IsPerm q ∧ p.length = q.length then composeP p q else []
open Classical in
/-- One element of the list times each of the action. -/
noncomputable def grpRow (q : List Int) : List (List Int) → List (List Int) → Option (List (List Int))
  | [], st => some st
  | p :: t, st => if cmpX q p ∈ st then grpRow q t st else if st.length = 200 then none else grpRow q t (st ++ [cmpX q p])
/-- All of them, from place i on. -/
noncomputable def grpRun (act : List (List Int)) : Nat → Nat → List (List Int) → List (List Int)
  | 0, _, st => st
  | f + 1, i, st => match st[i]? with
    | none => st
    | some q => match grpRow q act st with
      | none => []
      | some st' => grpRun act f (i + 1) st'
end Go.Proofs.Ytimmnnncgnnkgaa

/- Plain words on letters and words: inverse letters, the orders of letters and words, reduction. -/
namespace Go.Proofs.Ytimmnnncgnnkgaa
set_option linter.unusedVariables false
set_option linter.unusedSimpArgs false

/-- The least int. -/
def minI : Int := -9223372036854775808
/-- Two letters are inverse to each other. -/
def invB (a b : Int) : Bool := decide (a ≠ 0 ∧ a ≠ minI ∧ b = -a)
theorem invB_iff (a b : Int) : invB a b = true ↔ (a ≠ 0 ∧ a ≠ minI ∧ b = -a) := by simp [invB]

/-- A word of a rank. -/
def letB (rank x : Int) : Bool := decide (x ≠ 0 ∧ -rank ≤ x ∧ x ≤ rank)
def WordP (rank : Int) (w : List Int) : Prop :=
  (∀ x ∈ w, x ≠ 0 ∧ -rank ≤ x ∧ x ≤ rank) ∧ (∀ k x y, w[k]? = some x → w[k + 1]? = some y → y ≠ -x)
def IsW (rank : Int) (w : List Int) : Prop := 1 ≤ rank ∧ rank ≤ 3 ∧ w.length ≤ 24 ∧ WordP rank w

/-- -1, 0 or 1 -/
def cmpI (a b : Int) : Int := if a < b then -1 else if b < a then 1 else 0
def absI (a : Int) : Int := if a < 0 then -a else a
/-- The order of letters: 0, 1, -1, 2, -2, .., the least int last. -/
def cmpL (a b : Int) : Int :=
  if a = b then 0 else if a = minI then 1 else if b = minI then -1
  else if absI a < absI b then -1 else if absI b < absI a then 1 else if b < a then -1 else 1
/-- Letter by letter. -/
def cmpLs : List Int → List Int → Int
  | a :: x, b :: y => if cmpL a b = 0 then cmpLs x y else cmpL a b
  | _, _ => 0
/-- The order of words. -/
def cmpW (a b : List Int) : Int := if a.length < b.length then -1 else if b.length < a.length then 1 else cmpLs a b
/-- The negative of a letter as an int; the least int is its own. -/
def negI (x : Int) : Int := if x = minI then minI else -x
def invW (w : List Int) : List Int := (w.map negI).reverse
theorem invW_len (w : List Int) : (invW w).length = w.length := by simp [invW]

/-- One step of the reduction. -/
def redStep (out : List Int) (x : Int) : List Int :=
  match out.getLast? with
  | some a => if invB a x then out.dropLast else out ++ [x]
  | none => [x]
def red (out w : List Int) : List Int := w.foldl redStep out
theorem red_cons (out : List Int) (x : Int) (w : List Int) : red out (x :: w) = red (redStep out x) w := rfl
theorem red_append (out a b : List Int) : red out (a ++ b) = red (red out a) b := by simp [red]
theorem redStep_empty (x : Int) : redStep [] x = [x] := rfl
theorem redStep_pop {out : List Int} {a x : Int} (h : invB a x = true) : redStep (out ++ [a]) x = out := by simp [redStep, h]
theorem redStep_push {out : List Int} {a x : Int} (h : invB a x = false) : redStep (out ++ [a]) x = out ++ [a] ++ [x] := by simp [redStep, h]
theorem redStep_len (out : List Int) (x : Int) : (redStep out x).length ≤ out.length + 1 := by
  unfold redStep
  split
  · split <;> simp
    omega
  · simp
theorem red_len (out w : List Int) : (red out w).length ≤ out.length + w.length := by
  induction w generalizing out with
  | nil => simp [red]
  | cons x t ih =>
    rw [red_cons]
    have h1 := ih (redStep out x)
    have h2 := redStep_len out x
    simp
    omega
end Go.Proofs.Ytimmnnncgnnkgaa

/- Plain: edges in order; lists of edges that ascend are known by their members. -/
namespace Go.Proofs.Ytimmnnncgnnkgaa
set_option linter.unusedVariables false
set_option linter.unusedSimpArgs false

/-- An edge. -/
structure Ed where
  a : Int
  l : Int
  b : Int
deriving DecidableEq
theorem Ed.ext' {e f : Ed} (h1 : e.a = f.a) (h2 : e.l = f.l) (h3 : e.b = f.b) : e = f := by
  cases e
  cases f
  simp at h1 h2 h3
  simp [h1, h2, h3]
/-- The order of edges. -/
def cmpE (e f : Ed) : Int := if cmpI e.a f.a ≠ 0 then cmpI e.a f.a else if cmpI e.l f.l ≠ 0 then cmpI e.l f.l else cmpI e.b f.b
theorem cmpI_zero {a b : Int} : cmpI a b = 0 ↔ a = b := by
  unfold cmpI
  split
  · simp; omega
  · split
    · simp; omega
    · simp; omega
theorem cmpI_neg {a b : Int} : cmpI a b < 0 ↔ a < b := by
  unfold cmpI
  split
  · simp; omega
  · split
    · simp; omega
    · simp; omega
/-- The lesser edge. -/
def LtE (e f : Ed) : Prop := e.a < f.a ∨ (e.a = f.a ∧ (e.l < f.l ∨ (e.l = f.l ∧ e.b < f.b)))
theorem cmpE_neg {e f : Ed} : cmpE e f < 0 ↔ LtE e f := by
  unfold cmpE LtE
  by_cases h1 : cmpI e.a f.a = 0
  · by_cases h2 : cmpI e.l f.l = 0
    · rw [if_neg (by simpa using h1), if_neg (by simpa using h2), cmpI_neg]
      have := cmpI_zero.1 h1
      have := cmpI_zero.1 h2
      omega
    · rw [if_neg (by simpa using h1), if_pos h2, cmpI_neg]
      have := cmpI_zero.1 h1
      have : e.l ≠ f.l := fun h => h2 (cmpI_zero.2 h)
      omega
  · rw [if_pos h1, cmpI_neg]
    have : e.a ≠ f.a := fun h => h1 (cmpI_zero.2 h)
    omega
theorem cmpE_zero {e f : Ed} : cmpE e f = 0 ↔ e = f := by
  unfold cmpE
  constructor
  · intro h
    split at h
    · contradiction
    · split at h
      · contradiction
      · exact Ed.ext' (cmpI_zero.1 (by simpa using ‹¬ cmpI e.a f.a ≠ 0›)) (cmpI_zero.1 (by simpa using ‹¬ cmpI e.l f.l ≠ 0›)) (cmpI_zero.1 h)
  · rintro rfl
    simp [cmpI]
theorem LtE.trans {e f g : Ed} (h : LtE e f) (k : LtE f g) : LtE e g := by unfold LtE at *; omega
theorem LtE.irrefl (e : Ed) : ¬ LtE e e := by unfold LtE; omega
theorem LtE.tri (e f : Ed) : LtE e f ∨ e = f ∨ LtE f e := by
  by_cases h : e = f
  · exact .inr (.inl h)
  · have : ¬ (e.a = f.a ∧ e.l = f.l ∧ e.b = f.b) := fun ⟨h1, h2, h3⟩ => h (Ed.ext' h1 h2 h3)
    unfold LtE
    omega
theorem LtE.ne {e f : Ed} (h : LtE e f) : e ≠ f := fun hf => LtE.irrefl f (hf ▸ h)
theorem LtE.asymm {e f : Ed} (h : LtE e f) : ¬ LtE f e := fun k => LtE.irrefl e (h.trans k)
/-- Ascending, each once. -/
def Asc (es : List Ed) : Prop := es.Pairwise LtE
/-- An edge put into its place. -/
def putE (e : Ed) : List Ed → List Ed
  | [] => [e]
  | f :: t => if cmpE e f < 0 then e :: f :: t else if cmpE e f = 0 then f :: t else f :: putE e t
theorem putE_len (e : Ed) (l : List Ed) : (putE e l).length ≤ l.length + 1 := by
  induction l with
  | nil => simp [putE]
  | cons f t ih =>
    unfold putE
    split
    · simp
    · split
      · simp
      · simp only [List.length_cons]; omega
/-- Many edges put in, one after the other. -/
def putAll (l es : List Ed) : List Ed := es.foldl (fun l e => putE e l) l
def canon (es : List Ed) : List Ed := putAll [] es
/-- The numbers of a list of edges. -/
def edI (es : List Ed) : List Int := (es.map fun e => [e.a, e.l, e.b]).flatten
theorem edI_len (es : List Ed) : (edI es).length = es.length * 3 := by
  induction es with
  | nil => rfl
  | cons m t ih => simp [edI] at ih ⊢; omega
theorem edI_append (a b : List Ed) : edI (a ++ b) = edI a ++ edI b := by simp [edI]
theorem edI_cons (e : Ed) (t : List Ed) : edI (e :: t) = e.a :: e.l :: e.b :: edI t := by simp [edI]
theorem edI_one (e : Ed) : edI [e] = [e.a, e.l, e.b] := by simp [edI]
theorem edI_at {es : List Ed} {k : Nat} {e : Ed} (h : es[k]? = some e) : (edI es)[k * 3]? = some e.a ∧ (edI es)[k * 3 + 1]? = some e.l ∧ (edI es)[k * 3 + 2]? = some e.b := by
  induction es generalizing k with
  | nil => simp at h
  | cons m t ih =>
    rw [edI_cons]
    cases k with
    | zero => simp at h; subst h; simp
    | succ k =>
      have := ih (by simpa using h)
      rw [show (k + 1) * 3 = k * 3 + 1 + 1 + 1 from by omega]
      simpa using this
theorem edI_drop (es : List Ed) (k : Nat) : edI (es.drop k) = (edI es).drop (k * 3) := by
  induction es generalizing k with
  | nil => simp [edI]
  | cons m t ih =>
    cases k with
    | zero => simp
    | succ k =>
      rw [List.drop_succ_cons, edI_cons, ih, show (k + 1) * 3 = k * 3 + 1 + 1 + 1 from by omega]
      simp
end Go.Proofs.Ytimmnnncgnnkgaa

/- Plain: graphs, their steps, folds, parts. -/
namespace Go.Proofs.Ytimmnnncgnnkgaa
set_option linter.unusedVariables false
set_option linter.unusedSimpArgs false

/-- The edge lies in a graph of rank r and size s. -/
def InG (r s : Int) (e : Ed) : Prop := 0 ≤ e.a ∧ e.a < s ∧ 0 ≤ e.b ∧ e.b < s ∧ 1 ≤ e.l ∧ e.l ≤ r
/-- A graph. -/
structure IsGr (r s : Int) (es : List Ed) : Prop where
  rank : 1 ≤ r ∧ r ≤ 3
  size : 1 ≤ s ∧ s ≤ 40
  len : es.length ≤ 120
  all : ∀ e ∈ es, InG r s e
  asc : Asc es

/-- The ends of the edges that leave v by a letter. -/
def endOf (v x : Int) (e : Ed) : Option Int := if 0 < x ∧ e.l = x ∧ e.a = v then some e.b else if x < 0 ∧ e.l = -x ∧ e.b = v then some e.a else none
def ends (es : List Ed) (v x : Int) : List Int := es.filterMap (endOf v x)
theorem mem_ends {es : List Ed} {v x u : Int} : u ∈ ends es v x ↔ ∃ e ∈ es, endOf v x e = some u := by simp [ends]
theorem ends_len (es : List Ed) (v x : Int) : (ends es v x).length ≤ es.length := List.length_filterMap_le _ _
theorem endOf_some {v x u : Int} {e : Ed} : endOf v x e = some u ↔ (0 < x ∧ e.l = x ∧ e.a = v ∧ e.b = u) ∨ (x < 0 ∧ e.l = -x ∧ e.b = v ∧ e.a = u) := by
  unfold endOf
  split
  · rename_i h
    simp
    omega
  · split
    · rename_i h h'
      simp
      omega
    · simp
      omega
/-- The least of a list, -1 of none. -/
def leastI : List Int → Int
  | [] => -1
  | x :: t => t.foldl min x
theorem foldl_min_le (t : List Int) (x : Int) : t.foldl min x ≤ x ∧ (∀ y ∈ t, t.foldl min x ≤ y) ∧ (t.foldl min x = x ∨ t.foldl min x ∈ t) := by
  induction t generalizing x with
  | nil => simp
  | cons y t ih =>
    obtain ⟨h1, h2, h3⟩ := ih (min x y)
    simp only [List.foldl_cons]
    refine ⟨by omega, ?_, ?_⟩
    · intro z hz
      rcases List.mem_cons.1 hz with rfl | hz
      · omega
      · exact h2 z hz
    · rcases h3 with h3 | h3
      · rcases Int.le_total x y with h | h
        · left; rw [h3]; omega
        · right; rw [h3, show min x y = y by omega]; simp
      · right; exact List.mem_cons_of_mem _ h3
theorem leastI_mem {l : List Int} (h : l ≠ []) : leastI l ∈ l ∧ ∀ y ∈ l, leastI l ≤ y := by
  cases l with
  | nil => exact absurd rfl h
  | cons x t =>
    obtain ⟨h1, h2, h3⟩ := foldl_min_le t x
    refine ⟨?_, ?_⟩
    · rcases h3 with h3 | h3
      · show t.foldl min x ∈ _; rw [h3]; simp
      · exact List.mem_cons_of_mem _ h3
    · intro y hy
      rcases List.mem_cons.1 hy with rfl | hy
      · exact h1
      · exact h2 y hy
theorem leastI_eq {l : List Int} {x : Int} (h : x ∈ l) (hm : ∀ y ∈ l, x ≤ y) : leastI l = x := by
  have h0 : l ≠ [] := by intro h0; subst h0; simp at h
  obtain ⟨h1, h2⟩ := leastI_mem h0
  have := h2 x h
  have := hm _ h1
  omega
/-- The vertex to which a letter leads, or -1. -/
def nextV (es : List Ed) (v x : Int) : Int := leastI (ends es v x)
theorem nextV_none {es : List Ed} {v x : Int} (h : ends es v x = []) : nextV es v x = -1 := by rw [nextV, h]; rfl
theorem nextV_cases {r s : Int} {es : List Ed} (hg : ∀ e ∈ es, InG r s e) (v x : Int) : nextV es v x = -1 ∨ (0 ≤ nextV es v x ∧ nextV es v x < s) := by
  by_cases h0 : ends es v x = []
  · exact .inl (nextV_none h0)
  · right
    obtain ⟨e, he, h⟩ := mem_ends.1 (leastI_mem h0).1
    have := hg e he
    unfold InG at this
    have h' : endOf v x e = some (nextV es v x) := h
    rw [endOf_some] at h'
    omega
/-- Two edges that must not lie in a folded graph together. -/
def Clash (e f : Ed) : Prop := e.l = f.l ∧ (e.a = f.a ∨ e.b = f.b)
instance (e f : Ed) : Decidable (Clash e f) := by unfold Clash; infer_instance
theorem Clash.symm {e f : Ed} (h : Clash e f) : Clash f e := by unfold Clash at *; omega
structure IsFol (r s : Int) (es : List Ed) : Prop where
  gr : IsGr r s es
  fol : es.Pairwise fun e f => ¬ Clash e f
/-- The folds of two edges, and of a list, in order. -/
def foldsAB (e f : Ed) : List (Int × Int) :=
  if e.l = f.l then (if e.a = f.a then [(min e.b f.b, max e.b f.b)] else []) ++ (if e.b = f.b then [(min e.a f.a, max e.a f.a)] else []) else []
def folds : List Ed → List (Int × Int)
  | [] => []
  | e :: t => t.flatMap (foldsAB e) ++ folds t
/-- A vertex's place behind a fold. -/
def foldV (p : Int × Int) (v : Int) : Int := if v = p.2 then p.1 else if p.2 < v then v - 1 else v
def foldE (p : Int × Int) (e : Ed) : Ed := ⟨foldV p e.a, e.l, foldV p e.b⟩
def mergeE (p : Int × Int) (es : List Ed) : List Ed := canon (es.map (foldE p))
/-- All folds, at most n. -/
def foldA : Nat → Int × List Ed → Int × List Ed
  | 0, g => g
  | n + 1, g => match folds g.2 with
    | [] => g
    | p :: _ => foldA n (g.1 - 1, mergeE p g.2)
/-- The place of a vertex in an order, or -1. -/
def idxI (order : List Int) (v : Int) : Int := if v ∈ order then (order.idxOf v : Int) else -1
/-- The graph of some vertices in their order. -/
def partOf (order : List Int) (e : Ed) : Option Ed := if 0 ≤ idxI order e.a ∧ 0 ≤ idxI order e.b then some ⟨idxI order e.a, e.l, idxI order e.b⟩ else none
def partE (order : List Int) (es : List Ed) : List Ed := canon (es.filterMap (partOf order))
end Go.Proofs.Ytimmnnncgnnkgaa

/- Plain: what is joined, leaves, the trimmed graph, the search by breadth, the core. -/
namespace Go.Proofs.Ytimmnnncgnnkgaa
set_option linter.unusedVariables false
set_option linter.unusedSimpArgs false

/-- u is joined with v. -/
inductive Conn (es : List Ed) (v : Int) : Int → Prop
  | here : Conn es v v
  | out {e : Ed} : e ∈ es → Conn es v e.a → Conn es v e.b
  | inn {e : Ed} : e ∈ es → Conn es v e.b → Conn es v e.a
/-- A set that holds v and is closed under the edges, and only joined vertices: the joined ones. -/
theorem conn_iff {es : List Ed} {v : Int} {P : Int → Prop} (h0 : P v) (hc : ∀ e ∈ es, P e.a ↔ P e.b) (hs : ∀ u, P u → Conn es v u) (u : Int) : P u ↔ Conn es v u := by
  refine ⟨hs u, fun h => ?_⟩
  induction h with
  | here => exact h0
  | out he _ ih => exact (hc _ he).1 ih
  | inn he _ ih => exact (hc _ he).2 ih
/-- How many ends of edges are v. -/
def degE (v : Int) (e : Ed) : Nat := (if e.a = v then 1 else 0) + (if e.b = v then 1 else 0)
def deg (es : List Ed) (v : Int) : Nat := (es.map (degE v)).sum
def Bad (es : List Ed) (v : Int) : Prop := deg es v < 2 ∨ ¬ Conn es 0 v
open Classical in
/-- The first vertex other than the base that no loop needs. -/
noncomputable def leaf (s : Int) (es : List Ed) : Option Nat := ((List.range s.toNat).drop 1).find? fun v => decide (Bad es (v : Int))
/-- The numbers below k other than v. -/
def but (v k : Nat) : List Int := ((List.range k).filter (· != v)).map Int.ofNat
/-- One vertex is cut off. -/
def cutV (g : Int × List Ed) (v : Nat) : Int × List Ed := (((but v g.1.toNat).length : Int), partE (but v g.1.toNat) g.2)
noncomputable def trimA : Nat → Int × List Ed → Int × List Ed
  | 0, g => g
  | n + 1, g => match leaf g.1 g.2 with
    | none => g
    | some v => trimA n (cutV g v)
/-- The letters of a rank. -/
def lets : Nat → List Int
  | 0 => []
  | n + 1 => lets n ++ [((n : Int) + 1), -((n : Int) + 1)]
theorem lets_len (n : Nat) : (lets n).length = 2 * n := by
  induction n with
  | zero => rfl
  | succ n ih => simp [lets, ih]; omega
theorem mem_lets {n : Nat} {x : Int} : x ∈ lets n ↔ x ≠ 0 ∧ -(n : Int) ≤ x ∧ x ≤ n := by
  induction n with
  | zero => simp [lets]; omega
  | succ n ih =>
    simp only [lets, List.mem_append, ih, List.mem_cons, List.not_mem_nil, or_false]
    omega
abbrev BS := List (Int × List Int)
/-- One letter of the search. -/
def bfsStep (es : List Ed) (u : Int) (w : List Int) (st : BS) (x : Int) : BS :=
  if nextV es u x < 0 ∨ nextV es u x ∈ st.map Prod.fst then st else st ++ [(nextV es u x, w ++ [x])]
def bfsRow (es : List Ed) (L : List Int) (p : Int × List Int) (st : BS) : BS := L.foldl (bfsStep es p.1 p.2) st
def bfsSt (es : List Ed) (L : List Int) (v : Int) : Nat → BS
  | 0 => [(v, [])]
  | i + 1 => match (bfsSt es L v i)[i]? with
    | none => bfsSt es L v i
    | some p => bfsRow es L p (bfsSt es L v i)
def bfs (es : List Ed) (L : List Int) (v : Int) : BS := bfsSt es L v 41
theorem bfsStep_pre (es : List Ed) (u : Int) (w : List Int) (st : BS) (x : Int) : st <+: bfsStep es u w st x := by
  unfold bfsStep
  split
  · exact List.prefix_refl _
  · exact List.prefix_append _ _
theorem prefix_get {α : Type} {xs ys : List α} (h : xs <+: ys) {k : Nat} {a : α} (hk : xs[k]? = some a) : ys[k]? = some a := by
  obtain ⟨t, rfl⟩ := h
  rw [List.getElem?_append_left (List.getElem?_eq_some_iff.1 hk).1]
  exact hk
/-- What holds of the search's state. -/
structure BfsOk (s : Int) (L : List Int) (st : BS) : Prop where
  nd : (st.map Prod.fst).Nodup
  rng : ∀ p ∈ st, 0 ≤ p.1 ∧ p.1 < s
  wl : ∀ (j : Nat) (p : Int × List Int), st[j]? = some p → p.2.length ≤ j
  wm : ∀ p ∈ st, ∀ x ∈ p.2, x ∈ L
theorem BfsOk.len {s : Int} {L : List Int} {st : BS} (h : BfsOk s L st) (hs : 0 ≤ s) : (st.length : Int) ≤ s := by
  have h1 : ∀ (L : Nat) (l : List Int), l.Nodup → (∀ v ∈ l, 0 ≤ v ∧ v < (L : Int)) → l.length ≤ L := by
    intro L
    induction L with
    | zero =>
      intro l _ h
      cases l with
      | nil => simp
      | cons x t => have := h x (by simp); omega
    | succ L ih =>
      intro l hn h
      have h2 := ih (l.erase (L : Int)) (hn.erase _) fun v hv => by
        have h3 := h v (List.mem_of_mem_erase hv)
        have h4 : v ≠ (L : Int) := ((List.Nodup.mem_erase_iff hn).1 hv).1
        omega
      have h5 := List.length_erase (a := (L : Int)) (l := l)
      split at h5 <;> omega
  have := h1 s.toNat (st.map Prod.fst) h.nd (fun v hv => by
    obtain ⟨p, hp, rfl⟩ := List.mem_map.1 hv
    have := h.rng p hp
    omega)
  simp at this
  omega
theorem BfsOk.start {s v : Int} (L : List Int) (h0 : 0 ≤ v) (h1 : v < s) : BfsOk s L [(v, [])] := by
  refine ⟨by simp, ?_, ?_, ?_⟩
  · intro p hp; simp at hp; subst hp; exact ⟨h0, h1⟩
  · intro j p hp
    cases j with
    | zero => simp at hp; subst hp; simp
    | succ j => simp at hp
  · intro p hp x hx; simp at hp; subst hp; simp at hx
theorem BfsOk.step {r s : Int} {es : List Ed} {L : List Int} {st : BS} (hg : ∀ e ∈ es, InG r s e) (h : BfsOk s L st) {i : Nat} {p : Int × List Int} (hp : st[i]? = some p) {x : Int} (hx : x ∈ L) : BfsOk s L (bfsStep es p.1 p.2 st x) := by
  unfold bfsStep
  split
  · exact h
  · rename_i hc
    have hc1 : ¬ nextV es p.1 x < 0 := fun h => hc (.inl h)
    have hc2 : nextV es p.1 x ∉ st.map Prod.fst := fun h => hc (.inr h)
    have hr := nextV_cases hg p.1 x
    have hi := (List.getElem?_eq_some_iff.1 hp).1
    refine ⟨?_, ?_, ?_, ?_⟩
    · rw [List.map_append, List.nodup_append]
      refine ⟨h.nd, by simp, ?_⟩
      intro a ha b hb
      simp at hb
      subst hb
      intro e
      subst e
      exact hc2 ha
    · intro q hq
      rcases List.mem_append.1 hq with hq | hq
      · exact h.rng q hq
      · simp at hq; subst hq; simp only []; omega
    · intro j q hq
      rcases Nat.lt_or_ge j st.length with hj | hj
      · rw [List.getElem?_append_left hj] at hq; exact h.wl j q hq
      · rw [List.getElem?_append_right hj] at hq
        rcases Nat.eq_zero_or_pos (j - st.length) with h0 | h0
        · rw [h0] at hq
          simp at hq
          subst hq
          have := h.wl i p hp
          simp only [List.length_append, List.length_cons, List.length_nil]
          omega
        · rw [List.getElem?_eq_none (by simp; omega)] at hq; cases hq
    · intro q hq y hy
      rcases List.mem_append.1 hq with hq | hq
      · exact h.wm q hq y hy
      · simp at hq
        subst hq
        rcases List.mem_append.1 hy with hy | hy
        · exact h.wm p (List.mem_of_getElem? hp) y hy
        · simp at hy; subst hy; exact hx
theorem BfsOk.row {r s : Int} {es : List Ed} {L : List Int} (hg : ∀ e ∈ es, InG r s e) {i : Nat} {p : Int × List Int} : ∀ (K : List Int), (∀ x ∈ K, x ∈ L) → ∀ {st : BS}, BfsOk s L st → st[i]? = some p → BfsOk s L (bfsRow es K p st)
  | [], _, st, h, _ => h
  | x :: K, hK, st, h, hp => BfsOk.row hg K (fun y hy => hK y (by simp [hy])) (h.step hg hp (hK x (by simp))) (prefix_get (bfsStep_pre es p.1 p.2 st x) hp)
/-- The order in which the search from the base finds the vertices. -/
def ordE (r : Int) (es : List Ed) (v : Int) : List Int := (bfs es (lets r.toNat) v).map Prod.fst
open Classical in
/-- The graph in the order of the search from the base. -/
noncomputable def canonG (r : Int) (g : Int × List Ed) : Int × List Ed := if IsFol r g.1 g.2 then (((ordE r g.2 0).length : Int), partE (ordE r g.2 0) g.2) else g
noncomputable def coreA (r : Int) (g : Int × List Ed) : Int × List Ed := canonG r (trimA 40 (foldA 40 g))
structure IsCor (r s : Int) (es : List Ed) : Prop where
  fol : IsFol r s es
  leaf : leaf s es = none
  canon : canonG r (s, es) = (s, es)
theorem IsCor.gr {r s : Int} {es : List Ed} (h : IsCor r s es) : IsGr r s es := h.fol.gr
end Go.Proofs.Ytimmnnncgnnkgaa

/- Frames between two block numbers; objects with the blocks they lie in; slices of int slices. -/
namespace Go.Proofs.Ytimmnnncgnnkgaa
set_option linter.unusedVariables false
set_option linter.unusedSimpArgs false
open Go.RowKit

/-- Every number fits an int. -/
def OkI (xs : List Int) : Prop := ∀ x ∈ xs, -9223372036854775808 ≤ x ∧ x ≤ 9223372036854775807

/-- Only blocks from lo up to hi (and new ones) have turned. -/
structure Mid (lo hi : Nat) (w w' : World) : Prop where
  os : w'.os = w.os
  tape : w'.tape = w.tape
  output : w'.output = w.output
  size : w.heap.size ≤ w'.heap.size
  block : ∀ k, k < w.heap.size → ¬ (lo ≤ k ∧ k < hi) → w'.heap[k]? = w.heap[k]?
theorem Mid.below {lo hi : Nat} {w w' : World} (h : Mid lo hi w w') (hl : lo ≤ w.heap.size) : Below lo w w' :=
  ⟨h.os, h.tape, h.output, h.size, fun k hk => h.block k (by omega) (by omega)⟩
theorem Mid.of_grown {lo hi : Nat} {w w' : World} {row : Option Nat} (h : w.grownBy w' row) (hr : ∀ g, row = some g → lo ≤ g ∧ g < hi) : Mid lo hi w w' :=
  ⟨h.os, h.tape, h.output, h.size, fun k hk hn => h.block k hk (fun e => hn (hr k e.symm))⟩
theorem Mid.trans {lo hi : Nat} {a b c : World} (h : Mid lo hi a b) (k : Mid lo hi b c) : Mid lo hi a c :=
  ⟨k.os.trans h.os, k.tape.trans h.tape, k.output.trans h.output, Nat.le_trans h.size k.size,
    fun i hi' hn => (k.block i (Nat.lt_of_lt_of_le hi' h.size) hn).trans (h.block i hi' hn)⟩
theorem Mid.refl (lo hi : Nat) (w : World) : Mid lo hi w w := ⟨rfl, rfl, rfl, Nat.le_refl _, fun _ _ _ => rfl⟩
theorem Mid.of_below {lo hi : Nat} {w w' : World} (h : Below w.heap.size w w') : Mid lo hi w w' := ⟨h.os, h.tape, h.output, h.size, fun k hk _ => h.block k hk⟩
theorem Mid.drewN {lo hi : Nat} {w w' : World} (h : Mid lo hi w w') (n : Nat) : Mid lo hi w (w'.drewN n) := ⟨h.os, h.tape, h.output, h.size, h.block⟩
theorem Mid.alloc (w : World) (o : Obj) : Mid 0 0 w (w.alloc o) := Mid.of_grown (World.grownBy_alloc w o none) (by intro g h; cases h)
theorem Mid.setCell (w : World) {lo hi : Nat} {p : Addr} (u : Value) (h1 : lo ≤ p.block) (h2 : p.block < hi) : Mid lo hi w (w.setCell p u) :=
  ⟨rfl, rfl, rfl, by simp [World.setCell], fun k _ hn => Below.heap_setCell w p u k (by rintro rfl; exact hn ⟨h1, h2⟩)⟩
/-- A step that turns only blocks that are new since w. -/
theorem Mid.grownNew {lo hi : Nat} {w wr w' : World} {row : Option Nat} (h : Mid lo hi w wr) (hg : wr.grownBy w' row) (hr : ∀ g, row = some g → w.heap.size ≤ g) : Mid lo hi w w' :=
  ⟨hg.os.trans h.os, hg.tape.trans h.tape, hg.output.trans h.output, Nat.le_trans h.size hg.size, fun k hk hn =>
    (hg.block k (Nat.lt_of_lt_of_le hk h.size) (fun e => by have := hr k e.symm; omega)).trans (h.block k hk hn)⟩
theorem Mid.storeNew {lo hi : Nat} {w wr : World} {p : Addr} (h : Mid lo hi w wr) (hp : w.heap.size ≤ p.block) (u : Value) : Mid lo hi w (wr.setCell p u) :=
  ⟨h.os, h.tape, h.output, by simpa [World.setCell] using h.size, fun k hk hn => (Below.heap_setCell wr p u k (by omega)).trans (h.block k hk hn)⟩
theorem Mid.mono {lo hi lo' hi' : Nat} {w w' : World} (h : Mid lo hi w w') (h1 : lo' ≤ lo) (h2 : hi ≤ hi') : Mid lo' hi' w w' :=
  ⟨h.os, h.tape, h.output, h.size, fun k hk hn => h.block k hk (fun hh => hn ⟨by omega, by omega⟩)⟩
theorem Mid.zero {lo hi : Nat} {w w' : World} (h : Mid 0 0 w w') : Mid lo hi w w' := ⟨h.os, h.tape, h.output, h.size, fun k hk _ => h.block k hk (by omega)⟩
theorem Mid.bel {w w' : World} (h : Mid 0 0 w w') : Below w.heap.size w w' := ⟨h.os, h.tape, h.output, h.size, fun k hk => h.block k hk (by omega)⟩
theorem below_mid {n a b : Nat} {w0 w w' : World} (h : Below n w0 w) (hs : n ≤ w.heap.size) (m : Mid a b w w') (hn : n ≤ a ∨ b = 0) : Below n w0 w' :=
  h.trans ⟨m.os, m.tape, m.output, m.size, fun k hk => m.block k (by omega) (by omega)⟩

/-- The cells cs at A, in blocks from lo up to hi. -/
def RV (w : World) (lo hi : Nat) (A : Option Addr) (cs : List Value) : Prop :=
  hi ≤ w.heap.size ∧ (cs ≠ [] → ∃ b off, A = some ⟨b, off, none⟩ ∧ lo ≤ b ∧ b < hi ∧ ∀ j u, cs[j]? = some u → w.cell? ⟨b, off + j, none⟩ = some u)
theorem RV.rs {w : World} {lo hi : Nat} {A : Option Addr} {cs : List Value} (h : RV w lo hi A cs) : Rs w hi A cs := fun hn => by
  obtain ⟨b, off, e, _, hb, hc⟩ := h.2 hn
  exact ⟨b, off, e, hb, hc⟩
theorem RV.rsS {w : World} {lo hi : Nat} {A : Option Addr} {cs : List Value} (h : RV w lo hi A cs) : Rs w w.heap.size A cs := h.rs.more h.1
theorem RV.of_rs {w : World} {hi : Nat} {A : Option Addr} {cs : List Value} (h : Rs w hi A cs) (hs : hi ≤ w.heap.size) : RV w 0 hi A cs := ⟨hs, fun hn => by
  obtain ⟨b, off, e, hb, hc⟩ := h hn
  exact ⟨b, off, e, Nat.zero_le _, hb, hc⟩⟩
theorem RV.mid {w w' : World} {lo hi a b : Nat} {A : Option Addr} {cs : List Value} (h : RV w lo hi A cs) (m : Mid a b w w') (hd : b ≤ lo ∨ hi ≤ a) : RV w' lo hi A cs :=
  ⟨Nat.le_trans h.1 m.size, fun hn => by
    obtain ⟨g, off, e, h1, h2, hc⟩ := h.2 hn
    have hs := h.1
    exact ⟨g, off, e, h1, h2, fun j u hu => (World.cell?_of_block (m.block g (by omega) (by omega))).trans (hc j u hu)⟩⟩
theorem RV.wide {w : World} {lo hi lo' hi' : Nat} {A : Option Addr} {cs : List Value} (h : RV w lo hi A cs) (h1 : lo' ≤ lo) (h2 : hi ≤ hi') (h3 : hi' ≤ w.heap.size) : RV w lo' hi' A cs :=
  ⟨h3, fun hn => by
    obtain ⟨g, off, e, ha, hb, hc⟩ := h.2 hn
    exact ⟨g, off, e, by omega, by omega, hc⟩⟩
/-- The same, the call's own: a row at the head of a block. -/
def OV (w : World) (lo hi : Nat) (e : TypeId) (size : Nat) (A : Option Addr) (c n : Nat) (cs : List Value) : Prop :=
  hi ≤ w.heap.size ∧ w.ownsRow lo e size (.slice A n c) n cs ∧ ∀ g, Value.ownBlock (.slice A n c) = some g → g < hi
section
variable {w w' : World} {lo hi a b : Nat} {e : TypeId} {size : Nat} {A : Option Addr} {c n : Nat} {cs : List Value}
theorem OV.new {w0 : World} (h : w.ownsRow w0.heap.size e size (.slice A n c) n cs) : OV w w0.heap.size w.heap.size e size A c n cs :=
  ⟨Nat.le_refl _, h, fun g hg => (h.lt g hg).2⟩
theorem OV.mid (h : OV w lo hi e size A c n cs) (m : Mid a b w w') (hd : b ≤ lo ∨ hi ≤ a) : OV w' lo hi e size A c n cs := by
  refine ⟨Nat.le_trans h.1 m.size, ⟨h.2.1.1, ?_⟩, h.2.2⟩
  rcases h.2.1.2 with hn | ⟨g, cap, cur, hv, hbg, hgg, rest⟩
  · exact .inl hn
  · refine .inr ⟨g, cap, cur, hv, hbg, ?_, rest⟩
    have hlt := h.2.2 g (by rw [hv]; rfl)
    rw [m.block g (Array.getElem?_eq_some_iff.1 hgg).1 (by omega)]
    exact hgg
theorem OV.rv (h : OV w lo hi e size A c n cs) : RV w lo hi A cs := ⟨h.1, fun hn => by
  obtain ⟨g, off, hA, _, hc⟩ := Rs.of_own h.2.1 hn
  have hg : Value.ownBlock (.slice A n c) = some g := by rw [hA]; rfl
  exact ⟨g, off, hA, (h.2.1.lt g hg).1, h.2.2 g hg, hc⟩⟩
theorem OV.wide {lo' hi' : Nat} (h : OV w lo hi e size A c n cs) (h1 : lo' ≤ lo) (h2 : hi ≤ hi') (h3 : hi' ≤ w.heap.size) : OV w lo' hi' e size A c n cs :=
  ⟨h3, owns_base h.2.1 h1, fun g hg => by have := h.2.2 g hg; omega⟩
end

/-- Two rows of different element types lie in different blocks. -/
theorem owns_ne {w : World} {b b' : Nat} {e e' : TypeId} {s s' : Nat} {v v' : Value} {n n' : Nat} {xs xs' : List Value} (h : w.ownsRow b e s v n xs) (h' : w.ownsRow b' e' s' v' n' xs') (hne : e ≠ e') :
    v.ownBlock = none ∨ v.ownBlock ≠ v'.ownBlock := by
  rcases h.2 with ⟨rfl, _⟩ | ⟨g, cap, cur, rfl, _, hg, _⟩
  · exact .inl rfl
  · rcases h'.2 with ⟨rfl, _⟩ | ⟨g', cap', cur', rfl, _, hg', _⟩
    · exact .inr (by simp [Value.ownBlock])
    · refine .inr fun he => ?_
      have : g = g' := by simpa [Value.ownBlock] using he
      subst this
      rw [hg] at hg'
      injection hg' with hg'
      injection hg' with _ ht
      exact hne ht
theorem grown_of_setCell (w : World) (g j : Nat) (u : Value) : w.grownBy (w.setCell ⟨g, j, none⟩ u) (some g) := grown_setCell (World.grownBy.refl w _) j u

/-! ### slices of int slices -/

/-- One row of a slice of slices: its address, its capacity, its numbers. -/
structure Row where
  A : Option Addr
  c : Nat
  xs : List Int
def Row.v (r : Row) : Value := .slice r.A r.xs.length r.c
def rowsV (rows : List Row) : List Value := rows.map Row.v
def rowsD (rows : List Row) : List (List Int) := rows.map Row.xs
theorem rowsV_len (rows : List Row) : (rowsV rows).length = rows.length := by simp [rowsV]
theorem rowsD_len (rows : List Row) : (rowsD rows).length = rows.length := by simp [rowsD]
theorem rowsV_append (a b : List Row) : rowsV (a ++ b) = rowsV a ++ rowsV b := by simp [rowsV]
theorem rowsD_append (a b : List Row) : rowsD (a ++ b) = rowsD a ++ rowsD b := by simp [rowsD]
theorem one_of_rows (rows : List Row) : ∀ u ∈ rowsV rows, u.oneCell' = true := by
  intro u hu
  obtain ⟨r, _, rfl⟩ := List.mem_map.1 hu
  rfl

/-- The slice of slices at A reads xss, all in blocks from lo up to hi. -/
def RSS (w : World) (lo hi : Nat) (A : Option Addr) (xss : List (List Int)) : Prop :=
  ∃ rows, rowsD rows = xss ∧ RV w lo hi A (rowsV rows) ∧ ∀ r ∈ rows, RV w lo hi r.A (ints r.xs)
section
variable {w w' : World} {lo hi a b : Nat} {A : Option Addr} {xss : List (List Int)}
theorem RSS.size (h : RSS w lo hi A xss) : hi ≤ w.heap.size := by obtain ⟨_, _, h, _⟩ := h; exact h.1
theorem RSS.mid (h : RSS w lo hi A xss) (m : Mid a b w w') (hd : b ≤ lo ∨ hi ≤ a) : RSS w' lo hi A xss := by
  obtain ⟨rows, h1, h2, h3⟩ := h
  exact ⟨rows, h1, h2.mid m hd, fun r hr => (h3 r hr).mid m hd⟩
theorem RSS.wide {lo' hi' : Nat} (h : RSS w lo hi A xss) (h1 : lo' ≤ lo) (h2 : hi ≤ hi') (h3 : hi' ≤ w.heap.size) : RSS w lo' hi' A xss := by
  obtain ⟨rows, ha, hb, hc⟩ := h
  exact ⟨rows, ha, hb.wide h1 h2 h3, fun r hr => (hc r hr).wide h1 h2 h3⟩
theorem RSS.nil (hs : hi ≤ w.heap.size) : RSS w lo hi A [] := ⟨[], rfl, ⟨hs, fun h => absurd rfl h⟩, by simp⟩
theorem RSS.row (h : RSS w lo hi A xss) {k : Nat} (hk : k < xss.length) :
    ∃ b off A' c' xs, A = some ⟨b, off, none⟩ ∧ lo ≤ b ∧ b < hi ∧ xss[k]? = some xs ∧ w.cell? ⟨b, off + k, none⟩ = some (.slice A' xs.length c') ∧ RV w lo hi A' (ints xs) := by
  obtain ⟨rows, rfl, h2, h3⟩ := h
  rw [rowsD_len] at hk
  obtain ⟨b, off, e, hb, hb2, hc⟩ := h2.2 (by intro h0; have := congrArg List.length h0; rw [rowsV_len] at this; simp at this; subst this; simp at hk)
  obtain ⟨r, hr⟩ := get_of_lt rows hk
  refine ⟨b, off, r.A, r.c, r.xs, e, hb, hb2, by simp [rowsD, hr], hc k _ (by simp [rowsV, hr, Row.v]), h3 r (List.mem_of_getElem? hr)⟩
end

/-- The same, the call's own: every row in a block of its own. -/
def OwnRows (w : World) (lo hi : Nat) (tI : TypeId) (rows : List Row) : Prop :=
  (∀ r ∈ rows, OV w lo hi tI 1 r.A r.c r.xs.length (ints r.xs)) ∧ rows.Pairwise (fun r s => r.v.ownBlock = none ∨ r.v.ownBlock ≠ s.v.ownBlock)
def OSS (w : World) (lo hi : Nat) (tSI tI : TypeId) (A : Option Addr) (c : Nat) (xss : List (List Int)) : Prop :=
  hi ≤ w.heap.size ∧ ∃ rows, rowsD rows = xss ∧ OV w lo hi tSI 1 A c xss.length (rowsV rows) ∧ OwnRows w lo hi tI rows
section
variable {w w' : World} {lo hi a b : Nat} {tSI tI : TypeId} {A : Option Addr} {c : Nat} {xss : List (List Int)} {rows : List Row}
theorem OwnRows.mid (h : OwnRows w lo hi tI rows) (m : Mid a b w w') (hd : b ≤ lo ∨ hi ≤ a) : OwnRows w' lo hi tI rows := ⟨fun r hr => (h.1 r hr).mid m hd, h.2⟩
theorem OwnRows.wide {lo' hi' : Nat} (h : OwnRows w lo hi tI rows) (h1 : lo' ≤ lo) (h2 : hi ≤ hi') (h3 : hi' ≤ w.heap.size) : OwnRows w lo' hi' tI rows := ⟨fun r hr => (h.1 r hr).wide h1 h2 h3, h.2⟩
theorem OwnRows.nil : OwnRows w lo hi tI [] := ⟨by simp, List.Pairwise.nil⟩
/-- A row of another type is written, or grows: the int rows stay. -/
theorem OwnRows.grown {bb : Nat} {e' : TypeId} {s' : Nat} {v' : Value} {n' : Nat} {xs' : List Value} (h : OwnRows w lo hi tI rows) (ho : w.ownsRow bb e' s' v' n' xs') (hne : tI ≠ e') (hg : w.grownBy w' v'.ownBlock) : OwnRows w' lo hi tI rows :=
  ⟨fun r hr => by
    obtain ⟨h1, h2, h3⟩ := h.1 r hr
    exact ⟨Nat.le_trans h1 hg.size, h2.kept hg (owns_ne h2 ho hne), h3⟩, h.2⟩
/-- One row more, in a block behind all others. -/
theorem OwnRows.push {base hi' : Nat} {r : Row} (h : OwnRows w lo hi tI rows) (hr : w.ownsRow base tI 1 r.v r.xs.length (ints r.xs)) (hb : hi ≤ base) (hl : lo ≤ base) (hh : hi ≤ hi') (hs : hi' ≤ w.heap.size) (hlt : ∀ g, r.v.ownBlock = some g → g < hi') :
    OwnRows w lo hi' tI (rows ++ [r]) := by
  refine ⟨fun s hs' => ?_, ?_⟩
  · rcases List.mem_append.1 hs' with hm | hm
    · exact (h.1 s hm).wide (Nat.le_refl _) hh hs
    · simp at hm
      subst hm
      exact ⟨hs, owns_base hr hl, hlt⟩
  · rw [List.pairwise_append]
    refine ⟨h.2, by simp, fun s hsm t ht => ?_⟩
    simp at ht
    subst ht
    cases hv : s.v.ownBlock with
    | none => exact .inl rfl
    | some g =>
      refine .inr fun e => ?_
      have h1 := (h.1 s hsm).2.2 g hv
      have h2 := (hr.lt g e.symm).1
      omega
theorem OSS.size (h : OSS w lo hi tSI tI A c xss) : hi ≤ w.heap.size := h.1
theorem OSS.mid (h : OSS w lo hi tSI tI A c xss) (m : Mid a b w w') (hd : b ≤ lo ∨ hi ≤ a) : OSS w' lo hi tSI tI A c xss := by
  obtain ⟨h0, rows, h1, h2, h3⟩ := h
  exact ⟨Nat.le_trans h0 m.size, rows, h1, h2.mid m hd, h3.mid m hd⟩
theorem OSS.wide {lo' hi' : Nat} (h : OSS w lo hi tSI tI A c xss) (h1 : lo' ≤ lo) (h2 : hi ≤ hi') (h3 : hi' ≤ w.heap.size) : OSS w lo' hi' tSI tI A c xss := by
  obtain ⟨_, rows, ha, hb, hc⟩ := h
  exact ⟨h3, rows, ha, hb.wide h1 h2 h3, hc.wide h1 h2 h3⟩
theorem OSS.rss (h : OSS w lo hi tSI tI A c xss) : RSS w lo hi A xss := by
  obtain ⟨_, rows, h1, h2, h3⟩ := h
  exact ⟨rows, h1, h2.rv, fun r hr => (h3.1 r hr).rv⟩
end

/-- A call hands back a new slice of new slices that reads xss; nothing that was there has turned. -/
def RetSS (tSI tI : TypeId) (xss : List (List Int)) (w : World) (e : Ending) (w' : World) : Prop :=
  ∃ A c, e = .returned (.slice A xss.length c) ∧ OSS w' w.heap.size w'.heap.size tSI tI A c xss ∧ Mid 0 0 w w'
end Go.Proofs.Ytimmnnncgnnkgaa

/- Plain: the cycles of a permutation; lists sorted downwards. -/
namespace Go.Proofs.Ytimmnnncgnnkgaa
set_option linter.unusedVariables false
set_option linter.unusedSimpArgs false

/-- From x on, till a place that was visited. -/
def cycGo (p : List Int) : Nat → List Int → Nat → Nat → List Int × Nat
  | 0, vis, _, n => (vis, n)
  | f + 1, vis, x, n => if (x : Int) ∈ vis then (vis, n) else cycGo p f (vis ++ [(x : Int)]) (p.getD x 0).toNat (n + 1)
/-- The places visited and the lengths, after the first places. -/
def cycSt (p : List Int) : Nat → List Int × List Int
  | 0 => ([], [])
  | i + 1 => ((cycGo p (p.length + 1) (cycSt p i).1 i 0).1, if 0 < (cycGo p (p.length + 1) (cycSt p i).1 i 0).2 then (cycSt p i).2 ++ [((cycGo p (p.length + 1) (cycSt p i).1 i 0).2 : Int)] else (cycSt p i).2)
def downL (xs : List Int) : List Int := (xs.mergeSort fun x y => decide (x ≤ y)).reverse
def cyc (p : List Int) : List Int := downL (cycSt p p.length).2
/-- A list of places, each once. -/
structure Vis (L : Nat) (vis : List Int) : Prop where
  nd : vis.Nodup
  rng : ∀ v ∈ vis, 0 ≤ v ∧ v < L
theorem nodup_le : ∀ (L : Nat) (l : List Int), l.Nodup → (∀ v ∈ l, 0 ≤ v ∧ v < (L : Int)) → l.length ≤ L := by
  intro L
  induction L with
  | zero =>
    intro l _ h
    cases l with
    | nil => simp
    | cons a t => have := h a List.mem_cons_self; omega
  | succ L ih =>
    intro l hn h
    by_cases hm : (L : Int) ∈ l
    · have h1 := ih (l.erase (L : Int)) (hn.erase _) (fun v hv => by
        have hv2 := List.mem_of_mem_erase hv
        have h3 := h v hv2
        have h4 : v ≠ (L : Int) := fun e => by subst e; exact (hn.not_mem_erase) hv
        omega)
      rw [List.length_erase_of_mem hm] at h1
      omega
    · have h1 := ih l hn (fun v hv => by
        have h3 := h v hv
        have h4 : v ≠ (L : Int) := fun e => by subst e; exact hm hv
        omega)
      omega
theorem Vis.le {L : Nat} {vis : List Int} (h : Vis L vis) : vis.length ≤ L := nodup_le L vis h.nd h.rng
theorem Vis.push {L : Nat} {vis : List Int} {x : Nat} (h : Vis L vis) (hx : x < L) (hm : (x : Int) ∉ vis) : Vis L (vis ++ [(x : Int)]) :=
  ⟨nodup_snoc.2 ⟨h.nd, hm⟩, fun v hv => by
    rcases List.mem_append.1 hv with h1 | h1
    · exact h.rng v h1
    · simp at h1; omega⟩
/-- What the inner loop keeps. -/
structure CycAt (p : List Int) (vis0 : List Int) (i : Nat) (f : Nat) (vis : List Int) (x n : Nat) : Prop where
  hv : Vis p.length vis
  hx : x < p.length
  run : cycGo p (p.length + 1) vis0 i 0 = cycGo p f vis x n
  fuel : p.length < f + vis.length
  cnt : n + vis0.length = vis.length
theorem CycAt.start {p vis0 : List Int} {i : Nat} (hv : Vis p.length vis0) (hi : i < p.length) : CycAt p vis0 i (p.length + 1) vis0 i 0 := ⟨hv, hi, rfl, by omega, by omega⟩
theorem CycAt.step {p vis0 vis : List Int} {i f x n : Nat} (hp : ∀ y ∈ p, 0 ≤ y ∧ y < p.length) (h : CycAt p vis0 i f vis x n) (hm : (x : Int) ∉ vis) : ∃ f', f = f' + 1 ∧ CycAt p vis0 i f' (vis ++ [(x : Int)]) (p.getD x 0).toNat (n + 1) := by
  have hv := h.hv.push h.hx hm
  have hl := hv.le
  have hf := h.fuel
  simp at hl
  obtain ⟨f', rfl⟩ : ∃ f', f = f' + 1 := ⟨f - 1, by omega⟩
  refine ⟨f', rfl, hv, ?_, ?_, by simp; omega, by have := h.cnt; simp; omega⟩
  · have hm := hp (p.getD x 0) (by rw [List.getD_eq_getElem?_getD, List.getElem?_eq_getElem h.hx]; exact List.getElem_mem _)
    omega
  · rw [h.run]
    simp [cycGo, hm]
theorem CycAt.stop {p vis0 vis : List Int} {i f x n : Nat} (h : CycAt p vis0 i f vis x n) (hm : (x : Int) ∈ vis) : cycGo p (p.length + 1) vis0 i 0 = (vis, n) := by
  rw [h.run]
  cases f with
  | zero => rfl
  | succ f => simp [cycGo, hm]
/-- What the outer loop keeps. -/
structure CycOut (p : List Int) (i : Nat) (vis out : List Int) : Prop where
  st : cycSt p i = (vis, out)
  hv : Vis p.length vis
  sum : out.sum = vis.length
  pos : ∀ x ∈ out, 1 ≤ x
  len : out.length ≤ i
theorem CycOut.zero (p : List Int) : CycOut p 0 [] [] := ⟨rfl, ⟨by simp, by simp⟩, by simp, by simp, by simp⟩
theorem CycOut.succ {p vis out vis' : List Int} {i f x n : Nat} (h : CycOut p i vis out) (h2 : CycAt p vis i f vis' x n) (hm : (x : Int) ∈ vis') : CycOut p (i + 1) vis' (if 0 < n then out ++ [(n : Int)] else out) := by
  have hr := h2.stop hm
  have hc := h2.cnt
  refine ⟨by simp [cycSt, h.st, hr], h2.hv, ?_, ?_, ?_⟩
  · split
    · rw [List.sum_append, h.sum]; simp; omega
    · rw [h.sum]; omega
  · split
    · intro x hx
      rcases List.mem_append.1 hx with h1 | h1
      · exact h.pos x h1
      · simp at h1; omega
    · exact h.pos
  · have := h.len
    split
    · simp; omega
    · omega
theorem CycAt.goes {p vis0 : List Int} {i : Nat} (hp : ∀ y ∈ p, 0 ≤ y ∧ y < p.length) : ∀ (f : Nat) (vis : List Int) (x n : Nat), CycAt p vis0 i f vis x n → ∃ f vis x n, CycAt p vis0 i f vis x n ∧ (x : Int) ∈ vis := by
  intro f
  induction f with
  | zero =>
    intro vis x n h
    have := h.fuel
    have := h.hv.le
    omega
  | succ f ih =>
    intro vis x n h
    by_cases hm : (x : Int) ∈ vis
    · exact ⟨_, _, _, _, h, hm⟩
    · obtain ⟨f', he, h'⟩ := h.step hp hm
      obtain rfl : f = f' := by omega
      exact ih _ _ _ h'
theorem CycOut.get {p : List Int} (hp : ∀ y ∈ p, 0 ≤ y ∧ y < p.length) (i : Nat) (hi : i ≤ p.length) : ∃ vis out, CycOut p i vis out := by
  induction i with
  | zero => exact ⟨_, _, CycOut.zero p⟩
  | succ i ih =>
    obtain ⟨vis, out, h⟩ := ih (by omega)
    obtain ⟨f, vis', x, n, h2, hm⟩ := CycAt.goes hp _ _ _ _ (CycAt.start h.hv (by omega : i < p.length))
    exact ⟨_, _, h.succ h2 hm⟩
end Go.Proofs.Ytimmnnncgnnkgaa

/- Plain: the places of vertices in an order, as a row. -/
namespace Go.Proofs.Ytimmnnncgnnkgaa
set_option linter.unusedVariables false
set_option linter.unusedSimpArgs false

/-- The place of every vertex below n in an order; -1 where it has none. -/
def placeL (n : Nat) (ord : List Int) : List Int := (List.range n).map fun (v : Nat) => idxI ord (v : Int)
/-- The same, one more (0 where a vertex has none). -/
def placeM (n : Nat) (ord : List Int) : List Int := (placeL n ord).map (· + 1)
end Go.Proofs.Ytimmnnncgnnkgaa

/-
  DERIVED: THE SHELF's CONTRACTS AT THIS DUMP, IN PLAIN WORDS (tools/lay-plain.mjs out of 'TryShelf.lean', which tools/lay-shelf.mjs wrote): THE SAME DECLARATIONS UNDER THE SAME NAMES: 'import', 'namespace', 'open', 'def', 'theorem' AND NOTHING ELSE: no command of the shelf's: FOR A HAND-IN. Each laying: the table of numbers ('.._ren') and one theorem, a field a fact of the dump's own or the kernel's comparison; each contract: ONE APPLICATION.
-/
namespace Go.Proofs
open Go.Shelf
def Try.lays215_ren : Go.Shelf.Ren := ⟨fun | 215 => 162 | n => n, fun | 3 => 3 | 4 => 4 | n => n, fun | n => n⟩
def Try.lays189_ren : Go.Shelf.Ren := ⟨fun | 189 => 112 | 125 => 115 | 257 => 128 | 128 => 137 | 129 => 138 | 294 => 145 | 295 => 146 | 296 => 147 | 297 => 148 | 298 => 149 | 299 => 150 | 216 => 151 | 300 => 152 | 301 => 153 | 328 => 159 | 329 => 155 | 330 => 156 | 331 => 160 | 332 => 161 | 215 => 162 | 343 => 164 | n => n, fun | 28 => 37 | 3 => 3 | 46 => 125 | 0 => 0 | 51 => 140 | 53 => 142 | 4 => 4 | 183 => 134 | 182 => 133 | 131 => 77 | 5 => 5 | 9 => 9 | 218 => 153 | 222 => 157 | 228 => 161 | 229 => 162 | n => n, fun | n => n⟩
def Try.laysNm220_ren : Go.Shelf.Ren := ⟨fun | 20 => 113 | n => n, fun | 22 => 37 | 3 => 3 | 4 => 4 | 0 => 0 | n => n, fun | n => n⟩
end Go.Proofs

/- Boxes: the block of a struct that a call holds by its address. -/
namespace Go.Proofs.Ytimmnnncgnnkgaa
set_option linter.unusedVariables false
set_option linter.unusedSimpArgs false
open Go.RowKit

/-- Block b holds the cells cs, and may be written. -/
def Box (w : World) (b : Nat) (cs : List Value) : Prop := b < w.heap.size ∧ (∀ i u, cs[i]? = some u → w.cell? ⟨b, i, none⟩ = some u) ∧ ∀ i, w.frozen? ⟨b, i, none⟩ = false
section
variable {w w' : World} {b lo hi : Nat} {cs ys : List Value}
theorem Box.new (w : World) (a : Array Value) (t : TypeId) : Box (w.alloc (.cells a t)) w.heap.size a.toList :=
  ⟨by simp, fun i u hu => (World.cell?_alloc_at _ _ _ _ rfl).trans (by simpa using hu), fun i => World.frozen?_alloc_at _ _ _ _ rfl⟩
theorem Box.mid (h : Box w b cs) (m : Mid lo hi w w') (hd : b < lo ∨ hi ≤ b) : Box w' b cs :=
  ⟨Nat.lt_of_lt_of_le h.1 m.size, fun i u hu => (World.cell?_of_block (m.block b h.1 (by omega))).trans (h.2.1 i u hu), fun i => (World.frozen?_of_block (m.block b h.1 (by omega))).trans (h.2.2 i)⟩
theorem Box.cell (h : Box w b cs) (i : Nat) {u : Value} (hu : cs[i]? = some u) : w.cell? ⟨b, i, none⟩ = some u := h.2.1 i u hu
theorem Box.set (h : Box w b cs) (i : Nat) (u : Value) (hi : i < cs.length) (hy : cs.set i u = ys) : Box (w.setCell ⟨b, i, none⟩ u) b ys := by
  subst hy
  have hc := h.2.1 i cs[i] (List.getElem?_eq_getElem hi)
  refine ⟨by simpa using h.1, fun j v hv => ?_, fun j => by rw [World.frozen?_setCell]; exact h.2.2 j⟩
  by_cases hj : j = i
  · subst hj
    rw [List.getElem?_set_self hi] at hv
    rw [World.cell?_setCell_same w _ u hc]
    exact hv
  · rw [List.getElem?_set_ne (Ne.symm hj)] at hv
    rw [World.cell?_setCell_other w _ _ u (by intro e; injection e; omega)]
    exact h.2.1 j v hv
theorem Box.drewN (h : Box w b cs) (n : Nat) : Box (w.drewN n) b cs := h
/-- A step within an interval of blocks that a row of the call's own, or a growing one, spans. -/
theorem Mid.of_grownRow {base : Nat} {e : TypeId} {size : Nat} {v : Value} {n : Nat} {xs : List Value} (h : w.ownsRow base e size v n xs) (hg : w.grownBy w' v.ownBlock) : Mid base w.heap.size w w' :=
  Mid.of_grown hg fun g hg' => h.lt g hg'
theorem owns_mid {base : Nat} {e : TypeId} {size : Nat} {v : Value} {n : Nat} {xs : List Value} (h : w.ownsRow base e size v n xs) (m : Mid lo hi w w') (hd : hi ≤ base ∨ w.heap.size ≤ lo) : w'.ownsRow base e size v n xs := by
  refine ⟨h.1, ?_⟩
  rcases h.2 with hn | ⟨g, cap, cur, hv, hbg, hgg, rest⟩
  · exact .inl hn
  · refine .inr ⟨g, cap, cur, hv, hbg, ?_, rest⟩
    have hlt := (Array.getElem?_eq_some_iff.1 hgg).1
    rw [m.block g hlt (by omega)]
    exact hgg
theorem Mid.drew1 (w : World) : Mid 0 0 w w.drew := ⟨rfl, rfl, rfl, Nat.le_refl _, fun _ _ _ => rfl⟩
/-- A step that turns only blocks that are new since w. -/
theorem Mid.transNew {a b : Nat} {wa : World} (h : Mid lo hi w wa) (m : Mid a b wa w') (ha : w.heap.size ≤ a ∨ b = 0) : Mid lo hi w w' :=
  ⟨m.os.trans h.os, m.tape.trans h.tape, m.output.trans h.output, Nat.le_trans h.size m.size, fun k hk hn =>
    (m.block k (Nat.lt_of_lt_of_le hk h.size) (by omega)).trans (h.block k hk hn)⟩
theorem OSS.mk' {tSI tI : TypeId} {A : Option Addr} {c : Nat} {rows : List Row} {n : Nat} {base : Nat} {xss : List (List Int)} (h : w.ownsRow base tSI 1 (.slice A n c) n (rowsV rows)) (hr : OwnRows w base w.heap.size tI rows) (hd : rowsD rows = xss) :
    OSS w base w.heap.size tSI tI A c xss := by
  have hl : xss.length = n := by rw [← hd, rowsD_len, ← rowsV_len]; simpa using h.1
  subst hl
  exact ⟨Nat.le_refl _, rows, hd, ⟨Nat.le_refl _, h, fun g hg => (h.lt g hg).2⟩, hr⟩
theorem OSS.nil {tSI tI : TypeId} : OSS w lo w.heap.size tSI tI none 0 [] := ⟨Nat.le_refl _, [], rfl, ⟨Nat.le_refl _, ⟨rfl, .inl ⟨rfl, rfl⟩⟩, fun g hg => by simp [Value.ownBlock] at hg⟩, OwnRows.nil⟩
end
end Go.Proofs.Ytimmnnncgnnkgaa

/- slices.Sort and slices.Reverse at a slice of ints of the call's own. -/
namespace Go.Proofs.Ytimmnnncgnnkgaa
set_option linter.unusedVariables false
set_option linter.unusedSimpArgs false
open Go.RowKit Go.Sort

/-- What a call that turns the slice in place leaves. -/
abbrev Turned (w : World) (lo hi : Nat) (A : Option Addr) (c : Nat) (ys : List Int) (e : Ending) (w' : World) : Prop :=
  e = .returned (.tuple #[]) ∧ w'.ownsRow lo 3 1 (.slice A ys.length c) ys.length (ints ys) ∧ w.grownBy w' (Value.ownBlock (.slice A ys.length c))
end Go.Proofs.Ytimmnnncgnnkgaa

/-
  DERIVED: THE SHELF's CONTRACTS AT THIS DUMP, IN PLAIN WORDS (tools/lay-plain.mjs out of 'TryShelfE.lean', which tools/lay-shelf.mjs wrote): THE SAME DECLARATIONS UNDER THE SAME NAMES: 'import', 'namespace', 'open', 'def', 'theorem' AND NOTHING ELSE: no command of the shelf's: FOR A HAND-IN. Each laying: the table of numbers ('.._ren') and one theorem, a field a fact of the dump's own or the kernel's comparison; each contract: ONE APPLICATION.
-/
namespace Go.Proofs
open Go.Shelf
def Try.sortEd_ren : Go.Shelf.Ren := ⟨fun | 6 => 87 | 15 => 115 | 14 => 114 | 28 => 137 | 29 => 138 | 20 => 129 | 21 => 130 | 22 => 131 | 23 => 132 | 24 => 133 | 25 => 134 | 26 => 135 | 27 => 136 | 46 => 154 | 47 => 155 | 48 => 156 | 49 => 157 | 50 => 158 | 57 => 163 | n => n, fun | 22 => 26 | 24 => 70 | 25 => 104 | 3 => 3 | 39 => 125 | 0 => 0 | 53 => 140 | 55 => 142 | 4 => 4 | 46 => 134 | 45 => 133 | 50 => 77 | 5 => 5 | 9 => 9 | 66 => 153 | 70 => 157 | 76 => 161 | 77 => 162 | n => n, fun | n => n⟩
def Try.equalEd_ren : Go.Shelf.Ren := ⟨fun | 8 => 124 | n => n, fun | 22 => 26 | 24 => 70 | 4 => 4 | 3 => 3 | 0 => 0 | n => n, fun | n => n⟩
end Go.Proofs

/- Contracts of the laws' helpers on slices of int slices. -/
namespace Go.Proofs.Ytimmnnncgnnkgaa
set_option linter.unusedVariables false
set_option linter.unusedSimpArgs false
open Go.RowKit

theorem infoSI : (Try.prog.info? 37).map (fun i => (i.zero, i.size, i.bytes)) = some (some (.slice none 0 0), 1, 24) := by kernel_rfl
theorem undSSI : Try.prog.underlying 48 = some (.slice 37) := by kernel_rfl

/-- What is left of a budget, or -1. -/
def szI (left : Int) (n : Nat) : Int := if (n : Int) ≤ left then left - n else -1

set_option maxHeartbeats 400000 in
theorem szIntS_any (A : Option Addr) (n c : Nat) (left : Int) (w : World) (hn : n ≤ 9223372036854775807) (h0 : 0 ≤ left) (h1 : left ≤ 1048576) :
    Calls Try.prog 95 #[.slice A n c, .int .i64 left] w fun e w' => e = .returned (.int .i64 (szI left n)) ∧ w = w' := by
  by_cases h : (n : Int) ≤ left
  · have e : szI left n = left - n := by unfold szI; rw [if_pos h]
    rw [e]
    clear e
    go_enter Try.func95, Try.ntmps95
    go_wp2_with fail
    go_ret
    exact ⟨rfl, rfl⟩
  · have e : szI left n = -1 := by unfold szI; rw [if_neg h]
    rw [e]
    clear e
    go_enter Try.func95, Try.ntmps95
    go_wp2_with fail
    go_ret
    exact ⟨rfl, rfl⟩

/-- How many numbers stand in the rows. -/
def sumL (xss : List (List Int)) : Nat := (xss.map List.length).sum
theorem sumL_append (a b : List (List Int)) : sumL (a ++ b) = sumL a + sumL b := by simp [sumL]
theorem sumL_one (a : List Int) : sumL [a] = a.length := by simp [sumL]
theorem sumL_take_succ {xss : List (List Int)} {k : Nat} {xs : List Int} (h : xss[k]? = some xs) : sumL (xss.take (k + 1)) = sumL (xss.take k) + xs.length := by
  rw [take_succ_of xss h, sumL_append, sumL_one]
theorem sumL_take_le (xss : List (List Int)) (k : Nat) : sumL (xss.take k) ≤ sumL xss := by
  have h := List.take_append_drop k xss
  have := sumL_append (xss.take k) (xss.drop k)
  rw [h] at this
  omega
theorem len_le_sumL {xss : List (List Int)} {xs : List Int} (h : xs ∈ xss) : xs.length ≤ sumL xss := by
  obtain ⟨k, hk⟩ := List.mem_iff_getElem?.1 h
  have h1 := sumL_take_succ hk
  have h2 := sumL_take_le xss (k + 1)
  omega

/-- The lengths are lengths of slices that there can be. -/
def LenOk (xss : List (List Int)) : Prop := xss.length ≤ 9223372036854775807 ∧ ∀ xs ∈ xss, xs.length ≤ 9223372036854775807

set_option maxHeartbeats 800000 in
theorem szIntSS_any (A : Option Addr) (xss : List (List Int)) (c : Nat) (left : Int) (w : World) (lo hi : Nat) (hr : RSS w lo hi A xss) (hok : LenOk xss) (h0 : 0 ≤ left) (h1 : left ≤ 1048576) (r : Int)
    (hres : r = szI left (xss.length + sumL xss)) :
    Calls Try.prog 64 #[.slice A xss.length c, .int .i64 left] w fun e w' => e = .returned (.int .i64 r) ∧ w = w' := by
  have HR := Lib.hid hres
  clear hres
  have hlen := hok.1
  by_cases hbig : (xss.length : Int) ≤ left
  · go_enter Try.func64, Try.ntmps64
    go_wp2_with fail
    go_loop [1, 5] (fun lv i => ∃ k : Nat, k ≤ xss.length ∧ i = .int .i64 k ∧ lv = .int .i64 (left - xss.length - (sumL (xss.take k) : Int)) ∧ ((xss.length + sumL (xss.take k) : Nat) : Int) ≤ left)
      (fun _ i => xss.length - (intOf i).toNat)
    case atStart => exact ⟨0, Nat.zero_le _, rfl, by simp [sumL], by simp [sumL]; omega⟩
    case round =>
      obtain ⟨k, hk, rfl, rfl, hle⟩ := hrel
      by_cases hlt : k < xss.length
      · obtain ⟨b, off, A', c', xs, rfl, -, -, hx, hc, -⟩ := hr.row hlt
        have hxl := hok.2 xs (List.mem_of_getElem? hx)
        have hs := sumL_take_succ hx
        have HS := Lib.hid hs
        clear hs hx
        by_cases hfit : (xs.length : Int) ≤ left - xss.length - (sumL (xss.take k) : Int)
        · have e : szI (left - xss.length - (sumL (xss.take k) : Int)) xs.length = left - xss.length - (sumL (xss.take k) : Int) - xs.length := by unfold szI; rw [if_pos hfit]
          have E := Lib.hid e
          clear e
          go_wp2_with fail
          with_reducible refine (szIntS_any A' xs.length c' _ _ hxl (by omega) (by omega)).mono ?_
          rintro e w' ⟨rfl, rfl⟩
          rw [E.out]
          go_wp2_with fail
          go_round
          case rel => exact ⟨k + 1, by omega, by go_num, by rw [HS.out]; go_num, by rw [HS.out]; omega⟩
          case measure => simp [intOf]; omega
        · have e : szI (left - xss.length - (sumL (xss.take k) : Int)) xs.length = -1 := by unfold szI; rw [if_neg hfit]
          have E := Lib.hid e
          clear e
          go_wp2_with fail
          with_reducible refine (szIntS_any A' xs.length c' _ _ hxl (by omega) (by omega)).mono ?_
          rintro e w' ⟨rfl, rfl⟩
          rw [E.out]
          go_wp2_with fail
          go_ret
          have hbad : szI left (xss.length + sumL xss) = -1 := by
            have h2 := sumL_take_le xss (k + 1)
            have h3 := HS.out
            unfold szI
            rw [if_neg (by omega)]
          rw [HR.out, hbad]
          exact ⟨rfl, rfl⟩
      · go_wp2_with fail
        go_ret
        obtain rfl : k = xss.length := by omega
        have ht : xss.take xss.length = xss := List.take_length
        rw [ht] at hle ⊢
        have hgood : szI left (xss.length + sumL xss) = left - xss.length - (sumL xss : Int) := by
          unfold szI
          rw [if_pos hle]
          omega
        rw [HR.out, hgood]
        exact ⟨rfl, rfl⟩
  · have hbad : szI left (xss.length + sumL xss) = -1 := by
      unfold szI
      rw [if_neg (by omega)]
    rw [HR.out, hbad]
    clear hbad
    go_enter Try.func64, Try.ntmps64
    go_wp2_with fail
    go_ret
    exact ⟨rfl, rfl⟩

set_option maxHeartbeats 800000 in
theorem toIntSS_any (A : Option Addr) (xss : List (List Int)) (c : Nat) (w : World) (lo hi : Nat) (hr : RSS w lo hi A xss) (hsz : xss.length + sumL xss ≤ 1048576) :
    Calls Try.prog 68 #[.slice A xss.length c] w fun e w' => RetSS 37 3 xss w e w' := by
  have hmx : xss.length ≤ maxLen := by unfold maxLen; omega
  go_enter Try.func68, Try.ntmps68
  go_wp2_with (at_make; refine wpList_mk rfl _ _ 48 rfl 37 (.slice none 0 0) 24 undSSI infoSI rfl .i64 .i64 _ _ xss.length rfl rfl rfl rfl (by omega) hmx ?_; intro w1 hown1 hgr1 hsz1)
  have hm1 : Mid 0 0 w w1 := Mid.of_grown hgr1 (by intro g h; cases h)
  go_loopw [4] (fun i wr => ∃ k : Nat, ∃ rows : List Row, k ≤ xss.length ∧ i = .int .i64 k ∧ rowsD rows = xss.take k ∧
      wr.ownsRow w.heap.size 37 1 (.slice (some ⟨w.heap.size, 0, none⟩) xss.length xss.length) xss.length (rowsV rows ++ List.replicate (xss.length - k) (.slice none 0 0)) ∧
      OwnRows wr w.heap.size wr.heap.size 3 rows ∧ Mid 0 0 w wr)
    (fun i _ => xss.length - (intOf i).toNat)
  case atStart => exact ⟨0, [], Nat.zero_le _, rfl, by simp [rowsD], by simpa [rowsV] using hown1, OwnRows.nil, hm1⟩
  case round =>
    obtain ⟨k, rows, hk, rfl, hrd, hown, hrows, hm⟩ := hrel
    have HRD := Lib.hid hrd
    clear hrd
    by_cases hlt : k < xss.length
    · obtain ⟨b, off, A', c', xs, rfl, -, -, hx, hc, hrx⟩ := (hr.mid hm (Or.inl (Nat.zero_le _))).row hlt
      have hxl := len_le_sumL (List.mem_of_getElem? hx)
      have HX := Lib.hid hx
      clear hx
      have hszr := hm.size
      go_wp2_with fail
      with_reducible refine (toIntS_any A' xs c' _ hrx.rsS (by omega)).mono ?_
      rintro e w2 ⟨rfl, ho2, hb2⟩
      have hown2 := owns_belowS hown hb2
      have hrows2 := hrows.mid (w' := w2) (Mid.of_below (lo := 0) (hi := 0) hb2) (Or.inl (Nat.zero_le _))
      have hm2 := hm.trans (Mid.of_below hb2)
      have hsz2 := hb2.size
      obtain ⟨u, -, hu⟩ := owns_cell hown2 hlt
      have hfz := hown2.frozenAt k
      have hblk : wr.heap.size < w2.heap.size := (ho2.lt wr.heap.size rfl).2
      go_wp2_with fail
      go_roundw
      case rel =>
        have hl2 : (rowsV rows).length = k := by rw [rowsV_len, ← rowsD_len, HRD.out, List.length_take]; omega
        have hp := hrows2.push (r := ⟨some ⟨wr.heap.size, 0, none⟩, xs.length, xs⟩) (base := wr.heap.size) (hi' := w2.heap.size) ho2 (Nat.le_refl _) hszr hsz2 (Nat.le_refl _)
          (by intro g hg; simp [Row.v, Value.ownBlock] at hg; omega)
        refine ⟨k + 1, rows ++ [⟨some ⟨wr.heap.size, 0, none⟩, xs.length, xs⟩], by omega, by go_num, ?_, owns_set hown2 k _ ?_, ?_, ?_⟩
        · rw [rowsD_append, HRD.out, take_succ_of xss HX.out]
          rfl
        · rw [set_fill _ _ _ hl2 hlt, rowsV_append]
          rfl
        · have h3 := hp.grown hown2 (by decide) (grown_of_setCell w2 w.heap.size k (.slice (some ⟨wr.heap.size, 0, none⟩) xs.length xs.length))
          simpa using h3
        · exact hm2.storeNew (Nat.le_refl _) _
      case measure => simp [intOf]; omega
    · go_wp2_with fail
      go_ret
      obtain rfl : k = xss.length := by omega
      have hD : rowsD rows = xss := by rw [HRD.out, List.take_length]
      refine ⟨_, _, rfl, ⟨Nat.le_refl _, rows, hD, ⟨Nat.le_refl _, by simpa using hown, ?_⟩, hrows⟩, hm⟩
      intro g hg
      simp [Value.ownBlock] at hg
      subst hg
      exact (hown.lt _ rfl).2

set_option maxHeartbeats 800000 in
theorem eqIntSS_same (A A' : Option Addr) (xss : List (List Int)) (c c' : Nat) (w : World) (lo hi lo' hi' : Nat) (hr : RSS w lo hi A xss) (hr' : RSS w lo' hi' A' xss) (hsz : xss.length + sumL xss ≤ 1048576) :
    Calls Try.prog 35 #[.slice A xss.length c, .slice A' xss.length c'] w fun e w' => e = .returned (.bool true) ∧ ∃ n, w' = w.drewN n := by
  go_enter Try.func35, Try.ntmps35
  go_wp2_with fail
  go_loopw [5] (fun i wr => ∃ k : Nat, k ≤ xss.length ∧ i = .int .i64 k ∧ ∃ n, wr = w.drewN n) (fun i _ => xss.length - (intOf i).toNat)
  case atStart => exact ⟨0, Nat.zero_le _, rfl, 0, rfl⟩
  case round =>
    obtain ⟨k, hk, rfl, nd, rfl⟩ := hrel
    by_cases hlt : k < xss.length
    · obtain ⟨b, off, A1, c1, xs, rfl, -, -, hx, hc, hrx⟩ := hr.row hlt
      obtain ⟨b', off', A2, c2, xs', rfl, -, -, hx', hc', hrx'⟩ := hr'.row hlt
      rw [hx] at hx'
      obtain rfl := Option.some.inj hx'
      have hxl := len_le_sumL (List.mem_of_getElem? hx)
      clear hx hx'
      go_wp2_with fail
      go_quiet ((go_at_call 20; first | exact qz0 (eqIntS_same A1 A2 xs c1 c2 _ _ _ hrx.rs hrx'.rs (by omega)) | exact qz1 (eqIntS_same A1 A2 xs c1 c2 _ _ _ hrx.rs hrx'.rs (by omega))))
      go_wp2_with fail
      go_roundw
      case rel => exact ⟨k + 1, by omega, by go_num, _, by first | rfl | exact dn _ _ _⟩
      case measure => simp [intOf]; omega
    · go_wp2_with fail
      go_ret
      exact ⟨rfl, _, rfl⟩

/-- The rows with marks in them, from q on. -/
def markD (q : Int) : List (List Int) → List (List Int)
  | [] => []
  | xs :: r => marks q xs.length :: markD (q + xs.length) r
def markRows (q : Int) : List Row → List Row
  | [] => []
  | r :: t => { r with xs := marks q r.xs.length } :: markRows (q + r.xs.length) t
theorem markRows_D (q : Int) (rows : List Row) : rowsD (markRows q rows) = markD q (rowsD rows) := by
  induction rows generalizing q with
  | nil => rfl
  | cons r t ih =>
    show marks q r.xs.length :: rowsD (markRows (q + r.xs.length) t) = marks q r.xs.length :: markD (q + r.xs.length) (rowsD t)
    rw [ih]
theorem markD_len (q : Int) (xss : List (List Int)) : (markD q xss).length = xss.length := by
  induction xss generalizing q with
  | nil => rfl
  | cons x t ih => simp [markD, ih]
theorem markD_get (q : Int) (xss : List (List Int)) {k : Nat} {xs : List Int} (h : xss[k]? = some xs) : (markD q xss)[k]? = some (marks (q + sumL (xss.take k)) xs.length) := by
  induction xss generalizing q k with
  | nil => simp at h
  | cons x t ih =>
    cases k with
    | zero =>
      simp at h
      subst h
      simp [markD, sumL]
    | succ k =>
      simp at h
      have := ih (q + x.length) h
      simp [markD, this, sumL]
      rw [Int.add_assoc]
theorem OwnRows.mark {w w' : World} {lo hi : Nat} {tI : TypeId} {fs bs : List Row} {r : Row} {ys : List Int} (h : OwnRows w lo hi tI (fs ++ r :: bs)) (hg : w.grownBy w' r.v.ownBlock) (hy : ys.length = r.xs.length)
    (ho : w'.ownsRow lo tI 1 r.v r.xs.length (ints ys)) : OwnRows w' lo hi tI (fs ++ { r with xs := ys } :: bs) := by
  have hvv : ({ r with xs := ys } : Row).v = r.v := by simp [Row.v, hy]
  have hp := h.2
  rw [List.pairwise_append, List.pairwise_cons] at hp
  obtain ⟨hp1, ⟨hp2, hp3⟩, hp4⟩ := hp
  refine ⟨fun s hs => ?_, ?_⟩
  · rcases List.mem_append.1 hs with hm | hm
    · have ⟨h1, h2, h3⟩ := h.1 s (List.mem_append_left _ hm)
      exact ⟨Nat.le_trans h1 hg.size, h2.kept hg (hp4 s hm r List.mem_cons_self), h3⟩
    · rcases List.mem_cons.1 hm with hm | hm
      · subst hm
        have ⟨h1, h2, h3⟩ := h.1 r (List.mem_append_right _ List.mem_cons_self)
        refine ⟨Nat.le_trans h1 hg.size, ?_, ?_⟩
        · show w'.ownsRow lo tI 1 (.slice r.A ys.length r.c) ys.length (ints ys)
          rw [hy]
          exact ho
        · show ∀ g, Value.ownBlock (.slice r.A ys.length r.c) = some g → g < hi
          rw [hy]
          exact h3
      · have ⟨h1, h2, h3⟩ := h.1 s (List.mem_append_right _ (List.mem_cons_of_mem _ hm))
        refine ⟨Nat.le_trans h1 hg.size, h2.kept hg ?_, h3⟩
        rcases hp2 s hm with hn | hn
        · cases hv : s.v.ownBlock with
          | none => exact .inl hv
          | some g =>
            refine .inr ?_
            show s.v.ownBlock ≠ _
            rw [hn, hv]
            simp
        · exact .inr (fun e => hn e.symm)
  · rw [List.pairwise_append, List.pairwise_cons]
    refine ⟨hp1, ⟨fun s hs => by rw [hvv]; exact hp2 s hs, hp3⟩, fun s hs t ht => ?_⟩
    rcases List.mem_cons.1 ht with rfl | ht
    · rw [hvv]
      exact hp4 s hs r List.mem_cons_self
    · exact hp4 s hs t (List.mem_cons_of_mem _ ht)

theorem markRows_snoc (q : Int) (fs : List Row) (r : Row) : markRows q (fs ++ [r]) = markRows q fs ++ [{ r with xs := marks (q + sumL (rowsD fs)) r.xs.length }] := by
  induction fs generalizing q with
  | nil => simp [markRows, sumL, rowsD]
  | cons s t ih =>
    have := ih (q + s.xs.length)
    simp [markRows, this, sumL, rowsD]
    rw [Int.add_assoc]
theorem markRows_V (q : Int) (rows : List Row) : rowsV (markRows q rows) = rowsV rows := by
  induction rows generalizing q with
  | nil => rfl
  | cons r t ih =>
    show Row.v _ :: rowsV (markRows (q + r.xs.length) t) = Row.v r :: rowsV t
    rw [ih]
    simp [Row.v, marks_len]
theorem OV.grown {w w' : World} {lo hi : Nat} {e : TypeId} {size : Nat} {A : Option Addr} {c n : Nat} {cs : List Value} {row : Option Nat} (h : OV w lo hi e size A c n cs) (hg : w.grownBy w' row)
    (hne : Value.ownBlock (.slice A n c) = none ∨ Value.ownBlock (.slice A n c) ≠ row) : OV w' lo hi e size A c n cs :=
  ⟨Nat.le_trans h.1 hg.size, h.2.1.kept hg hne, h.2.2⟩

set_option maxHeartbeats 800000 in
theorem markIntSS_any (A : Option Addr) (xss : List (List Int)) (c : Nat) (q : Int) (w : World) (lo hi : Nat) (ho : OSS w lo hi 37 3 A c xss) (hq : 0 ≤ q) (hq2 : q ≤ 4194304) (hsz : xss.length + sumL xss ≤ 1048576) :
    Calls Try.prog 37 #[.slice A xss.length c, .int .i64 q] w fun e w' => e = .returned (.int .i64 (q + (sumL xss : Int))) ∧ OSS w' lo hi 37 3 A c (markD q xss) ∧ Mid lo hi w w' := by
  obtain ⟨h0, rows, hD, hout, hrows⟩ := ho
  have hl1 : rows.length ≤ xss.length := by rw [← hD, rowsD_len]; exact Nat.le_refl _
  have hl2 : xss.length ≤ rows.length := by rw [← hD, rowsD_len]; exact Nat.le_refl _
  have HD := Lib.hid hD
  clear hD
  go_enter Try.func37, Try.ntmps37
  go_wp2_with fail
  go_loopw [1, 5] (fun qv i wr => ∃ k : Nat, k ≤ xss.length ∧ i = .int .i64 k ∧ qv = .int .i64 (q + (sumL (xss.take k) : Int)) ∧ OwnRows wr lo hi 3 (markRows q (rows.take k) ++ rows.drop k) ∧
      OV wr lo hi 37 1 A c xss.length (rowsV rows) ∧ Mid lo hi w wr)
    (fun _ i _ => xss.length - (intOf i).toNat)
  case atStart => exact ⟨0, Nat.zero_le _, rfl, by simp [sumL], by simpa [markRows] using hrows, hout, Mid.refl _ _ _⟩
  case round =>
    obtain ⟨k, hk, rfl, rfl, hrw, hout', hm⟩ := hrel
    by_cases hlt : k < xss.length
    · obtain ⟨r, hrk⟩ := get_of_lt rows (show k < rows.length by omega)
      rw [drop_of rows hrk] at hrw
      have hor := hrw.1 r (List.mem_append_right _ List.mem_cons_self)
      have hor1 := hor.2.1
      obtain ⟨b, off, u, hA, -, hu, hc⟩ := hout'.rv.rs.at (j := k) (by rw [rowsV_len]; omega)
      have hu' : u = .slice r.A r.xs.length r.c := by
        rw [rowsV, List.getElem?_map, hrk] at hu
        simp at hu
        exact hu.symm
      subst hu'
      have hdk : xss[k]? = some r.xs := by rw [← HD.out]; simp [rowsD, hrk]
      have hs := sumL_take_succ hdk
      have hs2 := sumL_take_le xss (k + 1)
      have hle : sumL (xss.take k) + r.xs.length ≤ 1048576 := by omega
      have HS := Lib.hid hs
      have HRK := Lib.hid hrk
      rw [hA] at hout
      subst hA
      clear hs hs2 hrk hu hdk
      go_wp2_with fail
      with_reducible refine (markIntS_any r.A r.xs r.c lo _ wr hor1 (by omega) (by omega) (by omega)).mono ?_
      rintro e w2 ⟨rfl, ho2, hg2⟩
      have hm2 := hm.trans (Mid.of_grown hg2 (fun g hgg => ⟨(hor1.lt g hgg).1, hor.2.2 g hgg⟩))
      have hout2 := hout'.grown hg2 (owns_ne hout'.2.1 hor1 (by decide))
      have hrw2 := OwnRows.mark hrw (ys := marks (q + (sumL (xss.take k) : Int)) r.xs.length) hg2 (marks_len _ _) ho2
      go_wp2_with fail
      go_roundw
      case rel =>
        refine ⟨k + 1, by omega, by go_num, by rw [HS.out]; go_num, ?_, hout2, hm2⟩
        rw [take_succ_of rows HRK.out, markRows_snoc]
        have e1 : rowsD (rows.take k) = xss.take k := by rw [← HD.out]; simp [rowsD]
        rw [e1, List.append_assoc]
        exact hrw2
      case measure => simp [intOf]; omega
    · go_wp2_with fail
      go_ret
      have hkx : k = xss.length := by omega
      have hkr : k = rows.length := by omega
      have e1 : xss.take k = xss := by rw [hkx]; exact List.take_length
      have e2 : rows.take k = rows := by rw [hkr]; exact List.take_length
      have e3 : rows.drop k = [] := by rw [hkr]; exact List.drop_length
      rw [e2, e3, List.append_nil] at hrw
      rw [e1]
      refine ⟨rfl, ⟨hout'.1, markRows q rows, by rw [markRows_D, HD.out], ?_, hrw⟩, hm⟩
      rw [markD_len, markRows_V]
      exact hout'

set_option maxHeartbeats 800000 in
theorem heldIntSS_any (A : Option Addr) (xss : List (List Int)) (c : Nat) (q : Int) (w : World) (lo hi : Nat) (hr : RSS w lo hi A (markD q xss)) (hq : 0 ≤ q) (hq2 : q ≤ 4194304) (hsz : xss.length + sumL xss ≤ 1048576) :
    Calls Try.prog 38 #[.slice A xss.length c, .int .i64 q] w fun e w' => e = .returned (.int .i64 (q + (sumL xss : Int))) ∧ w = w' := by
  go_enter Try.func38, Try.ntmps38
  go_wp2_with fail
  go_loop [1, 5] (fun qv i => ∃ k : Nat, k ≤ xss.length ∧ i = .int .i64 k ∧ qv = .int .i64 (q + (sumL (xss.take k) : Int))) (fun _ i => xss.length - (intOf i).toNat)
  case atStart => exact ⟨0, Nat.zero_le _, rfl, by simp [sumL]⟩
  case round =>
    obtain ⟨k, hk, rfl, rfl⟩ := hrel
    by_cases hlt : k < xss.length
    · obtain ⟨b, off, A', c', ys, rfl, -, -, hy, hc, hry⟩ := hr.row (k := k) (by rw [markD_len]; exact hlt)
      obtain ⟨xs, hx⟩ := get_of_lt xss hlt
      rw [markD_get q xss hx] at hy
      obtain rfl := Option.some.inj hy
      have hs := sumL_take_succ hx
      have hs2 := sumL_take_le xss (k + 1)
      have hle : sumL (xss.take k) + xs.length ≤ 1048576 := by omega
      have HS := Lib.hid hs
      rw [marks_len] at hc
      clear hs hs2 hx hy
      go_wp2_with fail
      with_reducible refine (heldIntS_any A' xs.length c' _ _ _ hry.rs (by omega) (by omega) (by omega)).mono ?_
      rintro e w' ⟨rfl, rfl⟩
      go_wp2_with fail
      go_round
      case rel => exact ⟨k + 1, by omega, by go_num, by rw [HS.out]; go_num⟩
      case measure => simp [intOf]; omega
    · go_wp2_with fail
      go_ret
      obtain rfl : k = xss.length := by omega
      rw [List.take_length]
      exact ⟨rfl, rfl⟩
end Go.Proofs.Ytimmnnncgnnkgaa

/- Contracts: equality of words and of lists of words; words of a rank. -/
namespace Go.Proofs.Ytimmnnncgnnkgaa
set_option linter.unusedVariables false
set_option linter.unusedSimpArgs false
open Go.RowKit

set_option maxHeartbeats 800000 in
theorem impl_EqualWords (A A' : Option Addr) (xs ys : List Int) (c c' : Nat) (w : World) (B B' : Nat) (hr : Rs w B A (ints xs)) (hr' : Rs w B' A' (ints ys)) (hl : xs.length ≤ 1048576) (r : Bool) (hres : r = true ↔ xs = ys) :
    Calls Try.prog 78 #[.slice A xs.length c, .slice A' ys.length c'] w fun e w' => e = .returned (.bool r) ∧ ∃ n, w' = w.drewN n := by
  have HR := Lib.hid hres
  clear hres
  by_cases hlen : xs.length = ys.length
  · have hne : ((xs.length : Int) != (ys.length : Int)) = false := by simp; omega
    have hle1 : xs.length ≤ ys.length := by omega
    have hle2 : ys.length ≤ xs.length := by omega
    clear hlen
    go_enter Try.func78, Try.ntmps78
    go_wp2_with fail
    go_loopw [5, 13] (fun _ i wr => ∃ k : Nat, k ≤ xs.length ∧ i = .int .i64 k ∧ (∃ n, wr = w.drewN n) ∧ xs.take k = ys.take k) (fun _ i _ => xs.length - (intOf i).toNat)
    case atStart => exact ⟨0, Nat.zero_le _, rfl, ⟨0, rfl⟩, by simp⟩
    case round =>
      obtain ⟨k, hk, rfl, ⟨nd, rfl⟩, heq⟩ := hrel
      have HE := Lib.hid heq
      clear heq
      by_cases hlt : k < xs.length
      · obtain ⟨b, off, x, rfl, -, hx, hc⟩ := hr.int hlt
        obtain ⟨b', off', y, rfl, -, hy, hc'⟩ := hr'.int (show k < ys.length by omega)
        have HX := Lib.hid hx
        have HY := Lib.hid hy
        clear hx hy
        by_cases hxy : (x != y) = true
        · go_wp2_with fail
          go_quiet (fail)
          go_wp2_with fail
          go_ret
          have hf : r = false := by
            cases r with
            | false => rfl
            | true =>
              have e := HR.out.1 rfl
              have hx := HX.out
              rw [e, HY.out] at hx
              simp at hx hxy
              omega
          subst hf
          exact ⟨rfl, _, by first | rfl | exact dn _ _ _⟩
        · have hxy' : (x != y) = false := by simpa using hxy
          clear hxy
          go_wp2_with fail
          go_quiet (fail)
          go_wp2_with fail
          go_roundw
          case rel =>
            have e : x = y := by simpa using hxy'
            exact ⟨k + 1, by omega, by go_num, ⟨_, by first | rfl | exact dn _ _ _⟩, by rw [take_succ_of xs HX.out, take_succ_of ys HY.out, HE.out, e]⟩
          case measure => simp [intOf]; omega
      · go_wp2_with fail
        go_ret
        have hkl : k = xs.length := by omega
        have hf : r = true := by
          refine HR.out.2 ?_
          have h1 : xs.take k = xs := by rw [hkl]; exact List.take_length
          have h2 : ys.take k = ys := by rw [show k = ys.length from by omega]; exact List.take_length
          rw [← h1, HE.out, h2]
        subst hf
        exact ⟨rfl, _, rfl⟩
  · have hne : ((xs.length : Int) != (ys.length : Int)) = true := by simp; omega
    have hf : r = false := by
      cases r with
      | false => rfl
      | true => exact absurd (congrArg List.length (HR.out.1 rfl)) hlen
    subst hf
    clear hlen
    go_enter Try.func78, Try.ntmps78
    go_wp2_with fail
    go_ret
    exact ⟨rfl, 0, rfl⟩

set_option maxHeartbeats 800000 in
theorem spec_EqualWords (A A' : Option Addr) (xs ys : List Int) (c c' : Nat) (w : World) (B B' : Nat) (hr : Rs w B A (ints xs)) (hr' : Rs w B' A' (ints ys)) (hl : xs.length ≤ 1048576) (r : Bool) (hres : r = true ↔ xs = ys) :
    Calls Try.prog 74 #[.slice A xs.length c, .slice A' ys.length c'] w fun e w' => e = .returned (.bool r) ∧ ∃ n, w' = w.drewN n := by
  have HR := Lib.hid hres
  clear hres
  by_cases hlen : xs.length = ys.length
  · have hne : ((xs.length : Int) != (ys.length : Int)) = false := by simp; omega
    have hle1 : xs.length ≤ ys.length := by omega
    have hle2 : ys.length ≤ xs.length := by omega
    clear hlen
    go_enter Try.func74, Try.ntmps74
    go_wp2_with fail
    go_loopw [5] (fun i wr => ∃ k : Nat, k ≤ xs.length ∧ i = .int .i64 k ∧ (∃ n, wr = w.drewN n) ∧ xs.take k = ys.take k) (fun i _ => xs.length - (intOf i).toNat)
    case atStart => exact ⟨0, Nat.zero_le _, rfl, ⟨0, rfl⟩, by simp⟩
    case round =>
      obtain ⟨k, hk, rfl, ⟨nd, rfl⟩, heq⟩ := hrel
      have HE := Lib.hid heq
      clear heq
      by_cases hlt : k < xs.length
      · obtain ⟨b, off, x, rfl, -, hx, hc⟩ := hr.int hlt
        obtain ⟨b', off', y, rfl, -, hy, hc'⟩ := hr'.int (show k < ys.length by omega)
        have HX := Lib.hid hx
        have HY := Lib.hid hy
        clear hx hy
        by_cases hxy : (x != y) = true
        · go_wp2_with fail
          go_quiet (fail)
          go_wp2_with fail
          go_ret
          have hf : r = false := by
            cases r with
            | false => rfl
            | true =>
              have e := HR.out.1 rfl
              have hx := HX.out
              rw [e, HY.out] at hx
              simp at hx hxy
              omega
          subst hf
          exact ⟨rfl, _, by first | rfl | exact dn _ _ _⟩
        · have hxy' : (x != y) = false := by simpa using hxy
          clear hxy
          go_wp2_with fail
          go_quiet (fail)
          go_wp2_with fail
          go_roundw
          case rel =>
            have e : x = y := by simpa using hxy'
            exact ⟨k + 1, by omega, by go_num, ⟨_, by first | rfl | exact dn _ _ _⟩, by rw [take_succ_of xs HX.out, take_succ_of ys HY.out, HE.out, e]⟩
          case measure => simp [intOf]; omega
      · go_wp2_with fail
        go_ret
        have hkl : k = xs.length := by omega
        have hf : r = true := by
          refine HR.out.2 ?_
          have h1 : xs.take k = xs := by rw [hkl]; exact List.take_length
          have h2 : ys.take k = ys := by rw [show k = ys.length from by omega]; exact List.take_length
          rw [← h1, HE.out, h2]
        subst hf
        exact ⟨rfl, _, rfl⟩
  · have hne : ((xs.length : Int) != (ys.length : Int)) = true := by simp; omega
    have hf : r = false := by
      cases r with
      | false => rfl
      | true => exact absurd (congrArg List.length (HR.out.1 rfl)) hlen
    subst hf
    clear hlen
    go_enter Try.func74, Try.ntmps74
    go_wp2_with fail
    go_ret
    exact ⟨rfl, 0, rfl⟩
end Go.Proofs.Ytimmnnncgnnkgaa

/- Contracts: equality of lists of words. -/
namespace Go.Proofs.Ytimmnnncgnnkgaa
set_option linter.unusedVariables false
set_option linter.unusedSimpArgs false
open Go.RowKit

end Go.Proofs.Ytimmnnncgnnkgaa

/- Contracts: letters and words of a rank. -/
namespace Go.Proofs.Ytimmnnncgnnkgaa
set_option linter.unusedVariables false
set_option linter.unusedSimpArgs false
open Go.RowKit

set_option maxHeartbeats 400000 in
theorem impl_areInverse (a b : Int) (w : World) (ha : -9223372036854775808 ≤ a) (ha2 : a ≤ 9223372036854775807) :
    Calls Try.prog 105 #[.int .i64 a, .int .i64 b] w fun e w' => e = .returned (.bool (invB a b)) ∧ w = w' := by
  by_cases h0 : a = 0
  · subst h0
    go_enter Try.func105, Try.ntmps105
    go_wp2_with fail
    go_ret
    exact ⟨by simp [invB], rfl⟩
  · by_cases hm : a = minI
    · have hr : invB a b = false := by simp [invB, hm]
      rw [hr]
      clear h0 hr
      subst hm
      unfold minI
      clear ha ha2
      go_enter Try.func105, Try.ntmps105
      go_wp2_with fail
      go_ret
      exact ⟨rfl, rfl⟩
    · have hlo : -9223372036854775807 ≤ a := by unfold minI at hm; omega
      have hx : (a != 0) = true := by simpa using h0
      by_cases hb : (b == -a) = true
      · have hr : invB a b = true := by simp [invB, h0, hm]; simpa using hb
        rw [hr]
        clear h0 hm hr
        go_enter Try.func105, Try.ntmps105
        go_wp2_with fail
        go_ret
        exact ⟨by simp; omega, rfl⟩
      · have hb' : (b == -a) = false := by simpa using hb
        have hr : invB a b = false := by simp [invB]; intro _ _; simpa using hb
        rw [hr]
        clear h0 hm hr hb
        go_enter Try.func105, Try.ntmps105
        go_wp2_with fail
        go_ret
        exact ⟨rfl, rfl⟩

set_option maxHeartbeats 400000 in
theorem impl_isLetter (rank x : Int) (w : World) (h1 : 1 ≤ rank) (h3 : rank ≤ 3) :
    Calls Try.prog 126 #[.int .i64 rank, .int .i64 x] w fun e w' => e = .returned (.bool (letB rank x)) ∧ w = w' := by
  by_cases h0 : x = 0
  · subst h0
    go_enter Try.func126, Try.ntmps126
    go_wp2_with fail
    go_ret
    exact ⟨by simp [letB], rfl⟩
  · have hx : (x != 0) = true := by simpa using h0
    have hr : letB rank x = inB x (-rank) rank := by simp [letB, inB, h0]
    rw [hr]
    clear h0 hr
    go_enter Try.func126, Try.ntmps126
    go_wp2_with fail
    with_reducible refine (within_any _ _ _ _).mono ?_
    rintro e w' ⟨rfl, rfl⟩
    go_wp2_with fail
    go_ret
    exact ⟨rfl, rfl⟩

theorem wrap_neg {x : Int} (h1 : -9223372036854775808 ≤ x) (h2 : x ≤ 9223372036854775807) : wrap64 (-x) = negI x := by
  unfold negI minI
  by_cases h : x = -9223372036854775808
  · rw [if_pos h, h]
    unfold wrap64
    omega
  · rw [if_neg h]
    exact IntWalk.wrap64_in _ ⟨by omega, by omega⟩
theorem invW_cons (x : Int) (t : List Int) : invW (x :: t) = invW t ++ [negI x] := by simp [invW]

set_option maxHeartbeats 800000 in
theorem spec_InvertWord (A : Option Addr) (xs : List Int) (c B : Nat) (w : World) (hr : Rs w B A (ints xs)) (hB : B ≤ w.heap.size) (hok : OkI xs) (hl : xs.length ≤ 4194304) :
    Calls Try.prog 103 #[.slice A xs.length c] w fun e w' => RetI 3 (invW xs) w e w' := by
  have HOK := Lib.hid hok
  clear hok
  have hb0 := (Below.refl w.heap.size w).alloc (Nat.le_refl _) (.cells #[] 3)
  have ho0 := owns_empty w 3 1
  go_enter Try.func103, Try.ntmps103
  go_wp2_with fail
  go_loopw [3, 4] (fun v i wr => ∃ j : Nat, j ≤ xs.length ∧ i = .int .i64 ((j : Int) - 1) ∧ wr.ownsRow w.heap.size 3 1 v (xs.length - j) (ints (invW (xs.drop j))) ∧ Below w.heap.size w wr)
    (fun _ i _ => (intOf i + 1).toNat)
  case atStart => exact ⟨xs.length, Nat.le_refl _, rfl, by simpa [invW, ints] using ho0, hb0⟩
  case round =>
    obtain ⟨j, hj, rfl, hown, hb⟩ := hrel
    have hsz := hb.size
    cases j with
    | zero =>
      go_wp2_with fail
      go_ret
      exact RetI.mk (by rw [invW_len]) (by simpa using hown) hb
    | succ m =>
      rw [show (((m + 1 : Nat) : Int) - 1) = (m : Int) from by omega]
      obtain ⟨b, off, x, rfl, -, hx, hc⟩ := ((hr.more hB).below hb).int (show m < xs.length by omega)
      have hbx := HOK.out x (List.mem_of_getElem? hx)
      have HW := Lib.hid (wrap_neg hbx.1 hbx.2)
      have HX := Lib.hid hx
      clear hx hbx
      go_wp2_with (at_builtin; refine wpList_push rfl _ _ 37 rfl w.heap.size 3 (.int .i64 0) 1 8 undSI infoI rfl (by decide) _ _ _ rfl hown 1 [.int .i64 (wrap64 (-x))] rfl rfl ?c1 ?c2 ?c3 hsz ?next)
      case c1 => exact one_of_ints [wrap64 (-x)]
      case c2 => unfold maxLen; omega
      case c3 => omega
      case next =>
        intro v' w1 hown1 hgr _
        go_wp2_with fail
        go_roundw
        case rel =>
          refine ⟨m, by omega, rfl, ?_, hb.grown hgr hsz (fun g hg => (hown.lt g hg).1)⟩
          rw [drop_of xs HX.out, invW_cons, ints_append, show xs.length - m = xs.length - (m + 1) + 1 from by omega, ← HW.out]
          exact hown1
        case measure => simp [intOf]
end Go.Proofs.Ytimmnnncgnnkgaa

/- append(out, xs...) at a step of a region that draws its order, and at one operation; a cell behind a step. -/
namespace Go.Proofs.Ytimmnnncgnnkgaa
set_option linter.unusedVariables false
set_option linter.unusedSimpArgs false
open Go.RowKit

theorem cell_keep {w w' : World} {lo hi b i : Nat} {u : Value} (m : Mid lo hi w w') (hb : b < w.heap.size) (hd : b < lo ∨ hi ≤ b) (hc : w.cell? ⟨b, i, none⟩ = some u) : w'.cell? ⟨b, i, none⟩ = some u :=
  (World.cell?_of_block (m.block b hb (by omega))).trans hc

section
variable {P : Program} {w : World}
theorem run_cat (base : Nat) (t ty e : TypeId) (z : Value) (size bytes : Nat) (ht : P.underlying t = some (.slice e)) (hinfo : (P.info? e).map (fun i => (i.zero, i.size, i.bytes)) = some (some z, size, bytes))
    (hzs : z.cells.size = size) (hsz : 0 < size)
    (v : Value) (n : Nat) (xs : List Value) (hown : w.ownsRow base e size v n xs)
    (A : Option Addr) (m c B : Nat) (news : List Value) (hr : Rs w B A news) (hl : news.length = m * size) (h1 : ∀ u ∈ news, u.oneCell' = true)
    (h63 : n + m ≤ maxLen) (hbytes : (n + m) * bytes ≤ 140737488355328) (hbase : base ≤ w.heap.size) :
    ∃ v' w', (Builtin.append_ #[t, t] ty #[v, .slice A m c]).run P w = .ok v' w' ∧ w'.ownsRow base e size v' (n + m) (xs ++ news) ∧ w.grownBy w' v.ownBlock ∧
      (v'.ownBlock = v.ownBlock ∨ v'.ownBlock = some w.heap.size) := by
  obtain ⟨i, hi, hz, hsize, hby⟩ := info_parts hinfo
  rcases A with _ | ad
  · have hn : news = [] := by
      cases hne : news with
      | nil => rfl
      | cons u r =>
        obtain ⟨b, off, he, _⟩ := hr (by rw [hne]; simp)
        cases he
    subst hn
    have hm : m = 0 := by
      rcases Nat.eq_zero_or_pos m with h0 | h0
      · exact h0
      · have := Nat.mul_pos h0 hsz
        simp at hl
        omega
    subst hm
    exact ⟨v, w, run_append_none base t ty e i size ht hi v n xs hown c, by simpa using hown, World.grownBy.refl w _, .inl rfl⟩
  · have hcells : ∀ j u, news[j]? = some u → w.cell? (ad.add j) = some u := by
      intro j u hu
      obtain ⟨b, off, he, _, hc⟩ := hr (by intro h0; subst h0; simp at hu)
      injection he with he
      subst he
      rw [Addr.add_lit]
      exact hc j u hu
    obtain ⟨v', w', hrun, h2, h3, _, h5⟩ := run_append_own_at (P := P) w base t ty e i z size bytes ht hi hz hsize hby hzs hsz v n xs hown ad m c news hl hcells h1 h63 hbytes hbase
    exact ⟨v', w', hrun, h2, h3, h5⟩
theorem wp_cat {o : Oper} {a : Act} {K : Act → World → Prop} {Q : Exit → Act → World → Prop} (s x : Operand) (t : TypeId)
    (ho : o.op = .call { callee := .builtin .append, args := #[s, x], argTypes := #[t, t] })
    (base : Nat) (e : TypeId) (z : Value) (size bytes : Nat) (ht : P.underlying t = some (.slice e)) (hinfo : (P.info? e).map (fun i => (i.zero, i.size, i.bytes)) = some (some z, size, bytes))
    (hzs : z.cells.size = size) (hsz : 0 < size)
    (v : Value) (n : Nat) (xs : List Value) (hs : a.eval s = v) (hown : w.ownsRow base e size v n xs)
    (A : Option Addr) (m c B : Nat) (news : List Value) (hx : a.eval x = .slice A m c) (hr : Rs w B A news) (hl : news.length = m * size) (h1 : ∀ u ∈ news, u.oneCell' = true)
    (h63 : n + m ≤ maxLen) (hbytes : (n + m) * bytes ≤ 140737488355328) (hbase : base ≤ w.heap.size)
    (h : ∀ v' w', w'.ownsRow base e size v' (n + m) (xs ++ news) → w.grownBy w' v.ownBlock → (v'.ownBlock = v.ownBlock ∨ v'.ownBlock = some w.heap.size) → K (a.put o.dst v') w') : o.wp P a w K Q := by
  obtain ⟨v', w', hrun, h2, h3, h4⟩ := run_cat (P := P) base t o.type e z size bytes ht hinfo hzs hsz v n xs hown A m c B news hr hl h1 h63 hbytes hbase
  unfold Oper.wp execOp
  simp only [ho, resolve, invoke, builtin, Sem.run_bind, Sem.run_pure, Result.andThen_ok, List.map_toArray, List.map_cons, List.map_nil, hs, hx, hrun]
  exact h v' w' h2 h3 h4
theorem step_cat {ops : Array Oper} {o : Oper} {a : Act} {K : Act → World → Prop} {Q : Exit → Act → World → Prop} {E : Prop} (hgd : o.guard = none) (s x : Operand) (t : TypeId)
    (ho : o.op = .call { callee := .builtin .append, args := #[s, x], argTypes := #[t, t] })
    (base : Nat) (e : TypeId) (z : Value) (size bytes : Nat) (ht : P.underlying t = some (.slice e)) (hinfo : (P.info? e).map (fun i => (i.zero, i.size, i.bytes)) = some (some z, size, bytes))
    (hzs : z.cells.size = size) (hsz : 0 < size)
    (v : Value) (n : Nat) (xs : List Value) (hs : a.eval s = v) (hown : w.ownsRow base e size v n xs)
    (A : Option Addr) (m c B : Nat) (news : List Value) (hx : a.eval x = .slice A m c) (hr : Rs w B A news) (hl : news.length = m * size) (h1 : ∀ u ∈ news, u.oneCell' = true)
    (h63 : n + m ≤ maxLen) (hbytes : (n + m) * bytes ≤ 140737488355328) (hbase : base ≤ w.heap.size)
    (h : ∀ v' w', w'.ownsRow base e size v' (n + m) (xs ++ news) → w.grownBy w' v.ownBlock → (v'.ownBlock = v.ownBlock ∨ v'.ownBlock = some w.heap.size) → K (a.put o.dst v') w') :
    if Region.wanted o (yielded ops a.tmps) = true then Oper.wp P o a w K Q else E := by
  have hw : Region.wanted o (yielded ops a.tmps) = true := by simp [Region.wanted, hgd]
  rw [if_pos hw]
  exact wp_cat s x t ho base e z size bytes ht hinfo hzs hsz v n xs hs hown A m c B news hx hr hl h1 h63 hbytes hbase h
end
end Go.Proofs.Ytimmnnncgnnkgaa

/- Regions that draw their order, only read, and call functions that read and lay blocks of their own: one walk. -/
namespace Go.Proofs.Ytimmnnncgnnkgaa
set_option linter.unusedVariables false
set_option linter.unusedSimpArgs false
open Go.RowKit

/-- w with blocks laid behind it, at another count of draws. -/
def wg (w : World) (m : Nat) (os : Array Obj) : World := { w with heap := w.heap ++ os, drawn := m }
structure GB where
  n : Nat
  os : Array Obj
  deriving Inhabited
theorem Mid.ofWg (w : World) (m : Nat) (os : Array Obj) : Mid 0 0 w (wg w m os) :=
  ⟨rfl, rfl, rfl, by simp [wg], fun k hk _ => by simp [wg, Array.getElem?_append, hk]⟩
theorem Mid.toWg {w w' : World} (h : Mid 0 0 w w') : ∃ p : GB, w' = wg w p.n p.os := by
  refine ⟨⟨w'.drawn, w'.heap.extract w.heap.size w'.heap.size⟩, ?_⟩
  have hh : w'.heap = w.heap ++ w'.heap.extract w.heap.size w'.heap.size := by
    apply Array.ext_getElem?
    intro k
    by_cases hk : k < w.heap.size
    · rw [Array.getElem?_append_left hk]
      exact h.block k hk (by omega)
    · rw [Array.getElem?_append_right (by omega), Array.getElem?_extract]
      have hs := h.size
      by_cases hk2 : k < w'.heap.size
      · rw [if_pos (by omega), show w.heap.size + (k - w.heap.size) = k by omega]
      · rw [if_neg (by omega), Array.getElem?_eq_none (by omega)]
  have h1 := h.os
  have h2 := h.tape
  have h3 := h.output
  cases w'
  cases w
  simp only [wg] at *
  subst h1 h2 h3
  congr 1
theorem wg_cell {w : World} {a : Addr} {v : Value} (hb : a.block < w.heap.size) (h : w.cell? a = some v) (n : Nat) (os : Array Obj) : (wg w n os).cell? a = some v :=
  (World.cell?_of_block ((Mid.ofWg w n os).block a.block hb (by omega))).trans h
theorem wg_size (w : World) (n : Nat) (os : Array Obj) : (wg w n os).heap.size = w.heap.size + os.size := by simp [wg]
theorem wp_region_quiet_wg {P : Program} {id : Nat} {Q : Exit → Act → World → Prop} {a : Act} {w : World} {l : List Oper} (hm : P.follows .mixedOrders = true) (hB : Region.lexB .any l.toArray = true)
    (h : wpQuiet P l.toArray (fun w' => ∃ p : GB, w' = wg w p.n p.os) (fun a' => ∀ w', (∃ p : GB, w' = wg w p.n p.os) → Q .normal a' w') l a) : (Code.region id l.toArray true).wp P Q a w :=
  wp_region_quiet (C := fun w' => ∃ p : GB, w' = wg w p.n p.os) hm hB (Mid.drew1 w).toWg (by simpa using h)
/-- A callee's contract, met in a world of the class. -/
theorem Calls.wg_of {P : Program} {f : FuncId} {args : Array Value} {w : World} {n : Nat} {os : Array Obj} {v : Value}
    (h : Calls P f args (wg w n os) fun e w' => e = .returned v ∧ Mid 0 0 (wg w n os) w') : Calls P f args (wg w n os) fun e w'' => e = .returned v ∧ ∃ p : GB, w'' = wg w p.n p.os :=
  h.mono fun _ _ ⟨he, hm⟩ => ⟨he, ((Mid.ofWg w n os).trans hm).toWg⟩
end Go.Proofs.Ytimmnnncgnnkgaa

/- Edges: their order and their places, both sides. -/
namespace Go.Proofs.Ytimmnnncgnnkgaa
set_option linter.unusedVariables false
set_option linter.unusedSimpArgs false
open Go.RowKit

abbrev Ed.v (e : Ed) : Value := .agg #[.int .i64 e.a, .int .i64 e.l, .int .i64 e.b]
/-- An edge lies in a graph. -/
def edB (r s : Int) (e : Ed) : Bool := inB e.a 0 (wrap64 (s - 1)) && inB e.b 0 (wrap64 (s - 1)) && inB e.l 1 r
/-- The cells of an edge of a slice. -/
theorem RV.ed {w : World} {lo hi : Nat} {A : Option Addr} {es : List Ed} {k : Nat} (h : RV w lo hi A (ints (edI es))) (hk : k < es.length) :
    ∃ b off e, A = some ⟨b, off, none⟩ ∧ lo ≤ b ∧ b < hi ∧ es[k]? = some e ∧ w.cell? ⟨b, off + k * 3, none⟩ = some (.int .i64 e.a) ∧ w.cell? ⟨b, off + k * 3 + 1, none⟩ = some (.int .i64 e.l) ∧ w.cell? ⟨b, off + k * 3 + 2, none⟩ = some (.int .i64 e.b) := by
  obtain ⟨e, he⟩ := get_of_lt es hk
  obtain ⟨g0, g1, g2⟩ := edI_at he
  obtain ⟨b, off, hA, h1, h2, hc⟩ := h.2 (by intro h0; have := congrArg List.length h0; rw [ints_len, edI_len] at this; simp at this; omega)
  exact ⟨b, off, e, hA, h1, h2, he, hc (k * 3) _ (by rw [ints_get, g0]; rfl), hc (k * 3 + 1) _ (by rw [ints_get, g1]; rfl), hc (k * 3 + 2) _ (by rw [ints_get, g2]; rfl)⟩

set_option maxHeartbeats 800000 in
theorem spec_l4Edge (r s : Int) (A : Option Addr) (n c : Nat) (e : Ed) (w : World) :
    Calls Try.prog 109 #[.agg #[.int .i64 r, .int .i64 s, .slice A n c], e.v] w fun en w' => en = .returned (.bool (edB r s e)) ∧ Mid 0 0 w w' := by
  obtain ⟨a, l, b⟩ := e
  have hm0 : Mid 0 0 w ((w.alloc (.cells #[.int .i64 r, .int .i64 s, .slice A n c] 28)).alloc (.cells #[.int .i64 a, .int .i64 l, .int .i64 b] 70)) := (Mid.alloc _ _).trans (Mid.alloc _ _)
  have hL : ∀ x lo hi (W : World) (b : Bool), inB x lo hi = b → Calls Try.prog 41 #[.int .i64 x, .int .i64 lo, .int .i64 hi] W fun e w' => e = .returned (.bool b) ∧ W = w' := fun x lo hi W b h => h ▸ l1In_any x lo hi W
  cases h1 : inB a 0 (wrap64 (s - 1)) with
  | false =>
    have hv : edB r s ⟨a, l, b⟩ = false := by simp [edB, h1]
    rw [hv]
    clear hv
    go_enter Try.func109, Try.ntmps109
    go_wp2_with fail
    with_reducible refine (hL _ _ _ _ _ h1).mono ?_
    rintro en w1 ⟨rfl, rfl⟩
    go_wp2_with fail
    go_ret
    exact ⟨rfl, hm0⟩
  | true =>
    cases h2 : inB b 0 (wrap64 (s - 1)) with
    | false =>
      have hv : edB r s ⟨a, l, b⟩ = false := by simp [edB, h2]
      rw [hv]
      clear hv
      go_enter Try.func109, Try.ntmps109
      go_wp2_with fail
      with_reducible refine (hL _ _ _ _ _ h1).mono ?_
      rintro en w1 ⟨rfl, rfl⟩
      go_wp2_with fail
      with_reducible refine (hL _ _ _ _ _ h2).mono ?_
      rintro en w1 ⟨rfl, rfl⟩
      go_wp2_with fail
      go_ret
      exact ⟨rfl, hm0⟩
    | true =>
      have hv : edB r s ⟨a, l, b⟩ = inB l 1 r := by simp [edB, h1, h2]
      rw [hv]
      clear hv
      go_enter Try.func109, Try.ntmps109
      go_wp2_with fail
      with_reducible refine (hL _ _ _ _ _ h1).mono ?_
      rintro en w1 ⟨rfl, rfl⟩
      go_wp2_with fail
      with_reducible refine (hL _ _ _ _ _ h2).mono ?_
      rintro en w1 ⟨rfl, rfl⟩
      go_wp2_with fail
      with_reducible refine (l1In_any _ _ _ _).mono ?_
      rintro en w1 ⟨rfl, rfl⟩
      go_wp2_with fail
      go_ret
      exact ⟨rfl, hm0⟩

end Go.Proofs.Ytimmnnncgnnkgaa

/- The reference's order of edges. -/
namespace Go.Proofs.Ytimmnnncgnnkgaa
set_option linter.unusedVariables false
set_option linter.unusedSimpArgs false
open Go.RowKit

theorem cmpI_lt {a b : Int} (h : a < b) : cmpI a b = -1 := by simp [cmpI, h]
theorem cmpI_gt {a b : Int} (h : b < a) : cmpI a b = 1 := by simp [cmpI, h, show ¬ a < b from by omega]
theorem cmpE_first {e f : Ed} {v : Int} (h : cmpI e.a f.a = v) (h0 : v ≠ 0) : cmpE e f = v := by simp [cmpE, h, h0]
theorem cmpE_second {e f : Ed} {v : Int} (h1 : e.a = f.a) (h : cmpI e.l f.l = v) (h0 : v ≠ 0) : cmpE e f = v := by simp [cmpE, cmpI_zero.2 h1, h, h0]
theorem cmpE_third {e f : Ed} {v : Int} (h1 : e.a = f.a) (h2 : e.l = f.l) (h : cmpI e.b f.b = v) : cmpE e f = v := by simp [cmpE, cmpI_zero.2 h1, cmpI_zero.2 h2, h]

set_option maxHeartbeats 1600000 in
theorem spec_CompareEdges (e f : Ed) (w : World) :
    Calls Try.prog 83 #[e.v, f.v] w fun en w' => en = .returned (.int .i64 (cmpE e f)) ∧ Mid 0 0 w w' := by
  obtain ⟨a, l, b⟩ := e
  obtain ⟨a', l', b'⟩ := f
  obtain ⟨u, hu⟩ : ∃ u, cmpE ⟨a, l, b⟩ ⟨a', l', b'⟩ = u := ⟨_, rfl⟩
  rw [hu]
  have HU := Lib.hid hu
  clear hu
  go_enter Try.func83, Try.ntmps83
  go_wp2_with fail
  go_loopw [4, 7] (fun _ i wr => ∃ k : Nat, i = .int .i64 k ∧ k ≤ 3 ∧ Mid 0 0 w wr ∧ (0 < k → a = a') ∧ (1 < k → l = l') ∧ (2 < k → b = b') ∧
      wr.cell? ⟨w.heap.size + 1 + 1, 0, none⟩ = some (.int .i64 a) ∧ wr.cell? ⟨w.heap.size + 1 + 1, 1, none⟩ = some (.int .i64 l) ∧ wr.cell? ⟨w.heap.size + 1 + 1, 2, none⟩ = some (.int .i64 b) ∧
      wr.cell? ⟨w.heap.size + 1 + 1 + 1, 0, none⟩ = some (.int .i64 a') ∧ wr.cell? ⟨w.heap.size + 1 + 1 + 1, 1, none⟩ = some (.int .i64 l') ∧ wr.cell? ⟨w.heap.size + 1 + 1 + 1, 2, none⟩ = some (.int .i64 b')) (fun _ i _ => 4 - (intOf i).toNat)
  case atStart =>
    refine ⟨0, rfl, by omega, ?_, by simp, by simp, by simp, ?_, ?_, ?_, ?_, ?_, ?_⟩
    · exact (((Mid.alloc _ _).trans (Mid.alloc _ _)).trans (Mid.alloc _ _)).trans (Mid.alloc _ _)
    all_goals simp [World.cell?_alloc_at, World.cell?_alloc_past]
  case round =>
    obtain ⟨k, rfl, hk, hm, e0, e1, e2, c0, c1, c2, d0, d1, d2⟩ := hrel
    by_cases h3 : 3 ≤ k
    · go_wp2_with fail
      go_ret
      obtain rfl : u = 0 := by rw [← HU.out]; exact cmpE_third (e0 (by omega)) (e1 (by omega)) (cmpI_zero.2 (e2 (by omega)))
      exact ⟨rfl, hm⟩
    · have step : ∀ (x y : Int), wr.cell? ⟨w.heap.size + 1 + 1, k, none⟩ = some (.int .i64 x) → wr.cell? ⟨w.heap.size + 1 + 1 + 1, k, none⟩ = some (.int .i64 y) → True := fun _ _ _ _ => trivial
      obtain ⟨x, y, cx, cy, hxy⟩ : ∃ x y, wr.cell? ⟨w.heap.size + 1 + 1, k, none⟩ = some (.int .i64 x) ∧ wr.cell? ⟨w.heap.size + 1 + 1 + 1, k, none⟩ = some (.int .i64 y) ∧ (x ≠ y → u = cmpI x y) ∧ (k = 0 → x = a ∧ y = a') ∧ (k = 1 → x = l ∧ y = l') ∧ (k = 2 → x = b ∧ y = b') := by
        rcases (by omega : k = 0 ∨ k = 1 ∨ k = 2) with rfl | rfl | rfl
        · exact ⟨a, a', c0, d0, fun h => by rw [← HU.out]; exact cmpE_first rfl (fun h0 => h (cmpI_zero.1 h0)), by simp, by simp, by simp⟩
        · exact ⟨l, l', c1, d1, fun h => by rw [← HU.out]; exact cmpE_second (e0 (by omega)) rfl (fun h0 => h (cmpI_zero.1 h0)), by simp, by simp, by simp⟩
        · exact ⟨b, b', c2, d2, fun h => by rw [← HU.out]; exact cmpE_third (e0 (by omega)) (e1 (by omega)) rfl, by simp, by simp, by simp⟩
      have hk2 : k < 3 := by omega
      have HE := Lib.hid (And.intro e0 (And.intro e1 e2))
      have HC := Lib.hid (And.intro c0 (And.intro c1 (And.intro c2 (And.intro d0 (And.intro d1 d2)))))
      have HX := Lib.hid hxy
      clear e0 e1 e2 c0 c1 c2 d0 d1 d2 hxy step h3 hk
      by_cases hlt : x < y
      · have hv := HX.out.1 (by omega)
        rw [cmpI_lt hlt] at hv
        subst hv
        go_wp2_with fail
        go_quiet (fail)
        go_wp2_with fail
        go_ret
        exact ⟨rfl, hm.drewN _⟩
      · by_cases hgt : y < x
        · have hv := HX.out.1 (by omega)
          rw [cmpI_gt hgt] at hv
          subst hv
          go_wp2_with fail
          go_quiet (fail)
          go_wp2_with fail
          go_quiet (fail)
          go_wp2_with fail
          go_ret
          exact ⟨rfl, by first | exact (hm.drewN _).drewN _ | exact hm.drewN _⟩
        · have hq : x = y := by omega
          clear hlt hgt
          subst hq
          go_wp2_with fail
          go_quiet (fail)
          go_wp2_with fail
          go_quiet (fail)
          go_wp2_with fail
          go_roundw
          case rel =>
            obtain ⟨e0, e1, e2⟩ := HE.out
            obtain ⟨c0, c1, c2, d0, d1, d2⟩ := HC.out
            obtain ⟨-, q0, q1, q2⟩ := HX.out
            refine ⟨k + 1, by go_num, by omega, by first | exact (hm.drewN _).drewN _ | exact hm.drewN _, fun h => ?_, fun h => ?_, fun h => ?_, c0, c1, c2, d0, d1, d2⟩
            · rcases (by omega : k = 0 ∨ 0 < k) with h5 | h5
              · rw [← (q0 h5).1, ← (q0 h5).2]
              · exact e0 h5
            · rcases (by omega : k = 1 ∨ 1 < k) with h5 | h5
              · rw [← (q1 h5).1, ← (q1 h5).2]
              · exact e1 h5
            · rcases (by omega : k = 2 ∨ 2 < k) with h5 | h5
              · rw [← (q2 h5).1, ← (q2 h5).2]
              · exact e2 h5
          case measure => simp [intOf]; omega
end Go.Proofs.Ytimmnnncgnnkgaa

/- IsGraph, both sides. -/
namespace Go.Proofs.Ytimmnnncgnnkgaa
set_option linter.unusedVariables false
set_option linter.unusedSimpArgs false
open Go.RowKit

/-- The edges below k lie in the graph and ascend. -/
def UpTo (r s : Int) (es : List Ed) (k : Nat) : Prop := ∀ j e, j < k → es[j]? = some e → edB r s e = true ∧ ∀ f, 0 < j → es[j - 1]? = some f → cmpE f e < 0
theorem UpTo.zero (r s : Int) (es : List Ed) : UpTo r s es 0 := fun j e h => absurd h (Nat.not_lt_zero _)
theorem UpTo.succ {r s : Int} {es : List Ed} {k : Nat} {e : Ed} (h : UpTo r s es k) (he : es[k]? = some e) (h1 : edB r s e = true) (h2 : ∀ f, 0 < k → es[k - 1]? = some f → cmpE f e < 0) : UpTo r s es (k + 1) := by
  intro j e' hj he'
  rcases Nat.lt_succ_iff_lt_or_eq.1 hj with h3 | rfl
  · exact h j e' h3 he'
  · rw [he] at he'
    injection he' with he'
    subst he'
    exact ⟨h1, h2⟩
abbrev graV (r s : Int) (A : Option Addr) (n c : Nat) : Value := .agg #[.int .i64 r, .int .i64 s, .slice A n c]
theorem edB_iff {r s : Int} {e : Ed} (h1 : 1 ≤ s) (h2 : s ≤ 40) : edB r s e = true ↔ InG r s e := by
  unfold edB InG inB
  rw [IntWalk.wrap64_in (s - 1) (by omega)]
  simp
  omega
theorem asc_at {es : List Ed} : Asc es ↔ ∀ (j : Nat) (e f : Ed), 0 < j → es[j - 1]? = some f → es[j]? = some e → LtE f e := by
  constructor
  · intro h j e f hj hf he
    obtain ⟨h1, h1'⟩ := List.getElem?_eq_some_iff.1 hf
    obtain ⟨h2, h2'⟩ := List.getElem?_eq_some_iff.1 he
    have := List.pairwise_iff_getElem.1 h (j - 1) j h1 h2 (by omega)
    rw [h1', h2'] at this
    exact this
  · intro h
    refine List.pairwise_iff_getElem.2 fun i j hi hj hij => ?_
    obtain ⟨d, rfl⟩ : ∃ d, j = i + 1 + d := ⟨j - i - 1, by omega⟩
    clear hij
    induction d with
    | zero => exact h (i + 1) _ _ (by omega) (by rw [Nat.add_sub_cancel]; exact List.getElem?_eq_getElem hi) (List.getElem?_eq_getElem hj)
    | succ d ih => exact (ih (by omega)).trans (h (i + 1 + (d + 1)) _ _ (by omega) (List.getElem?_eq_getElem (by omega)) (List.getElem?_eq_getElem hj))
theorem upTo_all {r s : Int} {es : List Ed} (h1 : 1 ≤ s) (h2 : s ≤ 40) : UpTo r s es es.length ↔ (∀ e ∈ es, InG r s e) ∧ Asc es := by
  constructor
  · intro h
    refine ⟨fun e he => ?_, asc_at.2 fun j e f hj hf he => ?_⟩
    · obtain ⟨j, hj⟩ := List.mem_iff_getElem?.1 he
      exact (edB_iff h1 h2).1 (h j e (List.getElem?_eq_some_iff.1 hj).1 hj).1
    · exact cmpE_neg.1 ((h j e (List.getElem?_eq_some_iff.1 he).1 he).2 f hj hf)
  · rintro ⟨h3, h4⟩ j e hj he
    exact ⟨(edB_iff h1 h2).2 (h3 e (List.mem_of_getElem? he)), fun f h0 hf => cmpE_neg.2 (asc_at.1 h4 j e f h0 hf he)⟩
/-- The tests of IsGraph. -/
structure GrT (r s : Int) (es : List Ed) : Prop where
  rank : inB r 1 3 = true
  size : inB s 1 40 = true
  len : es.length ≤ 120
  up : UpTo r s es es.length
theorem grT_iff {r s : Int} {es : List Ed} : GrT r s es ↔ IsGr r s es := by
  constructor
  · rintro ⟨h1, h2, h3, h4⟩
    have h1 : 1 ≤ r ∧ r ≤ 3 := by simpa [inB] using h1
    have h2 : 1 ≤ s ∧ s ≤ 40 := by simpa [inB] using h2
    obtain ⟨h5, h6⟩ := (upTo_all h2.1 h2.2).1 h4
    exact ⟨h1, h2, h3, h5, h6⟩
  · rintro ⟨h1, h2, h3, h4, h5⟩
    exact ⟨by simpa [inB] using h1, by simpa [inB] using h2, h3, (upTo_all h2.1 h2.2).2 ⟨h4, h5⟩⟩
theorem within_at {x lo hi : Int} {b : Bool} (h : inB x lo hi = b) (W : World) : Calls Try.prog 76 #[.int .i64 x, .int .i64 lo, .int .i64 hi] W fun e w' => e = .returned (.bool b) ∧ W = w' := h ▸ within_any x lo hi W
theorem l1In_at {x lo hi : Int} {b : Bool} (h : inB x lo hi = b) (W : World) : Calls Try.prog 41 #[.int .i64 x, .int .i64 lo, .int .i64 hi] W fun e w' => e = .returned (.bool b) ∧ W = w' := h ▸ l1In_any x lo hi W

end Go.Proofs.Ytimmnnncgnnkgaa

/- IsGraph, the reference. -/
namespace Go.Proofs.Ytimmnnncgnnkgaa
set_option linter.unusedVariables false
set_option linter.unusedSimpArgs false
open Go.RowKit

set_option maxHeartbeats 1600000 in
theorem spec_IsGraph (r s : Int) (A : Option Addr) (es : List Ed) (c : Nat) (w : World) (lo hi : Nat) (hr : RV w lo hi A (ints (edI es))) (hl : es.length ≤ 1048576) (b : Bool) (hb : b = true ↔ IsGr r s es) :
    Calls Try.prog 80 #[graV r s A es.length c] w fun e w' => e = .returned (.bool b) ∧ Mid 0 0 w w' := by
  have HB := Lib.hid (hb.trans grT_iff.symm)
  clear hb
  have bx0 := Box.new w #[.int .i64 r, .int .i64 s, .slice A es.length c] 28
  have hm0 := Mid.alloc w (.cells #[.int .i64 r, .int .i64 s, .slice A es.length c] 28)
  go_enter Try.func80, Try.ntmps80
  go_wp2_with fail
  go_loopw [2, 3] (fun _ i wr => ∃ k : Nat, k ≤ es.length ∧ i = .int .i64 k ∧ Box wr w.heap.size [.int .i64 r, .int .i64 s, .slice A es.length c] ∧ UpTo r s es k ∧ Mid 0 0 w wr) (fun _ i _ => es.length - (intOf i).toNat)
  case atStart => exact ⟨0, Nat.zero_le _, rfl, bx0, UpTo.zero _ _ _, hm0⟩
  case round =>
    obtain ⟨k, hk, rfl, bx, hup, hm⟩ := hrel
    have G0 := bx.cell 0 rfl
    have G1 := bx.cell 1 rfl
    have G2 := bx.cell 2 rfl
    by_cases hlt : k < es.length
    · have hrm := hr.mid hm (Or.inl (Nat.zero_le _))
      obtain ⟨B, off, e, rfl, -, hbh, he, e0, e1, e2⟩ := hrm.ed hlt
      have hk0 : (0 : Int) ≤ (k : Int) := by omega
      have hkn : (k : Int) < (es.length : Int) := by omega
      have HUP := Lib.hid hup
      have HEK := Lib.hid he
      have zp := Nat.lt_of_lt_of_le hbh hrm.1
      have g0 := wg_cell bx.1 G0
      have g1 := wg_cell bx.1 G1
      have g2 := wg_cell bx.1 G2
      have e0 := wg_cell zp e0
      have e1 := wg_cell zp e1
      have e2 := wg_cell zp e2
      have hA := fun W => spec_l4Edge r s (some ⟨B, off, none⟩) es.length c e W
      cases hA0 : edB r s e with
      | false =>
        obtain rfl : b = false := by cases b with | false => rfl | true => have := ((HB.out.1 rfl).up k e hlt he).1; rw [hA0] at this; cases this
        rw [hA0] at hA
        clear hup he hA0
        go_wp2_with fail
        refine wp_region_quiet_wg (by kernel_rfl) (by kernel_rfl) ?_
        repeat
          (with_reducible refine wpQuiet_step (fun K hK => ?_))
          go_simp
          first
            | ((with_reducible refine hK _ ?_); clear hK K)
            | (rw [if_neg (by decide)]; (with_reducible refine hK _ ?_); clear hK K)
            | (apply Exists.intro; refine ⟨fun _ => ?_, hK _ ?_⟩; ((go_at_call 109; exact Calls.wg_of (hA _))); clear hK K)
        with_reducible refine wpQuiet_nil ?_
        intro _ hw'
        obtain ⟨⟨nq, osq⟩, hw''⟩ := hw'
        subst hw''
        go_wp2_with fail
        go_ret
        exact ⟨rfl, hm.trans (Mid.ofWg _ _ _)⟩
      | true =>
        rw [hA0] at hA
        have HA0 := Lib.hid hA0
        by_cases hkz : k = 0
        · have hkz2 : decide ((0 : Int) < (k : Int)) = false := by simp; omega
          have hkz3 : (0 < k) = False := eq_false (by omega)
          have HKZ := Lib.hid hkz
          clear hup he hA0 hkz
          go_wp2_with fail
          refine wp_region_quiet_wg (by kernel_rfl) (by kernel_rfl) ?_
          repeat
            (with_reducible refine wpQuiet_step (fun K hK => ?_))
            go_simp
            first
              | ((with_reducible refine hK _ ?_); clear hK K)
              | (rw [if_neg (by decide)]; (with_reducible refine hK _ ?_); clear hK K)
              | (apply Exists.intro; refine ⟨fun _ => ?_, hK _ ?_⟩; ((go_at_call 109; exact Calls.wg_of (hA _))); clear hK K)
          with_reducible refine wpQuiet_nil ?_
          intro _ hw'
          obtain ⟨⟨nq, osq⟩, hw''⟩ := hw'
          subst hw''
          go_wp2_with fail
          go_roundw
          case rel => exact ⟨k + 1, by omega, by go_num, bx.mid (Mid.ofWg _ _ _) (Or.inr (Nat.zero_le _)), HUP.out.succ HEK.out HA0.out (fun f h => absurd h (by have := HKZ.out; omega)), hm.trans (Mid.ofWg _ _ _)⟩
          case measure => simp [intOf]; omega
        · obtain ⟨m, hm1⟩ : ∃ m, k = m + 1 := ⟨k - 1, by omega⟩
          obtain ⟨B', off', f, hA1, -, -, hf, p0, p1, p2⟩ := hrm.ed (show m < es.length by omega)
          injection hA1 with hA1
          injection hA1 with hA2 hA3
          subst hA2
          subst hA3
          have hkm : (k : Int) - 1 = (m : Int) := by omega
          have hkp : (0 : Int) < (k : Int) := by omega
          have hkp3 : 0 < k := by omega
          have hwm : IntKind.i64.wrap (m : Int) = (m : Int) := IntWalk.i64_in _ (by omega)
          have hm0' : (0 : Int) ≤ (m : Int) := by omega
          have hmn : (m : Int) < (es.length : Int) := by omega
          have p0 := wg_cell zp p0
          have p1 := wg_cell zp p1
          have p2 := wg_cell zp p2
          obtain ⟨v, hv⟩ : ∃ v, cmpE f e = v := ⟨_, rfl⟩
          have hQ := fun W => spec_CompareEdges f e W
          rw [hv] at hQ
          have HF := Lib.hid hf
          have HKM := Lib.hid hm1
          by_cases hv0 : 0 ≤ v
          · obtain rfl : b = false := by
              cases b with
              | false => rfl
              | true =>
                have := ((HB.out.1 rfl).up k e hlt he).2 f (by omega) (by rw [hm1]; exact hf)
                omega
            clear hup he hA0 hf hm1 hv
            go_wp2_with fail
            refine wp_region_quiet_wg (by kernel_rfl) (by kernel_rfl) ?_
            repeat
              (with_reducible refine wpQuiet_step (fun K hK => ?_))
              go_simp
              first
                | ((with_reducible refine hK _ ?_); clear hK K)
                | (rw [if_neg (by decide)]; (with_reducible refine hK _ ?_); clear hK K)
                | (apply Exists.intro; refine ⟨fun _ => ?_, hK _ ?_⟩; ((first | (go_at_call 109; exact Calls.wg_of (hA _)) | (go_at_call 83; exact Calls.wg_of (hQ _)))); clear hK K)
            with_reducible refine wpQuiet_nil ?_
            intro _ hw'
            obtain ⟨⟨nq, osq⟩, hw''⟩ := hw'
            subst hw''
            go_wp2_with fail
            go_ret
            exact ⟨rfl, hm.trans (Mid.ofWg _ _ _)⟩
          · have HV := Lib.hid (show cmpE f e < 0 by omega)
            clear hup he hA0 hf hm1 hv
            go_wp2_with fail
            refine wp_region_quiet_wg (by kernel_rfl) (by kernel_rfl) ?_
            repeat
              (with_reducible refine wpQuiet_step (fun K hK => ?_))
              go_simp
              first
                | ((with_reducible refine hK _ ?_); clear hK K)
                | (rw [if_neg (by decide)]; (with_reducible refine hK _ ?_); clear hK K)
                | (apply Exists.intro; refine ⟨fun _ => ?_, hK _ ?_⟩; ((first | (go_at_call 109; exact Calls.wg_of (hA _)) | (go_at_call 83; exact Calls.wg_of (hQ _)))); clear hK K)
            with_reducible refine wpQuiet_nil ?_
            intro _ hw'
            obtain ⟨⟨nq, osq⟩, hw''⟩ := hw'
            subst hw''
            go_wp2_with fail
            go_roundw
            case rel =>
              refine ⟨k + 1, by omega, by go_num, bx.mid (Mid.ofWg _ _ _) (Or.inr (Nat.zero_le _)), HUP.out.succ HEK.out HA0.out (fun f' h h' => ?_), hm.trans (Mid.ofWg _ _ _)⟩
              rw [HKM.out, Nat.add_sub_cancel, HF.out] at h'
              injection h' with h'
              subst h'
              exact HV.out
            case measure => simp [intOf]; omega
    · obtain rfl : k = es.length := by omega
      cases h1 : inB r 1 3 with
      | false =>
        obtain rfl : b = false := by cases b with | false => rfl | true => have := (HB.out.1 rfl).rank; rw [h1] at this; cases this
        go_wp2_with fail
        with_reducible refine (l1In_at h1 _).mono ?_
        rintro en w1 ⟨rfl, rfl⟩
        go_wp2_with fail
        go_ret
        exact ⟨rfl, hm⟩
      | true =>
      go_wp2_with fail
      with_reducible refine (l1In_at h1 _).mono ?_
      rintro en w1 ⟨rfl, rfl⟩
      cases h2 : inB s 1 40 with
      | false =>
        obtain rfl : b = false := by cases b with | false => rfl | true => have := (HB.out.1 rfl).size; rw [h2] at this; cases this
        go_wp2_with fail
        with_reducible refine (l1In_at h2 _).mono ?_
        rintro en w1 ⟨rfl, rfl⟩
        go_wp2_with fail
        go_ret
        exact ⟨rfl, hm⟩
      | true =>
      obtain rfl : b = decide (es.length ≤ 120) := by
        rw [Bool.eq_iff_iff, HB.out, decide_eq_true_iff]
        exact ⟨fun h => h.len, fun h => ⟨h1, h2, h, hup⟩⟩
      go_wp2_with fail
      with_reducible refine (l1In_at h2 _).mono ?_
      rintro en w1 ⟨rfl, rfl⟩
      go_wp2_with fail
      go_ret
      have hd : decide ((es.length : Int) ≤ 120) = decide (es.length ≤ 120) := decide_eq_decide.2 (by omega)
      refine ⟨?_, hm⟩
      first
        | rfl
        | exact congrArg (fun x => Ending.returned (Value.bool x)) hd
end Go.Proofs.Ytimmnnncgnnkgaa

/- Contracts of the laws' helpers on morphisms. -/
namespace Go.Proofs.Ytimmnnncgnnkgaa
set_option linter.unusedVariables false
set_option linter.unusedSimpArgs false
open Go.RowKit

theorem Mid.stored {lo hi : Nat} {a w : World} {p : Addr} (h : Mid lo hi a w) (u : Value) (h1 : lo ≤ p.block) (h2 : p.block < hi) : Mid lo hi a (w.setCell p u) := h.trans (Mid.setCell w u h1 h2)
/-- A morphism's value. -/
def morV (r : Int) (A : Option Addr) (n c : Nat) : Value := .agg #[.int .i64 r, .slice A n c]

set_option maxHeartbeats 800000 in
theorem toMorphism_any (r : Int) (A : Option Addr) (xss : List (List Int)) (c : Nat) (w : World) (lo hi : Nat) (hr : RSS w lo hi A xss) (hsz : xss.length + sumL xss ≤ 1048576) :
    Calls Try.prog 30 #[.agg #[.int .i64 r, .slice A xss.length c]] w fun e w' => ∃ A' c', e = .returned (.agg #[.int .i64 r, .slice A' xss.length c']) ∧
      OSS w' w.heap.size w'.heap.size 37 3 A' c' xss ∧ Mid 0 0 w w' := by
  go_enter Try.func30, Try.ntmps30
  go_wp2_with fail
  have hb0 : Mid 0 0 w (((w.alloc (.cells #[.int .i64 r, .slice A xss.length c] 50)).alloc (.cells #[.int .i64 0, .slice none 0 0] 53)).alloc (.cells #[.int .i64 r, .slice none 0 0] 53)) :=
    ((Mid.alloc _ _).trans (Mid.alloc _ _)).trans (Mid.alloc _ _)
  refine (toIntSS_any A xss c _ _ _ (hr.mid hb0 (Or.inl (Nat.zero_le _))) hsz).mono ?_
  rintro e w1 ⟨A', c', rfl, ho, hm⟩
  have hs1 := hm.size
  simp only [World.size_alloc] at hs1 ho
  have c20 : w1.cell? ⟨w.heap.size + 2, 0, none⟩ = some (.int .i64 r) := (World.cell?_of_block (hm.block _ (by simp) (by omega))).trans (World.cell?_alloc_at _ _ _ _ (by simp))
  have c21 : w1.cell? ⟨w.heap.size + 2, 1, none⟩ = some (.slice none 0 0) := (World.cell?_of_block (hm.block _ (by simp) (by omega))).trans (World.cell?_alloc_at _ _ _ _ (by simp))
  have f2 : ∀ i, w1.frozen? ⟨w.heap.size + 2, i, none⟩ = false := fun i => (World.frozen?_of_block (hm.block _ (by simp) (by omega))).trans (World.frozen?_alloc_at _ _ _ _ (by simp))
  have c10 : w1.cell? ⟨w.heap.size + 1, 0, none⟩ = some (.int .i64 0) := (World.cell?_of_block (hm.block _ (by simp) (by omega))).trans ((World.cell?_alloc_past _ _ _ (by simp)).trans (World.cell?_alloc_at _ _ _ _ (by simp)))
  have c11 : w1.cell? ⟨w.heap.size + 1, 1, none⟩ = some (.slice none 0 0) := (World.cell?_of_block (hm.block _ (by simp) (by omega))).trans ((World.cell?_alloc_past _ _ _ (by simp)).trans (World.cell?_alloc_at _ _ _ _ (by simp)))
  have f1 : ∀ i, w1.frozen? ⟨w.heap.size + 1, i, none⟩ = false := fun i => (World.frozen?_of_block (hm.block _ (by simp) (by omega))).trans ((World.frozen?_alloc_past _ _ _ (by simp)).trans (World.frozen?_alloc_at _ _ _ _ (by simp)))
  go_wp2_with fail
  refine bodyPost_ret (v := .agg #[.int .i64 r, .slice A' xss.length c']) (by simp [results, Try.results30, go_sem, c10, c11, f1]) rfl ⟨A', c', rfl, ?_, ?_⟩
  · refine OSS.wide (OSS.mid ho (a := w.heap.size + 1) (b := w.heap.size + 3) ?_ (Or.inl (by omega))) (by omega) (by simp) (Nat.le_refl _)
    repeat (first | exact Mid.refl _ _ _ | refine Mid.stored ?_ _ (by simp) (by simp))
  · have h := hb0.trans hm
    repeat (first | exact h | refine Mid.storeNew ?_ (by simp; try omega) _)

/-- A morphism as data. -/
structure Mor where
  rank : Int
  imgs : List (List Int)
def Mor.mark (d : Mor) (q : Int) : Mor := ⟨d.rank, markD q d.imgs⟩

set_option maxHeartbeats 800000 in
theorem eqMorphism_same (r : Int) (A A' : Option Addr) (xss : List (List Int)) (c c' : Nat) (w : World) (lo hi lo' hi' : Nat) (hr : RSS w lo hi A xss) (hr' : RSS w lo' hi' A' xss) (hsz : xss.length + sumL xss ≤ 1048576) :
    Calls Try.prog 32 #[.agg #[.int .i64 r, .slice A xss.length c], .agg #[.int .i64 r, .slice A' xss.length c']] w fun e w' => e = .returned (.bool true) ∧ Mid 0 0 w w' := by
  go_enter Try.func32, Try.ntmps32
  go_wp2_with fail
  have hb0 : Mid 0 0 w ((w.alloc (.cells #[.int .i64 r, .slice A xss.length c] 53)).alloc (.cells #[.int .i64 r, .slice A' xss.length c'] 53)) := (Mid.alloc _ _).trans (Mid.alloc _ _)
  with_reducible refine (eqIntSS_same A A' xss c c' _ _ _ _ _ (hr.mid hb0 (Or.inl (Nat.zero_le _))) (hr'.mid hb0 (Or.inl (Nat.zero_le _))) hsz).mono ?_
  rintro e w1 ⟨rfl, n, rfl⟩
  go_wp2_with fail
  go_ret
  exact ⟨rfl, hb0.drewN n⟩

set_option maxHeartbeats 800000 in
theorem markMorphism_any (r : Int) (A : Option Addr) (xss : List (List Int)) (c : Nat) (q : Int) (w : World) (lo hi : Nat) (ho : OSS w lo hi 37 3 A c xss) (hq : 0 ≤ q) (hq2 : q ≤ 4194304) (hsz : xss.length + sumL xss ≤ 1048576) :
    Calls Try.prog 36 #[.agg #[.int .i64 r, .slice A xss.length c], .int .i64 q] w fun e w' => e = .returned (.int .i64 (q + (sumL xss : Int))) ∧ OSS w' lo hi 37 3 A c (markD q xss) ∧ Mid lo hi w w' := by
  go_enter Try.func36, Try.ntmps36
  go_wp2_with fail
  have hb0 : Mid 0 0 w (w.alloc (.cells #[.int .i64 r, .slice A xss.length c] 53)) := Mid.alloc _ _
  with_reducible refine (markIntSS_any A xss c q _ lo hi (ho.mid hb0 (Or.inl (Nat.zero_le _))) hq hq2 hsz).mono ?_
  rintro e w1 ⟨rfl, ho1, hm1⟩
  go_wp2_with fail
  go_ret
  exact ⟨rfl, ho1, hb0.zero.trans hm1⟩

set_option maxHeartbeats 800000 in
theorem szMorphism_any (r : Int) (A : Option Addr) (xss : List (List Int)) (c : Nat) (left : Int) (w : World) (lo hi : Nat) (hr : RSS w lo hi A xss) (hok : LenOk xss) (h0 : 0 ≤ left) (h1 : left ≤ 1048576) :
    Calls Try.prog 28 #[.agg #[.int .i64 r, .slice A xss.length c], .int .i64 left] w fun e w' => e = .returned (.int .i64 (szI left (xss.length + sumL xss))) ∧ Mid 0 0 w w' := by
  have hb0 : Mid 0 0 w (w.alloc (.cells #[.int .i64 r, .slice A xss.length c] 50)) := Mid.alloc _ _
  obtain ⟨z, hz⟩ : ∃ z, z = szI left (xss.length + sumL xss) := ⟨_, rfl⟩
  rw [← hz]
  have hcase : z < 0 ∧ z = -1 ∨ 0 ≤ z := by
    rw [hz]
    unfold szI
    split
    · right; omega
    · left; omega
  rcases hcase with ⟨h2, h3⟩ | h2
  · rw [h3] at hz ⊢
    have HZ := Lib.hid hz
    clear hz h2 h3
    go_enter Try.func28, Try.ntmps28
    go_wp2_with fail
    with_reducible refine (szIntSS_any A xss c left _ lo hi (hr.mid hb0 (Or.inl (Nat.zero_le _))) hok h0 h1 (-1) HZ.out).mono ?_
    rintro e w1 ⟨rfl, rfl⟩
    go_wp2_with fail
    go_ret
    exact ⟨rfl, hb0⟩
  · have HZ := Lib.hid hz
    clear hz
    go_enter Try.func28, Try.ntmps28
    go_wp2_with fail
    with_reducible refine (szIntSS_any A xss c left _ lo hi (hr.mid hb0 (Or.inl (Nat.zero_le _))) hok h0 h1 z HZ.out).mono ?_
    rintro e w1 ⟨rfl, rfl⟩
    go_wp2_with fail
    go_ret
    exact ⟨rfl, hb0⟩
end Go.Proofs.Ytimmnnncgnnkgaa

/- Opening of arguments that came in: an int slice reads as a list. -/
namespace Go.Proofs.Ytimmnnncgnnkgaa
set_option linter.unusedVariables false
set_option linter.unusedSimpArgs false
open Go.ChangeShapes Go.WideShapes Go.ChangeAt Go.RowKit
open Go.Joins

section
variable {H : Type} {enc : TypeId × Value → H} {P : Program} {W : World} {T E : TypeId}
theorem wf_bounds {n : Int} (h : (Lit.int .i64 n).wf = true) : -9223372036854775808 ≤ n ∧ n ≤ 9223372036854775807 := bounds_i64 h

theorem rv_of_ints {A : Option Addr} {L C : Nat} {Z : List Int} (hL : L ≤ C) (hZ : Z.length = C) (hn : A = none → C = 0) (hc : ∀ a', A = some a' → 0 ≤ a'.block ∧ ∀ c, c < C → W.cell? (a'.add c) = some (.int .i64 (Z.getD c 0))) :
    RV W 0 W.heap.size A (ints (Z.take L)) := by
  refine ⟨Nat.le_refl _, fun hne => ?_⟩
  have hp : 0 < Z.length := by
    rcases Nat.eq_zero_or_pos Z.length with h0 | h0
    · have := List.eq_nil_of_length_eq_zero h0
      subst this
      simp [ints] at hne
    · exact h0
  cases hA : A with
  | none => have := hn hA; omega
  | some a' =>
    obtain ⟨b, off, rfl, hcc⟩ := ints_at (w := W) (k := .i64) (a := a') (zs := Z) (fun i hi => (hc a' hA).2 i (by omega)) hp
    refine ⟨b, off, rfl, Nat.zero_le _, World.block_lt_of_cell? _ _ (hcc 0 hp), fun j u hu => ?_⟩
    have hj : j < Z.length := by
      have := (List.getElem?_eq_some_iff.1 hu).1
      simp [ints] at this
      omega
    rw [hcc j hj]
    rw [ints_get, List.getElem?_take] at hu
    split at hu
    · rw [List.getElem?_eq_getElem hj] at hu
      simp at hu
      rw [← hu]
      simp [List.getD, List.getElem?_eq_getElem hj]
    · simp at hu

/-- Every number of every row fits an int, and every length is one that there can be. -/
def OkSS (xss : List (List Int)) : Prop := (xss.length ≤ 9223372036854775807 ∧ ∀ xs ∈ xss, xs.length ≤ 9223372036854775807) ∧ ∀ xs ∈ xss, OkI xs

theorem rss_of_cells {E2 : TypeId} (uT : P.underlying T = some (.slice E)) (uE : P.underlying E = some (.slice E2)) (uE2 : P.underlying E2 = some (.int .i64)) (cE : P.cellsOf E = 1) (cE2 : P.cellsOf E2 = 1)
    {fuel : Nat} {A : Option Addr} {len c : Nat} {x : DataW H × List MemPlace} (h : DataW.trod enc P W 0 (fun _ => true) true fuel T [.slice A len c] = some x) :
    ∃ xss : List (List Int), len = xss.length ∧ RSS W 0 W.heap.size A xss ∧ OkSS xss := by
  rcases Go.Deep.open_int_rows uT uE uE2 cE cE2 h with ⟨hcs, _⟩ | ⟨a, l, cc, AA, L, C, Z, hcs, _, hl, hm, _, hx⟩
  · simp at hcs
    obtain ⟨rfl, rfl, rfl⟩ := hcs
    exact ⟨[], rfl, RSS.nil (Nat.le_refl _), ⟨by simp, by simp⟩, by simp⟩
  · simp at hcs
    obtain ⟨rfl, rfl, rfl⟩ := hcs
    refine ⟨(List.range len).map fun r => (Z r).take (L r), by simp, ⟨(List.range len).map fun r => ⟨AA r, C r, (Z r).take (L r)⟩, by simp [rowsD], ⟨Nat.le_refl _, fun hne => ?_⟩, ?_⟩, ⟨?_, ?_⟩, ?_⟩
    · have hpos : 0 < len := by
        rcases Nat.eq_zero_or_pos len with h0 | h0
        · subst h0
          simp [rowsV] at hne
        · exact h0
      have hc0 := (hx 0 (by omega)).1
      obtain ⟨b, off, spot⟩ := a
      have hspot : spot = none := by simpa [Addr.add] using World.cell?_spot hc0
      subst hspot
      refine ⟨b, off, rfl, Nat.zero_le _, ?_, fun j u hu => ?_⟩
      · have := World.block_lt_of_cell? _ _ hc0
        simpa [Addr.add] using this
      · have hj : j < len := by
          have := (List.getElem?_eq_some_iff.1 hu).1
          simpa [rowsV] using this
        obtain ⟨h1, h2, h3, h4, _⟩ := hx j (by omega)
        rw [Addr.add_lit] at h1
        rw [h1]
        simp [rowsV, hj, Row.v] at hu
        rw [← hu]
        congr 1
        congr 1
        omega
    · intro r hr
      obtain ⟨j, hj, rfl⟩ := List.mem_map.1 hr
      have hj' : j < len := by simpa using hj
      obtain ⟨h1, h2, h3, h4, h5, h6, h7⟩ := hx j (by omega)
      exact rv_of_ints h2 h4 h6 h7
    · unfold maxLen at hm; simp; omega
    · intro xs hxs
      obtain ⟨j, hj, rfl⟩ := List.mem_map.1 hxs
      have hj' : j < len := by simpa using hj
      obtain ⟨h1, h2, h3, h4, _⟩ := hx j (by omega)
      unfold maxLen at h3
      simp; omega
    · intro xs hxs
      obtain ⟨j, hj, rfl⟩ := List.mem_map.1 hxs
      have hj' : j < len := by simpa using hj
      obtain ⟨h1, h2, h3, h4, h5, _⟩ := hx j (by omega)
      exact fun y hy => wf_bounds (h5 y (List.mem_of_mem_take hy))
end
end Go.Proofs.Ytimmnnncgnnkgaa

/- Objects of the laws with the blocks they lie in: int slices. Each step of a law leaves a 'Mid'. -/
namespace Go.Proofs.Ytimmnnncgnnkgaa
set_option linter.unusedVariables false
set_option linter.unusedSimpArgs false
open Go.RowKit

/-! ### int slices -/
def RI (w : World) (lo hi : Nat) (A : Option Addr) (xs : List Int) : Prop := RV w lo hi A (ints xs)
def OI (w : World) (lo hi : Nat) (A : Option Addr) (c : Nat) (xs : List Int) : Prop := OV w lo hi 3 1 A c xs.length (ints xs)
theorem RI.mid {w w' : World} {lo hi a b : Nat} {A : Option Addr} {xs : List Int} (h : RI w lo hi A xs) (m : Mid a b w w') (hd : b ≤ lo ∨ hi ≤ a) : RI w' lo hi A xs := RV.mid h m hd
theorem OI.mid {w w' : World} {lo hi a b : Nat} {A : Option Addr} {c : Nat} {xs : List Int} (h : OI w lo hi A c xs) (m : Mid a b w w') (hd : b ≤ lo ∨ hi ≤ a) : OI w' lo hi A c xs := OV.mid h m hd
theorem RI.size {w : World} {lo hi : Nat} {A : Option Addr} {xs : List Int} (h : RI w lo hi A xs) : hi ≤ w.heap.size := h.1
theorem OI.size {w : World} {lo hi : Nat} {A : Option Addr} {c : Nat} {xs : List Int} (h : OI w lo hi A c xs) : hi ≤ w.heap.size := h.1
theorem RI.rs {w : World} {lo hi : Nat} {A : Option Addr} {xs : List Int} (h : RI w lo hi A xs) : Rs w w.heap.size A (ints xs) := (RV.rs h).more h.1

/-- What a step leaves: the value, and that no block that was there has turned. -/
abbrev Stp (v : Value) (w : World) (e : Ending) (w' : World) : Prop := e = .returned v ∧ Mid 0 0 w w'
abbrev StpI (xs : List Int) (w : World) (e : Ending) (w' : World) : Prop := ∃ A c, e = .returned (.slice A xs.length c) ∧ OI w' w.heap.size w'.heap.size A c xs ∧ Mid 0 0 w w'
end Go.Proofs.Ytimmnnncgnnkgaa

/- Objects of the laws with the blocks they lie in: slices of slices, morphisms. -/
namespace Go.Proofs.Ytimmnnncgnnkgaa
set_option linter.unusedVariables false
set_option linter.unusedSimpArgs false
open Go.RowKit

theorem eqSS (A A' : Option Addr) (xss : List (List Int)) (c c' : Nat) (w : World) (lo hi lo' hi' : Nat) (hr : RSS w lo hi A xss) (hr' : RSS w lo' hi' A' xss) (hsz : xss.length + sumL xss ≤ 1048576) :
    Calls Try.prog 35 #[.slice A xss.length c, .slice A' xss.length c'] w (Stp (.bool true) w) :=
  (eqIntSS_same A A' xss c c' w lo hi lo' hi' hr hr' hsz).mono fun _ _ ⟨he, n, hw⟩ => ⟨he, hw ▸ (Mid.refl 0 0 w).drewN n⟩
theorem heldSS (A : Option Addr) (xss : List (List Int)) (c : Nat) (q : Int) (w : World) (lo hi : Nat) (hr : RSS w lo hi A (markD q xss)) (hq : 0 ≤ q) (hq2 : q ≤ 4194304) (hsz : xss.length + sumL xss ≤ 1048576) :
    Calls Try.prog 38 #[.slice A xss.length c, .int .i64 q] w (Stp (.int .i64 (q + (sumL xss : Int))) w) :=
  (heldIntSS_any A xss c q w lo hi hr hq hq2 hsz).mono fun _ _ ⟨he, hw⟩ => ⟨he, hw ▸ Mid.refl 0 0 w⟩
theorem OkSS.len {d : List (List Int)} (h : OkSS d) : LenOk d := h.1
theorem szI_case (left : Int) (n : Nat) : szI left n = -1 ∨ ((n : Int) ≤ left ∧ szI left n = left - n) := by
  unfold szI
  split
  · right; exact ⟨by assumption, rfl⟩
  · left; rfl
end Go.Proofs.Ytimmnnncgnnkgaa
