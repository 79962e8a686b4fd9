/- Contracts and lemmas of this seat, many texts in one: see the words ahead of each. No condition beyond those typed in each lemma. -/
import Derived.WalkKit
import Derived.WalkSpells
import Derived.WalkLawsBesides
import Derived.Maps.AppendAt
import Derived.Lib.Hide
import Derived.Deep.Draws
import Derived.Deep.QuietTactic
import Derived.BigQuiet
import Derived.Deep.AppendLies
import Derived.RegionTactic
import Derived.Test.YtimmnnncgnnkgaaRows
import Derived.Laws.IdiomStrings
import Derived.BigRegion
import Derived.Deep.RegionHeld3
import Derived.Deep.Matrix
import Derived.Lib.SmallJoins
import Derived.ProofKit
import Derived.OpenShut
import Derived.ShutString
import Derived.ChangeOld
import Derived.IntWalk
import Derived.Outline

/- Words and lemmas on memory for all walks of this seat: a slice that reads as a list of cells, frames by sets of blocks, append and make on rows of the call's own. No condition beyond those typed in each lemma. -/
namespace Go.Proofs.Ytimmnnncgnnkgaa
set_option linter.unusedVariables false
set_option linter.unusedSimpArgs false
open Go.RowKit

/-- A list of ints as cells. -/
def ints (xs : List Int) : List Value := xs.map (Value.int .i64)
theorem ints_len (xs : List Int) : (ints xs).length = xs.length := by simp [ints]
theorem ints_append (xs ys : List Int) : ints (xs ++ ys) = ints xs ++ ints ys := by simp [ints]
theorem ints_get (xs : List Int) (k : Nat) : (ints xs)[k]? = (xs[k]?).map (Value.int .i64) := by simp [ints]

/-- The address A leads to the cells cs, all below block B (nothing is said where cs is empty). -/
def Rs (w : World) (B : Nat) (A : Option Addr) (cs : List Value) : Prop :=
  cs ≠ [] → ∃ b off, A = some ⟨b, off, none⟩ ∧ b < B ∧ ∀ j u, cs[j]? = some u → w.cell? ⟨b, off + j, none⟩ = some u

section
variable {w w' w0 : World} {B B' : Nat} {A : Option Addr} {cs : List Value}
theorem Rs.nil : Rs w B A [] := fun h => absurd rfl h
theorem Rs.keep (h : Rs w B A cs) (hk : ∀ p : Addr, p.block < B → w'.cell? p = w.cell? p) : Rs w' B A cs := fun hn => by
  obtain ⟨b, off, e, hb, hc⟩ := h hn
  exact ⟨b, off, e, hb, fun j u hu => (hk _ hb).trans (hc j u hu)⟩
theorem Rs.more (h : Rs w B A cs) (hB : B ≤ B') : Rs w B' A cs := fun hn => by
  obtain ⟨b, off, e, hb, hc⟩ := h hn
  exact ⟨b, off, e, by omega, hc⟩
theorem Rs.below (h : Rs w B A cs) (hb : Below B w w') : Rs w' B A cs := h.keep fun _ hp => hb.cell hp
theorem Rs.drew (h : Rs w B A cs) : Rs w.drew B A cs := h
theorem Rs.drewN (h : Rs w B A cs) (k : Nat) : Rs (w.drewN k) B A cs := h
theorem Rs.alloc (h : Rs w B A cs) (hB : B ≤ w.heap.size) (o : Obj) : Rs (w.alloc o) B A cs := h.keep fun p hp => World.cell?_alloc_lt w o p (by omega)
theorem Rs.setCell (h : Rs w B A cs) {p : Addr} (hB : B ≤ p.block) (u : Value) : Rs (w.setCell p u) B A cs :=
  h.keep fun q hq => World.cell?_setCell_other w p q u (fun e => by subst e; omega)
theorem Rs.grown (h : Rs w B A cs) {row : Option Nat} (hg : w.grownBy w' row) (hB : B ≤ w.heap.size) (hr : ∀ g, row = some g → B ≤ g) : Rs w' B A cs :=
  h.keep fun p hp => World.cell?_of_block (hg.block p.block (by omega) (fun e => by have := hr _ e.symm; omega))
theorem Rs.of_own {base : Nat} {e : TypeId} {size n c : Nat} (h : w.ownsRow base e size (.slice A n c) n cs) : Rs w w.heap.size A cs := fun hn => by
  rcases h.2 with ⟨hv, h0⟩ | ⟨g, cap, cur, hv, hg, hh, hnc, hcm, hcs, htake⟩
  · subst h0
    exact absurd (List.eq_nil_of_length_eq_zero (by simpa using h.1)) hn
  · injection hv with hA _ hc
    subst hA
    subst hc
    refine ⟨g, 0, rfl, (Array.getElem?_eq_some_iff.1 hh).1, fun j u hu => ?_⟩
    rw [Nat.zero_add]
    have hjl := (List.getElem?_eq_some_iff.1 hu).1
    rw [h.cellAt j (by have := h.1; omega)]
    exact hu
/-- The cell at place j. -/
theorem Rs.at (h : Rs w B A cs) {j : Nat} (hj : j < cs.length) : ∃ b off u, A = some ⟨b, off, none⟩ ∧ b < B ∧ cs[j]? = some u ∧ w.cell? ⟨b, off + j, none⟩ = some u := by
  obtain ⟨b, off, e, hb, hc⟩ := h (by intro h0; subst h0; simp at hj)
  exact ⟨b, off, cs[j], e, hb, List.getElem?_eq_getElem hj, hc j _ (List.getElem?_eq_getElem hj)⟩
/-- A cut x[k:], whatever its end. -/
theorem Rs.drop (h : Rs w B A cs) {k n cap : Nat} (size : Nat) (hn : cs.length = n * size) (hc : n ≤ cap) :
    Rs w B (if cap = k then A else A.map (·.add (k * size))) (cs.drop (k * size)) := by
  intro hne
  have hlt : k * size < cs.length := by
    rcases Nat.lt_or_ge (k * size) cs.length with h1 | h1
    · exact h1
    · exact absurd (List.drop_eq_nil_of_le h1) hne
  obtain ⟨b, off, rfl, hb, hcell⟩ := h (by intro h0; subst h0; simp at hlt)
  have hk : ¬ cap = k := by
    intro e
    subst e
    rw [hn] at hlt
    exact absurd (Nat.lt_of_mul_lt_mul_right hlt) (by omega)
  rw [if_neg hk]
  refine ⟨b, off + k * size, ?_, hb, fun j u hu => ?_⟩
  · simp [Addr.add]
  · rw [Nat.add_assoc]
    exact hcell _ u (by rw [← hu, List.getElem?_drop])
theorem Rs.take (h : Rs w B A cs) (k : Nat) : Rs w B A (cs.take k) := fun hne => by
  obtain ⟨b, off, e, hb, hc⟩ := h (by intro h0; subst h0; simp at hne)
  refine ⟨b, off, e, hb, fun j u hu => hc j u ?_⟩
  rw [List.getElem?_take] at hu
  split at hu
  · exact hu
  · cases hu
end

/-! ### Frames -/

theorem below_of_grown {w w' : World} {row : Option Nat} (hg : w.grownBy w' row) {B : Nat} (hB : B ≤ w.heap.size) (hr : ∀ g, row = some g → B ≤ g) : Below B w w' :=
  (Below.refl B w).grown hg hB hr
theorem below_none {w w' : World} (hg : w.grownBy w' none) : Below w.heap.size w w' := below_of_grown hg (Nat.le_refl _) (by intro g h; cases h)
theorem grown_trans {a b c : World} {row : Option Nat} (h : a.grownBy b row) (k : b.grownBy c row) : a.grownBy c row :=
  ⟨k.os.trans h.os, k.tape.trans h.tape, k.output.trans h.output, Nat.le_trans h.size k.size,
    fun i hi hn => (k.block i (Nat.lt_of_lt_of_le hi h.size) hn).trans (h.block i hi hn)⟩
section
variable {w w' : World} {base : Nat} {e : TypeId} {size : Nat} {v : Value} {n : Nat} {xs : List Value}
theorem owns_below {C : Nat} (h : w.ownsRow base e size v n xs) (hb : Below C w w') (hC : ∀ g, v.ownBlock = some g → g < C) : w'.ownsRow base e size v n xs := by
  refine ⟨h.1, ?_⟩
  rcases h.2 with hn | ⟨g, cap, cur, rfl, hbg, hgg, rest⟩
  · exact .inl hn
  · exact .inr ⟨g, cap, cur, rfl, hbg, (hb.block g (hC g rfl)).trans hgg, rest⟩
theorem owns_belowS (h : w.ownsRow base e size v n xs) (hb : Below w.heap.size w w') : w'.ownsRow base e size v n xs :=
  owns_below h hb fun g hg => (h.lt g hg).2
theorem owns_base {base' : Nat} (h : w.ownsRow base e size v n xs) (hb : base' ≤ base) : w.ownsRow base' e size v n xs := by
  refine ⟨h.1, ?_⟩
  rcases h.2 with hn | ⟨g, cap, cur, rfl, hbg, rest⟩
  · exact .inl hn
  · exact .inr ⟨g, cap, cur, rfl, by omega, rest⟩
/-- The shape of an owned value. -/
theorem owns_shape (h : w.ownsRow base e size v n xs) : ∃ A c, v = .slice A n c ∧ n ≤ c ∧ c ≤ maxLen := by
  rcases h.2 with ⟨rfl, rfl⟩ | ⟨g, cap, cur, rfl, _, _, hnc, hcm, _⟩
  · exact ⟨none, 0, rfl, Nat.le_refl _, Nat.zero_le _⟩
  · exact ⟨_, cap, rfl, hnc, hcm⟩
end

theorem owns_empty (w : World) (e : TypeId) (size : Nat) : (w.alloc (.cells #[] e)).ownsRow w.heap.size e size (.slice (some ⟨w.heap.size, 0, none⟩) 0 0) 0 [] :=
  World.ownsRow_lit (size := size) w #[] 0 (Nat.le_refl _) (Nat.zero_le _) (by simp)

theorem dn (w : World) (a b : Nat) : (w.drewN a).drewN b = w.drewN (a + b) := World.drewN_drewN _ _ _
/-- A call hands back a new slice that reads xs; nothing that was there has turned. -/
def RetI (eI : TypeId) (xs : List Int) (w : World) (e : Ending) (w' : World) : Prop :=
  ∃ A c, e = .returned (.slice A xs.length c) ∧ w'.ownsRow w.heap.size eI 1 (.slice A xs.length c) xs.length (ints xs) ∧ Below w.heap.size w w'
theorem RetI.mk {eI : TypeId} {xs : List Int} {w w' : World} {v : Value} {n : Nat} (hn : xs.length = n) (h : w'.ownsRow w.heap.size eI 1 v n (ints xs)) (hb : Below w.heap.size w w') : RetI eI xs w (.returned v) w' := by
  subst hn
  obtain ⟨A, c, rfl, -, -⟩ := owns_shape h
  exact ⟨A, c, rfl, h, hb⟩

/-! ### append of new cells that the call has just laid in a block of their own -/

section
variable {P : Program} {W : World} {ops : Array Oper} {rest : List Oper} {o : Oper} {a : Act} {Q : Exit → Act → World → Prop}
theorem wpList_push (hgd : o.guard = none) (s x : Operand) (t : TypeId)
    (ho : o.op = .call { callee := .builtin .append, args := #[s, x], argTypes := #[t, t] })
    (base : Nat) (e : TypeId) (z : Value) (size bytes : Nat) (ht : P.underlying t = some (.slice e)) (hinfo : (P.info? e).map (fun i => (i.zero, i.size, i.bytes)) = some (some z, size, bytes))
    (hzs : z.cells.size = size) (hsz : 0 < size)
    (v : Value) (n : Nat) (xs : List Value) (hs : a.eval s = v) (hown : W.ownsRow base e size v n xs)
    (m : Nat) (news : List Value) (hx : a.eval x = .slice (some ⟨W.heap.size, 0, none⟩) m m) (hl : news.length = m * size) (h1 : ∀ u ∈ news, u.oneCell' = true)
    (h63 : n + m ≤ maxLen) (hbytes : (n + m) * bytes ≤ 140737488355328) (hbase : base ≤ W.heap.size)
    (h : ∀ v' w', w'.ownsRow base e size v' (n + m) (xs ++ news) → W.grownBy w' v.ownBlock → (v'.ownBlock = v.ownBlock ∨ v'.ownBlock = some (W.heap.size + 1)) → wpList P ops Q rest (a.put o.dst v') w') :
    wpList P ops Q (o :: rest) a (W.alloc (.cells news.toArray e)) := by
  obtain ⟨i, hi, hz, hsize, hby⟩ := info_parts hinfo
  refine wpList_append_own_at _ hgd s x t ho base e i z size bytes ht hi hz hsize hby hzs hsz v n xs hs (hown.alloc _) ⟨W.heap.size, 0, none⟩ m m news hx hl ?_ h1 h63 hbytes (by simp; omega) ?_
  · intro j u hu
    rw [Addr.add_lit, Nat.zero_add, World.cell?_alloc_new]
    simpa using hu
  · intro v' w' h2 h3 _ h4
    exact h v' w' h2 (grown_trans (World.grownBy_alloc W _ _) h3) (by simpa using h4)

/-- make([]T, n), T of one cell. -/
theorem wpList_mk (hgd : o.guard = none) (l c : Operand) (t : TypeId) (hop : o.op = Op.makeSlice t l c)
    (e : TypeId) (z : Value) (bytes : Nat) (ht : P.underlying t = some (.slice e)) (hinfo : (P.info? e).map (fun i => (i.zero, i.size, i.bytes)) = some (some z, 1, bytes)) (hz1 : z.cells = #[z])
    (kl kc : IntKind) (L C : Int) (n : Nat) (hl : a.eval l = .int kl L) (hc : a.eval c = .int kc C) (hL : L = (n : Int)) (hC : C = (n : Int)) (b2 : bytes * n ≤ 281474976710656) (b3 : n ≤ maxLen)
    (hK : ∀ w', w'.ownsRow W.heap.size e 1 (.slice (some ⟨W.heap.size, 0, none⟩) n n) n (List.replicate n z) → W.grownBy w' none → W.heap.size < w'.heap.size → wpList P ops Q rest (a.put o.dst (.slice (some ⟨W.heap.size, 0, none⟩) n n)) w') :
    wpList P ops Q (o :: rest) a W := by
  obtain ⟨i, hi, hz, hsize, hby⟩ := info_parts hinfo
  refine wpList_make_full W hgd l c t hop W.heap.size e i z 1 ht hi hz hsize kl kc L C n hl hc hL hC (by rw [hby]; exact b2) b3 (Nat.le_refl _) ?_
  intro w' h1 h2
  rw [hz1, Nat.mul_one, toList_madeCells_one] at h1
  exact hK w' h1 h2 ((h1.lt W.heap.size rfl).2)
end

section
variable {w w' w0 : World} {base B : Nat} {e : TypeId} {g n cap : Nat} {xs ys : List Value}
/-- A store into a row of the call's own. -/
theorem owns_set (h : w.ownsRow base e 1 (.slice (some ⟨g, 0, none⟩) n cap) n xs) (j : Nat) (u : Value) (hy : xs.set j u = ys) :
    (w.setCell ⟨g, j, none⟩ u).ownsRow base e 1 (.slice (some ⟨g, 0, none⟩) n cap) n ys := by
  subst hy
  exact (h.stored j u).1
theorem owns_cell (h : w.ownsRow base e 1 (.slice (some ⟨g, 0, none⟩) n cap) n xs) {j : Nat} (hj : j < n) : ∃ u, xs[j]? = some u ∧ w.cell? ⟨g, j, none⟩ = some u := by
  have hl : j < xs.length := by have := h.1; omega
  exact ⟨xs[j], List.getElem?_eq_getElem hl, (h.cellAt j (by omega)).trans (List.getElem?_eq_getElem hl)⟩
end
theorem set_mid {α : Type} (xs ys : List α) (y x : α) : (xs ++ y :: ys).set xs.length x = (xs ++ [x]) ++ ys := by simp
theorem set_fill {α : Type} (ys : List α) (z u : α) {k n : Nat} (hy : ys.length = k) (h : k < n) : (ys ++ List.replicate (n - k) z).set k u = (ys ++ [u]) ++ List.replicate (n - (k + 1)) z := by
  subst hy
  obtain ⟨m, hm⟩ : ∃ m, n - ys.length = m + 1 := ⟨n - ys.length - 1, by omega⟩
  rw [hm, List.replicate_succ, set_mid, show n - (ys.length + 1) = m from by omega]
theorem grown_setCell {a w : World} {g : Nat} (h : a.grownBy w (some g)) (i : Nat) (u : Value) : a.grownBy (w.setCell ⟨g, i, none⟩ u) (some g) :=
  ⟨h.os, h.tape, h.output, by simpa [World.setCell] using h.size, fun k hk hne => (Below.heap_setCell w _ u k (by rintro rfl; exact hne rfl)).trans (h.block k hk hne)⟩
/-- 0, 1, .., k-1 -/
def upto (k : Nat) : List Int := (List.range k).map (fun (i : Nat) => (i : Int))
/-- The marks k, k+1, .. -/
def marks (k : Int) (n : Nat) : List Int := (List.range n).map (fun (i : Nat) => k + (i : Int))
theorem take_succ_of {α : Type} (xs : List α) {k : Nat} {x : α} (h : xs[k]? = some x) : xs.take (k + 1) = xs.take k ++ [x] := by
  rw [List.take_add_one, h]; rfl
theorem get_of_lt {α : Type} (xs : List α) {k : Nat} (h : k < xs.length) : ∃ x, xs[k]? = some x := ⟨_, List.getElem?_eq_getElem h⟩
/-- The cell of an int slice at place k. -/
theorem Rs.int {w : World} {B : Nat} {A : Option Addr} {xs : List Int} (h : Rs w B A (ints xs)) {k : Nat} (hk : k < xs.length) :
    ∃ b off x, A = some ⟨b, off, none⟩ ∧ b < B ∧ xs[k]? = some x ∧ w.cell? ⟨b, off + k, none⟩ = some (.int .i64 x) := by
  obtain ⟨b, off, u, e, hb, hu, hc⟩ := h.at (j := k) (by simpa [ints] using hk)
  rw [ints_get] at hu
  obtain ⟨x, hx⟩ := get_of_lt xs hk
  rw [hx] at hu
  simp at hu
  subst hu
  exact ⟨b, off, x, e, hb, hx, hc⟩

/-! ### Calls that only read, inside a region that draws its order -/
section
variable {P : Program} {f : FuncId} {args : Array Value} {v : Value}
theorem qz0 {W : World} {n : Nat} (h : Calls P f args (W.drewN n) fun e w' => e = .returned v ∧ ∃ m, w' = (W.drewN n).drewN m) :
    Calls P f args (W.drewN n) fun e w'' => e = .returned v ∧ ∃ m, w'' = W.drewN m := Calls.quiet_of h
theorem qz1 {w : World} {a n : Nat} (h : Calls P f args (w.drewN (a + n)) fun e w' => e = .returned v ∧ ∃ m, w' = (w.drewN (a + n)).drewN m) :
    Calls P f args (w.drewN (a + n)) fun e w'' => e = .returned v ∧ ∃ m, w'' = w.drewN (a + m) :=
  h.mono fun _ _ ⟨he, m, hm⟩ => ⟨he, n + m, by rw [hm, World.drewN_drewN, Nat.add_assoc]⟩
theorem pq {W : World} (h : Calls P f args W fun e w' => e = .returned v ∧ W = w') : Calls P f args W fun e w' => e = .returned v ∧ ∃ m, w' = W.drewN m :=
  h.mono fun _ _ ⟨he, hw⟩ => ⟨he, 0, hw ▸ rfl⟩
end
end Go.Proofs.Ytimmnnncgnnkgaa

/- Decimal digits. -/
namespace Go.Proofs.Ytimmnnncgnnkgaa
set_option linter.unusedVariables false
set_option linter.unusedSimpArgs false

/-- The decimal digits, the lowest first. -/
def rdig (n : Nat) : List Nat := if h : n = 0 then [] else n % 10 :: rdig (n / 10)
termination_by n
decreasing_by omega
/-- The bytes of the digits. -/
def dbytes (n : Nat) : List UInt8 := (rdig n).map fun d => UInt8.ofNat (48 + d)
/-- FormatInt. -/
def fmtI (n : Int) : List UInt8 := if n = 0 then [48] else (if n < 0 then [45] else []) ++ (dbytes n.natAbs).reverse
/-- The first i and the last i places are exchanged. -/
def RevAt (bs : List UInt8) (i : Nat) (zs : List UInt8) : Prop := zs.length = bs.length ∧ ∀ p, p < bs.length → zs[p]? = if p < i ∨ bs.length ≤ p + i then bs[bs.length - 1 - p]? else bs[p]?
theorem RevAt.zero (bs : List UInt8) : RevAt bs 0 bs := ⟨rfl, fun p hp => by rw [if_neg (by omega)]⟩
theorem RevAt.step {bs zs : List UInt8} {i j : Nat} (h : RevAt bs i zs) (hij : i < j) (hs : i + j + 1 = bs.length) {x y : UInt8} (hx : zs[i]? = some x) (hy : zs[j]? = some y) : RevAt bs (i + 1) ((zs.set i y).set j x) := by
  have h1 := h.2 i (by omega)
  rw [if_neg (by omega), hx] at h1
  have h2 := h.2 j (by omega)
  rw [if_neg (by omega), hy] at h2
  refine ⟨by rw [List.length_set, List.length_set]; exact h.1, fun p hp => ?_⟩
  by_cases hj : p = j
  · subst hj
    rw [List.getElem?_set_self (by rw [List.length_set, h.1]; omega), if_pos (by omega), h1]
    congr 1
    omega
  · rw [List.getElem?_set_ne (Ne.symm hj)]
    by_cases hi : p = i
    · subst hi
      rw [List.getElem?_set_self (by rw [h.1]; omega), if_pos (by omega), h2]
      congr 1
      omega
    · rw [List.getElem?_set_ne (Ne.symm hi), h.2 p hp]
      by_cases hc : p < i ∨ bs.length ≤ p + i
      · rw [if_pos hc, if_pos (by omega)]
      · rw [if_neg hc, if_neg (by omega)]
/-- A string of bytes. -/
abbrev str (l : List UInt8) : ByteArray := ⟨l.toArray⟩
theorem str_app (a b : List UInt8) : str a ++ str b = str (a ++ b) := by
  rw [ByteArray.mk_append_mk]
theorem str_size (a : List UInt8) : (str a).size = a.length := by simp [str, ByteArray.size]
end Go.Proofs.Ytimmnnncgnnkgaa

/- Frames between two block numbers; objects with the blocks they lie in; slices of int slices. -/
namespace Go.Proofs.Ytimmnnncgnnkgaa
set_option linter.unusedVariables false
set_option linter.unusedSimpArgs false
open Go.RowKit

/-- Every number fits an int. -/
def OkI (xs : List Int) : Prop := ∀ x ∈ xs, -9223372036854775808 ≤ x ∧ x ≤ 9223372036854775807

/-- Only blocks from lo up to hi (and new ones) have turned. -/
structure Mid (lo hi : Nat) (w w' : World) : Prop where
  os : w'.os = w.os
  tape : w'.tape = w.tape
  output : w'.output = w.output
  size : w.heap.size ≤ w'.heap.size
  block : ∀ k, k < w.heap.size → ¬ (lo ≤ k ∧ k < hi) → w'.heap[k]? = w.heap[k]?
theorem Mid.below {lo hi : Nat} {w w' : World} (h : Mid lo hi w w') (hl : lo ≤ w.heap.size) : Below lo w w' :=
  ⟨h.os, h.tape, h.output, h.size, fun k hk => h.block k (by omega) (by omega)⟩
theorem Mid.of_grown {lo hi : Nat} {w w' : World} {row : Option Nat} (h : w.grownBy w' row) (hr : ∀ g, row = some g → lo ≤ g ∧ g < hi) : Mid lo hi w w' :=
  ⟨h.os, h.tape, h.output, h.size, fun k hk hn => h.block k hk (fun e => hn (hr k e.symm))⟩
theorem Mid.trans {lo hi : Nat} {a b c : World} (h : Mid lo hi a b) (k : Mid lo hi b c) : Mid lo hi a c :=
  ⟨k.os.trans h.os, k.tape.trans h.tape, k.output.trans h.output, Nat.le_trans h.size k.size,
    fun i hi' hn => (k.block i (Nat.lt_of_lt_of_le hi' h.size) hn).trans (h.block i hi' hn)⟩
theorem Mid.refl (lo hi : Nat) (w : World) : Mid lo hi w w := ⟨rfl, rfl, rfl, Nat.le_refl _, fun _ _ _ => rfl⟩
theorem Mid.of_below {lo hi : Nat} {w w' : World} (h : Below w.heap.size w w') : Mid lo hi w w' := ⟨h.os, h.tape, h.output, h.size, fun k hk _ => h.block k hk⟩
theorem Mid.drewN {lo hi : Nat} {w w' : World} (h : Mid lo hi w w') (n : Nat) : Mid lo hi w (w'.drewN n) := ⟨h.os, h.tape, h.output, h.size, h.block⟩
theorem Mid.alloc (w : World) (o : Obj) : Mid 0 0 w (w.alloc o) := Mid.of_grown (World.grownBy_alloc w o none) (by intro g h; cases h)
theorem Mid.setCell (w : World) {lo hi : Nat} {p : Addr} (u : Value) (h1 : lo ≤ p.block) (h2 : p.block < hi) : Mid lo hi w (w.setCell p u) :=
  ⟨rfl, rfl, rfl, by simp [World.setCell], fun k _ hn => Below.heap_setCell w p u k (by rintro rfl; exact hn ⟨h1, h2⟩)⟩
theorem Mid.storeNew {lo hi : Nat} {w wr : World} {p : Addr} (h : Mid lo hi w wr) (hp : w.heap.size ≤ p.block) (u : Value) : Mid lo hi w (wr.setCell p u) :=
  ⟨h.os, h.tape, h.output, by simpa [World.setCell] using h.size, fun k hk hn => (Below.heap_setCell wr p u k (by omega)).trans (h.block k hk hn)⟩
theorem Mid.mono {lo hi lo' hi' : Nat} {w w' : World} (h : Mid lo hi w w') (h1 : lo' ≤ lo) (h2 : hi ≤ hi') : Mid lo' hi' w w' :=
  ⟨h.os, h.tape, h.output, h.size, fun k hk hn => h.block k hk (fun hh => hn ⟨by omega, by omega⟩)⟩
theorem Mid.zero {lo hi : Nat} {w w' : World} (h : Mid 0 0 w w') : Mid lo hi w w' := ⟨h.os, h.tape, h.output, h.size, fun k hk _ => h.block k hk (by omega)⟩
theorem Mid.bel {w w' : World} (h : Mid 0 0 w w') : Below w.heap.size w w' := ⟨h.os, h.tape, h.output, h.size, fun k hk => h.block k hk (by omega)⟩
theorem below_mid {n a b : Nat} {w0 w w' : World} (h : Below n w0 w) (hs : n ≤ w.heap.size) (m : Mid a b w w') (hn : n ≤ a ∨ b = 0) : Below n w0 w' :=
  h.trans ⟨m.os, m.tape, m.output, m.size, fun k hk => m.block k (by omega) (by omega)⟩

/-- The cells cs at A, in blocks from lo up to hi. -/
def RV (w : World) (lo hi : Nat) (A : Option Addr) (cs : List Value) : Prop :=
  hi ≤ w.heap.size ∧ (cs ≠ [] → ∃ b off, A = some ⟨b, off, none⟩ ∧ lo ≤ b ∧ b < hi ∧ ∀ j u, cs[j]? = some u → w.cell? ⟨b, off + j, none⟩ = some u)
theorem RV.rs {w : World} {lo hi : Nat} {A : Option Addr} {cs : List Value} (h : RV w lo hi A cs) : Rs w hi A cs := fun hn => by
  obtain ⟨b, off, e, _, hb, hc⟩ := h.2 hn
  exact ⟨b, off, e, hb, hc⟩
theorem RV.rsS {w : World} {lo hi : Nat} {A : Option Addr} {cs : List Value} (h : RV w lo hi A cs) : Rs w w.heap.size A cs := h.rs.more h.1
theorem RV.mid {w w' : World} {lo hi a b : Nat} {A : Option Addr} {cs : List Value} (h : RV w lo hi A cs) (m : Mid a b w w') (hd : b ≤ lo ∨ hi ≤ a) : RV w' lo hi A cs :=
  ⟨Nat.le_trans h.1 m.size, fun hn => by
    obtain ⟨g, off, e, h1, h2, hc⟩ := h.2 hn
    have hs := h.1
    exact ⟨g, off, e, h1, h2, fun j u hu => (World.cell?_of_block (m.block g (by omega) (by omega))).trans (hc j u hu)⟩⟩
theorem RV.wide {w : World} {lo hi lo' hi' : Nat} {A : Option Addr} {cs : List Value} (h : RV w lo hi A cs) (h1 : lo' ≤ lo) (h2 : hi ≤ hi') (h3 : hi' ≤ w.heap.size) : RV w lo' hi' A cs :=
  ⟨h3, fun hn => by
    obtain ⟨g, off, e, ha, hb, hc⟩ := h.2 hn
    exact ⟨g, off, e, by omega, by omega, hc⟩⟩
/-- The same, the call's own: a row at the head of a block. -/
def OV (w : World) (lo hi : Nat) (e : TypeId) (size : Nat) (A : Option Addr) (c n : Nat) (cs : List Value) : Prop :=
  hi ≤ w.heap.size ∧ w.ownsRow lo e size (.slice A n c) n cs ∧ ∀ g, Value.ownBlock (.slice A n c) = some g → g < hi
section
variable {w w' : World} {lo hi a b : Nat} {e : TypeId} {size : Nat} {A : Option Addr} {c n : Nat} {cs : List Value}
theorem OV.new {w0 : World} (h : w.ownsRow w0.heap.size e size (.slice A n c) n cs) : OV w w0.heap.size w.heap.size e size A c n cs :=
  ⟨Nat.le_refl _, h, fun g hg => (h.lt g hg).2⟩
theorem OV.mid (h : OV w lo hi e size A c n cs) (m : Mid a b w w') (hd : b ≤ lo ∨ hi ≤ a) : OV w' lo hi e size A c n cs := by
  refine ⟨Nat.le_trans h.1 m.size, ⟨h.2.1.1, ?_⟩, h.2.2⟩
  rcases h.2.1.2 with hn | ⟨g, cap, cur, hv, hbg, hgg, rest⟩
  · exact .inl hn
  · refine .inr ⟨g, cap, cur, hv, hbg, ?_, rest⟩
    have hlt := h.2.2 g (by rw [hv]; rfl)
    rw [m.block g (Array.getElem?_eq_some_iff.1 hgg).1 (by omega)]
    exact hgg
theorem OV.rv (h : OV w lo hi e size A c n cs) : RV w lo hi A cs := ⟨h.1, fun hn => by
  obtain ⟨g, off, hA, _, hc⟩ := Rs.of_own h.2.1 hn
  have hg : Value.ownBlock (.slice A n c) = some g := by rw [hA]; rfl
  exact ⟨g, off, hA, (h.2.1.lt g hg).1, h.2.2 g hg, hc⟩⟩
theorem OV.wide {lo' hi' : Nat} (h : OV w lo hi e size A c n cs) (h1 : lo' ≤ lo) (h2 : hi ≤ hi') (h3 : hi' ≤ w.heap.size) : OV w lo' hi' e size A c n cs :=
  ⟨h3, owns_base h.2.1 h1, fun g hg => by have := h.2.2 g hg; omega⟩
end

/-- Two rows of different element types lie in different blocks. -/
theorem owns_ne {w : World} {b b' : Nat} {e e' : TypeId} {s s' : Nat} {v v' : Value} {n n' : Nat} {xs xs' : List Value} (h : w.ownsRow b e s v n xs) (h' : w.ownsRow b' e' s' v' n' xs') (hne : e ≠ e') :
    v.ownBlock = none ∨ v.ownBlock ≠ v'.ownBlock := by
  rcases h.2 with ⟨rfl, _⟩ | ⟨g, cap, cur, rfl, _, hg, _⟩
  · exact .inl rfl
  · rcases h'.2 with ⟨rfl, _⟩ | ⟨g', cap', cur', rfl, _, hg', _⟩
    · exact .inr (by simp [Value.ownBlock])
    · refine .inr fun he => ?_
      have : g = g' := by simpa [Value.ownBlock] using he
      subst this
      rw [hg] at hg'
      injection hg' with hg'
      injection hg' with _ ht
      exact hne ht
theorem grown_of_setCell (w : World) (g j : Nat) (u : Value) : w.grownBy (w.setCell ⟨g, j, none⟩ u) (some g) := grown_setCell (World.grownBy.refl w _) j u

/-! ### slices of int slices -/

/-- One row of a slice of slices: its address, its capacity, its numbers. -/
structure Row where
  A : Option Addr
  c : Nat
  xs : List Int
def Row.v (r : Row) : Value := .slice r.A r.xs.length r.c
def rowsV (rows : List Row) : List Value := rows.map Row.v
def rowsD (rows : List Row) : List (List Int) := rows.map Row.xs
theorem rowsV_len (rows : List Row) : (rowsV rows).length = rows.length := by simp [rowsV]
theorem rowsD_len (rows : List Row) : (rowsD rows).length = rows.length := by simp [rowsD]
theorem rowsV_append (a b : List Row) : rowsV (a ++ b) = rowsV a ++ rowsV b := by simp [rowsV]
theorem rowsD_append (a b : List Row) : rowsD (a ++ b) = rowsD a ++ rowsD b := by simp [rowsD]
/-- The slice of slices at A reads xss, all in blocks from lo up to hi. -/
def RSS (w : World) (lo hi : Nat) (A : Option Addr) (xss : List (List Int)) : Prop :=
  ∃ rows, rowsD rows = xss ∧ RV w lo hi A (rowsV rows) ∧ ∀ r ∈ rows, RV w lo hi r.A (ints r.xs)
section
variable {w w' : World} {lo hi a b : Nat} {A : Option Addr} {xss : List (List Int)}
theorem RSS.size (h : RSS w lo hi A xss) : hi ≤ w.heap.size := by obtain ⟨_, _, h, _⟩ := h; exact h.1
theorem RSS.mid (h : RSS w lo hi A xss) (m : Mid a b w w') (hd : b ≤ lo ∨ hi ≤ a) : RSS w' lo hi A xss := by
  obtain ⟨rows, h1, h2, h3⟩ := h
  exact ⟨rows, h1, h2.mid m hd, fun r hr => (h3 r hr).mid m hd⟩
theorem RSS.wide {lo' hi' : Nat} (h : RSS w lo hi A xss) (h1 : lo' ≤ lo) (h2 : hi ≤ hi') (h3 : hi' ≤ w.heap.size) : RSS w lo' hi' A xss := by
  obtain ⟨rows, ha, hb, hc⟩ := h
  exact ⟨rows, ha, hb.wide h1 h2 h3, fun r hr => (hc r hr).wide h1 h2 h3⟩
theorem RSS.nil (hs : hi ≤ w.heap.size) : RSS w lo hi A [] := ⟨[], rfl, ⟨hs, fun h => absurd rfl h⟩, by simp⟩
theorem RSS.row (h : RSS w lo hi A xss) {k : Nat} (hk : k < xss.length) :
    ∃ b off A' c' xs, A = some ⟨b, off, none⟩ ∧ lo ≤ b ∧ b < hi ∧ xss[k]? = some xs ∧ w.cell? ⟨b, off + k, none⟩ = some (.slice A' xs.length c') ∧ RV w lo hi A' (ints xs) := by
  obtain ⟨rows, rfl, h2, h3⟩ := h
  rw [rowsD_len] at hk
  obtain ⟨b, off, e, hb, hb2, hc⟩ := h2.2 (by intro h0; have := congrArg List.length h0; rw [rowsV_len] at this; simp at this; subst this; simp at hk)
  obtain ⟨r, hr⟩ := get_of_lt rows hk
  refine ⟨b, off, r.A, r.c, r.xs, e, hb, hb2, by simp [rowsD, hr], hc k _ (by simp [rowsV, hr, Row.v]), h3 r (List.mem_of_getElem? hr)⟩
end

/-- The same, the call's own: every row in a block of its own. -/
def OwnRows (w : World) (lo hi : Nat) (tI : TypeId) (rows : List Row) : Prop :=
  (∀ r ∈ rows, OV w lo hi tI 1 r.A r.c r.xs.length (ints r.xs)) ∧ rows.Pairwise (fun r s => r.v.ownBlock = none ∨ r.v.ownBlock ≠ s.v.ownBlock)
def OSS (w : World) (lo hi : Nat) (tSI tI : TypeId) (A : Option Addr) (c : Nat) (xss : List (List Int)) : Prop :=
  hi ≤ w.heap.size ∧ ∃ rows, rowsD rows = xss ∧ OV w lo hi tSI 1 A c xss.length (rowsV rows) ∧ OwnRows w lo hi tI rows
section
variable {w w' : World} {lo hi a b : Nat} {tSI tI : TypeId} {A : Option Addr} {c : Nat} {xss : List (List Int)} {rows : List Row}
theorem OwnRows.mid (h : OwnRows w lo hi tI rows) (m : Mid a b w w') (hd : b ≤ lo ∨ hi ≤ a) : OwnRows w' lo hi tI rows := ⟨fun r hr => (h.1 r hr).mid m hd, h.2⟩
theorem OwnRows.wide {lo' hi' : Nat} (h : OwnRows w lo hi tI rows) (h1 : lo' ≤ lo) (h2 : hi ≤ hi') (h3 : hi' ≤ w.heap.size) : OwnRows w lo' hi' tI rows := ⟨fun r hr => (h.1 r hr).wide h1 h2 h3, h.2⟩
theorem OwnRows.nil : OwnRows w lo hi tI [] := ⟨by simp, List.Pairwise.nil⟩
/-- A row of another type is written, or grows: the int rows stay. -/
theorem OwnRows.grown {bb : Nat} {e' : TypeId} {s' : Nat} {v' : Value} {n' : Nat} {xs' : List Value} (h : OwnRows w lo hi tI rows) (ho : w.ownsRow bb e' s' v' n' xs') (hne : tI ≠ e') (hg : w.grownBy w' v'.ownBlock) : OwnRows w' lo hi tI rows :=
  ⟨fun r hr => by
    obtain ⟨h1, h2, h3⟩ := h.1 r hr
    exact ⟨Nat.le_trans h1 hg.size, h2.kept hg (owns_ne h2 ho hne), h3⟩, h.2⟩
/-- One row more, in a block behind all others. -/
theorem OwnRows.push {base hi' : Nat} {r : Row} (h : OwnRows w lo hi tI rows) (hr : w.ownsRow base tI 1 r.v r.xs.length (ints r.xs)) (hb : hi ≤ base) (hl : lo ≤ base) (hh : hi ≤ hi') (hs : hi' ≤ w.heap.size) (hlt : ∀ g, r.v.ownBlock = some g → g < hi') :
    OwnRows w lo hi' tI (rows ++ [r]) := by
  refine ⟨fun s hs' => ?_, ?_⟩
  · rcases List.mem_append.1 hs' with hm | hm
    · exact (h.1 s hm).wide (Nat.le_refl _) hh hs
    · simp at hm
      subst hm
      exact ⟨hs, owns_base hr hl, hlt⟩
  · rw [List.pairwise_append]
    refine ⟨h.2, by simp, fun s hsm t ht => ?_⟩
    simp at ht
    subst ht
    cases hv : s.v.ownBlock with
    | none => exact .inl rfl
    | some g =>
      refine .inr fun e => ?_
      have h1 := (h.1 s hsm).2.2 g hv
      have h2 := (hr.lt g e.symm).1
      omega
theorem OSS.size (h : OSS w lo hi tSI tI A c xss) : hi ≤ w.heap.size := h.1
theorem OSS.mid (h : OSS w lo hi tSI tI A c xss) (m : Mid a b w w') (hd : b ≤ lo ∨ hi ≤ a) : OSS w' lo hi tSI tI A c xss := by
  obtain ⟨h0, rows, h1, h2, h3⟩ := h
  exact ⟨Nat.le_trans h0 m.size, rows, h1, h2.mid m hd, h3.mid m hd⟩
theorem OSS.wide {lo' hi' : Nat} (h : OSS w lo hi tSI tI A c xss) (h1 : lo' ≤ lo) (h2 : hi ≤ hi') (h3 : hi' ≤ w.heap.size) : OSS w lo' hi' tSI tI A c xss := by
  obtain ⟨_, rows, ha, hb, hc⟩ := h
  exact ⟨h3, rows, ha, hb.wide h1 h2 h3, hc.wide h1 h2 h3⟩
theorem OSS.rss (h : OSS w lo hi tSI tI A c xss) : RSS w lo hi A xss := by
  obtain ⟨_, rows, h1, h2, h3⟩ := h
  exact ⟨rows, h1, h2.rv, fun r hr => (h3.1 r hr).rv⟩
end

/-- A call hands back a new slice of new slices that reads xss; nothing that was there has turned. -/
def RetSS (tSI tI : TypeId) (xss : List (List Int)) (w : World) (e : Ending) (w' : World) : Prop :=
  ∃ A c, e = .returned (.slice A xss.length c) ∧ OSS w' w.heap.size w'.heap.size tSI tI A c xss ∧ Mid 0 0 w w'
end Go.Proofs.Ytimmnnncgnnkgaa

/- Boxes: the block of a struct that a call holds by its address. -/
namespace Go.Proofs.Ytimmnnncgnnkgaa
set_option linter.unusedVariables false
set_option linter.unusedSimpArgs false
open Go.RowKit

/-- Block b holds the cells cs, and may be written. -/
def Box (w : World) (b : Nat) (cs : List Value) : Prop := b < w.heap.size ∧ (∀ i u, cs[i]? = some u → w.cell? ⟨b, i, none⟩ = some u) ∧ ∀ i, w.frozen? ⟨b, i, none⟩ = false
section
variable {w w' : World} {b lo hi : Nat} {cs ys : List Value}
theorem Box.new (w : World) (a : Array Value) (t : TypeId) : Box (w.alloc (.cells a t)) w.heap.size a.toList :=
  ⟨by simp, fun i u hu => (World.cell?_alloc_at _ _ _ _ rfl).trans (by simpa using hu), fun i => World.frozen?_alloc_at _ _ _ _ rfl⟩
theorem Box.mid (h : Box w b cs) (m : Mid lo hi w w') (hd : b < lo ∨ hi ≤ b) : Box w' b cs :=
  ⟨Nat.lt_of_lt_of_le h.1 m.size, fun i u hu => (World.cell?_of_block (m.block b h.1 (by omega))).trans (h.2.1 i u hu), fun i => (World.frozen?_of_block (m.block b h.1 (by omega))).trans (h.2.2 i)⟩
theorem Box.cell (h : Box w b cs) (i : Nat) {u : Value} (hu : cs[i]? = some u) : w.cell? ⟨b, i, none⟩ = some u := h.2.1 i u hu
theorem Box.set (h : Box w b cs) (i : Nat) (u : Value) (hi : i < cs.length) (hy : cs.set i u = ys) : Box (w.setCell ⟨b, i, none⟩ u) b ys := by
  subst hy
  have hc := h.2.1 i cs[i] (List.getElem?_eq_getElem hi)
  refine ⟨by simpa using h.1, fun j v hv => ?_, fun j => by rw [World.frozen?_setCell]; exact h.2.2 j⟩
  by_cases hj : j = i
  · subst hj
    rw [List.getElem?_set_self hi] at hv
    rw [World.cell?_setCell_same w _ u hc]
    exact hv
  · rw [List.getElem?_set_ne (Ne.symm hj)] at hv
    rw [World.cell?_setCell_other w _ _ u (by intro e; injection e; omega)]
    exact h.2.1 j v hv
theorem Box.drewN (h : Box w b cs) (n : Nat) : Box (w.drewN n) b cs := h
/-- A step within an interval of blocks that a row of the call's own, or a growing one, spans. -/
theorem Mid.of_grownRow {base : Nat} {e : TypeId} {size : Nat} {v : Value} {n : Nat} {xs : List Value} (h : w.ownsRow base e size v n xs) (hg : w.grownBy w' v.ownBlock) : Mid base w.heap.size w w' :=
  Mid.of_grown hg fun g hg' => h.lt g hg'
theorem owns_mid {base : Nat} {e : TypeId} {size : Nat} {v : Value} {n : Nat} {xs : List Value} (h : w.ownsRow base e size v n xs) (m : Mid lo hi w w') (hd : hi ≤ base ∨ w.heap.size ≤ lo) : w'.ownsRow base e size v n xs := by
  refine ⟨h.1, ?_⟩
  rcases h.2 with hn | ⟨g, cap, cur, hv, hbg, hgg, rest⟩
  · exact .inl hn
  · refine .inr ⟨g, cap, cur, hv, hbg, ?_, rest⟩
    have hlt := (Array.getElem?_eq_some_iff.1 hgg).1
    rw [m.block g hlt (by omega)]
    exact hgg
theorem Mid.drew1 (w : World) : Mid 0 0 w w.drew := ⟨rfl, rfl, rfl, Nat.le_refl _, fun _ _ _ => rfl⟩
/-- A step that turns only blocks that are new since w. -/
theorem Mid.transNew {a b : Nat} {wa : World} (h : Mid lo hi w wa) (m : Mid a b wa w') (ha : w.heap.size ≤ a ∨ b = 0) : Mid lo hi w w' :=
  ⟨m.os.trans h.os, m.tape.trans h.tape, m.output.trans h.output, Nat.le_trans h.size m.size, fun k hk hn =>
    (m.block k (Nat.lt_of_lt_of_le hk h.size) (by omega)).trans (h.block k hk hn)⟩
theorem OSS.nil {tSI tI : TypeId} : OSS w lo w.heap.size tSI tI none 0 [] := ⟨Nat.le_refl _, [], rfl, ⟨Nat.le_refl _, ⟨rfl, .inl ⟨rfl, rfl⟩⟩, fun g hg => by simp [Value.ownBlock] at hg⟩, OwnRows.nil⟩
end
end Go.Proofs.Ytimmnnncgnnkgaa

/- append(out, xs...) at a step of a region that draws its order, and at one operation; a cell behind a step. -/
namespace Go.Proofs.Ytimmnnncgnnkgaa
set_option linter.unusedVariables false
set_option linter.unusedSimpArgs false
open Go.RowKit

theorem cell_keep {w w' : World} {lo hi b i : Nat} {u : Value} (m : Mid lo hi w w') (hb : b < w.heap.size) (hd : b < lo ∨ hi ≤ b) (hc : w.cell? ⟨b, i, none⟩ = some u) : w'.cell? ⟨b, i, none⟩ = some u :=
  (World.cell?_of_block (m.block b hb (by omega))).trans hc

section
variable {P : Program} {w : World}
end
end Go.Proofs.Ytimmnnncgnnkgaa

/- Regions that draw their order, only read, and call functions that read and lay blocks of their own: one walk. -/
namespace Go.Proofs.Ytimmnnncgnnkgaa
set_option linter.unusedVariables false
set_option linter.unusedSimpArgs false
open Go.RowKit

/-- w with blocks laid behind it, at another count of draws. -/
def wg (w : World) (m : Nat) (os : Array Obj) : World := { w with heap := w.heap ++ os, drawn := m }
structure GB where
  n : Nat
  os : Array Obj
  deriving Inhabited
theorem Mid.ofWg (w : World) (m : Nat) (os : Array Obj) : Mid 0 0 w (wg w m os) :=
  ⟨rfl, rfl, rfl, by simp [wg], fun k hk _ => by simp [wg, Array.getElem?_append, hk]⟩
theorem Mid.toWg {w w' : World} (h : Mid 0 0 w w') : ∃ p : GB, w' = wg w p.n p.os := by
  refine ⟨⟨w'.drawn, w'.heap.extract w.heap.size w'.heap.size⟩, ?_⟩
  have hh : w'.heap = w.heap ++ w'.heap.extract w.heap.size w'.heap.size := by
    apply Array.ext_getElem?
    intro k
    by_cases hk : k < w.heap.size
    · rw [Array.getElem?_append_left hk]
      exact h.block k hk (by omega)
    · rw [Array.getElem?_append_right (by omega), Array.getElem?_extract]
      have hs := h.size
      by_cases hk2 : k < w'.heap.size
      · rw [if_pos (by omega), show w.heap.size + (k - w.heap.size) = k by omega]
      · rw [if_neg (by omega), Array.getElem?_eq_none (by omega)]
  have h1 := h.os
  have h2 := h.tape
  have h3 := h.output
  cases w'
  cases w
  simp only [wg] at *
  subst h1 h2 h3
  congr 1
theorem wg_cell {w : World} {a : Addr} {v : Value} (hb : a.block < w.heap.size) (h : w.cell? a = some v) (n : Nat) (os : Array Obj) : (wg w n os).cell? a = some v :=
  (World.cell?_of_block ((Mid.ofWg w n os).block a.block hb (by omega))).trans h
theorem wp_region_quiet_wg {P : Program} {id : Nat} {Q : Exit → Act → World → Prop} {a : Act} {w : World} {l : List Oper} (hm : P.follows .mixedOrders = true) (hB : Region.lexB .any l.toArray = true)
    (h : wpQuiet P l.toArray (fun w' => ∃ p : GB, w' = wg w p.n p.os) (fun a' => ∀ w', (∃ p : GB, w' = wg w p.n p.os) → Q .normal a' w') l a) : (Code.region id l.toArray true).wp P Q a w :=
  wp_region_quiet (C := fun w' => ∃ p : GB, w' = wg w p.n p.os) hm hB (Mid.drew1 w).toWg (by simpa using h)
/-- A callee's contract, met in a world of the class. -/
theorem Calls.wg_of {P : Program} {f : FuncId} {args : Array Value} {w : World} {n : Nat} {os : Array Obj} {v : Value}
    (h : Calls P f args (wg w n os) fun e w' => e = .returned v ∧ Mid 0 0 (wg w n os) w') : Calls P f args (wg w n os) fun e w'' => e = .returned v ∧ ∃ p : GB, w'' = wg w p.n p.os :=
  h.mono fun _ _ ⟨he, hm⟩ => ⟨he, ((Mid.ofWg w n os).trans hm).toWg⟩
end Go.Proofs.Ytimmnnncgnnkgaa

/- Facts on the tables of this seat's program: the element types' rows. -/
namespace Go.Proofs.Ytimmnnncgnnkgaa
set_option linter.unusedVariables false
set_option linter.unusedSimpArgs false
theorem infoI : (Try.prog.info? 3).map (fun i => (i.zero, i.size, i.bytes)) = some (some (.int .i64 0), 1, 8) := by kernel_rfl
theorem undSI : Try.prog.underlying 37 = some (.slice 3) := by kernel_rfl
theorem undI : Try.prog.underlying 3 = some (.int .i64) := by kernel_rfl
theorem cellsI : Try.prog.cellsOf 3 = 1 := by kernel_rfl
end Go.Proofs.Ytimmnnncgnnkgaa

/- Contracts of the small helpers of the laws: copies, comparisons and marks of int slices. -/
namespace Go.Proofs.Ytimmnnncgnnkgaa
set_option linter.unusedVariables false
set_option linter.unusedSimpArgs false
open Go.RowKit

/-- lo ≤ x ≤ hi -/
def inB (x lo hi : Int) : Bool := decide (lo ≤ x) && decide (x ≤ hi)

set_option maxHeartbeats 400000 in
theorem within_any (x lo hi : Int) (w : World) :
    Calls Try.prog 76 #[.int .i64 x, .int .i64 lo, .int .i64 hi] w fun e w' => e = .returned (.bool (inB x lo hi)) ∧ w = w' := by
  go_enter Try.func76, Try.ntmps76
  go_wp2_with fail
  all_goals
    go_ret
    exact ⟨by simp [inB]; omega, rfl⟩

set_option maxHeartbeats 400000 in
theorem l1In_any (x lo hi : Int) (w : World) :
    Calls Try.prog 41 #[.int .i64 x, .int .i64 lo, .int .i64 hi] w fun e w' => e = .returned (.bool (inB x lo hi)) ∧ w = w' := by
  go_enter Try.func41, Try.ntmps41
  go_wp2_with fail
  all_goals
    go_ret
    exact ⟨by simp [inB]; omega, rfl⟩

set_option maxHeartbeats 400000 in
theorem toIntS_any (A : Option Addr) (xs : List Int) (c : Nat) (w : World) (hr : Rs w w.heap.size A (ints xs)) (hl : xs.length ≤ 1048576) :
    Calls Try.prog 98 #[.slice A xs.length c] w fun e w' =>
      e = .returned (.slice (some ⟨w.heap.size, 0, none⟩) xs.length xs.length) ∧
      w'.ownsRow w.heap.size 3 1 (.slice (some ⟨w.heap.size, 0, none⟩) xs.length xs.length) xs.length (ints xs) ∧ Below w.heap.size w w' := by
  have hmx : xs.length ≤ maxLen := by unfold maxLen; omega
  go_enter Try.func98, Try.ntmps98
  go_wp2_with (at_make; refine wpList_mk rfl _ _ 37 rfl 3 (.int .i64 0) 8 undSI infoI rfl .i64 .i64 _ _ xs.length rfl rfl rfl rfl (by omega) hmx ?_; intro w1 hown1 hgr1 hsz1)
  have hb1 := below_none hgr1
  go_loopw [4] (fun i wr => ∃ k : Nat, k ≤ xs.length ∧ i = .int .i64 k ∧ wr.ownsRow w.heap.size 3 1 (.slice (some ⟨w.heap.size, 0, none⟩) xs.length xs.length) xs.length (ints (xs.take k) ++ List.replicate (xs.length - k) (.int .i64 0)) ∧ Below w.heap.size w wr)
    (fun i _ => xs.length - (intOf i).toNat)
  case atStart => exact ⟨0, Nat.zero_le _, rfl, by simpa [ints] using hown1, hb1⟩
  case round =>
    obtain ⟨k, hk, rfl, hown, hb⟩ := hrel
    by_cases hlt : k < xs.length
    · obtain ⟨b, off, x, rfl, hbB, hx, hc⟩ := (hr.below hb).int hlt
      obtain ⟨u, -, hu⟩ := owns_cell hown hlt
      have hfz := hown.frozenAt k
      have HX := Lib.hid hx
      clear hx
      go_wp2_with fail
      go_roundw
      case rel =>
        refine ⟨k + 1, by omega, by go_num, owns_set hown k _ ?_, hb.setCell (Nat.le_refl _) _⟩
        rw [set_fill _ _ _ (by rw [ints_len, List.length_take]; omega) hlt, take_succ_of xs HX.out, ints_append]
        rfl
      case measure => simp [intOf]; omega
    · go_wp2_with fail
      go_ret
      have hkl : k = xs.length := by omega
      subst hkl
      exact ⟨rfl, by simpa using hown, hb⟩

set_option maxHeartbeats 400000 in
/-- Equal lists: eqIntS says yes. -/
theorem eqIntS_same (A A' : Option Addr) (xs : List Int) (c c' B B' : Nat) (w : World) (hr : Rs w B A (ints xs)) (hr' : Rs w B' A' (ints xs)) (hl : xs.length ≤ 1048576) :
    Calls Try.prog 20 #[.slice A xs.length c, .slice A' xs.length c'] w fun e w' => e = .returned (.bool true) ∧ ∃ n, w' = w.drewN n := by
  go_enter Try.func20, Try.ntmps20
  go_wp2_with fail
  go_loopw [5] (fun i wr => ∃ k : Nat, k ≤ xs.length ∧ i = .int .i64 k ∧ ∃ n, wr = w.drewN n) (fun i _ => xs.length - (intOf i).toNat)
  case atStart => exact ⟨0, Nat.zero_le _, rfl, 0, rfl⟩
  case round =>
    obtain ⟨k, hk, rfl, nd, rfl⟩ := hrel
    by_cases hlt : k < xs.length
    · obtain ⟨b, off, x, rfl, -, hx, hc⟩ := hr.int hlt
      obtain ⟨b', off', x', rfl, -, hx', hc'⟩ := hr'.int hlt
      rw [hx] at hx'
      obtain rfl := Option.some.inj hx'
      clear hx hx'
      go_wp2_with fail
      go_quiet (fail)
      go_wp2_with fail
      go_roundw
      case rel => exact ⟨k + 1, by omega, by go_num, _, rfl⟩
      case measure => simp [intOf]; omega
    · go_wp2_with fail
      go_ret
      exact ⟨rfl, _, rfl⟩

end Go.Proofs.Ytimmnnncgnnkgaa

/- Contracts of the laws' helpers on slices of int slices. -/
namespace Go.Proofs.Ytimmnnncgnnkgaa
set_option linter.unusedVariables false
set_option linter.unusedSimpArgs false
open Go.RowKit

theorem infoSI : (Try.prog.info? 37).map (fun i => (i.zero, i.size, i.bytes)) = some (some (.slice none 0 0), 1, 24) := by kernel_rfl
theorem undSSI : Try.prog.underlying 48 = some (.slice 37) := by kernel_rfl

/-- What is left of a budget, or -1. -/
def szI (left : Int) (n : Nat) : Int := if (n : Int) ≤ left then left - n else -1

set_option maxHeartbeats 400000 in
theorem szIntS_any (A : Option Addr) (n c : Nat) (left : Int) (w : World) (hn : n ≤ 9223372036854775807) (h0 : 0 ≤ left) (h1 : left ≤ 1048576) :
    Calls Try.prog 95 #[.slice A n c, .int .i64 left] w fun e w' => e = .returned (.int .i64 (szI left n)) ∧ w = w' := by
  by_cases h : (n : Int) ≤ left
  · have e : szI left n = left - n := by unfold szI; rw [if_pos h]
    rw [e]
    clear e
    go_enter Try.func95, Try.ntmps95
    go_wp2_with fail
    go_ret
    exact ⟨rfl, rfl⟩
  · have e : szI left n = -1 := by unfold szI; rw [if_neg h]
    rw [e]
    clear e
    go_enter Try.func95, Try.ntmps95
    go_wp2_with fail
    go_ret
    exact ⟨rfl, rfl⟩

/-- How many numbers stand in the rows. -/
def sumL (xss : List (List Int)) : Nat := (xss.map List.length).sum
theorem sumL_append (a b : List (List Int)) : sumL (a ++ b) = sumL a + sumL b := by simp [sumL]
theorem sumL_one (a : List Int) : sumL [a] = a.length := by simp [sumL]
theorem sumL_take_succ {xss : List (List Int)} {k : Nat} {xs : List Int} (h : xss[k]? = some xs) : sumL (xss.take (k + 1)) = sumL (xss.take k) + xs.length := by
  rw [take_succ_of xss h, sumL_append, sumL_one]
theorem sumL_take_le (xss : List (List Int)) (k : Nat) : sumL (xss.take k) ≤ sumL xss := by
  have h := List.take_append_drop k xss
  have := sumL_append (xss.take k) (xss.drop k)
  rw [h] at this
  omega
theorem len_le_sumL {xss : List (List Int)} {xs : List Int} (h : xs ∈ xss) : xs.length ≤ sumL xss := by
  obtain ⟨k, hk⟩ := List.mem_iff_getElem?.1 h
  have h1 := sumL_take_succ hk
  have h2 := sumL_take_le xss (k + 1)
  omega

/-- The lengths are lengths of slices that there can be. -/
def LenOk (xss : List (List Int)) : Prop := xss.length ≤ 9223372036854775807 ∧ ∀ xs ∈ xss, xs.length ≤ 9223372036854775807

set_option maxHeartbeats 800000 in
theorem szIntSS_any (A : Option Addr) (xss : List (List Int)) (c : Nat) (left : Int) (w : World) (lo hi : Nat) (hr : RSS w lo hi A xss) (hok : LenOk xss) (h0 : 0 ≤ left) (h1 : left ≤ 1048576) (r : Int)
    (hres : r = szI left (xss.length + sumL xss)) :
    Calls Try.prog 64 #[.slice A xss.length c, .int .i64 left] w fun e w' => e = .returned (.int .i64 r) ∧ w = w' := by
  have HR := Lib.hid hres
  clear hres
  have hlen := hok.1
  by_cases hbig : (xss.length : Int) ≤ left
  · go_enter Try.func64, Try.ntmps64
    go_wp2_with fail
    go_loop [1, 5] (fun lv i => ∃ k : Nat, k ≤ xss.length ∧ i = .int .i64 k ∧ lv = .int .i64 (left - xss.length - (sumL (xss.take k) : Int)) ∧ ((xss.length + sumL (xss.take k) : Nat) : Int) ≤ left)
      (fun _ i => xss.length - (intOf i).toNat)
    case atStart => exact ⟨0, Nat.zero_le _, rfl, by simp [sumL], by simp [sumL]; omega⟩
    case round =>
      obtain ⟨k, hk, rfl, rfl, hle⟩ := hrel
      by_cases hlt : k < xss.length
      · obtain ⟨b, off, A', c', xs, rfl, -, -, hx, hc, -⟩ := hr.row hlt
        have hxl := hok.2 xs (List.mem_of_getElem? hx)
        have hs := sumL_take_succ hx
        have HS := Lib.hid hs
        clear hs hx
        by_cases hfit : (xs.length : Int) ≤ left - xss.length - (sumL (xss.take k) : Int)
        · have e : szI (left - xss.length - (sumL (xss.take k) : Int)) xs.length = left - xss.length - (sumL (xss.take k) : Int) - xs.length := by unfold szI; rw [if_pos hfit]
          have E := Lib.hid e
          clear e
          go_wp2_with fail
          with_reducible refine (szIntS_any A' xs.length c' _ _ hxl (by omega) (by omega)).mono ?_
          rintro e w' ⟨rfl, rfl⟩
          rw [E.out]
          go_wp2_with fail
          go_round
          case rel => exact ⟨k + 1, by omega, by go_num, by rw [HS.out]; go_num, by rw [HS.out]; omega⟩
          case measure => simp [intOf]; omega
        · have e : szI (left - xss.length - (sumL (xss.take k) : Int)) xs.length = -1 := by unfold szI; rw [if_neg hfit]
          have E := Lib.hid e
          clear e
          go_wp2_with fail
          with_reducible refine (szIntS_any A' xs.length c' _ _ hxl (by omega) (by omega)).mono ?_
          rintro e w' ⟨rfl, rfl⟩
          rw [E.out]
          go_wp2_with fail
          go_ret
          have hbad : szI left (xss.length + sumL xss) = -1 := by
            have h2 := sumL_take_le xss (k + 1)
            have h3 := HS.out
            unfold szI
            rw [if_neg (by omega)]
          rw [HR.out, hbad]
          exact ⟨rfl, rfl⟩
      · go_wp2_with fail
        go_ret
        obtain rfl : k = xss.length := by omega
        have ht : xss.take xss.length = xss := List.take_length
        rw [ht] at hle ⊢
        have hgood : szI left (xss.length + sumL xss) = left - xss.length - (sumL xss : Int) := by
          unfold szI
          rw [if_pos hle]
          omega
        rw [HR.out, hgood]
        exact ⟨rfl, rfl⟩
  · have hbad : szI left (xss.length + sumL xss) = -1 := by
      unfold szI
      rw [if_neg (by omega)]
    rw [HR.out, hbad]
    clear hbad
    go_enter Try.func64, Try.ntmps64
    go_wp2_with fail
    go_ret
    exact ⟨rfl, rfl⟩

set_option maxHeartbeats 800000 in
theorem toIntSS_any (A : Option Addr) (xss : List (List Int)) (c : Nat) (w : World) (lo hi : Nat) (hr : RSS w lo hi A xss) (hsz : xss.length + sumL xss ≤ 1048576) :
    Calls Try.prog 68 #[.slice A xss.length c] w fun e w' => RetSS 37 3 xss w e w' := by
  have hmx : xss.length ≤ maxLen := by unfold maxLen; omega
  go_enter Try.func68, Try.ntmps68
  go_wp2_with (at_make; refine wpList_mk rfl _ _ 48 rfl 37 (.slice none 0 0) 24 undSSI infoSI rfl .i64 .i64 _ _ xss.length rfl rfl rfl rfl (by omega) hmx ?_; intro w1 hown1 hgr1 hsz1)
  have hm1 : Mid 0 0 w w1 := Mid.of_grown hgr1 (by intro g h; cases h)
  go_loopw [4] (fun i wr => ∃ k : Nat, ∃ rows : List Row, k ≤ xss.length ∧ i = .int .i64 k ∧ rowsD rows = xss.take k ∧
      wr.ownsRow w.heap.size 37 1 (.slice (some ⟨w.heap.size, 0, none⟩) xss.length xss.length) xss.length (rowsV rows ++ List.replicate (xss.length - k) (.slice none 0 0)) ∧
      OwnRows wr w.heap.size wr.heap.size 3 rows ∧ Mid 0 0 w wr)
    (fun i _ => xss.length - (intOf i).toNat)
  case atStart => exact ⟨0, [], Nat.zero_le _, rfl, by simp [rowsD], by simpa [rowsV] using hown1, OwnRows.nil, hm1⟩
  case round =>
    obtain ⟨k, rows, hk, rfl, hrd, hown, hrows, hm⟩ := hrel
    have HRD := Lib.hid hrd
    clear hrd
    by_cases hlt : k < xss.length
    · obtain ⟨b, off, A', c', xs, rfl, -, -, hx, hc, hrx⟩ := (hr.mid hm (Or.inl (Nat.zero_le _))).row hlt
      have hxl := len_le_sumL (List.mem_of_getElem? hx)
      have HX := Lib.hid hx
      clear hx
      have hszr := hm.size
      go_wp2_with fail
      with_reducible refine (toIntS_any A' xs c' _ hrx.rsS (by omega)).mono ?_
      rintro e w2 ⟨rfl, ho2, hb2⟩
      have hown2 := owns_belowS hown hb2
      have hrows2 := hrows.mid (w' := w2) (Mid.of_below (lo := 0) (hi := 0) hb2) (Or.inl (Nat.zero_le _))
      have hm2 := hm.trans (Mid.of_below hb2)
      have hsz2 := hb2.size
      obtain ⟨u, -, hu⟩ := owns_cell hown2 hlt
      have hfz := hown2.frozenAt k
      have hblk : wr.heap.size < w2.heap.size := (ho2.lt wr.heap.size rfl).2
      go_wp2_with fail
      go_roundw
      case rel =>
        have hl2 : (rowsV rows).length = k := by rw [rowsV_len, ← rowsD_len, HRD.out, List.length_take]; omega
        have hp := hrows2.push (r := ⟨some ⟨wr.heap.size, 0, none⟩, xs.length, xs⟩) (base := wr.heap.size) (hi' := w2.heap.size) ho2 (Nat.le_refl _) hszr hsz2 (Nat.le_refl _)
          (by intro g hg; simp [Row.v, Value.ownBlock] at hg; omega)
        refine ⟨k + 1, rows ++ [⟨some ⟨wr.heap.size, 0, none⟩, xs.length, xs⟩], by omega, by go_num, ?_, owns_set hown2 k _ ?_, ?_, ?_⟩
        · rw [rowsD_append, HRD.out, take_succ_of xss HX.out]
          rfl
        · rw [set_fill _ _ _ hl2 hlt, rowsV_append]
          rfl
        · have h3 := hp.grown hown2 (by decide) (grown_of_setCell w2 w.heap.size k (.slice (some ⟨wr.heap.size, 0, none⟩) xs.length xs.length))
          simpa using h3
        · exact hm2.storeNew (Nat.le_refl _) _
      case measure => simp [intOf]; omega
    · go_wp2_with fail
      go_ret
      obtain rfl : k = xss.length := by omega
      have hD : rowsD rows = xss := by rw [HRD.out, List.take_length]
      refine ⟨_, _, rfl, ⟨Nat.le_refl _, rows, hD, ⟨Nat.le_refl _, by simpa using hown, ?_⟩, hrows⟩, hm⟩
      intro g hg
      simp [Value.ownBlock] at hg
      subst hg
      exact (hown.lt _ rfl).2

set_option maxHeartbeats 800000 in
theorem eqIntSS_same (A A' : Option Addr) (xss : List (List Int)) (c c' : Nat) (w : World) (lo hi lo' hi' : Nat) (hr : RSS w lo hi A xss) (hr' : RSS w lo' hi' A' xss) (hsz : xss.length + sumL xss ≤ 1048576) :
    Calls Try.prog 35 #[.slice A xss.length c, .slice A' xss.length c'] w fun e w' => e = .returned (.bool true) ∧ ∃ n, w' = w.drewN n := by
  go_enter Try.func35, Try.ntmps35
  go_wp2_with fail
  go_loopw [5] (fun i wr => ∃ k : Nat, k ≤ xss.length ∧ i = .int .i64 k ∧ ∃ n, wr = w.drewN n) (fun i _ => xss.length - (intOf i).toNat)
  case atStart => exact ⟨0, Nat.zero_le _, rfl, 0, rfl⟩
  case round =>
    obtain ⟨k, hk, rfl, nd, rfl⟩ := hrel
    by_cases hlt : k < xss.length
    · obtain ⟨b, off, A1, c1, xs, rfl, -, -, hx, hc, hrx⟩ := hr.row hlt
      obtain ⟨b', off', A2, c2, xs', rfl, -, -, hx', hc', hrx'⟩ := hr'.row hlt
      rw [hx] at hx'
      obtain rfl := Option.some.inj hx'
      have hxl := len_le_sumL (List.mem_of_getElem? hx)
      clear hx hx'
      go_wp2_with fail
      go_quiet ((go_at_call 20; first | exact qz0 (eqIntS_same A1 A2 xs c1 c2 _ _ _ hrx.rs hrx'.rs (by omega)) | exact qz1 (eqIntS_same A1 A2 xs c1 c2 _ _ _ hrx.rs hrx'.rs (by omega))))
      go_wp2_with fail
      go_roundw
      case rel => exact ⟨k + 1, by omega, by go_num, _, by first | rfl | exact dn _ _ _⟩
      case measure => simp [intOf]; omega
    · go_wp2_with fail
      go_ret
      exact ⟨rfl, _, rfl⟩

/-- The rows with marks in them, from q on. -/
def markD (q : Int) : List (List Int) → List (List Int)
  | [] => []
  | xs :: r => marks q xs.length :: markD (q + xs.length) r
def markRows (q : Int) : List Row → List Row
  | [] => []
  | r :: t => { r with xs := marks q r.xs.length } :: markRows (q + r.xs.length) t
theorem OwnRows.mark {w w' : World} {lo hi : Nat} {tI : TypeId} {fs bs : List Row} {r : Row} {ys : List Int} (h : OwnRows w lo hi tI (fs ++ r :: bs)) (hg : w.grownBy w' r.v.ownBlock) (hy : ys.length = r.xs.length)
    (ho : w'.ownsRow lo tI 1 r.v r.xs.length (ints ys)) : OwnRows w' lo hi tI (fs ++ { r with xs := ys } :: bs) := by
  have hvv : ({ r with xs := ys } : Row).v = r.v := by simp [Row.v, hy]
  have hp := h.2
  rw [List.pairwise_append, List.pairwise_cons] at hp
  obtain ⟨hp1, ⟨hp2, hp3⟩, hp4⟩ := hp
  refine ⟨fun s hs => ?_, ?_⟩
  · rcases List.mem_append.1 hs with hm | hm
    · have ⟨h1, h2, h3⟩ := h.1 s (List.mem_append_left _ hm)
      exact ⟨Nat.le_trans h1 hg.size, h2.kept hg (hp4 s hm r List.mem_cons_self), h3⟩
    · rcases List.mem_cons.1 hm with hm | hm
      · subst hm
        have ⟨h1, h2, h3⟩ := h.1 r (List.mem_append_right _ List.mem_cons_self)
        refine ⟨Nat.le_trans h1 hg.size, ?_, ?_⟩
        · show w'.ownsRow lo tI 1 (.slice r.A ys.length r.c) ys.length (ints ys)
          rw [hy]
          exact ho
        · show ∀ g, Value.ownBlock (.slice r.A ys.length r.c) = some g → g < hi
          rw [hy]
          exact h3
      · have ⟨h1, h2, h3⟩ := h.1 s (List.mem_append_right _ (List.mem_cons_of_mem _ hm))
        refine ⟨Nat.le_trans h1 hg.size, h2.kept hg ?_, h3⟩
        rcases hp2 s hm with hn | hn
        · cases hv : s.v.ownBlock with
          | none => exact .inl hv
          | some g =>
            refine .inr ?_
            show s.v.ownBlock ≠ _
            rw [hn, hv]
            simp
        · exact .inr (fun e => hn e.symm)
  · rw [List.pairwise_append, List.pairwise_cons]
    refine ⟨hp1, ⟨fun s hs => by rw [hvv]; exact hp2 s hs, hp3⟩, fun s hs t ht => ?_⟩
    rcases List.mem_cons.1 ht with rfl | ht
    · rw [hvv]
      exact hp4 s hs r List.mem_cons_self
    · exact hp4 s hs t (List.mem_cons_of_mem _ ht)

theorem OV.grown {w w' : World} {lo hi : Nat} {e : TypeId} {size : Nat} {A : Option Addr} {c n : Nat} {cs : List Value} {row : Option Nat} (h : OV w lo hi e size A c n cs) (hg : w.grownBy w' row)
    (hne : Value.ownBlock (.slice A n c) = none ∨ Value.ownBlock (.slice A n c) ≠ row) : OV w' lo hi e size A c n cs :=
  ⟨Nat.le_trans h.1 hg.size, h.2.1.kept hg hne, h.2.2⟩

end Go.Proofs.Ytimmnnncgnnkgaa

/- FormatInt, both sides. -/
namespace Go.Proofs.Ytimmnnncgnnkgaa
set_option linter.unusedVariables false
set_option linter.unusedSimpArgs false
open Go.RowKit

def MarkerS (P : Prop) : Prop := P
theorem MarkerS.to {P : Prop} (h : MarkerS P) : P := h
def bys (l : List UInt8) : List Value := l.map fun b => .int .u8 b.toNat
section
variable {W : World} {ops : Array Oper} {rest : List Oper} {o : Oper} {a : Act} {Q : Exit → Act → World → Prop}
end
end Go.Proofs.Ytimmnnncgnnkgaa

/- Contracts: equality of words and of lists of words; words of a rank. -/
namespace Go.Proofs.Ytimmnnncgnnkgaa
set_option linter.unusedVariables false
set_option linter.unusedSimpArgs false
open Go.RowKit

end Go.Proofs.Ytimmnnncgnnkgaa

/- Contracts: equality of lists of words. -/
namespace Go.Proofs.Ytimmnnncgnnkgaa
set_option linter.unusedVariables false
set_option linter.unusedSimpArgs false
open Go.RowKit

end Go.Proofs.Ytimmnnncgnnkgaa

/- Plain words on letters and words: inverse letters, the orders of letters and words, reduction. -/
namespace Go.Proofs.Ytimmnnncgnnkgaa
set_option linter.unusedVariables false
set_option linter.unusedSimpArgs false

/-- The least int. -/
def minI : Int := -9223372036854775808
/-- Two letters are inverse to each other. -/
def invB (a b : Int) : Bool := decide (a ≠ 0 ∧ a ≠ minI ∧ b = -a)
theorem invB_iff (a b : Int) : invB a b = true ↔ (a ≠ 0 ∧ a ≠ minI ∧ b = -a) := by simp [invB]

/-- A word of a rank. -/
def letB (rank x : Int) : Bool := decide (x ≠ 0 ∧ -rank ≤ x ∧ x ≤ rank)
def WordP (rank : Int) (w : List Int) : Prop :=
  (∀ x ∈ w, x ≠ 0 ∧ -rank ≤ x ∧ x ≤ rank) ∧ (∀ k x y, w[k]? = some x → w[k + 1]? = some y → y ≠ -x)
def IsW (rank : Int) (w : List Int) : Prop := 1 ≤ rank ∧ rank ≤ 3 ∧ w.length ≤ 24 ∧ WordP rank w

/-- -1, 0 or 1 -/
def cmpI (a b : Int) : Int := if a < b then -1 else if b < a then 1 else 0
def absI (a : Int) : Int := if a < 0 then -a else a
/-- The order of letters: 0, 1, -1, 2, -2, .., the least int last. -/
def cmpL (a b : Int) : Int :=
  if a = b then 0 else if a = minI then 1 else if b = minI then -1
  else if absI a < absI b then -1 else if absI b < absI a then 1 else if b < a then -1 else 1
/-- Letter by letter. -/
def cmpLs : List Int → List Int → Int
  | a :: x, b :: y => if cmpL a b = 0 then cmpLs x y else cmpL a b
  | _, _ => 0
/-- The order of words. -/
def cmpW (a b : List Int) : Int := if a.length < b.length then -1 else if b.length < a.length then 1 else cmpLs a b
/-- The negative of a letter as an int; the least int is its own. -/
def negI (x : Int) : Int := if x = minI then minI else -x
def invW (w : List Int) : List Int := (w.map negI).reverse
/-- One step of the reduction. -/
def redStep (out : List Int) (x : Int) : List Int :=
  match out.getLast? with
  | some a => if invB a x then out.dropLast else out ++ [x]
  | none => [x]
def red (out w : List Int) : List Int := w.foldl redStep out
end Go.Proofs.Ytimmnnncgnnkgaa

/- Contracts: letters and words of a rank. -/
namespace Go.Proofs.Ytimmnnncgnnkgaa
set_option linter.unusedVariables false
set_option linter.unusedSimpArgs false
open Go.RowKit

set_option maxHeartbeats 400000 in
theorem impl_areInverse (a b : Int) (w : World) (ha : -9223372036854775808 ≤ a) (ha2 : a ≤ 9223372036854775807) :
    Calls Try.prog 105 #[.int .i64 a, .int .i64 b] w fun e w' => e = .returned (.bool (invB a b)) ∧ w = w' := by
  by_cases h0 : a = 0
  · subst h0
    go_enter Try.func105, Try.ntmps105
    go_wp2_with fail
    go_ret
    exact ⟨by simp [invB], rfl⟩
  · by_cases hm : a = minI
    · have hr : invB a b = false := by simp [invB, hm]
      rw [hr]
      clear h0 hr
      subst hm
      unfold minI
      clear ha ha2
      go_enter Try.func105, Try.ntmps105
      go_wp2_with fail
      go_ret
      exact ⟨rfl, rfl⟩
    · have hlo : -9223372036854775807 ≤ a := by unfold minI at hm; omega
      have hx : (a != 0) = true := by simpa using h0
      by_cases hb : (b == -a) = true
      · have hr : invB a b = true := by simp [invB, h0, hm]; simpa using hb
        rw [hr]
        clear h0 hm hr
        go_enter Try.func105, Try.ntmps105
        go_wp2_with fail
        go_ret
        exact ⟨by simp; omega, rfl⟩
      · have hb' : (b == -a) = false := by simpa using hb
        have hr : invB a b = false := by simp [invB]; intro _ _; simpa using hb
        rw [hr]
        clear h0 hm hr hb
        go_enter Try.func105, Try.ntmps105
        go_wp2_with fail
        go_ret
        exact ⟨rfl, rfl⟩

set_option maxHeartbeats 400000 in
theorem impl_isLetter (rank x : Int) (w : World) (h1 : 1 ≤ rank) (h3 : rank ≤ 3) :
    Calls Try.prog 126 #[.int .i64 rank, .int .i64 x] w fun e w' => e = .returned (.bool (letB rank x)) ∧ w = w' := by
  by_cases h0 : x = 0
  · subst h0
    go_enter Try.func126, Try.ntmps126
    go_wp2_with fail
    go_ret
    exact ⟨by simp [letB], rfl⟩
  · have hx : (x != 0) = true := by simpa using h0
    have hr : letB rank x = inB x (-rank) rank := by simp [letB, inB, h0]
    rw [hr]
    clear h0 hr
    go_enter Try.func126, Try.ntmps126
    go_wp2_with fail
    with_reducible refine (within_any _ _ _ _).mono ?_
    rintro e w' ⟨rfl, rfl⟩
    go_wp2_with fail
    go_ret
    exact ⟨rfl, rfl⟩

theorem wrap_neg {x : Int} (h1 : -9223372036854775808 ≤ x) (h2 : x ≤ 9223372036854775807) : wrap64 (-x) = negI x := by
  unfold negI minI
  by_cases h : x = -9223372036854775808
  · rw [if_pos h, h]
    unfold wrap64
    omega
  · rw [if_neg h]
    exact IntWalk.wrap64_in _ ⟨by omega, by omega⟩
end Go.Proofs.Ytimmnnncgnnkgaa

/- Contracts: the orders of letters and words. -/
namespace Go.Proofs.Ytimmnnncgnnkgaa
set_option linter.unusedVariables false
set_option linter.unusedSimpArgs false
open Go.RowKit

/-! ### the order of words -/
end Go.Proofs.Ytimmnnncgnnkgaa

/- InvertWord of the program; the halves of CompareNielsen. -/
namespace Go.Proofs.Ytimmnnncgnnkgaa
set_option linter.unusedVariables false
set_option linter.unusedSimpArgs false
open Go.RowKit

/-! ### the halves -/
def halfN (xs : List Int) : Nat := (xs.length + 1) / 2
def halfA (xs : List Int) : List Int := xs.take (halfN xs)
def halfB (xs : List Int) : List Int := (invW xs).take (halfN xs)
def halves (xs : List Int) : List Int × List Int := if 0 < cmpW (halfA xs) (halfB xs) then (halfB xs, halfA xs) else (halfA xs, halfB xs)
/-- What both give back. -/
def RetHalves (xs : List Int) (w : World) (e : Ending) (w' : World) : Prop :=
  ∃ A c A' c', e = .returned (.tuple #[.slice A (halfN xs) c, .slice A' (halfN xs) c']) ∧ Rs w' w'.heap.size A (ints (halves xs).1) ∧ Rs w' w'.heap.size A' (ints (halves xs).2) ∧ Mid 0 0 w w'

end Go.Proofs.Ytimmnnncgnnkgaa

/- Objects of the laws with the blocks they lie in: int slices. Each step of a law leaves a 'Mid'. -/
namespace Go.Proofs.Ytimmnnncgnnkgaa
set_option linter.unusedVariables false
set_option linter.unusedSimpArgs false
open Go.RowKit

/-! ### int slices -/
def RI (w : World) (lo hi : Nat) (A : Option Addr) (xs : List Int) : Prop := RV w lo hi A (ints xs)
def OI (w : World) (lo hi : Nat) (A : Option Addr) (c : Nat) (xs : List Int) : Prop := OV w lo hi 3 1 A c xs.length (ints xs)
theorem RI.mid {w w' : World} {lo hi a b : Nat} {A : Option Addr} {xs : List Int} (h : RI w lo hi A xs) (m : Mid a b w w') (hd : b ≤ lo ∨ hi ≤ a) : RI w' lo hi A xs := RV.mid h m hd
theorem OI.mid {w w' : World} {lo hi a b : Nat} {A : Option Addr} {c : Nat} {xs : List Int} (h : OI w lo hi A c xs) (m : Mid a b w w') (hd : b ≤ lo ∨ hi ≤ a) : OI w' lo hi A c xs := OV.mid h m hd
theorem RI.size {w : World} {lo hi : Nat} {A : Option Addr} {xs : List Int} (h : RI w lo hi A xs) : hi ≤ w.heap.size := h.1
theorem OI.size {w : World} {lo hi : Nat} {A : Option Addr} {c : Nat} {xs : List Int} (h : OI w lo hi A c xs) : hi ≤ w.heap.size := h.1
theorem RI.rs {w : World} {lo hi : Nat} {A : Option Addr} {xs : List Int} (h : RI w lo hi A xs) : Rs w w.heap.size A (ints xs) := (RV.rs h).more h.1

/-- What a step leaves: the value, and that no block that was there has turned. -/
abbrev Stp (v : Value) (w : World) (e : Ending) (w' : World) : Prop := e = .returned v ∧ Mid 0 0 w w'
abbrev StpI (xs : List Int) (w : World) (e : Ending) (w' : World) : Prop := ∃ A c, e = .returned (.slice A xs.length c) ∧ OI w' w.heap.size w'.heap.size A c xs ∧ Mid 0 0 w w'
end Go.Proofs.Ytimmnnncgnnkgaa

/- Opening of arguments that came in: an int slice reads as a list. -/
namespace Go.Proofs.Ytimmnnncgnnkgaa
set_option linter.unusedVariables false
set_option linter.unusedSimpArgs false
open Go.ChangeShapes Go.WideShapes Go.ChangeAt Go.RowKit
open Go.Joins

section
variable {H : Type} {enc : TypeId × Value → H} {P : Program} {W : World} {T E : TypeId}
theorem wf_bounds {n : Int} (h : (Lit.int .i64 n).wf = true) : -9223372036854775808 ≤ n ∧ n ≤ 9223372036854775807 := bounds_i64 h

theorem rv_of_ints {A : Option Addr} {L C : Nat} {Z : List Int} (hL : L ≤ C) (hZ : Z.length = C) (hn : A = none → C = 0) (hc : ∀ a', A = some a' → 0 ≤ a'.block ∧ ∀ c, c < C → W.cell? (a'.add c) = some (.int .i64 (Z.getD c 0))) :
    RV W 0 W.heap.size A (ints (Z.take L)) := by
  refine ⟨Nat.le_refl _, fun hne => ?_⟩
  have hp : 0 < Z.length := by
    rcases Nat.eq_zero_or_pos Z.length with h0 | h0
    · have := List.eq_nil_of_length_eq_zero h0
      subst this
      simp [ints] at hne
    · exact h0
  cases hA : A with
  | none => have := hn hA; omega
  | some a' =>
    obtain ⟨b, off, rfl, hcc⟩ := ints_at (w := W) (k := .i64) (a := a') (zs := Z) (fun i hi => (hc a' hA).2 i (by omega)) hp
    refine ⟨b, off, rfl, Nat.zero_le _, World.block_lt_of_cell? _ _ (hcc 0 hp), fun j u hu => ?_⟩
    have hj : j < Z.length := by
      have := (List.getElem?_eq_some_iff.1 hu).1
      simp [ints] at this
      omega
    rw [hcc j hj]
    rw [ints_get, List.getElem?_take] at hu
    split at hu
    · rw [List.getElem?_eq_getElem hj] at hu
      simp at hu
      rw [← hu]
      simp [List.getD, List.getElem?_eq_getElem hj]
    · simp at hu

/-- Every number of every row fits an int, and every length is one that there can be. -/
def OkSS (xss : List (List Int)) : Prop := (xss.length ≤ 9223372036854775807 ∧ ∀ xs ∈ xss, xs.length ≤ 9223372036854775807) ∧ ∀ xs ∈ xss, OkI xs

theorem rss_of_cells {E2 : TypeId} (uT : P.underlying T = some (.slice E)) (uE : P.underlying E = some (.slice E2)) (uE2 : P.underlying E2 = some (.int .i64)) (cE : P.cellsOf E = 1) (cE2 : P.cellsOf E2 = 1)
    {fuel : Nat} {A : Option Addr} {len c : Nat} {x : DataW H × List MemPlace} (h : DataW.trod enc P W 0 (fun _ => true) true fuel T [.slice A len c] = some x) :
    ∃ xss : List (List Int), len = xss.length ∧ RSS W 0 W.heap.size A xss ∧ OkSS xss := by
  rcases Go.Deep.open_int_rows uT uE uE2 cE cE2 h with ⟨hcs, _⟩ | ⟨a, l, cc, AA, L, C, Z, hcs, _, hl, hm, _, hx⟩
  · simp at hcs
    obtain ⟨rfl, rfl, rfl⟩ := hcs
    exact ⟨[], rfl, RSS.nil (Nat.le_refl _), ⟨by simp, by simp⟩, by simp⟩
  · simp at hcs
    obtain ⟨rfl, rfl, rfl⟩ := hcs
    refine ⟨(List.range len).map fun r => (Z r).take (L r), by simp, ⟨(List.range len).map fun r => ⟨AA r, C r, (Z r).take (L r)⟩, by simp [rowsD], ⟨Nat.le_refl _, fun hne => ?_⟩, ?_⟩, ⟨?_, ?_⟩, ?_⟩
    · have hpos : 0 < len := by
        rcases Nat.eq_zero_or_pos len with h0 | h0
        · subst h0
          simp [rowsV] at hne
        · exact h0
      have hc0 := (hx 0 (by omega)).1
      obtain ⟨b, off, spot⟩ := a
      have hspot : spot = none := by simpa [Addr.add] using World.cell?_spot hc0
      subst hspot
      refine ⟨b, off, rfl, Nat.zero_le _, ?_, fun j u hu => ?_⟩
      · have := World.block_lt_of_cell? _ _ hc0
        simpa [Addr.add] using this
      · have hj : j < len := by
          have := (List.getElem?_eq_some_iff.1 hu).1
          simpa [rowsV] using this
        obtain ⟨h1, h2, h3, h4, _⟩ := hx j (by omega)
        rw [Addr.add_lit] at h1
        rw [h1]
        simp [rowsV, hj, Row.v] at hu
        rw [← hu]
        congr 1
        congr 1
        omega
    · intro r hr
      obtain ⟨j, hj, rfl⟩ := List.mem_map.1 hr
      have hj' : j < len := by simpa using hj
      obtain ⟨h1, h2, h3, h4, h5, h6, h7⟩ := hx j (by omega)
      exact rv_of_ints h2 h4 h6 h7
    · unfold maxLen at hm; simp; omega
    · intro xs hxs
      obtain ⟨j, hj, rfl⟩ := List.mem_map.1 hxs
      have hj' : j < len := by simpa using hj
      obtain ⟨h1, h2, h3, h4, _⟩ := hx j (by omega)
      unfold maxLen at h3
      simp; omega
    · intro xs hxs
      obtain ⟨j, hj, rfl⟩ := List.mem_map.1 hxs
      have hj' : j < len := by simpa using hj
      obtain ⟨h1, h2, h3, h4, h5, _⟩ := hx j (by omega)
      exact fun y hy => wf_bounds (h5 y (List.mem_of_mem_take hy))
end
end Go.Proofs.Ytimmnnncgnnkgaa

/- CompareNielsen, both sides, and in the laws' words. -/
namespace Go.Proofs.Ytimmnnncgnnkgaa
set_option linter.unusedVariables false
set_option linter.unusedSimpArgs false
open Go.RowKit

/-- The order of Nielsen's lists on words. -/
def cmpN (a b : List Int) : Int := if a.length < b.length then -1 else if b.length < a.length then 1 else if cmpW (halves a).1 (halves b).1 = 0 then cmpW (halves a).2 (halves b).2 else cmpW (halves a).1 (halves b).1


def CompareNielsenIs (a b : List Int) (res : Int) : Prop := cmpN a b = res
theorem OI.cap {w : World} {lo hi : Nat} {A : Option Addr} {c : Nat} {xs : List Int} (h : OI w lo hi A c xs) : xs.length ≤ c := by
  obtain ⟨A', c', he, hn, -⟩ := owns_shape h.2.1
  injection he with _ _ hc
  omega

end Go.Proofs.Ytimmnnncgnnkgaa

/- Plain: Nielsen moves on lists of words. -/
namespace Go.Proofs.Ytimmnnncgnnkgaa
set_option linter.unusedVariables false
set_option linter.unusedSimpArgs false
open Go.RowKit

/-- A move. -/
structure Mv where
  kind : Int
  i : Int
  j : Int
  sign : Int
deriving DecidableEq
def Mv.v (m : Mv) : Value := .agg #[.int .i64 m.kind, .int .i64 m.i, .int .i64 m.j, .int .i64 m.sign]
/-- The row at a place. -/
def rowAt (l : List (List Int)) (i : Int) : List Int := l.getD i.toNat []
/-- Is the second place of a move good? -/
def MvOk (l : List (List Int)) (m : Mv) : Prop := 0 ≤ m.j ∧ m.j < l.length ∧ m.j ≠ m.i ∧ (m.sign = 1 ∨ m.sign = -1)
instance (l : List (List Int)) (m : Mv) : Decidable (MvOk l m) := by unfold MvOk; infer_instance
/-- The other word of a move. -/
def mvWord (l : List (List Int)) (m : Mv) : List Int := if m.sign < 0 then invW (rowAt l m.j) else rowAt l m.j
def applyM (l : List (List Int)) (m : Mv) : List (List Int) × Bool :=
  if ¬ (0 ≤ m.i ∧ m.i < l.length) then (l, false)
  else if m.kind = 1 then (l.set m.i.toNat (invW (rowAt l m.i)), true)
  else if m.kind = 4 then (if 0 < (rowAt l m.i).length then (l, false) else (l.eraseIdx m.i.toNat, true))
  else if ¬ MvOk l m then (l, false)
  else if m.kind = 2 then (l.set m.i.toNat (red [] (rowAt l m.i ++ mvWord l m)), true)
  else if m.kind = 3 then (l.set m.i.toNat (red [] (mvWord l m ++ rowAt l m.i)), true)
  else (l, false)

/-! ### the next move -/
/-- The four moves of a pair, in order. -/
def mvOf (i k n : Nat) : Mv := ⟨2 + (n : Int) / 2, i, k, 1 - 2 * ((n : Int) % 2)⟩
def mvTry (l : List (List Int)) (i k n : Nat) : Bool :=
  (applyM l (mvOf i k n)).2 && decide (cmpN (rowAt (applyM l (mvOf i k n)).1 i) (rowAt l i) < 0)
def tryN (l : List (List Int)) (i k n : Nat) : Option Mv := if mvTry l i k n then some (mvOf i k n) else none
def tryK (l : List (List Int)) (i k : Nat) : Option Mv := (List.range 4).findSome? (tryN l i k)
def tryI (l : List (List Int)) (i : Nat) : Option Mv := (List.range l.length).findSome? (tryK l i)
def tryD (l : List (List Int)) (i : Nat) : Option Mv := if (rowAt l i).length = 0 then some ⟨4, i, 0, 0⟩ else none
def nextM (l : List (List Int)) : Option Mv :=
  ((List.range l.length).findSome? (tryD l)).or ((List.range l.length).findSome? (tryI l))
end Go.Proofs.Ytimmnnncgnnkgaa

/- Reduction, in plain Lean; a row cut at its end. -/
namespace Go.Proofs.Ytimmnnncgnnkgaa
set_option linter.unusedVariables false
open Go.RowKit

end Go.Proofs.Ytimmnnncgnnkgaa

/- product of the program. -/
namespace Go.Proofs.Ytimmnnncgnnkgaa
set_option linter.unusedVariables false
set_option linter.unusedSimpArgs false
open Go.RowKit

/-- What holds of the product's list. -/
def PrOut (w wr : World) (v : Value) (out : List Int) : Prop := wr.ownsRow w.heap.size 3 1 v out.length (ints out) ∧ Below w.heap.size w wr
end Go.Proofs.Ytimmnnncgnnkgaa

/- ReduceLetters and MultiplyWords of the reference. -/
namespace Go.Proofs.Ytimmnnncgnnkgaa
set_option linter.unusedVariables false
set_option linter.unusedSimpArgs false
open Go.RowKit

/-- What holds of the list so far. -/
def RdOut (w wr : World) (v : Value) (out : List Int) : Prop := wr.ownsRow w.heap.size 3 1 v out.length (ints out) ∧ Below w.heap.size w wr
end Go.Proofs.Ytimmnnncgnnkgaa

/- Copies of lists of words: copyLists, l20Copy. -/
namespace Go.Proofs.Ytimmnnncgnnkgaa
set_option linter.unusedVariables false
set_option linter.unusedSimpArgs false
open Go.RowKit

theorem OwnRows.replace {w : World} {lo hi : Nat} {tI : TypeId} {rows : List Row} {base hi' k : Nat} {r : Row} (h : OwnRows w lo hi tI rows) (hr : w.ownsRow base tI 1 r.v r.xs.length (ints r.xs)) (hb : hi ≤ base) (hl : lo ≤ base) (hh : hi ≤ hi') (hs : hi' ≤ w.heap.size) (hlt : ∀ g, r.v.ownBlock = some g → g < hi') :
    OwnRows w lo hi' tI (rows.set k r) := by
  refine ⟨fun s hs' => ?_, ?_⟩
  · rcases List.mem_or_eq_of_mem_set hs' with hm | hm
    · exact (h.1 s hm).wide (Nat.le_refl _) hh hs
    · subst hm
      exact ⟨hs, owns_base hr hl, hlt⟩
  · have key : ∀ s ∈ rows, s.v.ownBlock = none ∨ (s.v.ownBlock ≠ r.v.ownBlock) := fun s hsm => by
      cases hv : s.v.ownBlock with
      | none => exact .inl rfl
      | some g =>
        refine .inr fun e => ?_
        have h1 := (h.1 s hsm).2.2 g hv
        have h2 := (hr.lt g e.symm).1
        omega
    rw [List.pairwise_iff_getElem]
    intro i j hi hj hij
    have hp := List.pairwise_iff_getElem.1 h.2 i j (by simpa using hi) (by simpa using hj) hij
    rw [List.getElem_set, List.getElem_set]
    have hi2 : i < rows.length := by simpa using hi
    have hj2 : j < rows.length := by simpa using hj
    split
    · split
      · omega
      · cases hv : r.v.ownBlock with
        | none => exact .inl rfl
        | some g =>
          refine .inr fun e => ?_
          rcases key rows[j] (List.getElem_mem _) with h1 | h1
          · rw [h1] at e; cases e
          · exact h1 (by rw [hv]; exact e.symm)
    · split
      · exact key rows[i] (List.getElem_mem _)
      · exact hp
end Go.Proofs.Ytimmnnncgnnkgaa

/- ApplyMove, both sides. -/
namespace Go.Proofs.Ytimmnnncgnnkgaa
set_option linter.unusedVariables false
set_option linter.unusedSimpArgs false
open Go.RowKit

/-- What ApplyMove hands back. -/
abbrev RetMv (d : List (List Int)) (m : Mv) (w : World) (e : Ending) (w' : World) : Prop :=
  ∃ A c, e = .returned (.tuple #[.slice A (applyM d m).1.length c, .bool (applyM d m).2]) ∧ OSS w' w.heap.size w'.heap.size 37 3 A c (applyM d m).1 ∧ Mid 0 0 w w'
theorem RetMv.mk {d ys : List (List Int)} {m : Mv} {b : Bool} {w w' : World} {A : Option Addr} {c n : Nat} (he : applyM d m = (ys, b)) (hn : ys.length = n) (ho : OSS w' w.heap.size w'.heap.size 37 3 A c ys) (hm : Mid 0 0 w w') : RetMv d m w (.returned (.tuple #[.slice A n c, .bool b])) w' := by
  subst hn
  refine ⟨A, c, ?_, ?_, hm⟩
  · rw [he]
  · rw [he]; exact ho
theorem OSS.cut {w : World} {lo hi : Nat} {tSI tI : TypeId} {A : Option Addr} {c : Nat} {xss : List (List Int)} (h : OSS w lo hi tSI tI A c xss) : ∃ rows, rowsD rows = xss ∧ w.ownsRow lo tSI 1 (.slice A xss.length c) xss.length (rowsV rows) ∧ (∀ g, Value.ownBlock (.slice A xss.length c) = some g → g < hi) ∧ OwnRows w lo hi tI rows := by
  obtain ⟨_, rows, h1, h2, h3⟩ := h
  exact ⟨rows, h1, h2.2.1, h2.2.2, h3⟩
end Go.Proofs.Ytimmnnncgnnkgaa

/- ApplyMove of the reference: the dropped row. -/
namespace Go.Proofs.Ytimmnnncgnnkgaa
set_option linter.unusedVariables false
set_option linter.unusedSimpArgs false
open Go.RowKit
end Go.Proofs.Ytimmnnncgnnkgaa

/- ApplyMove, impl: bad second places, products. -/
namespace Go.Proofs.Ytimmnnncgnnkgaa
set_option linter.unusedVariables false
set_option linter.unusedSimpArgs false
open Go.RowKit

end Go.Proofs.Ytimmnnncgnnkgaa

/- ApplyMove, spec: bad second places, products. -/
namespace Go.Proofs.Ytimmnnncgnnkgaa
set_option linter.unusedVariables false
set_option linter.unusedSimpArgs false
open Go.RowKit

end Go.Proofs.Ytimmnnncgnnkgaa

/- ApplyMove, both sides, all cases. -/
namespace Go.Proofs.Ytimmnnncgnnkgaa
set_option linter.unusedVariables false
set_option linter.unusedSimpArgs false
open Go.RowKit

end Go.Proofs.Ytimmnnncgnnkgaa

/- Contracts of the laws' helpers on morphisms. -/
namespace Go.Proofs.Ytimmnnncgnnkgaa
set_option linter.unusedVariables false
set_option linter.unusedSimpArgs false
open Go.RowKit

theorem Mid.stored {lo hi : Nat} {a w : World} {p : Addr} (h : Mid lo hi a w) (u : Value) (h1 : lo ≤ p.block) (h2 : p.block < hi) : Mid lo hi a (w.setCell p u) := h.trans (Mid.setCell w u h1 h2)
/-- A morphism's value. -/
def morV (r : Int) (A : Option Addr) (n c : Nat) : Value := .agg #[.int .i64 r, .slice A n c]

set_option maxHeartbeats 800000 in
theorem toMorphism_any (r : Int) (A : Option Addr) (xss : List (List Int)) (c : Nat) (w : World) (lo hi : Nat) (hr : RSS w lo hi A xss) (hsz : xss.length + sumL xss ≤ 1048576) :
    Calls Try.prog 30 #[.agg #[.int .i64 r, .slice A xss.length c]] w fun e w' => ∃ A' c', e = .returned (.agg #[.int .i64 r, .slice A' xss.length c']) ∧
      OSS w' w.heap.size w'.heap.size 37 3 A' c' xss ∧ Mid 0 0 w w' := by
  go_enter Try.func30, Try.ntmps30
  go_wp2_with fail
  have hb0 : Mid 0 0 w (((w.alloc (.cells #[.int .i64 r, .slice A xss.length c] 50)).alloc (.cells #[.int .i64 0, .slice none 0 0] 53)).alloc (.cells #[.int .i64 r, .slice none 0 0] 53)) :=
    ((Mid.alloc _ _).trans (Mid.alloc _ _)).trans (Mid.alloc _ _)
  refine (toIntSS_any A xss c _ _ _ (hr.mid hb0 (Or.inl (Nat.zero_le _))) hsz).mono ?_
  rintro e w1 ⟨A', c', rfl, ho, hm⟩
  have hs1 := hm.size
  simp only [World.size_alloc] at hs1 ho
  have c20 : w1.cell? ⟨w.heap.size + 2, 0, none⟩ = some (.int .i64 r) := (World.cell?_of_block (hm.block _ (by simp) (by omega))).trans (World.cell?_alloc_at _ _ _ _ (by simp))
  have c21 : w1.cell? ⟨w.heap.size + 2, 1, none⟩ = some (.slice none 0 0) := (World.cell?_of_block (hm.block _ (by simp) (by omega))).trans (World.cell?_alloc_at _ _ _ _ (by simp))
  have f2 : ∀ i, w1.frozen? ⟨w.heap.size + 2, i, none⟩ = false := fun i => (World.frozen?_of_block (hm.block _ (by simp) (by omega))).trans (World.frozen?_alloc_at _ _ _ _ (by simp))
  have c10 : w1.cell? ⟨w.heap.size + 1, 0, none⟩ = some (.int .i64 0) := (World.cell?_of_block (hm.block _ (by simp) (by omega))).trans ((World.cell?_alloc_past _ _ _ (by simp)).trans (World.cell?_alloc_at _ _ _ _ (by simp)))
  have c11 : w1.cell? ⟨w.heap.size + 1, 1, none⟩ = some (.slice none 0 0) := (World.cell?_of_block (hm.block _ (by simp) (by omega))).trans ((World.cell?_alloc_past _ _ _ (by simp)).trans (World.cell?_alloc_at _ _ _ _ (by simp)))
  have f1 : ∀ i, w1.frozen? ⟨w.heap.size + 1, i, none⟩ = false := fun i => (World.frozen?_of_block (hm.block _ (by simp) (by omega))).trans ((World.frozen?_alloc_past _ _ _ (by simp)).trans (World.frozen?_alloc_at _ _ _ _ (by simp)))
  go_wp2_with fail
  refine bodyPost_ret (v := .agg #[.int .i64 r, .slice A' xss.length c']) (by simp [results, Try.results30, go_sem, c10, c11, f1]) rfl ⟨A', c', rfl, ?_, ?_⟩
  · refine OSS.wide (OSS.mid ho (a := w.heap.size + 1) (b := w.heap.size + 3) ?_ (Or.inl (by omega))) (by omega) (by simp) (Nat.le_refl _)
    repeat (first | exact Mid.refl _ _ _ | refine Mid.stored ?_ _ (by simp) (by simp))
  · have h := hb0.trans hm
    repeat (first | exact h | refine Mid.storeNew ?_ (by simp; try omega) _)

/-- A morphism as data. -/
structure Mor where
  rank : Int
  imgs : List (List Int)
def Mor.mark (d : Mor) (q : Int) : Mor := ⟨d.rank, markD q d.imgs⟩

set_option maxHeartbeats 800000 in
theorem eqMorphism_same (r : Int) (A A' : Option Addr) (xss : List (List Int)) (c c' : Nat) (w : World) (lo hi lo' hi' : Nat) (hr : RSS w lo hi A xss) (hr' : RSS w lo' hi' A' xss) (hsz : xss.length + sumL xss ≤ 1048576) :
    Calls Try.prog 32 #[.agg #[.int .i64 r, .slice A xss.length c], .agg #[.int .i64 r, .slice A' xss.length c']] w fun e w' => e = .returned (.bool true) ∧ Mid 0 0 w w' := by
  go_enter Try.func32, Try.ntmps32
  go_wp2_with fail
  have hb0 : Mid 0 0 w ((w.alloc (.cells #[.int .i64 r, .slice A xss.length c] 53)).alloc (.cells #[.int .i64 r, .slice A' xss.length c'] 53)) := (Mid.alloc _ _).trans (Mid.alloc _ _)
  with_reducible refine (eqIntSS_same A A' xss c c' _ _ _ _ _ (hr.mid hb0 (Or.inl (Nat.zero_le _))) (hr'.mid hb0 (Or.inl (Nat.zero_le _))) hsz).mono ?_
  rintro e w1 ⟨rfl, n, rfl⟩
  go_wp2_with fail
  go_ret
  exact ⟨rfl, hb0.drewN n⟩

set_option maxHeartbeats 800000 in
theorem szMorphism_any (r : Int) (A : Option Addr) (xss : List (List Int)) (c : Nat) (left : Int) (w : World) (lo hi : Nat) (hr : RSS w lo hi A xss) (hok : LenOk xss) (h0 : 0 ≤ left) (h1 : left ≤ 1048576) :
    Calls Try.prog 28 #[.agg #[.int .i64 r, .slice A xss.length c], .int .i64 left] w fun e w' => e = .returned (.int .i64 (szI left (xss.length + sumL xss))) ∧ Mid 0 0 w w' := by
  have hb0 : Mid 0 0 w (w.alloc (.cells #[.int .i64 r, .slice A xss.length c] 50)) := Mid.alloc _ _
  obtain ⟨z, hz⟩ : ∃ z, z = szI left (xss.length + sumL xss) := ⟨_, rfl⟩
  rw [← hz]
  have hcase : z < 0 ∧ z = -1 ∨ 0 ≤ z := by
    rw [hz]
    unfold szI
    split
    · right; omega
    · left; omega
  rcases hcase with ⟨h2, h3⟩ | h2
  · rw [h3] at hz ⊢
    have HZ := Lib.hid hz
    clear hz h2 h3
    go_enter Try.func28, Try.ntmps28
    go_wp2_with fail
    with_reducible refine (szIntSS_any A xss c left _ lo hi (hr.mid hb0 (Or.inl (Nat.zero_le _))) hok h0 h1 (-1) HZ.out).mono ?_
    rintro e w1 ⟨rfl, rfl⟩
    go_wp2_with fail
    go_ret
    exact ⟨rfl, hb0⟩
  · have HZ := Lib.hid hz
    clear hz
    go_enter Try.func28, Try.ntmps28
    go_wp2_with fail
    with_reducible refine (szIntSS_any A xss c left _ lo hi (hr.mid hb0 (Or.inl (Nat.zero_le _))) hok h0 h1 z HZ.out).mono ?_
    rintro e w1 ⟨rfl, rfl⟩
    go_wp2_with fail
    go_ret
    exact ⟨rfl, hb0⟩
end Go.Proofs.Ytimmnnncgnnkgaa

/- Objects of the laws with the blocks they lie in: slices of slices, morphisms. -/
namespace Go.Proofs.Ytimmnnncgnnkgaa
set_option linter.unusedVariables false
set_option linter.unusedSimpArgs false
open Go.RowKit

theorem OkSS.len {d : List (List Int)} (h : OkSS d) : LenOk d := h.1
theorem szI_case (left : Int) (n : Nat) : szI left n = -1 ∨ ((n : Int) ≤ left ∧ szI left n = left - n) := by
  unfold szI
  split
  · right; exact ⟨by assumption, rfl⟩
  · left; rfl
end Go.Proofs.Ytimmnnncgnnkgaa

/- ApplyMove in the laws' words. -/
namespace Go.Proofs.Ytimmnnncgnnkgaa
set_option linter.unusedVariables false
set_option linter.unusedSimpArgs false
open Go.RowKit

def ApplyMoveIs (d : List (List Int)) (m : Mv) (res : List (List Int)) (b : Bool) : Prop := applyM d m = (res, b)
end Go.Proofs.Ytimmnnncgnnkgaa

/- Lists of words with the rows' capacities. -/
namespace Go.Proofs.Ytimmnnncgnnkgaa
set_option linter.unusedVariables false
set_option linter.unusedSimpArgs false
open Go.RowKit
/-- The slice of slices at A reads xss, and each row has room for what it holds. -/
def RSC (w : World) (lo hi : Nat) (A : Option Addr) (xss : List (List Int)) : Prop :=
  ∃ rows, rowsD rows = xss ∧ RV w lo hi A (rowsV rows) ∧ ∀ r ∈ rows, RV w lo hi r.A (ints r.xs) ∧ r.xs.length ≤ r.c
section
variable {w w' : World} {lo hi a b : Nat} {A : Option Addr} {xss : List (List Int)}
theorem RSC.rss (h : RSC w lo hi A xss) : RSS w lo hi A xss := by
  obtain ⟨rows, h1, h2, h3⟩ := h
  exact ⟨rows, h1, h2, fun r hr => (h3 r hr).1⟩
theorem RSC.size (h : RSC w lo hi A xss) : hi ≤ w.heap.size := h.rss.size
theorem RSC.mid (h : RSC w lo hi A xss) (m : Mid a b w w') (hd : b ≤ lo ∨ hi ≤ a) : RSC w' lo hi A xss := by
  obtain ⟨rows, h1, h2, h3⟩ := h
  exact ⟨rows, h1, h2.mid m hd, fun r hr => ⟨(h3 r hr).1.mid m hd, (h3 r hr).2⟩⟩
theorem owns_cap {e : TypeId} {base size n c : Nat} {xs : List Value} (h : w.ownsRow base e size (.slice A n c) n xs) : n ≤ c := by
  obtain ⟨_, _, e, h1, _⟩ := owns_shape h
  injection e with _ _ e
  omega
theorem RSC.row (h : RSC w lo hi A xss) {k : Nat} (hk : k < xss.length) :
    ∃ b off A' c' xs, A = some ⟨b, off, none⟩ ∧ lo ≤ b ∧ b < hi ∧ xss[k]? = some xs ∧ w.cell? ⟨b, off + k, none⟩ = some (.slice A' xs.length c') ∧ RV w lo hi A' (ints xs) ∧ xs.length ≤ c' := by
  obtain ⟨rows, rfl, h2, h3⟩ := h
  rw [rowsD_len] at hk
  obtain ⟨b, off, e, hb, hb2, hc⟩ := h2.2 (by intro h0; have := congrArg List.length h0; rw [rowsV_len] at this; simp at this; subst this; simp at hk)
  obtain ⟨r, hr⟩ := get_of_lt rows hk
  refine ⟨b, off, r.A, r.c, r.xs, e, hb, hb2, by simp [rowsD, hr], hc k _ (by simp [rowsV, hr, Row.v]), (h3 r (List.mem_of_getElem? hr)).1, (h3 r (List.mem_of_getElem? hr)).2⟩
end
end Go.Proofs.Ytimmnnncgnnkgaa

/- Plain: the next move; lists of words with the rows' capacities. -/
namespace Go.Proofs.Ytimmnnncgnnkgaa
set_option linter.unusedVariables false
set_option linter.unusedSimpArgs false
open Go.RowKit

/-- The word of a move of a pair. -/
def mvRes (xs ys : List Int) (n : Nat) : List Int := red [] (if n < 2 then xs ++ (if n % 2 = 1 then invW ys else ys) else (if n % 2 = 1 then invW ys else ys) ++ xs)
def mvD (m : Option Mv) : Mv := m.getD ⟨0, 0, 0, 0⟩

end Go.Proofs.Ytimmnnncgnnkgaa

/- Plain: the run of the reduction; lists of moves as numbers. -/
namespace Go.Proofs.Ytimmnnncgnnkgaa
set_option linter.unusedVariables false
set_option linter.unusedSimpArgs false
open Go.RowKit

/-- At most n moves. -/
def runN : Nat → List (List Int) → List (List Int) × List Mv
  | 0, l => (l, [])
  | n + 1, l => match nextM l with
    | none => (l, [])
    | some m => ((runN n (applyM l m).1).1, m :: (runN n (applyM l m).1).2)
/-- What a move of NextMove does to the sizes. -/
structure Less (d x : List (List Int)) : Prop where
  len : x.length ≤ d.length
  sum : sumL x ≤ sumL d
  ok : (∀ xs ∈ d, OkI xs) → ∀ xs ∈ x, OkI xs
/-! ### lists of moves -/
def mvI (m : Mv) : List Int := [m.kind, m.i, m.j, m.sign]
def mvsI (ms : List Mv) : List Int := (ms.map mvI).flatten
end Go.Proofs.Ytimmnnncgnnkgaa

/- Moves as text, in plain Lean. -/
namespace Go.Proofs.Ytimmnnncgnnkgaa
set_option linter.unusedVariables false
set_option linter.unusedSimpArgs false

def sgB (m : Mv) : List UInt8 := if m.sign < 0 then [45] else [43]
def okMv (m : Mv) : Prop := m.kind = 1 ∨ m.kind = 4 ∨ m.kind = 2 ∨ m.kind = 3
instance (m : Mv) : Decidable (okMv m) := by unfold okMv; infer_instance
def itemMv (m : Mv) : List UInt8 :=
  if m.kind = 1 then [105, 110, 118, 101, 114, 116] ++ fmtI m.i
  else if m.kind = 4 then [100, 114, 111, 112] ++ fmtI m.i
  else if m.kind = 2 then fmtI m.i ++ [42] ++ sgB m ++ fmtI m.j
  else sgB m ++ fmtI m.j ++ [42] ++ fmtI m.i
def In64 (n : Int) : Prop := -9223372036854775808 ≤ n ∧ n ≤ 9223372036854775807
def OkMv (m : Mv) : Prop := In64 m.i ∧ In64 m.j
/-- Words side by side, sp between. -/
def accB (sp : List UInt8) : List (List UInt8) → List UInt8
  | [] => []
  | x :: t => t.foldl (fun s u => s ++ sp ++ u) x
theorem accB_snoc (sp : List UInt8) (ls : List (List UInt8)) (x : List UInt8) : accB sp (ls ++ [x]) = if ls = [] then x else accB sp ls ++ sp ++ x := by
  cases ls with
  | nil => simp [accB]
  | cons y t => simp [accB, List.foldl_append]
theorem accB_foldl_len (sp : List UInt8) (B : Nat) : ∀ (t : List (List UInt8)) (s : List UInt8), (∀ x ∈ t, x.length ≤ B) → (t.foldl (fun s u => s ++ sp ++ u) s).length ≤ s.length + t.length * (B + sp.length)
  | [], s, _ => by simp
  | x :: t, s, h => by
    have h1 := accB_foldl_len sp B t (s ++ sp ++ x) fun y hy => h y (by simp [hy])
    have h2 := h x (by simp)
    rw [List.foldl_cons, List.length_cons, Nat.add_mul]
    simp only [List.length_append] at h1
    omega
theorem accB_len (sp : List UInt8) (B : Nat) (ls : List (List UInt8)) (h : ∀ x ∈ ls, x.length ≤ B) : (accB sp ls).length ≤ ls.length * (B + sp.length) := by
  cases ls with
  | nil => simp [accB]
  | cons x t =>
    have h1 := accB_foldl_len sp B t x fun y hy => h y (by simp [hy])
    have h2 := h x (by simp)
    rw [accB, List.length_cons, Nat.add_mul]
    omega
def glueB (sp none : List UInt8) (ls : List (List UInt8)) : List UInt8 := if ls = [] then none else accB sp ls
def fmtMs (ms : List Mv) : List UInt8 := if (∀ m ∈ ms, okMv m) then glueB [32] [110, 111, 110, 101] (ms.map itemMv) else []
end Go.Proofs.Ytimmnnncgnnkgaa

/- The laws' helpers on slices of Moves. -/
namespace Go.Proofs.Ytimmnnncgnnkgaa
set_option linter.unusedVariables false
set_option linter.unusedSimpArgs false
open Go.RowKit

end Go.Proofs.Ytimmnnncgnnkgaa

/- FormatMoves, both sides. -/
namespace Go.Proofs.Ytimmnnncgnnkgaa
set_option linter.unusedVariables false
set_option linter.unusedSimpArgs false
open Go.RowKit

def strs (ls : List (List UInt8)) : List Value := ls.map fun l => .string (str l)
theorem strs_len (ls : List (List UInt8)) : (strs ls).length = ls.length := by simp [strs]
theorem strs_append (a b : List (List UInt8)) : strs (a ++ b) = strs a ++ strs b := by simp [strs]
theorem strs_get (ls : List (List UInt8)) (k : Nat) : (strs ls)[k]? = (ls[k]?).map fun l => .string (str l) := by simp [strs]
theorem infoStr : (Try.prog.info? 9).map (fun i => (i.zero, i.size, i.bytes)) = some (some (.string ⟨#[]⟩), 1, 16) := by kernel_rfl
theorem undSStr : Try.prog.underlying 93 = some (.slice 9) := by kernel_rfl
section
variable {W : World} {ops : Array Oper} {rest : List Oper} {o : Oper} {a : Act} {Q : Exit → Act → World → Prop}
theorem wpList_pushStr (hgd : o.guard = none) (s x : Operand)
    (ho : o.op = .call { callee := .builtin .append, args := #[s, x], argTypes := #[93, 93] }) (lo : Nat) (A : Option Addr) (n c : Nat) (xs : List (List UInt8)) (hs : a.eval s = .slice A n c)
    (hown : W.ownsRow lo 9 1 (.slice A n c) n (strs xs)) (y : List UInt8) (u : ByteArray) (hu : u = str y) (hx : a.eval x = .slice (some ⟨W.heap.size, 0, none⟩) 1 1) (hn : n ≤ 1048576) (hb : lo ≤ W.heap.size)
    (h : ∀ A' c' w', w'.ownsRow lo 9 1 (.slice A' (n + 1) c') (n + 1) (strs (xs ++ [y])) → Mid lo W.heap.size W w' → wpList Try.prog ops Q rest (a.put o.dst (.slice A' (n + 1) c')) w') :
    wpList Try.prog ops Q (o :: rest) a (W.alloc (.cells #[.string u] 9)) := by
  subst hu
  refine wpList_push (news := [.string (str y)]) hgd s x 93 ho lo 9 (.string ⟨#[]⟩) 1 16 undSStr infoStr rfl (by decide) (.slice A n c) n (strs xs) hs hown 1 hx rfl ?_ (by unfold maxLen; omega) (by omega) hb ?_
  · intro u hu
    simp at hu
    subst hu
    rfl
  · intro v' w' h1 h2 _
    obtain ⟨A', c', rfl, -, -⟩ := owns_shape h1
    refine h A' c' w' ?_ (Mid.of_grownRow hown h2)
    rw [strs_append]
    exact h1
end

set_option maxHeartbeats 1600000 in
set_option maxRecDepth 100000 in
theorem impl_glued (A : Option Addr) (ls : List (List UInt8)) (c : Nat) (sp no : List UInt8) (w : World) (lo hi : Nat) (hr : RV w lo hi A (strs ls)) (hl : ls.length ≤ 1048576) (hc : ls.length ≤ c) (hb : ∀ x ∈ ls, x.length ≤ 1000) (hsp : sp.length ≤ 1000) :
    Calls Try.prog 62 #[.slice A ls.length c, .string (str sp), .string (str no)] w fun e w' => e = .returned (.string (str (glueB sp no ls))) ∧ Mid 0 0 w w' := by
  have HB := Lib.hid hb
  have HSP := Lib.hid hsp
  obtain ⟨spb, hspb⟩ : ∃ s, s = str sp := ⟨_, rfl⟩
  obtain ⟨nob, hnob⟩ : ∃ s, s = str no := ⟨_, rfl⟩
  rw [← hspb, ← hnob]
  have HS := Lib.hid hspb
  have HN := Lib.hid hnob
  have hsps : spb.size ≤ 1000 := by rw [hspb, str_size]; exact hsp
  clear hb hsp hspb hnob
  rcases Nat.eq_zero_or_pos ls.length with h0 | h0
  · have hnil := List.eq_nil_of_length_eq_zero h0
    subst hnil
    have hres : nob = str (glueB sp no []) := HN.out
    rw [← hres]
    clear hres
    go_enter Try.func62, Try.ntmps62
    go_wp2_with fail
    go_ret
    exact ⟨rfl, Mid.refl _ _ _⟩
  obtain ⟨n, hn⟩ : ∃ n, ls.length = n + 1 := ⟨ls.length - 1, by omega⟩
  have HL := Lib.hid hn
  rw [hn]
  obtain ⟨b, off, rfl, hblo, hbhi, hcs⟩ := hr.2 (by intro h; have := congrArg List.length h; rw [strs_len] at this; simp only [List.length_nil] at this; omega)
  obtain ⟨x0, hx0⟩ := get_of_lt ls (show 0 < ls.length by omega)
  have hc0 := hcs 0 (.string (str x0)) (by rw [strs_get, hx0]; rfl)
  obtain ⟨s0, hs0⟩ : ∃ s, s = str x0 := ⟨_, rfl⟩
  rw [← hs0] at hc0
  have HX0 : Hid (s0 = str (accB sp (ls.take (0 + 1)))) := Lib.hid (by
    rw [hs0]
    cases ls with
    | nil => simp at h0
    | cons x t => simp at hx0; subst hx0; rfl)
  have HCS := Lib.hid hcs
  have hbs : b < w.heap.size := Nat.lt_of_lt_of_le hbhi hr.1
  have hcn : n + 1 ≤ c := by omega
  have hcn2 : (1 : Int) ≤ ((n + 1 : Nat) : Int) := by omega
  have hcn3 : ((n + 1 : Nat) : Int) ≤ (c : Int) := by omega
  rw [Nat.add_zero] at hc0
  have HRR := Lib.hid hr
  have hn2 : n ≤ 1048576 := by omega
  clear hx0 hs0 hcs h0 hn hr
  by_cases hc1 : c = 1
  · subst hc1
    obtain rfl : n = 0 := by omega
    go_enter Try.func62, Try.ntmps62
    go_wp2_with fail
    go_loopw [7, 20] (fun sv iv wr => sv = .string s0 ∧ iv = .int .i64 0 ∧ wr = w) (fun _ _ _ => 0)
    case atStart => exact ⟨rfl, rfl, rfl⟩
    case round =>
      obtain ⟨rfl, rfl, rfl⟩ := hrel
      have htk : ls.take (0 + 1) = ls := List.take_of_length_le (by rw [HL.out]; exact Nat.le_refl _)
      have hne : ls ≠ [] := by intro h; have := HL.out; rw [h, List.length_nil] at this; omega
      have hres : s0 = str (glueB sp no ls) := by rw [HX0.out, htk, glueB, if_neg hne]
      have HRES := Lib.hid hres
      clear htk hne hres
      go_wp2_with fail
      go_ret
      exact ⟨by rw [HRES.out]; rfl, Mid.refl _ _ _⟩
  · go_enter Try.func62, Try.ntmps62
    go_wp2_with fail
    go_loopw [7, 20] (fun sv iv wr => ∃ (k : Nat) (s : ByteArray), iv = .int .i64 k ∧ sv = .string s ∧ k ≤ n ∧ Hid (s = str (accB sp (ls.take (k + 1)))) ∧ wr = w) (fun _ iv _ => n - (intOf iv).toNat)
    case atStart => exact ⟨0, s0, rfl, rfl, Nat.zero_le _, HX0, rfl⟩
    case round =>
      clear HX0 hc0
      obtain ⟨k, s, rfl, rfl, hk, HSS, rfl⟩ := hrel
      by_cases hlt : k < n
      · obtain ⟨x, hx⟩ := get_of_lt ls (show k + 1 < ls.length by rw [HL.out]; omega)
        have hcx := HCS.out (k + 1) (.string (str x)) (by rw [strs_get, hx]; rfl)
        obtain ⟨xb, hxb⟩ : ∃ s, s = str x := ⟨_, rfl⟩
        rw [← hxb, ← Nat.add_assoc, Nat.add_right_comm] at hcx
        have hxl : x.length ≤ 1000 := HB.out x (List.mem_of_getElem? hx)
        have hxs : xb.size ≤ 1000 := by rw [hxb, str_size]; exact hxl
        have hss : s.size ≤ 1048576 * 2000 := by
          rw [HSS.out, str_size]
          have h1 := accB_len sp 1000 (ls.take (k + 1)) fun y hy => HB.out y (List.mem_of_mem_take hy)
          have h2 := HSP.out
          have h3 : (ls.take (k + 1)).length ≤ 1048576 := by rw [List.length_take]; omega
          have h4 : (ls.take (k + 1)).length * (1000 + sp.length) ≤ 1048576 * 2000 := Nat.mul_le_mul h3 (by omega)
          omega
        have hz1 : s.size + spb.size ≤ 9223372036854775807 := by omega
        have hz2 : (s ++ spb).size + xb.size ≤ 9223372036854775807 := by rw [ByteArray.size_append]; omega
        have HS2 : Hid (s ++ spb ++ xb = str (accB sp (ls.take (k + 1 + 1)))) := Lib.hid (by
          obtain ⟨h1, h2⟩ := List.getElem?_eq_some_iff.1 hx
          rw [HSS.out, HS.out, hxb, str_app, str_app, List.take_succ_eq_append_getElem h1, h2, accB_snoc, if_neg]
          intro h
          have := congrArg List.length h
          rw [List.length_take, HL.out] at this
          simp only [List.length_nil] at this
          omega)
        have hk0 : (0 : Int) ≤ (k : Int) := by omega
        have hk1 : (k : Int) < (n : Int) := by omega
        clear hx hxb hxl
        go_wp2_with fail
        go_roundw
        case rel =>
          exact ⟨k + 1, s ++ spb ++ xb, by go_num, rfl, by omega, HS2, by trivial⟩
        case measure => simp [intOf]; omega
      · obtain rfl : n = k := by omega
        have htk : ls.take (n + 1) = ls := List.take_of_length_le (by rw [HL.out]; exact Nat.le_refl _)
        have hne : ls ≠ [] := by intro h; have := HL.out; rw [h, List.length_nil] at this; omega
        have hres : s = str (glueB sp no ls) := by rw [HSS.out, htk, glueB, if_neg hne]
        have HRES := Lib.hid hres
        clear htk hne hres
        go_wp2_with fail
        go_ret
        exact ⟨by rw [HRES.out]; rfl, Mid.refl _ _ _⟩
end Go.Proofs.Ytimmnnncgnnkgaa

/- Letters, words and morphisms as text, in plain Lean. -/
namespace Go.Proofs.Ytimmnnncgnnkgaa
set_option linter.unusedVariables false
set_option linter.unusedSimpArgs false

def Let3 (x : Int) : Prop := x = 1 ∨ x = 2 ∨ x = 3 ∨ x = -1 ∨ x = -2 ∨ x = -3
theorem let3_of {rk x : Int} (h3 : rk ≤ 3) (h : x ≠ 0 ∧ -rk ≤ x ∧ x ≤ rk) : Let3 x := by unfold Let3; omega
def letS (x : Int) : List UInt8 := if x = 1 then [97] else if x = 2 then [98] else if x = 3 then [99] else if x = -1 then [65] else if x = -2 then [66] else [67]
theorem letS_len (x : Int) : (letS x).length = 1 := by
  unfold letS
  repeat (first | rfl | split)
def fmtW0 (l : List Int) : List UInt8 := (l.map letS).flatten
def fmtW (l : List Int) : List UInt8 := if l = [] then [49] else fmtW0 l
theorem fmtW0_len (l : List Int) : (fmtW0 l).length = l.length := by
  induction l with
  | nil => rfl
  | cons x t ih =>
    have h : fmtW0 (x :: t) = letS x ++ fmtW0 t := by simp [fmtW0]
    rw [h, List.length_append, letS_len, ih, List.length_cons]
    omega
theorem fmtW_len {l : List Int} (h : l.length ≤ 24) : (fmtW l).length ≤ 24 := by
  unfold fmtW
  split
  · simp
  · rw [fmtW0_len]
    exact h
theorem fmtW0_take {l : List Int} {k : Nat} {x : Int} (h : l[k]? = some x) : fmtW0 (l.take (k + 1)) = fmtW0 (l.take k) ++ letS x := by
  obtain ⟨h1, rfl⟩ := List.getElem?_eq_some_iff.1 h
  rw [List.take_succ_eq_append_getElem h1]
  unfold fmtW0
  rw [List.map_append, List.flatten_append]
  simp only [List.map_cons, List.map_nil, List.flatten_cons, List.flatten_nil, List.append_nil]
/-- The images, the first k. -/
def itemsMor (d : List (List Int)) (k : Nat) : List (List UInt8) := (List.range k).map fun (i : Nat) => letS ((i : Int) + 1) ++ [62] ++ fmtW (d.getD i [])
theorem itemsMor_len (d : List (List Int)) (k : Nat) : (itemsMor d k).length = k := by simp [itemsMor]
theorem itemsMor_succ {d : List (List Int)} {k : Nat} {xs : List Int} (h : d[k]? = some xs) : itemsMor d (k + 1) = itemsMor d k ++ [letS ((k : Int) + 1) ++ [62] ++ fmtW xs] := by
  simp [itemsMor, List.range_succ, List.getD, h]
theorem itemsMor_b {d : List (List Int)} (h : ∀ xs ∈ d, xs.length ≤ 24) (k : Nat) : ∀ x ∈ itemsMor d k, x.length ≤ 26 := by
  intro x hx
  obtain ⟨i, hi, rfl⟩ := List.mem_map.1 hx
  have h1 : (d.getD i []).length ≤ 24 := by
    rw [List.getD]
    cases hd : d[i]? with
    | none => simp
    | some xs => exact h xs (List.mem_of_getElem? hd)
  have h2 := fmtW_len h1
  simp only [List.length_append, letS_len, List.length_cons, List.length_nil]
  omega
theorem itemsMor_acc {d : List (List Int)} {k : Nat} {xs : List Int} (h : d[k]? = some xs) : accB [32] (itemsMor d (k + 1)) = (if k = 0 then [] else accB [32] (itemsMor d k) ++ [32]) ++ (letS ((k : Int) + 1) ++ [62] ++ fmtW xs) := by
  rw [itemsMor_succ h, accB_snoc]
  by_cases h0 : k = 0
  · subst h0
    simp [itemsMor]
  · rw [if_neg h0, if_neg]
    intro h
    have := congrArg List.length h
    rw [itemsMor_len, List.length_nil] at this
    exact h0 this
def fmtMor (d : List (List Int)) : List UInt8 := glueB [32] [] (itemsMor d d.length)
theorem fmtMor_acc {d : List (List Int)} (h : 0 < d.length) : fmtMor d = accB [32] (itemsMor d d.length) := by
  unfold fmtMor glueB
  rw [if_neg]
  intro h2
  have := congrArg List.length h2
  rw [itemsMor_len, List.length_nil] at this
  omega
end Go.Proofs.Ytimmnnncgnnkgaa

/- Words, letter by letter: what IsWord tests, in plain Lean. -/
namespace Go.Proofs.Ytimmnnncgnnkgaa
set_option linter.unusedVariables false
open Go.RowKit

/-- The first k letters are letters, and none is the inverse of the one ahead of it. -/
def WordTo (rank : Int) (xs : List Int) (k : Nat) : Prop :=
  ∀ j x, j < k → xs[j]? = some x → letB rank x = true ∧ ∀ y, 0 < j → xs[j - 1]? = some y → invB y x = false
theorem WordTo.zero (rank : Int) (xs : List Int) : WordTo rank xs 0 := fun j x h => absurd h (Nat.not_lt_zero j)
theorem WordTo.succ {rank : Int} {xs : List Int} {k : Nat} {x : Int} (h : WordTo rank xs k) (hx : xs[k]? = some x) (hl : letB rank x = true) (hp : ∀ y, 0 < k → xs[k - 1]? = some y → invB y x = false) : WordTo rank xs (k + 1) := by
  intro j z hj hz
  rcases Nat.lt_or_eq_of_le (Nat.le_of_lt_succ hj) with h1 | rfl
  · exact h j z h1 hz
  · rw [hx] at hz
    obtain rfl := Option.some.inj hz
    exact ⟨hl, hp⟩
theorem wordTo_all {rank : Int} {xs : List Int} (h1 : 1 ≤ rank) (h3 : rank ≤ 3) : WordTo rank xs xs.length ↔ WordP rank xs := by
  constructor
  · intro h
    refine ⟨fun x hx => ?_, fun k x y hx hy he => ?_⟩
    · obtain ⟨j, hj⟩ := List.mem_iff_getElem?.1 hx
      have := (h j x (List.getElem?_eq_some_iff.1 hj).1 hj).1
      simpa [letB] using this
    · have hl := (List.getElem?_eq_some_iff.1 hy).1
      have h2 := (h (k + 1) y hl hy).2 x (Nat.succ_pos k) (by simpa using hx)
      have h4 := (h k x (by omega) hx).1
      simp [letB] at h4
      have : invB x y = true := (invB_iff x y).2 ⟨h4.1, by unfold minI; omega, he⟩
      rw [this] at h2
      cases h2
  · rintro ⟨ha, hb⟩ j x hj hx
    refine ⟨by simpa [letB] using ha x (List.mem_of_getElem? hx), fun y h0 hy => ?_⟩
    cases hv : invB y x with
    | false => rfl
    | true => exact absurd ((invB_iff y x).1 hv).2.2 (hb (j - 1) y x hy (by rw [Nat.sub_add_cancel h0]; exact hx))

/-- What the reference tests of one letter. -/
def RawAt (rank : Int) (xs : List Int) (j : Nat) (x : Int) : Prop := (x == 0) = false ∧ inB x (wrap64 (-rank)) rank = true ∧ ∀ y, 0 < j → xs[j - 1]? = some y → (x == wrap64 (-y)) = false
def RawTo (rank : Int) (xs : List Int) (k : Nat) : Prop := ∀ j x, j < k → xs[j]? = some x → RawAt rank xs j x
theorem RawTo.zero (rank : Int) (xs : List Int) : RawTo rank xs 0 := fun j x h => absurd h (Nat.not_lt_zero j)
theorem RawTo.succ {rank : Int} {xs : List Int} {k : Nat} {x : Int} (h : RawTo rank xs k) (hx : xs[k]? = some x) (hp : RawAt rank xs k x) : RawTo rank xs (k + 1) := by
  intro j z hj hz
  rcases Nat.lt_or_eq_of_le (Nat.le_of_lt_succ hj) with h1 | rfl
  · exact h j z h1 hz
  · rw [hx] at hz
    obtain rfl := Option.some.inj hz
    exact hp
theorem rawTo_all {rank : Int} {xs : List Int} (h1 : 1 ≤ rank) (h3 : rank ≤ 3) : RawTo rank xs xs.length ↔ WordP rank xs := by
  have hw : wrap64 (-rank) = -rank := by rw [wrap_neg (by omega) (by omega)]; unfold negI minI; rw [if_neg (by omega)]
  have hwy : ∀ y, -rank ≤ y → y ≤ rank → wrap64 (-y) = -y := fun y ha hb => by rw [wrap_neg (by omega) (by omega)]; unfold negI minI; rw [if_neg (by omega)]
  unfold RawTo RawAt
  rw [hw]
  constructor
  · intro h
    refine ⟨fun x hx => ?_, fun k x y hx hy he => ?_⟩
    · obtain ⟨j, hj⟩ := List.mem_iff_getElem?.1 hx
      have := h j x (List.getElem?_eq_some_iff.1 hj).1 hj
      simp [inB] at this
      exact ⟨this.1, this.2.1⟩
    · have hl := (List.getElem?_eq_some_iff.1 hy).1
      have h2 := (h (k + 1) y hl hy).2.2 x (Nat.succ_pos k) (by simpa using hx)
      have h4 := (h k x (by omega) hx).2.1
      simp [inB] at h4
      rw [hwy x h4.1 h4.2, he] at h2
      simp at h2
  · rintro ⟨ha, hb⟩ j x hj hx
    have h0 := ha x (List.mem_of_getElem? hx)
    refine ⟨by simpa using h0.1, by simpa [inB] using h0.2, fun y hp hy => ?_⟩
    have h5 := ha y (List.mem_of_getElem? hy)
    rw [hwy y h5.2.1 h5.2.2]
    have := hb (j - 1) y x hy (by rw [Nat.sub_add_cancel hp]; exact hx)
    simpa using this
end Go.Proofs.Ytimmnnncgnnkgaa
