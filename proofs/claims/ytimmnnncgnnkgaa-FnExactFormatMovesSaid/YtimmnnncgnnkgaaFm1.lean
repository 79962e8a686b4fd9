/- Contracts and lemmas of this seat, many texts in one: see the words ahead of each. No condition beyond those typed in each lemma. -/
import Derived.WalkKit
import Derived.WalkSpells
import Derived.WalkLawsBesides
import Derived.Maps.AppendAt
import Derived.Lib.Hide
import Derived.Deep.Draws
import Derived.Deep.QuietTactic
import Derived.BigQuiet
import Derived.Deep.AppendLies
import Derived.RegionTactic
import Derived.Test.YtimmnnncgnnkgaaRows
import Derived.Laws.IdiomStrings
import Derived.BigRegion
import Derived.Deep.RegionHeld3
import Derived.Deep.Matrix
import Derived.Lib.SmallJoins
import Derived.ProofKit
import Derived.OpenShut
import Derived.ShutString
import Derived.ChangeOld
import Derived.IntWalk
import Derived.Outline

/- Words and lemmas on memory for all walks of this seat: a slice that reads as a list of cells, frames by sets of blocks, append and make on rows of the call's own. No condition beyond those typed in each lemma. -/
namespace Go.Proofs.Ytimmnnncgnnkgaa
set_option linter.unusedVariables false
set_option linter.unusedSimpArgs false
open Go.RowKit

/-- A list of ints as cells. -/
def ints (xs : List Int) : List Value := xs.map (Value.int .i64)
theorem ints_len (xs : List Int) : (ints xs).length = xs.length := by simp [ints]
theorem ints_append (xs ys : List Int) : ints (xs ++ ys) = ints xs ++ ints ys := by simp [ints]
theorem ints_get (xs : List Int) (k : Nat) : (ints xs)[k]? = (xs[k]?).map (Value.int .i64) := by simp [ints]

/-- The address A leads to the cells cs, all below block B (nothing is said where cs is empty). -/
def Rs (w : World) (B : Nat) (A : Option Addr) (cs : List Value) : Prop :=
  cs ≠ [] → ∃ b off, A = some ⟨b, off, none⟩ ∧ b < B ∧ ∀ j u, cs[j]? = some u → w.cell? ⟨b, off + j, none⟩ = some u

section
variable {w w' w0 : World} {B B' : Nat} {A : Option Addr} {cs : List Value}
theorem Rs.nil : Rs w B A [] := fun h => absurd rfl h
theorem Rs.keep (h : Rs w B A cs) (hk : ∀ p : Addr, p.block < B → w'.cell? p = w.cell? p) : Rs w' B A cs := fun hn => by
  obtain ⟨b, off, e, hb, hc⟩ := h hn
  exact ⟨b, off, e, hb, fun j u hu => (hk _ hb).trans (hc j u hu)⟩
theorem Rs.more (h : Rs w B A cs) (hB : B ≤ B') : Rs w B' A cs := fun hn => by
  obtain ⟨b, off, e, hb, hc⟩ := h hn
  exact ⟨b, off, e, by omega, hc⟩
theorem Rs.below (h : Rs w B A cs) (hb : Below B w w') : Rs w' B A cs := h.keep fun _ hp => hb.cell hp
theorem Rs.drew (h : Rs w B A cs) : Rs w.drew B A cs := h
theorem Rs.drewN (h : Rs w B A cs) (k : Nat) : Rs (w.drewN k) B A cs := h
theorem Rs.alloc (h : Rs w B A cs) (hB : B ≤ w.heap.size) (o : Obj) : Rs (w.alloc o) B A cs := h.keep fun p hp => World.cell?_alloc_lt w o p (by omega)
theorem Rs.setCell (h : Rs w B A cs) {p : Addr} (hB : B ≤ p.block) (u : Value) : Rs (w.setCell p u) B A cs :=
  h.keep fun q hq => World.cell?_setCell_other w p q u (fun e => by subst e; omega)
theorem Rs.grown (h : Rs w B A cs) {row : Option Nat} (hg : w.grownBy w' row) (hB : B ≤ w.heap.size) (hr : ∀ g, row = some g → B ≤ g) : Rs w' B A cs :=
  h.keep fun p hp => World.cell?_of_block (hg.block p.block (by omega) (fun e => by have := hr _ e.symm; omega))
theorem Rs.of_own {base : Nat} {e : TypeId} {size n c : Nat} (h : w.ownsRow base e size (.slice A n c) n cs) : Rs w w.heap.size A cs := fun hn => by
  rcases h.2 with ⟨hv, h0⟩ | ⟨g, cap, cur, hv, hg, hh, hnc, hcm, hcs, htake⟩
  · subst h0
    exact absurd (List.eq_nil_of_length_eq_zero (by simpa using h.1)) hn
  · injection hv with hA _ hc
    subst hA
    subst hc
    refine ⟨g, 0, rfl, (Array.getElem?_eq_some_iff.1 hh).1, fun j u hu => ?_⟩
    rw [Nat.zero_add]
    have hjl := (List.getElem?_eq_some_iff.1 hu).1
    rw [h.cellAt j (by have := h.1; omega)]
    exact hu
/-- The cell at place j. -/
theorem Rs.at (h : Rs w B A cs) {j : Nat} (hj : j < cs.length) : ∃ b off u, A = some ⟨b, off, none⟩ ∧ b < B ∧ cs[j]? = some u ∧ w.cell? ⟨b, off + j, none⟩ = some u := by
  obtain ⟨b, off, e, hb, hc⟩ := h (by intro h0; subst h0; simp at hj)
  exact ⟨b, off, cs[j], e, hb, List.getElem?_eq_getElem hj, hc j _ (List.getElem?_eq_getElem hj)⟩
/-- A cut x[k:], whatever its end. -/
theorem Rs.drop (h : Rs w B A cs) {k n cap : Nat} (size : Nat) (hn : cs.length = n * size) (hc : n ≤ cap) :
    Rs w B (if cap = k then A else A.map (·.add (k * size))) (cs.drop (k * size)) := by
  intro hne
  have hlt : k * size < cs.length := by
    rcases Nat.lt_or_ge (k * size) cs.length with h1 | h1
    · exact h1
    · exact absurd (List.drop_eq_nil_of_le h1) hne
  obtain ⟨b, off, rfl, hb, hcell⟩ := h (by intro h0; subst h0; simp at hlt)
  have hk : ¬ cap = k := by
    intro e
    subst e
    rw [hn] at hlt
    exact absurd (Nat.lt_of_mul_lt_mul_right hlt) (by omega)
  rw [if_neg hk]
  refine ⟨b, off + k * size, ?_, hb, fun j u hu => ?_⟩
  · simp [Addr.add]
  · rw [Nat.add_assoc]
    exact hcell _ u (by rw [← hu, List.getElem?_drop])
theorem Rs.take (h : Rs w B A cs) (k : Nat) : Rs w B A (cs.take k) := fun hne => by
  obtain ⟨b, off, e, hb, hc⟩ := h (by intro h0; subst h0; simp at hne)
  refine ⟨b, off, e, hb, fun j u hu => hc j u ?_⟩
  rw [List.getElem?_take] at hu
  split at hu
  · exact hu
  · cases hu
end

/-! ### Frames -/

theorem grown_trans {a b c : World} {row : Option Nat} (h : a.grownBy b row) (k : b.grownBy c row) : a.grownBy c row :=
  ⟨k.os.trans h.os, k.tape.trans h.tape, k.output.trans h.output, Nat.le_trans h.size k.size,
    fun i hi hn => (k.block i (Nat.lt_of_lt_of_le hi h.size) hn).trans (h.block i hi hn)⟩
section
variable {w w' : World} {base : Nat} {e : TypeId} {size : Nat} {v : Value} {n : Nat} {xs : List Value}
theorem owns_base {base' : Nat} (h : w.ownsRow base e size v n xs) (hb : base' ≤ base) : w.ownsRow base' e size v n xs := by
  refine ⟨h.1, ?_⟩
  rcases h.2 with hn | ⟨g, cap, cur, rfl, hbg, rest⟩
  · exact .inl hn
  · exact .inr ⟨g, cap, cur, rfl, by omega, rest⟩
/-- The shape of an owned value. -/
theorem owns_shape (h : w.ownsRow base e size v n xs) : ∃ A c, v = .slice A n c ∧ n ≤ c ∧ c ≤ maxLen := by
  rcases h.2 with ⟨rfl, rfl⟩ | ⟨g, cap, cur, rfl, _, _, hnc, hcm, _⟩
  · exact ⟨none, 0, rfl, Nat.le_refl _, Nat.zero_le _⟩
  · exact ⟨_, cap, rfl, hnc, hcm⟩
end

theorem owns_empty (w : World) (e : TypeId) (size : Nat) : (w.alloc (.cells #[] e)).ownsRow w.heap.size e size (.slice (some ⟨w.heap.size, 0, none⟩) 0 0) 0 [] :=
  World.ownsRow_lit (size := size) w #[] 0 (Nat.le_refl _) (Nat.zero_le _) (by simp)

/-- A call hands back a new slice that reads xs; nothing that was there has turned. -/
def RetI (eI : TypeId) (xs : List Int) (w : World) (e : Ending) (w' : World) : Prop :=
  ∃ A c, e = .returned (.slice A xs.length c) ∧ w'.ownsRow w.heap.size eI 1 (.slice A xs.length c) xs.length (ints xs) ∧ Below w.heap.size w w'
theorem RetI.mk {eI : TypeId} {xs : List Int} {w w' : World} {v : Value} {n : Nat} (hn : xs.length = n) (h : w'.ownsRow w.heap.size eI 1 v n (ints xs)) (hb : Below w.heap.size w w') : RetI eI xs w (.returned v) w' := by
  subst hn
  obtain ⟨A, c, rfl, -, -⟩ := owns_shape h
  exact ⟨A, c, rfl, h, hb⟩

/-! ### append of new cells that the call has just laid in a block of their own -/

section
variable {P : Program} {W : World} {ops : Array Oper} {rest : List Oper} {o : Oper} {a : Act} {Q : Exit → Act → World → Prop}
theorem wpList_push (hgd : o.guard = none) (s x : Operand) (t : TypeId)
    (ho : o.op = .call { callee := .builtin .append, args := #[s, x], argTypes := #[t, t] })
    (base : Nat) (e : TypeId) (z : Value) (size bytes : Nat) (ht : P.underlying t = some (.slice e)) (hinfo : (P.info? e).map (fun i => (i.zero, i.size, i.bytes)) = some (some z, size, bytes))
    (hzs : z.cells.size = size) (hsz : 0 < size)
    (v : Value) (n : Nat) (xs : List Value) (hs : a.eval s = v) (hown : W.ownsRow base e size v n xs)
    (m : Nat) (news : List Value) (hx : a.eval x = .slice (some ⟨W.heap.size, 0, none⟩) m m) (hl : news.length = m * size) (h1 : ∀ u ∈ news, u.oneCell' = true)
    (h63 : n + m ≤ maxLen) (hbytes : (n + m) * bytes ≤ 140737488355328) (hbase : base ≤ W.heap.size)
    (h : ∀ v' w', w'.ownsRow base e size v' (n + m) (xs ++ news) → W.grownBy w' v.ownBlock → (v'.ownBlock = v.ownBlock ∨ v'.ownBlock = some (W.heap.size + 1)) → wpList P ops Q rest (a.put o.dst v') w') :
    wpList P ops Q (o :: rest) a (W.alloc (.cells news.toArray e)) := by
  obtain ⟨i, hi, hz, hsize, hby⟩ := info_parts hinfo
  refine wpList_append_own_at _ hgd s x t ho base e i z size bytes ht hi hz hsize hby hzs hsz v n xs hs (hown.alloc _) ⟨W.heap.size, 0, none⟩ m m news hx hl ?_ h1 h63 hbytes (by simp; omega) ?_
  · intro j u hu
    rw [Addr.add_lit, Nat.zero_add, World.cell?_alloc_new]
    simpa using hu
  · intro v' w' h2 h3 _ h4
    exact h v' w' h2 (grown_trans (World.grownBy_alloc W _ _) h3) (by simpa using h4)

end

section
variable {w w' w0 : World} {base B : Nat} {e : TypeId} {g n cap : Nat} {xs ys : List Value}
/-- A store into a row of the call's own. -/
theorem owns_set (h : w.ownsRow base e 1 (.slice (some ⟨g, 0, none⟩) n cap) n xs) (j : Nat) (u : Value) (hy : xs.set j u = ys) :
    (w.setCell ⟨g, j, none⟩ u).ownsRow base e 1 (.slice (some ⟨g, 0, none⟩) n cap) n ys := by
  subst hy
  exact (h.stored j u).1
end
theorem owns_addr {w : World} {base : Nat} {e : TypeId} {size : Nat} {A : Option Addr} {n c : Nat} {xs : List Value} (h : w.ownsRow base e size (.slice A n c) n xs) (hn : 0 < n) :
    ∃ g, A = some ⟨g, 0, none⟩ ∧ base ≤ g ∧ g < w.heap.size := by
  rcases h.2 with ⟨_, h0⟩ | ⟨g, cap, cur, hv, hbg, hh, _⟩
  · omega
  · injection hv with hA
    exact ⟨g, hA, hbg, (Array.getElem?_eq_some_iff.1 hh).1⟩
/-- 0, 1, .., k-1 -/
def upto (k : Nat) : List Int := (List.range k).map (fun (i : Nat) => (i : Int))
/-- The marks k, k+1, .. -/
def marks (k : Int) (n : Nat) : List Int := (List.range n).map (fun (i : Nat) => k + (i : Int))
theorem get_of_lt {α : Type} (xs : List α) {k : Nat} (h : k < xs.length) : ∃ x, xs[k]? = some x := ⟨_, List.getElem?_eq_getElem h⟩
/-- The cell of an int slice at place k. -/
theorem Rs.int {w : World} {B : Nat} {A : Option Addr} {xs : List Int} (h : Rs w B A (ints xs)) {k : Nat} (hk : k < xs.length) :
    ∃ b off x, A = some ⟨b, off, none⟩ ∧ b < B ∧ xs[k]? = some x ∧ w.cell? ⟨b, off + k, none⟩ = some (.int .i64 x) := by
  obtain ⟨b, off, u, e, hb, hu, hc⟩ := h.at (j := k) (by simpa [ints] using hk)
  rw [ints_get] at hu
  obtain ⟨x, hx⟩ := get_of_lt xs hk
  rw [hx] at hu
  simp at hu
  subst hu
  exact ⟨b, off, x, e, hb, hx, hc⟩

/-! ### Calls that only read, inside a region that draws its order -/
section
variable {P : Program} {f : FuncId} {args : Array Value} {v : Value}
end
end Go.Proofs.Ytimmnnncgnnkgaa

/- Decimal digits. -/
namespace Go.Proofs.Ytimmnnncgnnkgaa
set_option linter.unusedVariables false
set_option linter.unusedSimpArgs false

/-- The decimal digits, the lowest first. -/
def rdig (n : Nat) : List Nat := if h : n = 0 then [] else n % 10 :: rdig (n / 10)
termination_by n
decreasing_by omega
theorem rdig_zero : rdig 0 = [] := by rw [rdig]; rfl
theorem rdig_pos {n : Nat} (h : 0 < n) : rdig n = n % 10 :: rdig (n / 10) := by rw [rdig, dif_neg (by omega)]
theorem rdig_len : ∀ (k n : Nat), n < 10 ^ k → (rdig n).length ≤ k
  | 0, n, h => by
    have : n = 0 := by simpa using h
    subst this
    simp [rdig_zero]
  | k + 1, n, h => by
    rcases Nat.eq_zero_or_pos n with rfl | hn
    · simp [rdig_zero]
    · rw [rdig_pos hn, List.length_cons]
      have := rdig_len k (n / 10) (by rw [Nat.pow_succ] at h; omega)
      omega
/-- The bytes of the digits. -/
def dbytes (n : Nat) : List UInt8 := (rdig n).map fun d => UInt8.ofNat (48 + d)
theorem dbytes_zero : dbytes 0 = [] := by rw [dbytes, rdig_zero]; rfl
theorem dbytes_pos {n : Nat} (h : 0 < n) : dbytes n = UInt8.ofNat (48 + n % 10) :: dbytes (n / 10) := by rw [dbytes, rdig_pos h]; rfl
theorem dbytes_len {n : Nat} (h : n < 10 ^ 20) : (dbytes n).length ≤ 20 := by rw [dbytes, List.length_map]; exact rdig_len 20 n h
theorem dbytes_ne {n : Nat} (h : 0 < n) : dbytes n ≠ [] := by rw [dbytes_pos h]; simp
/-- FormatInt. -/
def fmtI (n : Int) : List UInt8 := if n = 0 then [48] else (if n < 0 then [45] else []) ++ (dbytes n.natAbs).reverse
theorem fmtI_len {n : Int} (h1 : -9223372036854775808 ≤ n) (h2 : n ≤ 9223372036854775807) : (fmtI n).length ≤ 21 := by
  unfold fmtI
  split
  · simp
  · have := dbytes_len (n := n.natAbs) (by omega)
    split <;> simp <;> omega
theorem fmtI_ne (n : Int) : fmtI n ≠ [] := by
  unfold fmtI
  split
  · simp
  · have := dbytes_ne (n := n.natAbs) (by omega)
    intro h
    simp at h
    exact this h.2
/-- The first i and the last i places are exchanged. -/
def RevAt (bs : List UInt8) (i : Nat) (zs : List UInt8) : Prop := zs.length = bs.length ∧ ∀ p, p < bs.length → zs[p]? = if p < i ∨ bs.length ≤ p + i then bs[bs.length - 1 - p]? else bs[p]?
theorem RevAt.zero (bs : List UInt8) : RevAt bs 0 bs := ⟨rfl, fun p hp => by rw [if_neg (by omega)]⟩
theorem RevAt.step {bs zs : List UInt8} {i j : Nat} (h : RevAt bs i zs) (hij : i < j) (hs : i + j + 1 = bs.length) {x y : UInt8} (hx : zs[i]? = some x) (hy : zs[j]? = some y) : RevAt bs (i + 1) ((zs.set i y).set j x) := by
  have h1 := h.2 i (by omega)
  rw [if_neg (by omega), hx] at h1
  have h2 := h.2 j (by omega)
  rw [if_neg (by omega), hy] at h2
  refine ⟨by rw [List.length_set, List.length_set]; exact h.1, fun p hp => ?_⟩
  by_cases hj : p = j
  · subst hj
    rw [List.getElem?_set_self (by rw [List.length_set, h.1]; omega), if_pos (by omega), h1]
    congr 1
    omega
  · rw [List.getElem?_set_ne (Ne.symm hj)]
    by_cases hi : p = i
    · subst hi
      rw [List.getElem?_set_self (by rw [h.1]; omega), if_pos (by omega), h2]
      congr 1
      omega
    · rw [List.getElem?_set_ne (Ne.symm hi), h.2 p hp]
      by_cases hc : p < i ∨ bs.length ≤ p + i
      · rw [if_pos hc, if_pos (by omega)]
      · rw [if_neg hc, if_neg (by omega)]
theorem RevAt.done {bs zs : List UInt8} {i : Nat} (h : RevAt bs i zs) (hs : bs.length ≤ 2 * i + 1) : zs = bs.reverse := by
  apply List.ext_getElem?
  intro p
  by_cases hp : p < bs.length
  · rw [h.2 p hp, List.getElem?_reverse hp]
    by_cases hc : p < i ∨ bs.length ≤ p + i
    · rw [if_pos hc]
    · rw [if_neg hc]
      congr 1
      omega
  · rw [List.getElem?_eq_none (by rw [h.1]; omega), List.getElem?_eq_none (by rw [List.length_reverse]; omega)]
/-- A string of bytes. -/
abbrev str (l : List UInt8) : ByteArray := ⟨l.toArray⟩
theorem str_app (a b : List UInt8) : str a ++ str b = str (a ++ b) := by
  rw [ByteArray.mk_append_mk]
theorem str_size (a : List UInt8) : (str a).size = a.length := by simp [str, ByteArray.size]
end Go.Proofs.Ytimmnnncgnnkgaa

/- Frames between two block numbers; objects with the blocks they lie in; slices of int slices. -/
namespace Go.Proofs.Ytimmnnncgnnkgaa
set_option linter.unusedVariables false
set_option linter.unusedSimpArgs false
open Go.RowKit

/-- Every number fits an int. -/
def OkI (xs : List Int) : Prop := ∀ x ∈ xs, -9223372036854775808 ≤ x ∧ x ≤ 9223372036854775807

/-- Only blocks from lo up to hi (and new ones) have turned. -/
structure Mid (lo hi : Nat) (w w' : World) : Prop where
  os : w'.os = w.os
  tape : w'.tape = w.tape
  output : w'.output = w.output
  size : w.heap.size ≤ w'.heap.size
  block : ∀ k, k < w.heap.size → ¬ (lo ≤ k ∧ k < hi) → w'.heap[k]? = w.heap[k]?
theorem Mid.below {lo hi : Nat} {w w' : World} (h : Mid lo hi w w') (hl : lo ≤ w.heap.size) : Below lo w w' :=
  ⟨h.os, h.tape, h.output, h.size, fun k hk => h.block k (by omega) (by omega)⟩
theorem Mid.of_grown {lo hi : Nat} {w w' : World} {row : Option Nat} (h : w.grownBy w' row) (hr : ∀ g, row = some g → lo ≤ g ∧ g < hi) : Mid lo hi w w' :=
  ⟨h.os, h.tape, h.output, h.size, fun k hk hn => h.block k hk (fun e => hn (hr k e.symm))⟩
theorem Mid.trans {lo hi : Nat} {a b c : World} (h : Mid lo hi a b) (k : Mid lo hi b c) : Mid lo hi a c :=
  ⟨k.os.trans h.os, k.tape.trans h.tape, k.output.trans h.output, Nat.le_trans h.size k.size,
    fun i hi' hn => (k.block i (Nat.lt_of_lt_of_le hi' h.size) hn).trans (h.block i hi' hn)⟩
theorem Mid.refl (lo hi : Nat) (w : World) : Mid lo hi w w := ⟨rfl, rfl, rfl, Nat.le_refl _, fun _ _ _ => rfl⟩
theorem Mid.drewN {lo hi : Nat} {w w' : World} (h : Mid lo hi w w') (n : Nat) : Mid lo hi w (w'.drewN n) := ⟨h.os, h.tape, h.output, h.size, h.block⟩
theorem Mid.alloc (w : World) (o : Obj) : Mid 0 0 w (w.alloc o) := Mid.of_grown (World.grownBy_alloc w o none) (by intro g h; cases h)
theorem Mid.setCell (w : World) {lo hi : Nat} {p : Addr} (u : Value) (h1 : lo ≤ p.block) (h2 : p.block < hi) : Mid lo hi w (w.setCell p u) :=
  ⟨rfl, rfl, rfl, by simp [World.setCell], fun k _ hn => Below.heap_setCell w p u k (by rintro rfl; exact hn ⟨h1, h2⟩)⟩
theorem Mid.storeNew {lo hi : Nat} {w wr : World} {p : Addr} (h : Mid lo hi w wr) (hp : w.heap.size ≤ p.block) (u : Value) : Mid lo hi w (wr.setCell p u) :=
  ⟨h.os, h.tape, h.output, by simpa [World.setCell] using h.size, fun k hk hn => (Below.heap_setCell wr p u k (by omega)).trans (h.block k hk hn)⟩
theorem Mid.mono {lo hi lo' hi' : Nat} {w w' : World} (h : Mid lo hi w w') (h1 : lo' ≤ lo) (h2 : hi ≤ hi') : Mid lo' hi' w w' :=
  ⟨h.os, h.tape, h.output, h.size, fun k hk hn => h.block k hk (fun hh => hn ⟨by omega, by omega⟩)⟩
theorem Mid.zero {lo hi : Nat} {w w' : World} (h : Mid 0 0 w w') : Mid lo hi w w' := ⟨h.os, h.tape, h.output, h.size, fun k hk _ => h.block k hk (by omega)⟩
theorem Mid.bel {w w' : World} (h : Mid 0 0 w w') : Below w.heap.size w w' := ⟨h.os, h.tape, h.output, h.size, fun k hk => h.block k hk (by omega)⟩
theorem below_mid {n a b : Nat} {w0 w w' : World} (h : Below n w0 w) (hs : n ≤ w.heap.size) (m : Mid a b w w') (hn : n ≤ a ∨ b = 0) : Below n w0 w' :=
  h.trans ⟨m.os, m.tape, m.output, m.size, fun k hk => m.block k (by omega) (by omega)⟩

/-- The cells cs at A, in blocks from lo up to hi. -/
def RV (w : World) (lo hi : Nat) (A : Option Addr) (cs : List Value) : Prop :=
  hi ≤ w.heap.size ∧ (cs ≠ [] → ∃ b off, A = some ⟨b, off, none⟩ ∧ lo ≤ b ∧ b < hi ∧ ∀ j u, cs[j]? = some u → w.cell? ⟨b, off + j, none⟩ = some u)
theorem RV.rs {w : World} {lo hi : Nat} {A : Option Addr} {cs : List Value} (h : RV w lo hi A cs) : Rs w hi A cs := fun hn => by
  obtain ⟨b, off, e, _, hb, hc⟩ := h.2 hn
  exact ⟨b, off, e, hb, hc⟩
theorem RV.mid {w w' : World} {lo hi a b : Nat} {A : Option Addr} {cs : List Value} (h : RV w lo hi A cs) (m : Mid a b w w') (hd : b ≤ lo ∨ hi ≤ a) : RV w' lo hi A cs :=
  ⟨Nat.le_trans h.1 m.size, fun hn => by
    obtain ⟨g, off, e, h1, h2, hc⟩ := h.2 hn
    have hs := h.1
    exact ⟨g, off, e, h1, h2, fun j u hu => (World.cell?_of_block (m.block g (by omega) (by omega))).trans (hc j u hu)⟩⟩
theorem RV.wide {w : World} {lo hi lo' hi' : Nat} {A : Option Addr} {cs : List Value} (h : RV w lo hi A cs) (h1 : lo' ≤ lo) (h2 : hi ≤ hi') (h3 : hi' ≤ w.heap.size) : RV w lo' hi' A cs :=
  ⟨h3, fun hn => by
    obtain ⟨g, off, e, ha, hb, hc⟩ := h.2 hn
    exact ⟨g, off, e, by omega, by omega, hc⟩⟩
/-- The same, the call's own: a row at the head of a block. -/
def OV (w : World) (lo hi : Nat) (e : TypeId) (size : Nat) (A : Option Addr) (c n : Nat) (cs : List Value) : Prop :=
  hi ≤ w.heap.size ∧ w.ownsRow lo e size (.slice A n c) n cs ∧ ∀ g, Value.ownBlock (.slice A n c) = some g → g < hi
section
variable {w w' : World} {lo hi a b : Nat} {e : TypeId} {size : Nat} {A : Option Addr} {c n : Nat} {cs : List Value}
theorem OV.new {w0 : World} (h : w.ownsRow w0.heap.size e size (.slice A n c) n cs) : OV w w0.heap.size w.heap.size e size A c n cs :=
  ⟨Nat.le_refl _, h, fun g hg => (h.lt g hg).2⟩
theorem OV.mid (h : OV w lo hi e size A c n cs) (m : Mid a b w w') (hd : b ≤ lo ∨ hi ≤ a) : OV w' lo hi e size A c n cs := by
  refine ⟨Nat.le_trans h.1 m.size, ⟨h.2.1.1, ?_⟩, h.2.2⟩
  rcases h.2.1.2 with hn | ⟨g, cap, cur, hv, hbg, hgg, rest⟩
  · exact .inl hn
  · refine .inr ⟨g, cap, cur, hv, hbg, ?_, rest⟩
    have hlt := h.2.2 g (by rw [hv]; rfl)
    rw [m.block g (Array.getElem?_eq_some_iff.1 hgg).1 (by omega)]
    exact hgg
theorem OV.rv (h : OV w lo hi e size A c n cs) : RV w lo hi A cs := ⟨h.1, fun hn => by
  obtain ⟨g, off, hA, _, hc⟩ := Rs.of_own h.2.1 hn
  have hg : Value.ownBlock (.slice A n c) = some g := by rw [hA]; rfl
  exact ⟨g, off, hA, (h.2.1.lt g hg).1, h.2.2 g hg, hc⟩⟩
theorem OV.wide {lo' hi' : Nat} (h : OV w lo hi e size A c n cs) (h1 : lo' ≤ lo) (h2 : hi ≤ hi') (h3 : hi' ≤ w.heap.size) : OV w lo' hi' e size A c n cs :=
  ⟨h3, owns_base h.2.1 h1, fun g hg => by have := h.2.2 g hg; omega⟩
end

/-- Two rows of different element types lie in different blocks. -/
theorem owns_ne {w : World} {b b' : Nat} {e e' : TypeId} {s s' : Nat} {v v' : Value} {n n' : Nat} {xs xs' : List Value} (h : w.ownsRow b e s v n xs) (h' : w.ownsRow b' e' s' v' n' xs') (hne : e ≠ e') :
    v.ownBlock = none ∨ v.ownBlock ≠ v'.ownBlock := by
  rcases h.2 with ⟨rfl, _⟩ | ⟨g, cap, cur, rfl, _, hg, _⟩
  · exact .inl rfl
  · rcases h'.2 with ⟨rfl, _⟩ | ⟨g', cap', cur', rfl, _, hg', _⟩
    · exact .inr (by simp [Value.ownBlock])
    · refine .inr fun he => ?_
      have : g = g' := by simpa [Value.ownBlock] using he
      subst this
      rw [hg] at hg'
      injection hg' with hg'
      injection hg' with _ ht
      exact hne ht
/-! ### slices of int slices -/

/-- One row of a slice of slices: its address, its capacity, its numbers. -/
structure Row where
  A : Option Addr
  c : Nat
  xs : List Int
def Row.v (r : Row) : Value := .slice r.A r.xs.length r.c
def rowsV (rows : List Row) : List Value := rows.map Row.v
def rowsD (rows : List Row) : List (List Int) := rows.map Row.xs
theorem rowsV_len (rows : List Row) : (rowsV rows).length = rows.length := by simp [rowsV]
theorem rowsD_len (rows : List Row) : (rowsD rows).length = rows.length := by simp [rowsD]
/-- The slice of slices at A reads xss, all in blocks from lo up to hi. -/
def RSS (w : World) (lo hi : Nat) (A : Option Addr) (xss : List (List Int)) : Prop :=
  ∃ rows, rowsD rows = xss ∧ RV w lo hi A (rowsV rows) ∧ ∀ r ∈ rows, RV w lo hi r.A (ints r.xs)
section
variable {w w' : World} {lo hi a b : Nat} {A : Option Addr} {xss : List (List Int)}
theorem RSS.size (h : RSS w lo hi A xss) : hi ≤ w.heap.size := by obtain ⟨_, _, h, _⟩ := h; exact h.1
theorem RSS.mid (h : RSS w lo hi A xss) (m : Mid a b w w') (hd : b ≤ lo ∨ hi ≤ a) : RSS w' lo hi A xss := by
  obtain ⟨rows, h1, h2, h3⟩ := h
  exact ⟨rows, h1, h2.mid m hd, fun r hr => (h3 r hr).mid m hd⟩
theorem RSS.wide {lo' hi' : Nat} (h : RSS w lo hi A xss) (h1 : lo' ≤ lo) (h2 : hi ≤ hi') (h3 : hi' ≤ w.heap.size) : RSS w lo' hi' A xss := by
  obtain ⟨rows, ha, hb, hc⟩ := h
  exact ⟨rows, ha, hb.wide h1 h2 h3, fun r hr => (hc r hr).wide h1 h2 h3⟩
theorem RSS.nil (hs : hi ≤ w.heap.size) : RSS w lo hi A [] := ⟨[], rfl, ⟨hs, fun h => absurd rfl h⟩, by simp⟩
theorem RSS.row (h : RSS w lo hi A xss) {k : Nat} (hk : k < xss.length) :
    ∃ b off A' c' xs, A = some ⟨b, off, none⟩ ∧ lo ≤ b ∧ b < hi ∧ xss[k]? = some xs ∧ w.cell? ⟨b, off + k, none⟩ = some (.slice A' xs.length c') ∧ RV w lo hi A' (ints xs) := by
  obtain ⟨rows, rfl, h2, h3⟩ := h
  rw [rowsD_len] at hk
  obtain ⟨b, off, e, hb, hb2, hc⟩ := h2.2 (by intro h0; have := congrArg List.length h0; rw [rowsV_len] at this; simp at this; subst this; simp at hk)
  obtain ⟨r, hr⟩ := get_of_lt rows hk
  refine ⟨b, off, r.A, r.c, r.xs, e, hb, hb2, by simp [rowsD, hr], hc k _ (by simp [rowsV, hr, Row.v]), h3 r (List.mem_of_getElem? hr)⟩
end

/-- The same, the call's own: every row in a block of its own. -/
def OwnRows (w : World) (lo hi : Nat) (tI : TypeId) (rows : List Row) : Prop :=
  (∀ r ∈ rows, OV w lo hi tI 1 r.A r.c r.xs.length (ints r.xs)) ∧ rows.Pairwise (fun r s => r.v.ownBlock = none ∨ r.v.ownBlock ≠ s.v.ownBlock)
def OSS (w : World) (lo hi : Nat) (tSI tI : TypeId) (A : Option Addr) (c : Nat) (xss : List (List Int)) : Prop :=
  hi ≤ w.heap.size ∧ ∃ rows, rowsD rows = xss ∧ OV w lo hi tSI 1 A c xss.length (rowsV rows) ∧ OwnRows w lo hi tI rows
section
variable {w w' : World} {lo hi a b : Nat} {tSI tI : TypeId} {A : Option Addr} {c : Nat} {xss : List (List Int)} {rows : List Row}
theorem OwnRows.mid (h : OwnRows w lo hi tI rows) (m : Mid a b w w') (hd : b ≤ lo ∨ hi ≤ a) : OwnRows w' lo hi tI rows := ⟨fun r hr => (h.1 r hr).mid m hd, h.2⟩
theorem OwnRows.wide {lo' hi' : Nat} (h : OwnRows w lo hi tI rows) (h1 : lo' ≤ lo) (h2 : hi ≤ hi') (h3 : hi' ≤ w.heap.size) : OwnRows w lo' hi' tI rows := ⟨fun r hr => (h.1 r hr).wide h1 h2 h3, h.2⟩
theorem OwnRows.nil : OwnRows w lo hi tI [] := ⟨by simp, List.Pairwise.nil⟩
/-- A row of another type is written, or grows: the int rows stay. -/
theorem OwnRows.grown {bb : Nat} {e' : TypeId} {s' : Nat} {v' : Value} {n' : Nat} {xs' : List Value} (h : OwnRows w lo hi tI rows) (ho : w.ownsRow bb e' s' v' n' xs') (hne : tI ≠ e') (hg : w.grownBy w' v'.ownBlock) : OwnRows w' lo hi tI rows :=
  ⟨fun r hr => by
    obtain ⟨h1, h2, h3⟩ := h.1 r hr
    exact ⟨Nat.le_trans h1 hg.size, h2.kept hg (owns_ne h2 ho hne), h3⟩, h.2⟩
theorem OSS.size (h : OSS w lo hi tSI tI A c xss) : hi ≤ w.heap.size := h.1
theorem OSS.mid (h : OSS w lo hi tSI tI A c xss) (m : Mid a b w w') (hd : b ≤ lo ∨ hi ≤ a) : OSS w' lo hi tSI tI A c xss := by
  obtain ⟨h0, rows, h1, h2, h3⟩ := h
  exact ⟨Nat.le_trans h0 m.size, rows, h1, h2.mid m hd, h3.mid m hd⟩
theorem OSS.wide {lo' hi' : Nat} (h : OSS w lo hi tSI tI A c xss) (h1 : lo' ≤ lo) (h2 : hi ≤ hi') (h3 : hi' ≤ w.heap.size) : OSS w lo' hi' tSI tI A c xss := by
  obtain ⟨_, rows, ha, hb, hc⟩ := h
  exact ⟨h3, rows, ha, hb.wide h1 h2 h3, hc.wide h1 h2 h3⟩
theorem OSS.rss (h : OSS w lo hi tSI tI A c xss) : RSS w lo hi A xss := by
  obtain ⟨_, rows, h1, h2, h3⟩ := h
  exact ⟨rows, h1, h2.rv, fun r hr => (h3.1 r hr).rv⟩
end

/-- A call hands back a new slice of new slices that reads xss; nothing that was there has turned. -/
def RetSS (tSI tI : TypeId) (xss : List (List Int)) (w : World) (e : Ending) (w' : World) : Prop :=
  ∃ A c, e = .returned (.slice A xss.length c) ∧ OSS w' w.heap.size w'.heap.size tSI tI A c xss ∧ Mid 0 0 w w'
end Go.Proofs.Ytimmnnncgnnkgaa

/- Boxes: the block of a struct that a call holds by its address. -/
namespace Go.Proofs.Ytimmnnncgnnkgaa
set_option linter.unusedVariables false
set_option linter.unusedSimpArgs false
open Go.RowKit

/-- Block b holds the cells cs, and may be written. -/
def Box (w : World) (b : Nat) (cs : List Value) : Prop := b < w.heap.size ∧ (∀ i u, cs[i]? = some u → w.cell? ⟨b, i, none⟩ = some u) ∧ ∀ i, w.frozen? ⟨b, i, none⟩ = false
section
variable {w w' : World} {b lo hi : Nat} {cs ys : List Value}
theorem Box.new (w : World) (a : Array Value) (t : TypeId) : Box (w.alloc (.cells a t)) w.heap.size a.toList :=
  ⟨by simp, fun i u hu => (World.cell?_alloc_at _ _ _ _ rfl).trans (by simpa using hu), fun i => World.frozen?_alloc_at _ _ _ _ rfl⟩
theorem Box.mid (h : Box w b cs) (m : Mid lo hi w w') (hd : b < lo ∨ hi ≤ b) : Box w' b cs :=
  ⟨Nat.lt_of_lt_of_le h.1 m.size, fun i u hu => (World.cell?_of_block (m.block b h.1 (by omega))).trans (h.2.1 i u hu), fun i => (World.frozen?_of_block (m.block b h.1 (by omega))).trans (h.2.2 i)⟩
theorem Box.cell (h : Box w b cs) (i : Nat) {u : Value} (hu : cs[i]? = some u) : w.cell? ⟨b, i, none⟩ = some u := h.2.1 i u hu
theorem Box.set (h : Box w b cs) (i : Nat) (u : Value) (hi : i < cs.length) (hy : cs.set i u = ys) : Box (w.setCell ⟨b, i, none⟩ u) b ys := by
  subst hy
  have hc := h.2.1 i cs[i] (List.getElem?_eq_getElem hi)
  refine ⟨by simpa using h.1, fun j v hv => ?_, fun j => by rw [World.frozen?_setCell]; exact h.2.2 j⟩
  by_cases hj : j = i
  · subst hj
    rw [List.getElem?_set_self hi] at hv
    rw [World.cell?_setCell_same w _ u hc]
    exact hv
  · rw [List.getElem?_set_ne (Ne.symm hj)] at hv
    rw [World.cell?_setCell_other w _ _ u (by intro e; injection e; omega)]
    exact h.2.1 j v hv
theorem Box.drewN (h : Box w b cs) (n : Nat) : Box (w.drewN n) b cs := h
/-- A step within an interval of blocks that a row of the call's own, or a growing one, spans. -/
theorem Mid.of_grownRow {base : Nat} {e : TypeId} {size : Nat} {v : Value} {n : Nat} {xs : List Value} (h : w.ownsRow base e size v n xs) (hg : w.grownBy w' v.ownBlock) : Mid base w.heap.size w w' :=
  Mid.of_grown hg fun g hg' => h.lt g hg'
theorem owns_mid {base : Nat} {e : TypeId} {size : Nat} {v : Value} {n : Nat} {xs : List Value} (h : w.ownsRow base e size v n xs) (m : Mid lo hi w w') (hd : hi ≤ base ∨ w.heap.size ≤ lo) : w'.ownsRow base e size v n xs := by
  refine ⟨h.1, ?_⟩
  rcases h.2 with hn | ⟨g, cap, cur, hv, hbg, hgg, rest⟩
  · exact .inl hn
  · refine .inr ⟨g, cap, cur, hv, hbg, ?_, rest⟩
    have hlt := (Array.getElem?_eq_some_iff.1 hgg).1
    rw [m.block g hlt (by omega)]
    exact hgg
theorem Mid.drew1 (w : World) : Mid 0 0 w w.drew := ⟨rfl, rfl, rfl, Nat.le_refl _, fun _ _ _ => rfl⟩
/-- A step that turns only blocks that are new since w. -/
theorem Mid.transNew {a b : Nat} {wa : World} (h : Mid lo hi w wa) (m : Mid a b wa w') (ha : w.heap.size ≤ a ∨ b = 0) : Mid lo hi w w' :=
  ⟨m.os.trans h.os, m.tape.trans h.tape, m.output.trans h.output, Nat.le_trans h.size m.size, fun k hk hn =>
    (m.block k (Nat.lt_of_lt_of_le hk h.size) (by omega)).trans (h.block k hk hn)⟩
theorem OSS.nil {tSI tI : TypeId} : OSS w lo w.heap.size tSI tI none 0 [] := ⟨Nat.le_refl _, [], rfl, ⟨Nat.le_refl _, ⟨rfl, .inl ⟨rfl, rfl⟩⟩, fun g hg => by simp [Value.ownBlock] at hg⟩, OwnRows.nil⟩
end
end Go.Proofs.Ytimmnnncgnnkgaa

/- append(out, xs...) at a step of a region that draws its order, and at one operation; a cell behind a step. -/
namespace Go.Proofs.Ytimmnnncgnnkgaa
set_option linter.unusedVariables false
set_option linter.unusedSimpArgs false
open Go.RowKit

theorem cell_keep {w w' : World} {lo hi b i : Nat} {u : Value} (m : Mid lo hi w w') (hb : b < w.heap.size) (hd : b < lo ∨ hi ≤ b) (hc : w.cell? ⟨b, i, none⟩ = some u) : w'.cell? ⟨b, i, none⟩ = some u :=
  (World.cell?_of_block (m.block b hb (by omega))).trans hc

section
variable {P : Program} {w : World}
end
end Go.Proofs.Ytimmnnncgnnkgaa

/- Regions that draw their order, only read, and call functions that read and lay blocks of their own: one walk. -/
namespace Go.Proofs.Ytimmnnncgnnkgaa
set_option linter.unusedVariables false
set_option linter.unusedSimpArgs false
open Go.RowKit

/-- w with blocks laid behind it, at another count of draws. -/
def wg (w : World) (m : Nat) (os : Array Obj) : World := { w with heap := w.heap ++ os, drawn := m }
structure GB where
  n : Nat
  os : Array Obj
  deriving Inhabited
theorem Mid.ofWg (w : World) (m : Nat) (os : Array Obj) : Mid 0 0 w (wg w m os) :=
  ⟨rfl, rfl, rfl, by simp [wg], fun k hk _ => by simp [wg, Array.getElem?_append, hk]⟩
theorem Mid.toWg {w w' : World} (h : Mid 0 0 w w') : ∃ p : GB, w' = wg w p.n p.os := by
  refine ⟨⟨w'.drawn, w'.heap.extract w.heap.size w'.heap.size⟩, ?_⟩
  have hh : w'.heap = w.heap ++ w'.heap.extract w.heap.size w'.heap.size := by
    apply Array.ext_getElem?
    intro k
    by_cases hk : k < w.heap.size
    · rw [Array.getElem?_append_left hk]
      exact h.block k hk (by omega)
    · rw [Array.getElem?_append_right (by omega), Array.getElem?_extract]
      have hs := h.size
      by_cases hk2 : k < w'.heap.size
      · rw [if_pos (by omega), show w.heap.size + (k - w.heap.size) = k by omega]
      · rw [if_neg (by omega), Array.getElem?_eq_none (by omega)]
  have h1 := h.os
  have h2 := h.tape
  have h3 := h.output
  cases w'
  cases w
  simp only [wg] at *
  subst h1 h2 h3
  congr 1
theorem wg_cell {w : World} {a : Addr} {v : Value} (hb : a.block < w.heap.size) (h : w.cell? a = some v) (n : Nat) (os : Array Obj) : (wg w n os).cell? a = some v :=
  (World.cell?_of_block ((Mid.ofWg w n os).block a.block hb (by omega))).trans h
theorem wp_region_quiet_wg {P : Program} {id : Nat} {Q : Exit → Act → World → Prop} {a : Act} {w : World} {l : List Oper} (hm : P.follows .mixedOrders = true) (hB : Region.lexB .any l.toArray = true)
    (h : wpQuiet P l.toArray (fun w' => ∃ p : GB, w' = wg w p.n p.os) (fun a' => ∀ w', (∃ p : GB, w' = wg w p.n p.os) → Q .normal a' w') l a) : (Code.region id l.toArray true).wp P Q a w :=
  wp_region_quiet (C := fun w' => ∃ p : GB, w' = wg w p.n p.os) hm hB (Mid.drew1 w).toWg (by simpa using h)
/-- A callee's contract, met in a world of the class. -/
theorem Calls.wg_of {P : Program} {f : FuncId} {args : Array Value} {w : World} {n : Nat} {os : Array Obj} {v : Value}
    (h : Calls P f args (wg w n os) fun e w' => e = .returned v ∧ Mid 0 0 (wg w n os) w') : Calls P f args (wg w n os) fun e w'' => e = .returned v ∧ ∃ p : GB, w'' = wg w p.n p.os :=
  h.mono fun _ _ ⟨he, hm⟩ => ⟨he, ((Mid.ofWg w n os).trans hm).toWg⟩
end Go.Proofs.Ytimmnnncgnnkgaa

/- Facts on the tables of this seat's program: the element types' rows. -/
namespace Go.Proofs.Ytimmnnncgnnkgaa
set_option linter.unusedVariables false
set_option linter.unusedSimpArgs false
theorem undI : Try.prog.underlying 3 = some (.int .i64) := by kernel_rfl
end Go.Proofs.Ytimmnnncgnnkgaa

/- Contracts of the small helpers of the laws: copies, comparisons and marks of int slices. -/
namespace Go.Proofs.Ytimmnnncgnnkgaa
set_option linter.unusedVariables false
set_option linter.unusedSimpArgs false
open Go.RowKit

/-- lo ≤ x ≤ hi -/
def inB (x lo hi : Int) : Bool := decide (lo ≤ x) && decide (x ≤ hi)

end Go.Proofs.Ytimmnnncgnnkgaa

/- Contracts of the laws' helpers on slices of int slices. -/
namespace Go.Proofs.Ytimmnnncgnnkgaa
set_option linter.unusedVariables false
set_option linter.unusedSimpArgs false
open Go.RowKit

/-- What is left of a budget, or -1. -/
def szI (left : Int) (n : Nat) : Int := if (n : Int) ≤ left then left - n else -1

/-- How many numbers stand in the rows. -/
def sumL (xss : List (List Int)) : Nat := (xss.map List.length).sum
/-- The lengths are lengths of slices that there can be. -/
def LenOk (xss : List (List Int)) : Prop := xss.length ≤ 9223372036854775807 ∧ ∀ xs ∈ xss, xs.length ≤ 9223372036854775807

/-- The rows with marks in them, from q on. -/
def markD (q : Int) : List (List Int) → List (List Int)
  | [] => []
  | xs :: r => marks q xs.length :: markD (q + xs.length) r
def markRows (q : Int) : List Row → List Row
  | [] => []
  | r :: t => { r with xs := marks q r.xs.length } :: markRows (q + r.xs.length) t
theorem OwnRows.mark {w w' : World} {lo hi : Nat} {tI : TypeId} {fs bs : List Row} {r : Row} {ys : List Int} (h : OwnRows w lo hi tI (fs ++ r :: bs)) (hg : w.grownBy w' r.v.ownBlock) (hy : ys.length = r.xs.length)
    (ho : w'.ownsRow lo tI 1 r.v r.xs.length (ints ys)) : OwnRows w' lo hi tI (fs ++ { r with xs := ys } :: bs) := by
  have hvv : ({ r with xs := ys } : Row).v = r.v := by simp [Row.v, hy]
  have hp := h.2
  rw [List.pairwise_append, List.pairwise_cons] at hp
  obtain ⟨hp1, ⟨hp2, hp3⟩, hp4⟩ := hp
  refine ⟨fun s hs => ?_, ?_⟩
  · rcases List.mem_append.1 hs with hm | hm
    · have ⟨h1, h2, h3⟩ := h.1 s (List.mem_append_left _ hm)
      exact ⟨Nat.le_trans h1 hg.size, h2.kept hg (hp4 s hm r List.mem_cons_self), h3⟩
    · rcases List.mem_cons.1 hm with hm | hm
      · subst hm
        have ⟨h1, h2, h3⟩ := h.1 r (List.mem_append_right _ List.mem_cons_self)
        refine ⟨Nat.le_trans h1 hg.size, ?_, ?_⟩
        · show w'.ownsRow lo tI 1 (.slice r.A ys.length r.c) ys.length (ints ys)
          rw [hy]
          exact ho
        · show ∀ g, Value.ownBlock (.slice r.A ys.length r.c) = some g → g < hi
          rw [hy]
          exact h3
      · have ⟨h1, h2, h3⟩ := h.1 s (List.mem_append_right _ (List.mem_cons_of_mem _ hm))
        refine ⟨Nat.le_trans h1 hg.size, h2.kept hg ?_, h3⟩
        rcases hp2 s hm with hn | hn
        · cases hv : s.v.ownBlock with
          | none => exact .inl hv
          | some g =>
            refine .inr ?_
            show s.v.ownBlock ≠ _
            rw [hn, hv]
            simp
        · exact .inr (fun e => hn e.symm)
  · rw [List.pairwise_append, List.pairwise_cons]
    refine ⟨hp1, ⟨fun s hs => by rw [hvv]; exact hp2 s hs, hp3⟩, fun s hs t ht => ?_⟩
    rcases List.mem_cons.1 ht with rfl | ht
    · rw [hvv]
      exact hp4 s hs r List.mem_cons_self
    · exact hp4 s hs t (List.mem_cons_of_mem _ ht)

theorem OV.grown {w w' : World} {lo hi : Nat} {e : TypeId} {size : Nat} {A : Option Addr} {c n : Nat} {cs : List Value} {row : Option Nat} (h : OV w lo hi e size A c n cs) (hg : w.grownBy w' row)
    (hne : Value.ownBlock (.slice A n c) = none ∨ Value.ownBlock (.slice A n c) ≠ row) : OV w' lo hi e size A c n cs :=
  ⟨Nat.le_trans h.1 hg.size, h.2.1.kept hg hne, h.2.2⟩

end Go.Proofs.Ytimmnnncgnnkgaa

/- FormatInt, both sides. -/
namespace Go.Proofs.Ytimmnnncgnnkgaa
set_option linter.unusedVariables false
set_option linter.unusedSimpArgs false
open Go.RowKit

def MarkerS (P : Prop) : Prop := P
theorem MarkerS.to {P : Prop} (h : MarkerS P) : P := h
def bys (l : List UInt8) : List Value := l.map fun b => .int .u8 b.toNat
theorem bys_append (a b : List UInt8) : bys (a ++ b) = bys a ++ bys b := by simp [bys]
theorem bys_get (l : List UInt8) (k : Nat) : (bys l)[k]? = (l[k]?).map fun b => .int .u8 b.toNat := by simp [bys]
theorem infoU : (Try.prog.info? 5).map (fun i => (i.zero, i.size, i.bytes)) = some (some (.int .u8 0), 1, 1) := by kernel_rfl
theorem undSU : Try.prog.underlying 112 = some (.slice 5) := by kernel_rfl
theorem undU : Try.prog.underlying 5 = some (.int .u8) := by kernel_rfl
theorem undStr : Try.prog.underlying 9 = some .string := by kernel_rfl
section
variable {W : World} {ops : Array Oper} {rest : List Oper} {o : Oper} {a : Act} {Q : Exit → Act → World → Prop}
theorem wpList_pushU (hgd : o.guard = none) (s x : Operand)
    (ho : o.op = .call { callee := .builtin .append, args := #[s, x], argTypes := #[112, 112] }) (lo : Nat) (A : Option Addr) (n c : Nat) (xs : List UInt8) (hs : a.eval s = .slice A n c)
    (hown : W.ownsRow lo 5 1 (.slice A n c) n (bys xs)) (y : UInt8) (u : Value) (hu : u = .int .u8 y.toNat) (hx : a.eval x = .slice (some ⟨W.heap.size, 0, none⟩) 1 1) (hn : n ≤ 1048576) (hb : lo ≤ W.heap.size)
    (h : ∀ A' c' w', w'.ownsRow lo 5 1 (.slice A' (n + 1) c') (n + 1) (bys (xs ++ [y])) → Mid lo W.heap.size W w' → wpList Try.prog ops Q rest (a.put o.dst (.slice A' (n + 1) c')) w') :
    wpList Try.prog ops Q (o :: rest) a (W.alloc (.cells #[u] 5)) := by
  subst hu
  refine wpList_push (news := [.int .u8 y.toNat]) hgd s x 112 ho lo 5 (.int .u8 0) 1 1 undSU infoU rfl (by decide) (.slice A n c) n (bys xs) hs hown 1 hx rfl ?_ (by unfold maxLen; omega) (by omega) hb ?_
  · intro u hu
    simp at hu
    subst hu
    rfl
  · intro v' w' h1 h2 _
    obtain ⟨A', c', rfl, -, -⟩ := owns_shape h1
    refine h A' c' w' ?_ (Mid.of_grownRow hown h2)
    rw [bys_append]
    exact h1
end
theorem digit_u8 {q : Nat} : ((UInt8.ofNat (48 + q % 10)).toNat : Int) = 48 + ((q % 10 : Nat) : Int) := by
  have h : q % 10 < 10 := Nat.mod_lt _ (by omega)
  rw [UInt8.toNat_ofNat']
  omega

set_option maxHeartbeats 3200000 in
set_option maxRecDepth 100000 in
theorem impl_FormatInt (n : Int) (w : World) (h1 : -9223372036854775808 ≤ n) (h2 : n ≤ 9223372036854775807) :
    Calls Try.prog 61 #[.int .i64 n] w fun e w' => e = .returned (.string (str (fmtI n))) ∧ Mid 0 0 w w' := by
  by_cases hn0 : n = 0
  · subst hn0
    go_enter Try.func61, Try.ntmps61
    go_wp2_with fail
    go_ret
    exact ⟨rfl, Mid.refl _ _ _⟩
  have d0 : (n == 0) = false := by simp [hn0]
  have O0 := owns_empty w 5 1
  have hm0 := Mid.alloc w (.cells #[] 5)
  go_enter Try.func61, Try.ntmps61
  go_wp2_with fail
  generalize w.alloc (.cells #[] 5) = w1 at O0 hm0 ⊢
  have hs1 : w.heap.size < w1.heap.size := (O0.lt _ rfl).2
  have HO0 : Hid (w1.ownsRow w.heap.size 5 1 (.slice (some ⟨w.heap.size, 0, none⟩) 0 0) 0 (bys [])) := Lib.hid O0
  have HQ0 : Hid (([] : List UInt8) ++ dbytes n.natAbs = dbytes n.natAbs) := Lib.hid rfl
  clear O0 hs1
  generalize (some (⟨w.heap.size, 0, none⟩ : Addr)) = A0 at HO0 ⊢
  go_loopw [3, 4] (fun ov mv wr => ∃ (mi : Int) (k : Nat) (bs : List UInt8) (A : Option Addr) (c : Nat), mv = .int .i64 mi ∧ ov = .slice A k c ∧ -9223372036854775808 ≤ mi ∧ mi ≤ 9223372036854775807 ∧ Hid (bs.length = k) ∧ Hid (bs ++ dbytes mi.natAbs = dbytes n.natAbs) ∧ Hid (wr.ownsRow w.heap.size 5 1 (.slice A k c) k (bys bs)) ∧ Mid 0 0 w wr) (fun _ mv _ => (intOf mv).natAbs)
  case atStart => exact ⟨n, 0, [], A0, 0, rfl, rfl, h1, h2, Lib.hid rfl, HQ0, HO0, hm0⟩
  case round =>
    clear HQ0 HO0 hm0
    obtain ⟨wo, hwo⟩ : ∃ wo, wo = wr := ⟨_, rfl⟩
    subst hwo
    obtain ⟨mi, k, bs, A, c, rfl, rfl, hm1, hm2, HB, HQ, HO, hm⟩ := hrel
    have hk : k ≤ 20 := by
      have e1 := congrArg List.length HQ.out
      have e2 := dbytes_len (n := n.natAbs) (by omega)
      rw [List.length_append, HB.out] at e1
      omega
    by_cases hz : mi = 0
    · subst hz
      have dz : ((0 : Int) == 0) = true := rfl
      have hbq : bs = dbytes n.natAbs := by
        have h := HQ.out
        rw [show (0 : Int).natAbs = 0 from rfl, dbytes_zero, List.append_nil] at h
        exact h
      have HBQ := Lib.hid hbq
      have hk0 : 0 < k := by
        have := dbytes_ne (n := n.natAbs) (by omega)
        rcases Nat.eq_zero_or_pos k with h | h
        · exact absurd (List.eq_nil_of_length_eq_zero (by rw [← hbq, HB.out, h])) this
        · exact h
      clear hbq HQ hm1 hm2
      by_cases hneg : n < 0
      · go_wp2_with (at_builtin; refine MarkerS.to ?_)
        unfold MarkerS
        refine wpList_pushU rfl _ _ rfl w.heap.size A k c bs rfl HO.out 45 _ rfl rfl (by omega) hm.size ?_
        intro A2 c2 w2 ho2 hm2
        have HO2 := Lib.hid ho2
        have hm3 := hm.transNew hm2 (Or.inl (Nat.le_refl _))
        have HB2 : Hid ((bs ++ [45]).length = k + 1) := Lib.hid (by rw [List.length_append, HB.out]; rfl)
        have HF : Hid ((bs ++ [45]).reverse = fmtI n) := Lib.hid (by
          rw [HBQ.out, fmtI, if_neg hn0, if_pos hneg, List.reverse_append]
          rfl)
        clear ho2 hm2 HO hm HB HBQ
        generalize bs ++ [45] = bs2 at HO2 HB2 HF
        have hk2 : 0 < k + 1 ∧ k + 1 ≤ 21 := by omega
        generalize k + 1 = k2 at HO2 HB2 hk2 ⊢
        go_wp2_with fail
        have HR0 := Lib.hid (RevAt.zero bs2)
        have hlen2 : k2 ≤ 21 := by omega
        go_loopw [6, 7] (fun iv jv wr => ∃ (i : Nat) (j : Int) (zs : List UInt8), iv = .int .i64 i ∧ jv = .int .i64 j ∧ (i : Int) + j + 1 = (k2 : Int) ∧ Hid (RevAt bs2 i zs) ∧ Hid (wr.ownsRow w.heap.size 5 1 (.slice A2 k2 c2) k2 (bys zs)) ∧ Mid 0 0 w wr) (fun _ jv _ => (intOf jv).toNat)
        case atStart => exact ⟨0, (k2 : Int) - 1, bs2, rfl, by first | rfl | go_num, by omega, HR0, HO2, hm3⟩
        case round =>
          clear HR0 HO2 hm3
          obtain ⟨wp, hwp⟩ : ∃ wp, wp = wr := ⟨_, rfl⟩
          subst hwp
          obtain ⟨i, j, zs, rfl, rfl, hij, HRV, HO, hm⟩ := hrel
          by_cases hlt : (i : Int) < j
          · obtain ⟨jn, rfl⟩ : ∃ n : Nat, j = n := ⟨j.toNat, by omega⟩
            have hzl : zs.length = k2 := by rw [HRV.out.1]; exact HB2.out
            obtain ⟨x, hx⟩ := get_of_lt zs (show i < zs.length by omega)
            obtain ⟨y, hy⟩ := get_of_lt zs (show jn < zs.length by omega)
            obtain ⟨g, rfl, hg1, hg2⟩ := owns_addr HO.out (show 0 < k2 by omega)
            have hca := (HO.out.cellAt i (by omega)).trans (by rw [bys_get, hx]; rfl : (bys zs)[i]? = some (.int .u8 x.toNat))
            have hcb := (HO.out.cellAt jn (by omega)).trans (by rw [bys_get, hy]; rfl : (bys zs)[jn]? = some (.int .u8 y.toNat))
            have hfa := HO.out.frozenAt i
            have hfb := HO.out.frozenAt jn
            have hne : (wp.setCell ⟨g, i, none⟩ (.int .u8 y.toNat)).frozen? ⟨g, jn, none⟩ = false := by rw [World.frozen?_setCell]; exact hfb
            have hs1 := owns_set HO.out i (.int .u8 y.toNat) rfl
            have hcu := (hs1.cellAt jn (by omega)).trans (by rw [List.getElem?_set_ne (by omega), bys_get, hy]; rfl : ((bys zs).set i (.int .u8 y.toNat))[jn]? = some (.int .u8 y.toNat))
            have hs2 := owns_set hs1 jn (.int .u8 x.toNat) (ys := bys ((zs.set i y).set jn x)) (by simp [bys, List.map_set])
            have HS2 := Lib.hid hs2
            have HRV2 := Lib.hid (HRV.out.step (by omega) (by rw [HB2.out]; omega) hx hy)
            have hmA := Mid.setCell wp (lo := w.heap.size) (hi := g + 1) (p := ⟨g, i, none⟩) (.int .u8 y.toNat) hg1 (Nat.lt_succ_self _)
            have hmB := Mid.setCell (wp.setCell ⟨g, i, none⟩ (.int .u8 y.toNat)) (lo := w.heap.size) (hi := g + 1) (p := ⟨g, jn, none⟩) (.int .u8 x.toNat) hg1 (Nat.lt_succ_self _)
            have hm4 := (hm.transNew hmA (Or.inl (Nat.le_refl _))).transNew hmB (Or.inl (Nat.le_refl _))
            have hi0 : (0 : Int) ≤ (i : Int) := by omega
            have hi1 : (i : Int) < (k2 : Int) := by omega
            have hj0 : (0 : Int) ≤ (jn : Int) := by omega
            have hj1 : (jn : Int) < (k2 : Int) := by omega
            have hwj : wrap64 ((jn : Int) - 1) = (jn : Int) - 1 := IntWalk.wrap64_in _ (by omega)
            clear hx hy hs1 hs2 hmA hmB hm HRV hzl
            go_wp2_with fail
            go_region
            go_wp2_with fail
            go_roundw
            case rel => exact ⟨i + 1, (jn : Int) - 1, (zs.set i y).set jn x, by go_num, rfl, by omega, HRV2, HS2.out, hm4.trans (Mid.drew1 _)⟩
            case measure => simp [intOf]; omega
          · have hres := HRV.out.done (by rw [HB2.out]; omega)
            rw [HF.out] at hres
            have hz := hres
            have hzl : zs.length = k2 := by rw [HRV.out.1]; exact HB2.out
            obtain ⟨g, rfl, hg1, hg2⟩ := owns_addr HO.out (show 0 < k2 by omega)
            have hcv := run_convert_bytes_back (P := Try.prog) wp 112 9 5 ⟨g, 0, none⟩ c2 zs undSU undU undStr (fun q hq => by
              have h := (HO.out.cellAt q (by omega)).trans (by rw [bys_get, List.getElem?_eq_getElem hq]; rfl : (bys zs)[q]? = some (.int .u8 (zs[q]).toNat))
              rw [Addr.add_lit, Nat.zero_add]
              exact h)
            rw [hzl, hz] at hcv
            clear hres hz hzl HO HRV
            go_wp2_with fail
            go_ret
            exact ⟨rfl, hm⟩
      · have HO2 := HO
        have hm3 := hm
        have HB2 := HB
        have HF : Hid (bs.reverse = fmtI n) := Lib.hid (by
          rw [HBQ.out, fmtI, if_neg hn0, if_neg hneg]
          rfl)
        clear HO hm HB HBQ
        have hk2 : 0 < k ∧ k ≤ 21 := by omega
        generalize wo = w2 at HO2 hm3 ⊢
        generalize A = A2 at HO2 ⊢
        generalize c = c2 at HO2 ⊢
        generalize bs = bs2 at HO2 HB2 HF
        generalize k = k2 at HO2 HB2 hk2 ⊢
        go_wp2_with fail
        have HR0 := Lib.hid (RevAt.zero bs2)
        have hlen2 : k2 ≤ 21 := by omega
        go_loopw [6, 7] (fun iv jv wr => ∃ (i : Nat) (j : Int) (zs : List UInt8), iv = .int .i64 i ∧ jv = .int .i64 j ∧ (i : Int) + j + 1 = (k2 : Int) ∧ Hid (RevAt bs2 i zs) ∧ Hid (wr.ownsRow w.heap.size 5 1 (.slice A2 k2 c2) k2 (bys zs)) ∧ Mid 0 0 w wr) (fun _ jv _ => (intOf jv).toNat)
        case atStart => exact ⟨0, (k2 : Int) - 1, bs2, rfl, by first | rfl | go_num, by omega, HR0, HO2, hm3⟩
        case round =>
          clear HR0 HO2 hm3
          obtain ⟨wp, hwp⟩ : ∃ wp, wp = wr := ⟨_, rfl⟩
          subst hwp
          obtain ⟨i, j, zs, rfl, rfl, hij, HRV, HO, hm⟩ := hrel
          by_cases hlt : (i : Int) < j
          · obtain ⟨jn, rfl⟩ : ∃ n : Nat, j = n := ⟨j.toNat, by omega⟩
            have hzl : zs.length = k2 := by rw [HRV.out.1]; exact HB2.out
            obtain ⟨x, hx⟩ := get_of_lt zs (show i < zs.length by omega)
            obtain ⟨y, hy⟩ := get_of_lt zs (show jn < zs.length by omega)
            obtain ⟨g, rfl, hg1, hg2⟩ := owns_addr HO.out (show 0 < k2 by omega)
            have hca := (HO.out.cellAt i (by omega)).trans (by rw [bys_get, hx]; rfl : (bys zs)[i]? = some (.int .u8 x.toNat))
            have hcb := (HO.out.cellAt jn (by omega)).trans (by rw [bys_get, hy]; rfl : (bys zs)[jn]? = some (.int .u8 y.toNat))
            have hfa := HO.out.frozenAt i
            have hfb := HO.out.frozenAt jn
            have hne : (wp.setCell ⟨g, i, none⟩ (.int .u8 y.toNat)).frozen? ⟨g, jn, none⟩ = false := by rw [World.frozen?_setCell]; exact hfb
            have hs1 := owns_set HO.out i (.int .u8 y.toNat) rfl
            have hcu := (hs1.cellAt jn (by omega)).trans (by rw [List.getElem?_set_ne (by omega), bys_get, hy]; rfl : ((bys zs).set i (.int .u8 y.toNat))[jn]? = some (.int .u8 y.toNat))
            have hs2 := owns_set hs1 jn (.int .u8 x.toNat) (ys := bys ((zs.set i y).set jn x)) (by simp [bys, List.map_set])
            have HS2 := Lib.hid hs2
            have HRV2 := Lib.hid (HRV.out.step (by omega) (by rw [HB2.out]; omega) hx hy)
            have hmA := Mid.setCell wp (lo := w.heap.size) (hi := g + 1) (p := ⟨g, i, none⟩) (.int .u8 y.toNat) hg1 (Nat.lt_succ_self _)
            have hmB := Mid.setCell (wp.setCell ⟨g, i, none⟩ (.int .u8 y.toNat)) (lo := w.heap.size) (hi := g + 1) (p := ⟨g, jn, none⟩) (.int .u8 x.toNat) hg1 (Nat.lt_succ_self _)
            have hm4 := (hm.transNew hmA (Or.inl (Nat.le_refl _))).transNew hmB (Or.inl (Nat.le_refl _))
            have hi0 : (0 : Int) ≤ (i : Int) := by omega
            have hi1 : (i : Int) < (k2 : Int) := by omega
            have hj0 : (0 : Int) ≤ (jn : Int) := by omega
            have hj1 : (jn : Int) < (k2 : Int) := by omega
            have hwj : wrap64 ((jn : Int) - 1) = (jn : Int) - 1 := IntWalk.wrap64_in _ (by omega)
            clear hx hy hs1 hs2 hmA hmB hm HRV hzl
            go_wp2_with fail
            go_region
            go_wp2_with fail
            go_roundw
            case rel => exact ⟨i + 1, (jn : Int) - 1, (zs.set i y).set jn x, by go_num, rfl, by omega, HRV2, HS2.out, hm4.trans (Mid.drew1 _)⟩
            case measure => simp [intOf]; omega
          · have hres := HRV.out.done (by rw [HB2.out]; omega)
            rw [HF.out] at hres
            have hz := hres
            have hzl : zs.length = k2 := by rw [HRV.out.1]; exact HB2.out
            obtain ⟨g, rfl, hg1, hg2⟩ := owns_addr HO.out (show 0 < k2 by omega)
            have hcv := run_convert_bytes_back (P := Try.prog) wp 112 9 5 ⟨g, 0, none⟩ c2 zs undSU undU undStr (fun q hq => by
              have h := (HO.out.cellAt q (by omega)).trans (by rw [bys_get, List.getElem?_eq_getElem hq]; rfl : (bys zs)[q]? = some (.int .u8 (zs[q]).toNat))
              rw [Addr.add_lit, Nat.zero_add]
              exact h)
            rw [hzl, hz] at hcv
            clear hres hz hzl HO HRV
            go_wp2_with fail
            go_ret
            exact ⟨rfl, hm⟩
    · have dz : (mi == 0) = false := by simp [hz]
      obtain ⟨q, hq⟩ : ∃ q, mi.natAbs % 10 = q := ⟨_, rfl⟩
      have hq10 : q < 10 := by rw [← hq]; exact Nat.mod_lt _ (by omega)
      have ht : (mi.tmod 10).natAbs = q := by rw [Int.natAbs_tmod, ← hq]; rfl
      have hdv : (mi.tdiv 10).natAbs = mi.natAbs / 10 := by rw [Int.natAbs_tdiv]; rfl
      have e2 : wrap64 (48 + (q : Int)) = 48 + (q : Int) := IntWalk.wrap64_in _ (by omega)
      have e3 : (48 + (q : Int)) % 256 = 48 + (q : Int) := by omega
      have e4 : wrap64 (mi.tdiv 10) = mi.tdiv 10 := IntWalk.wrap64_in _ (by omega)
      have hu : Value.int .u8 (48 + (q : Int)) = .int .u8 (UInt8.ofNat (48 + mi.natAbs % 10)).toNat := by rw [digit_u8, hq]
      have HU := Lib.hid hu
      have HQ2 : Hid ((bs ++ [UInt8.ofNat (48 + mi.natAbs % 10)]) ++ dbytes (mi.tdiv 10).natAbs = dbytes n.natAbs) := Lib.hid (by
        have h := HQ.out
        rw [dbytes_pos (show 0 < mi.natAbs by omega)] at h
        rw [List.append_assoc, hdv]
        exact h)
      have HB2 : Hid ((bs ++ [UInt8.ofNat (48 + mi.natAbs % 10)]).length = k + 1) := Lib.hid (by rw [List.length_append, HB.out]; rfl)
      have hmes : (mi.tdiv 10).natAbs < mi.natAbs := by omega
      have hrg : -9223372036854775808 ≤ mi.tdiv 10 ∧ mi.tdiv 10 ≤ 9223372036854775807 := by omega
      have HRG := Lib.hid hrg
      have HMES := Lib.hid hmes
      clear hq hdv hu HQ hrg hmes
      by_cases hd : mi.tmod 10 < 0
      · have e1 : wrap64 (-mi.tmod 10) = (q : Int) := by rw [IntWalk.wrap64_in _ (by omega)]; omega
        clear ht
        go_wp2_with (at_builtin; refine MarkerS.to ?_)
        unfold MarkerS
        refine wpList_pushU rfl _ _ rfl w.heap.size A k c bs rfl HO.out (UInt8.ofNat (48 + mi.natAbs % 10)) _ HU.out rfl (by omega) hm.size ?_
        intro A2 c2 w2 ho2 hm2'
        have HO2 := Lib.hid ho2
        have hm3 := hm.transNew hm2' (Or.inl (Nat.le_refl _))
        clear ho2 hm2' HO hm HB HU
        go_wp2_with fail
        go_roundw
        case rel => exact ⟨mi.tdiv 10, k + 1, _, A2, c2, rfl, rfl, HRG.out.1, HRG.out.2, HB2, HQ2, HO2, hm3⟩
        case measure => exact HMES.out
      · have e1 : mi.tmod 10 = (q : Int) := by omega
        have hq0 : ¬ ((q : Int) < 0) := by omega
        clear ht hd
        go_wp2_with (at_builtin; refine MarkerS.to ?_)
        unfold MarkerS
        refine wpList_pushU rfl _ _ rfl w.heap.size A k c bs rfl HO.out (UInt8.ofNat (48 + mi.natAbs % 10)) _ HU.out rfl (by omega) hm.size ?_
        intro A2 c2 w2 ho2 hm2'
        have HO2 := Lib.hid ho2
        have hm3 := hm.transNew hm2' (Or.inl (Nat.le_refl _))
        clear ho2 hm2' HO hm HB HU
        go_wp2_with fail
        go_roundw
        case rel => exact ⟨mi.tdiv 10, k + 1, _, A2, c2, rfl, rfl, HRG.out.1, HRG.out.2, HB2, HQ2, HO2, hm3⟩
        case measure => exact HMES.out
set_option maxHeartbeats 3200000 in
set_option maxRecDepth 100000 in
theorem spec_FormatInt (n : Int) (w : World) (h1 : -9223372036854775808 ≤ n) (h2 : n ≤ 9223372036854775807) :
    Calls Try.prog 59 #[.int .i64 n] w fun e w' => e = .returned (.string (str (fmtI n))) ∧ Mid 0 0 w w' := by
  by_cases hn0 : n = 0
  · subst hn0
    go_enter Try.func59, Try.ntmps59
    go_wp2_with fail
    go_ret
    exact ⟨rfl, Mid.refl _ _ _⟩
  have d0 : (n == 0) = false := by simp [hn0]
  obtain ⟨ng, hng⟩ : ∃ ng, decide (n < 0) = ng := ⟨_, rfl⟩
  have HNG := Lib.hid hng
  have HQ0 : Hid ((dbytes n.natAbs).reverse ++ ([] : List UInt8) = (dbytes n.natAbs).reverse) := Lib.hid (by simp)
  go_enter Try.func59, Try.ntmps59
  go_wp2_with fail
  clear hng
  go_loopw [0, 3] (fun mv ov wr => ∃ (mi : Int) (s : ByteArray) (l : List UInt8), mv = .int .i64 mi ∧ ov = .string s ∧ -9223372036854775808 ≤ mi ∧ mi ≤ 9223372036854775807 ∧ Hid (s = str l) ∧ Hid ((dbytes mi.natAbs).reverse ++ l = (dbytes n.natAbs).reverse) ∧ Mid 0 0 w wr) (fun mv _ _ => (intOf mv).natAbs)
  case atStart => exact ⟨n, ⟨#[]⟩, [], rfl, rfl, h1, h2, Lib.hid rfl, HQ0, Mid.refl _ _ _⟩
  case round =>
    clear HQ0
    obtain ⟨wo, hwo⟩ : ∃ wo, wo = wr := ⟨_, rfl⟩
    subst hwo
    obtain ⟨mi, s, l, rfl, rfl, hm1, hm2, HS, HQ, hm⟩ := hrel
    have hsl : l.length ≤ 20 := by
      have e1 := congrArg List.length HQ.out
      have e2 := dbytes_len (n := n.natAbs) (by omega)
      rw [List.length_append, List.length_reverse, List.length_reverse] at e1
      omega
    have hss : s.size ≤ 20 := by rw [HS.out, str_size]; exact hsl
    by_cases hz : mi = 0
    · subst hz
      have dz : ((0 : Int) == 0) = true := rfl
      have hl : l = (dbytes n.natAbs).reverse := by
        have h := HQ.out
        rw [show (0 : Int).natAbs = 0 from rfl, dbytes_zero, List.reverse_nil, List.nil_append] at h
        exact h
      cases ng with
      | true =>
        have hng := HNG.out
        have hneg : n < 0 := by simpa using hng
        have hres : (⟨#[45]⟩ : ByteArray) ++ s = str (fmtI n) := by
          rw [HS.out, hl, fmtI, if_neg hn0, if_pos hneg]
          exact str_app [45] _
        have hsz2 : (⟨#[45]⟩ : ByteArray).size + s.size ≤ 9223372036854775807 := by
          have : (⟨#[45]⟩ : ByteArray).size = 1 := rfl
          omega
        clear hng
        go_wp2_with fail
        go_ret
        exact ⟨rfl, hm⟩
      | false =>
        have hng := HNG.out
        have hneg : ¬ n < 0 := by simpa using hng
        have hres : s = str (fmtI n) := by
          rw [HS.out, hl, fmtI, if_neg hn0, if_neg hneg]
          rfl
        subst hres
        clear hng
        go_wp2_with fail
        go_ret
        exact ⟨rfl, hm⟩
    · have dz : (mi == 0) = false := by simp [hz]
      obtain ⟨q, hq⟩ : ∃ q, mi.natAbs % 10 = q := ⟨_, rfl⟩
      have hq10 : q < 10 := by rw [← hq]; exact Nat.mod_lt _ (by omega)
      have ht : (mi.tmod 10).natAbs = q := by rw [Int.natAbs_tmod, ← hq]; rfl
      have hdv : (mi.tdiv 10).natAbs = mi.natAbs / 10 := by rw [Int.natAbs_tdiv]; rfl
      have e2 : wrap64 (48 + (q : Int)) = 48 + (q : Int) := IntWalk.wrap64_in _ (by omega)
      have e3 : (48 + (q : Int)) % 256 = 48 + (q : Int) := by omega
      have e4 : wrap64 (mi.tdiv 10) = mi.tdiv 10 := IntWalk.wrap64_in _ (by omega)
      obtain ⟨S1, hS1⟩ : ∃ S1, S1 = str [UInt8.ofNat (48 + mi.natAbs % 10)] := ⟨_, rfl⟩
      have hcv := run_convert_bytes_back (P := Try.prog) (wo.alloc (.cells #[.int .u8 (48 + (q : Int))] 5)) 112 9 5 ⟨wo.heap.size, 0, none⟩ 1 [UInt8.ofNat (48 + mi.natAbs % 10)] undSU undU undStr (fun k hk => by
        have hk0 : k = 0 := by simpa using hk
        subst hk0
        rw [Addr.add_lit, World.cell?_alloc_new]
        simp only [List.getElem_cons_zero]
        rw [digit_u8, hq]
        rfl)
      have hS1' : ({ data := [UInt8.ofNat (48 + mi.natAbs % 10)].toArray } : ByteArray) = S1 := hS1.symm
      rw [hS1'] at hcv
      have hcv2 : (convert 112 9 (.slice (some ⟨wo.heap.size, 0, none⟩) 1 1)).run Try.prog (wo.alloc (.cells #[.int .u8 (48 + (q : Int))] 5)) = .ok (.string S1) (wo.alloc (.cells #[.int .u8 (48 + (q : Int))] 5)) := hcv
      have hs1 : S1.size = 1 := by rw [hS1, str_size]; rfl
      have hsz2 : S1.size + s.size ≤ 9223372036854775807 := by omega
      have HS2 : Hid (S1 ++ s = str (UInt8.ofNat (48 + mi.natAbs % 10) :: l)) := Lib.hid (by rw [hS1, HS.out, str_app]; rfl)
      have HQ2 : Hid ((dbytes (mi.tdiv 10).natAbs).reverse ++ (UInt8.ofNat (48 + mi.natAbs % 10) :: l) = (dbytes n.natAbs).reverse) := Lib.hid (by
        have h := HQ.out
        rw [dbytes_pos (show 0 < mi.natAbs by omega), List.reverse_cons, List.append_assoc] at h
        rw [hdv]
        exact h)
      have hmes : (mi.tdiv 10).natAbs < mi.natAbs := by omega
      have hrg : -9223372036854775808 ≤ mi.tdiv 10 ∧ mi.tdiv 10 ≤ 9223372036854775807 := by omega
      have HRG := Lib.hid hrg
      have HMES := Lib.hid hmes
      have hal := Mid.alloc wo (.cells #[.int .u8 (48 + (q : Int))] 5)
      have hm3 := hm.trans hal
      clear hq hdv HQ hrg hmes hcv hS1' hs1 hal hm hS1
      by_cases hd : mi.tmod 10 < 0
      · have e1 : wrap64 (-mi.tmod 10) = (q : Int) := by rw [IntWalk.wrap64_in _ (by omega)]; omega
        clear ht
        go_wp2_with fail
        go_roundw
        case rel => exact ⟨mi.tdiv 10, S1 ++ s, _, rfl, rfl, HRG.out.1, HRG.out.2, HS2, HQ2, hm3⟩
        case measure => exact HMES.out
      · have e1 : mi.tmod 10 = (q : Int) := by omega
        have hq0 : ¬ ((q : Int) < 0) := by omega
        clear ht hd
        go_wp2_with fail
        go_roundw
        case rel => exact ⟨mi.tdiv 10, S1 ++ s, _, rfl, rfl, HRG.out.1, HRG.out.2, HS2, HQ2, hm3⟩
        case measure => exact HMES.out
end Go.Proofs.Ytimmnnncgnnkgaa

/- Contracts: equality of words and of lists of words; words of a rank. -/
namespace Go.Proofs.Ytimmnnncgnnkgaa
set_option linter.unusedVariables false
set_option linter.unusedSimpArgs false
open Go.RowKit

end Go.Proofs.Ytimmnnncgnnkgaa

/- Contracts: equality of lists of words. -/
namespace Go.Proofs.Ytimmnnncgnnkgaa
set_option linter.unusedVariables false
set_option linter.unusedSimpArgs false
open Go.RowKit

end Go.Proofs.Ytimmnnncgnnkgaa

/- Plain words on letters and words: inverse letters, the orders of letters and words, reduction. -/
namespace Go.Proofs.Ytimmnnncgnnkgaa
set_option linter.unusedVariables false
set_option linter.unusedSimpArgs false

/-- The least int. -/
def minI : Int := -9223372036854775808
/-- Two letters are inverse to each other. -/
def invB (a b : Int) : Bool := decide (a ≠ 0 ∧ a ≠ minI ∧ b = -a)
/-- A word of a rank. -/
def letB (rank x : Int) : Bool := decide (x ≠ 0 ∧ -rank ≤ x ∧ x ≤ rank)
def WordP (rank : Int) (w : List Int) : Prop :=
  (∀ x ∈ w, x ≠ 0 ∧ -rank ≤ x ∧ x ≤ rank) ∧ (∀ k x y, w[k]? = some x → w[k + 1]? = some y → y ≠ -x)
def IsW (rank : Int) (w : List Int) : Prop := 1 ≤ rank ∧ rank ≤ 3 ∧ w.length ≤ 24 ∧ WordP rank w

/-- -1, 0 or 1 -/
def cmpI (a b : Int) : Int := if a < b then -1 else if b < a then 1 else 0
def absI (a : Int) : Int := if a < 0 then -a else a
/-- The order of letters: 0, 1, -1, 2, -2, .., the least int last. -/
def cmpL (a b : Int) : Int :=
  if a = b then 0 else if a = minI then 1 else if b = minI then -1
  else if absI a < absI b then -1 else if absI b < absI a then 1 else if b < a then -1 else 1
/-- Letter by letter. -/
def cmpLs : List Int → List Int → Int
  | a :: x, b :: y => if cmpL a b = 0 then cmpLs x y else cmpL a b
  | _, _ => 0
/-- The order of words. -/
def cmpW (a b : List Int) : Int := if a.length < b.length then -1 else if b.length < a.length then 1 else cmpLs a b
/-- The negative of a letter as an int; the least int is its own. -/
def negI (x : Int) : Int := if x = minI then minI else -x
def invW (w : List Int) : List Int := (w.map negI).reverse
/-- One step of the reduction. -/
def redStep (out : List Int) (x : Int) : List Int :=
  match out.getLast? with
  | some a => if invB a x then out.dropLast else out ++ [x]
  | none => [x]
def red (out w : List Int) : List Int := w.foldl redStep out
end Go.Proofs.Ytimmnnncgnnkgaa

/- Contracts: letters and words of a rank. -/
namespace Go.Proofs.Ytimmnnncgnnkgaa
set_option linter.unusedVariables false
set_option linter.unusedSimpArgs false
open Go.RowKit

end Go.Proofs.Ytimmnnncgnnkgaa

/- Contracts: the orders of letters and words. -/
namespace Go.Proofs.Ytimmnnncgnnkgaa
set_option linter.unusedVariables false
set_option linter.unusedSimpArgs false
open Go.RowKit

/-! ### the order of words -/
end Go.Proofs.Ytimmnnncgnnkgaa

/- InvertWord of the program; the halves of CompareNielsen. -/
namespace Go.Proofs.Ytimmnnncgnnkgaa
set_option linter.unusedVariables false
set_option linter.unusedSimpArgs false
open Go.RowKit

/-! ### the halves -/
def halfN (xs : List Int) : Nat := (xs.length + 1) / 2
def halfA (xs : List Int) : List Int := xs.take (halfN xs)
def halfB (xs : List Int) : List Int := (invW xs).take (halfN xs)
def halves (xs : List Int) : List Int × List Int := if 0 < cmpW (halfA xs) (halfB xs) then (halfB xs, halfA xs) else (halfA xs, halfB xs)
/-- What both give back. -/
def RetHalves (xs : List Int) (w : World) (e : Ending) (w' : World) : Prop :=
  ∃ A c A' c', e = .returned (.tuple #[.slice A (halfN xs) c, .slice A' (halfN xs) c']) ∧ Rs w' w'.heap.size A (ints (halves xs).1) ∧ Rs w' w'.heap.size A' (ints (halves xs).2) ∧ Mid 0 0 w w'

end Go.Proofs.Ytimmnnncgnnkgaa

/- Objects of the laws with the blocks they lie in: int slices. Each step of a law leaves a 'Mid'. -/
namespace Go.Proofs.Ytimmnnncgnnkgaa
set_option linter.unusedVariables false
set_option linter.unusedSimpArgs false
open Go.RowKit

/-! ### int slices -/
def RI (w : World) (lo hi : Nat) (A : Option Addr) (xs : List Int) : Prop := RV w lo hi A (ints xs)
def OI (w : World) (lo hi : Nat) (A : Option Addr) (c : Nat) (xs : List Int) : Prop := OV w lo hi 3 1 A c xs.length (ints xs)
theorem RI.mid {w w' : World} {lo hi a b : Nat} {A : Option Addr} {xs : List Int} (h : RI w lo hi A xs) (m : Mid a b w w') (hd : b ≤ lo ∨ hi ≤ a) : RI w' lo hi A xs := RV.mid h m hd
theorem OI.mid {w w' : World} {lo hi a b : Nat} {A : Option Addr} {c : Nat} {xs : List Int} (h : OI w lo hi A c xs) (m : Mid a b w w') (hd : b ≤ lo ∨ hi ≤ a) : OI w' lo hi A c xs := OV.mid h m hd
theorem RI.size {w : World} {lo hi : Nat} {A : Option Addr} {xs : List Int} (h : RI w lo hi A xs) : hi ≤ w.heap.size := h.1
theorem OI.size {w : World} {lo hi : Nat} {A : Option Addr} {c : Nat} {xs : List Int} (h : OI w lo hi A c xs) : hi ≤ w.heap.size := h.1
theorem RI.rs {w : World} {lo hi : Nat} {A : Option Addr} {xs : List Int} (h : RI w lo hi A xs) : Rs w w.heap.size A (ints xs) := (RV.rs h).more h.1

/-- What a step leaves: the value, and that no block that was there has turned. -/
abbrev Stp (v : Value) (w : World) (e : Ending) (w' : World) : Prop := e = .returned v ∧ Mid 0 0 w w'
abbrev StpI (xs : List Int) (w : World) (e : Ending) (w' : World) : Prop := ∃ A c, e = .returned (.slice A xs.length c) ∧ OI w' w.heap.size w'.heap.size A c xs ∧ Mid 0 0 w w'
end Go.Proofs.Ytimmnnncgnnkgaa

/- Opening of arguments that came in: an int slice reads as a list. -/
namespace Go.Proofs.Ytimmnnncgnnkgaa
set_option linter.unusedVariables false
set_option linter.unusedSimpArgs false
open Go.ChangeShapes Go.WideShapes Go.ChangeAt Go.RowKit
open Go.Joins

section
variable {H : Type} {enc : TypeId × Value → H} {P : Program} {W : World} {T E : TypeId}
theorem wf_bounds {n : Int} (h : (Lit.int .i64 n).wf = true) : -9223372036854775808 ≤ n ∧ n ≤ 9223372036854775807 := bounds_i64 h

/-- Every number of every row fits an int, and every length is one that there can be. -/
def OkSS (xss : List (List Int)) : Prop := (xss.length ≤ 9223372036854775807 ∧ ∀ xs ∈ xss, xs.length ≤ 9223372036854775807) ∧ ∀ xs ∈ xss, OkI xs

end
end Go.Proofs.Ytimmnnncgnnkgaa

/- CompareNielsen, both sides, and in the laws' words. -/
namespace Go.Proofs.Ytimmnnncgnnkgaa
set_option linter.unusedVariables false
set_option linter.unusedSimpArgs false
open Go.RowKit

/-- The order of Nielsen's lists on words. -/
def cmpN (a b : List Int) : Int := if a.length < b.length then -1 else if b.length < a.length then 1 else if cmpW (halves a).1 (halves b).1 = 0 then cmpW (halves a).2 (halves b).2 else cmpW (halves a).1 (halves b).1


def CompareNielsenIs (a b : List Int) (res : Int) : Prop := cmpN a b = res
theorem OI.cap {w : World} {lo hi : Nat} {A : Option Addr} {c : Nat} {xs : List Int} (h : OI w lo hi A c xs) : xs.length ≤ c := by
  obtain ⟨A', c', he, hn, -⟩ := owns_shape h.2.1
  injection he with _ _ hc
  omega

end Go.Proofs.Ytimmnnncgnnkgaa

/- Plain: Nielsen moves on lists of words. -/
namespace Go.Proofs.Ytimmnnncgnnkgaa
set_option linter.unusedVariables false
set_option linter.unusedSimpArgs false
open Go.RowKit

/-- A move. -/
structure Mv where
  kind : Int
  i : Int
  j : Int
  sign : Int
deriving DecidableEq
def Mv.v (m : Mv) : Value := .agg #[.int .i64 m.kind, .int .i64 m.i, .int .i64 m.j, .int .i64 m.sign]
/-- The row at a place. -/
def rowAt (l : List (List Int)) (i : Int) : List Int := l.getD i.toNat []
/-- Is the second place of a move good? -/
def MvOk (l : List (List Int)) (m : Mv) : Prop := 0 ≤ m.j ∧ m.j < l.length ∧ m.j ≠ m.i ∧ (m.sign = 1 ∨ m.sign = -1)
instance (l : List (List Int)) (m : Mv) : Decidable (MvOk l m) := by unfold MvOk; infer_instance
/-- The other word of a move. -/
def mvWord (l : List (List Int)) (m : Mv) : List Int := if m.sign < 0 then invW (rowAt l m.j) else rowAt l m.j
def applyM (l : List (List Int)) (m : Mv) : List (List Int) × Bool :=
  if ¬ (0 ≤ m.i ∧ m.i < l.length) then (l, false)
  else if m.kind = 1 then (l.set m.i.toNat (invW (rowAt l m.i)), true)
  else if m.kind = 4 then (if 0 < (rowAt l m.i).length then (l, false) else (l.eraseIdx m.i.toNat, true))
  else if ¬ MvOk l m then (l, false)
  else if m.kind = 2 then (l.set m.i.toNat (red [] (rowAt l m.i ++ mvWord l m)), true)
  else if m.kind = 3 then (l.set m.i.toNat (red [] (mvWord l m ++ rowAt l m.i)), true)
  else (l, false)

/-! ### the next move -/
/-- The four moves of a pair, in order. -/
def mvOf (i k n : Nat) : Mv := ⟨2 + (n : Int) / 2, i, k, 1 - 2 * ((n : Int) % 2)⟩
def mvTry (l : List (List Int)) (i k n : Nat) : Bool :=
  (applyM l (mvOf i k n)).2 && decide (cmpN (rowAt (applyM l (mvOf i k n)).1 i) (rowAt l i) < 0)
def tryN (l : List (List Int)) (i k n : Nat) : Option Mv := if mvTry l i k n then some (mvOf i k n) else none
def tryK (l : List (List Int)) (i k : Nat) : Option Mv := (List.range 4).findSome? (tryN l i k)
def tryI (l : List (List Int)) (i : Nat) : Option Mv := (List.range l.length).findSome? (tryK l i)
def tryD (l : List (List Int)) (i : Nat) : Option Mv := if (rowAt l i).length = 0 then some ⟨4, i, 0, 0⟩ else none
def nextM (l : List (List Int)) : Option Mv :=
  ((List.range l.length).findSome? (tryD l)).or ((List.range l.length).findSome? (tryI l))
end Go.Proofs.Ytimmnnncgnnkgaa

/- Reduction, in plain Lean; a row cut at its end. -/
namespace Go.Proofs.Ytimmnnncgnnkgaa
set_option linter.unusedVariables false
open Go.RowKit

end Go.Proofs.Ytimmnnncgnnkgaa

/- product of the program. -/
namespace Go.Proofs.Ytimmnnncgnnkgaa
set_option linter.unusedVariables false
set_option linter.unusedSimpArgs false
open Go.RowKit

/-- What holds of the product's list. -/
def PrOut (w wr : World) (v : Value) (out : List Int) : Prop := wr.ownsRow w.heap.size 3 1 v out.length (ints out) ∧ Below w.heap.size w wr
end Go.Proofs.Ytimmnnncgnnkgaa

/- ReduceLetters and MultiplyWords of the reference. -/
namespace Go.Proofs.Ytimmnnncgnnkgaa
set_option linter.unusedVariables false
set_option linter.unusedSimpArgs false
open Go.RowKit

/-- What holds of the list so far. -/
def RdOut (w wr : World) (v : Value) (out : List Int) : Prop := wr.ownsRow w.heap.size 3 1 v out.length (ints out) ∧ Below w.heap.size w wr
end Go.Proofs.Ytimmnnncgnnkgaa

/- Copies of lists of words: copyLists, l20Copy. -/
namespace Go.Proofs.Ytimmnnncgnnkgaa
set_option linter.unusedVariables false
set_option linter.unusedSimpArgs false
open Go.RowKit

end Go.Proofs.Ytimmnnncgnnkgaa

/- ApplyMove, both sides. -/
namespace Go.Proofs.Ytimmnnncgnnkgaa
set_option linter.unusedVariables false
set_option linter.unusedSimpArgs false
open Go.RowKit

/-- What ApplyMove hands back. -/
abbrev RetMv (d : List (List Int)) (m : Mv) (w : World) (e : Ending) (w' : World) : Prop :=
  ∃ A c, e = .returned (.tuple #[.slice A (applyM d m).1.length c, .bool (applyM d m).2]) ∧ OSS w' w.heap.size w'.heap.size 37 3 A c (applyM d m).1 ∧ Mid 0 0 w w'
theorem RetMv.mk {d ys : List (List Int)} {m : Mv} {b : Bool} {w w' : World} {A : Option Addr} {c n : Nat} (he : applyM d m = (ys, b)) (hn : ys.length = n) (ho : OSS w' w.heap.size w'.heap.size 37 3 A c ys) (hm : Mid 0 0 w w') : RetMv d m w (.returned (.tuple #[.slice A n c, .bool b])) w' := by
  subst hn
  refine ⟨A, c, ?_, ?_, hm⟩
  · rw [he]
  · rw [he]; exact ho
theorem OSS.cut {w : World} {lo hi : Nat} {tSI tI : TypeId} {A : Option Addr} {c : Nat} {xss : List (List Int)} (h : OSS w lo hi tSI tI A c xss) : ∃ rows, rowsD rows = xss ∧ w.ownsRow lo tSI 1 (.slice A xss.length c) xss.length (rowsV rows) ∧ (∀ g, Value.ownBlock (.slice A xss.length c) = some g → g < hi) ∧ OwnRows w lo hi tI rows := by
  obtain ⟨_, rows, h1, h2, h3⟩ := h
  exact ⟨rows, h1, h2.2.1, h2.2.2, h3⟩
end Go.Proofs.Ytimmnnncgnnkgaa

/- ApplyMove of the reference: the dropped row. -/
namespace Go.Proofs.Ytimmnnncgnnkgaa
set_option linter.unusedVariables false
set_option linter.unusedSimpArgs false
open Go.RowKit
end Go.Proofs.Ytimmnnncgnnkgaa

/- ApplyMove, impl: bad second places, products. -/
namespace Go.Proofs.Ytimmnnncgnnkgaa
set_option linter.unusedVariables false
set_option linter.unusedSimpArgs false
open Go.RowKit

end Go.Proofs.Ytimmnnncgnnkgaa

/- ApplyMove, spec: bad second places, products. -/
namespace Go.Proofs.Ytimmnnncgnnkgaa
set_option linter.unusedVariables false
set_option linter.unusedSimpArgs false
open Go.RowKit

end Go.Proofs.Ytimmnnncgnnkgaa

/- ApplyMove, both sides, all cases. -/
namespace Go.Proofs.Ytimmnnncgnnkgaa
set_option linter.unusedVariables false
set_option linter.unusedSimpArgs false
open Go.RowKit

end Go.Proofs.Ytimmnnncgnnkgaa

/- Contracts of the laws' helpers on morphisms. -/
namespace Go.Proofs.Ytimmnnncgnnkgaa
set_option linter.unusedVariables false
set_option linter.unusedSimpArgs false
open Go.RowKit

theorem Mid.stored {lo hi : Nat} {a w : World} {p : Addr} (h : Mid lo hi a w) (u : Value) (h1 : lo ≤ p.block) (h2 : p.block < hi) : Mid lo hi a (w.setCell p u) := h.trans (Mid.setCell w u h1 h2)
/-- A morphism's value. -/
def morV (r : Int) (A : Option Addr) (n c : Nat) : Value := .agg #[.int .i64 r, .slice A n c]

/-- A morphism as data. -/
structure Mor where
  rank : Int
  imgs : List (List Int)
def Mor.mark (d : Mor) (q : Int) : Mor := ⟨d.rank, markD q d.imgs⟩

end Go.Proofs.Ytimmnnncgnnkgaa

/- Objects of the laws with the blocks they lie in: slices of slices, morphisms. -/
namespace Go.Proofs.Ytimmnnncgnnkgaa
set_option linter.unusedVariables false
set_option linter.unusedSimpArgs false
open Go.RowKit

theorem OkSS.len {d : List (List Int)} (h : OkSS d) : LenOk d := h.1
theorem szI_case (left : Int) (n : Nat) : szI left n = -1 ∨ ((n : Int) ≤ left ∧ szI left n = left - n) := by
  unfold szI
  split
  · right; exact ⟨by assumption, rfl⟩
  · left; rfl
end Go.Proofs.Ytimmnnncgnnkgaa

/- ApplyMove in the laws' words. -/
namespace Go.Proofs.Ytimmnnncgnnkgaa
set_option linter.unusedVariables false
set_option linter.unusedSimpArgs false
open Go.RowKit

def ApplyMoveIs (d : List (List Int)) (m : Mv) (res : List (List Int)) (b : Bool) : Prop := applyM d m = (res, b)
end Go.Proofs.Ytimmnnncgnnkgaa

/- Lists of words with the rows' capacities. -/
namespace Go.Proofs.Ytimmnnncgnnkgaa
set_option linter.unusedVariables false
set_option linter.unusedSimpArgs false
open Go.RowKit
/-- The slice of slices at A reads xss, and each row has room for what it holds. -/
def RSC (w : World) (lo hi : Nat) (A : Option Addr) (xss : List (List Int)) : Prop :=
  ∃ rows, rowsD rows = xss ∧ RV w lo hi A (rowsV rows) ∧ ∀ r ∈ rows, RV w lo hi r.A (ints r.xs) ∧ r.xs.length ≤ r.c
section
variable {w w' : World} {lo hi a b : Nat} {A : Option Addr} {xss : List (List Int)}
theorem RSC.rss (h : RSC w lo hi A xss) : RSS w lo hi A xss := by
  obtain ⟨rows, h1, h2, h3⟩ := h
  exact ⟨rows, h1, h2, fun r hr => (h3 r hr).1⟩
theorem RSC.size (h : RSC w lo hi A xss) : hi ≤ w.heap.size := h.rss.size
theorem RSC.mid (h : RSC w lo hi A xss) (m : Mid a b w w') (hd : b ≤ lo ∨ hi ≤ a) : RSC w' lo hi A xss := by
  obtain ⟨rows, h1, h2, h3⟩ := h
  exact ⟨rows, h1, h2.mid m hd, fun r hr => ⟨(h3 r hr).1.mid m hd, (h3 r hr).2⟩⟩
theorem owns_cap {e : TypeId} {base size n c : Nat} {xs : List Value} (h : w.ownsRow base e size (.slice A n c) n xs) : n ≤ c := by
  obtain ⟨_, _, e, h1, _⟩ := owns_shape h
  injection e with _ _ e
  omega
theorem RSC.row (h : RSC w lo hi A xss) {k : Nat} (hk : k < xss.length) :
    ∃ b off A' c' xs, A = some ⟨b, off, none⟩ ∧ lo ≤ b ∧ b < hi ∧ xss[k]? = some xs ∧ w.cell? ⟨b, off + k, none⟩ = some (.slice A' xs.length c') ∧ RV w lo hi A' (ints xs) ∧ xs.length ≤ c' := by
  obtain ⟨rows, rfl, h2, h3⟩ := h
  rw [rowsD_len] at hk
  obtain ⟨b, off, e, hb, hb2, hc⟩ := h2.2 (by intro h0; have := congrArg List.length h0; rw [rowsV_len] at this; simp at this; subst this; simp at hk)
  obtain ⟨r, hr⟩ := get_of_lt rows hk
  refine ⟨b, off, r.A, r.c, r.xs, e, hb, hb2, by simp [rowsD, hr], hc k _ (by simp [rowsV, hr, Row.v]), (h3 r (List.mem_of_getElem? hr)).1, (h3 r (List.mem_of_getElem? hr)).2⟩
end
end Go.Proofs.Ytimmnnncgnnkgaa

/- Plain: the next move; lists of words with the rows' capacities. -/
namespace Go.Proofs.Ytimmnnncgnnkgaa
set_option linter.unusedVariables false
set_option linter.unusedSimpArgs false
open Go.RowKit

/-- The word of a move of a pair. -/
def mvRes (xs ys : List Int) (n : Nat) : List Int := red [] (if n < 2 then xs ++ (if n % 2 = 1 then invW ys else ys) else (if n % 2 = 1 then invW ys else ys) ++ xs)
def mvD (m : Option Mv) : Mv := m.getD ⟨0, 0, 0, 0⟩

end Go.Proofs.Ytimmnnncgnnkgaa

/- Plain: the run of the reduction; lists of moves as numbers. -/
namespace Go.Proofs.Ytimmnnncgnnkgaa
set_option linter.unusedVariables false
set_option linter.unusedSimpArgs false
open Go.RowKit

/-- At most n moves. -/
def runN : Nat → List (List Int) → List (List Int) × List Mv
  | 0, l => (l, [])
  | n + 1, l => match nextM l with
    | none => (l, [])
    | some m => ((runN n (applyM l m).1).1, m :: (runN n (applyM l m).1).2)
/-- What a move of NextMove does to the sizes. -/
structure Less (d x : List (List Int)) : Prop where
  len : x.length ≤ d.length
  sum : sumL x ≤ sumL d
  ok : (∀ xs ∈ d, OkI xs) → ∀ xs ∈ x, OkI xs
/-! ### lists of moves -/
def mvI (m : Mv) : List Int := [m.kind, m.i, m.j, m.sign]
def mvsI (ms : List Mv) : List Int := (ms.map mvI).flatten
theorem mvsI_len (ms : List Mv) : (mvsI ms).length = ms.length * 4 := by
  induction ms with
  | nil => rfl
  | cons m t ih => simp [mvsI, mvI] at ih ⊢; omega
theorem mvsI_append (a b : List Mv) : mvsI (a ++ b) = mvsI a ++ mvsI b := by simp [mvsI]
theorem mvsI_one (m : Mv) : mvsI [m] = mvI m := by simp [mvsI]
end Go.Proofs.Ytimmnnncgnnkgaa

/- Moves as text, in plain Lean. -/
namespace Go.Proofs.Ytimmnnncgnnkgaa
set_option linter.unusedVariables false
set_option linter.unusedSimpArgs false

theorem mvsI_cons (m : Mv) (t : List Mv) : mvsI (m :: t) = m.kind :: m.i :: m.j :: m.sign :: mvsI t := by simp [mvsI, mvI]
theorem mvsI_at : ∀ {ms : List Mv} {k : Nat} {m : Mv}, ms[k]? = some m → (mvsI ms)[k * 4]? = some m.kind ∧ (mvsI ms)[k * 4 + 1]? = some m.i ∧ (mvsI ms)[k * 4 + 2]? = some m.j ∧ (mvsI ms)[k * 4 + 3]? = some m.sign
  | [], k, m, h => by simp at h
  | x :: t, 0, m, h => by
    simp at h
    subst h
    rw [mvsI_cons]
    exact ⟨rfl, rfl, rfl, rfl⟩
  | x :: t, k + 1, m, h => by
    have := mvsI_at (ms := t) (k := k) (m := m) (by simpa using h)
    rw [mvsI_cons]
    have e1 : (k + 1) * 4 = k * 4 + 1 + 1 + 1 + 1 := by omega
    rw [e1]
    simp only [List.getElem?_cons_succ]
    exact this
def sgB (m : Mv) : List UInt8 := if m.sign < 0 then [45] else [43]
def okMv (m : Mv) : Prop := m.kind = 1 ∨ m.kind = 4 ∨ m.kind = 2 ∨ m.kind = 3
instance (m : Mv) : Decidable (okMv m) := by unfold okMv; infer_instance
def itemMv (m : Mv) : List UInt8 :=
  if m.kind = 1 then [105, 110, 118, 101, 114, 116] ++ fmtI m.i
  else if m.kind = 4 then [100, 114, 111, 112] ++ fmtI m.i
  else if m.kind = 2 then fmtI m.i ++ [42] ++ sgB m ++ fmtI m.j
  else sgB m ++ fmtI m.j ++ [42] ++ fmtI m.i
theorem sgB_len (m : Mv) : (sgB m).length = 1 := by unfold sgB; split <;> rfl
theorem itemMv_ne (m : Mv) : itemMv m ≠ [] := by
  unfold itemMv
  have h1 := fmtI_ne m.i
  split
  · simp
  · split
    · simp
    · split
      · simp [h1]
      · simp [h1]
def In64 (n : Int) : Prop := -9223372036854775808 ≤ n ∧ n ≤ 9223372036854775807
def OkMv (m : Mv) : Prop := In64 m.i ∧ In64 m.j
theorem itemMv_len {m : Mv} (h : OkMv m) : (itemMv m).length ≤ 45 := by
  have h1 := fmtI_len h.1.1 h.1.2
  have h2 := fmtI_len h.2.1 h.2.2
  have h3 := sgB_len m
  unfold itemMv
  split
  · simp; omega
  · split
    · simp; omega
    · split
      · simp; omega
      · simp; omega
/-- Words side by side, sp between. -/
def accB (sp : List UInt8) : List (List UInt8) → List UInt8
  | [] => []
  | x :: t => t.foldl (fun s u => s ++ sp ++ u) x
theorem accB_snoc (sp : List UInt8) (ls : List (List UInt8)) (x : List UInt8) : accB sp (ls ++ [x]) = if ls = [] then x else accB sp ls ++ sp ++ x := by
  cases ls with
  | nil => simp [accB]
  | cons y t => simp [accB, List.foldl_append]
theorem accB_foldl_len (sp : List UInt8) (B : Nat) : ∀ (t : List (List UInt8)) (s : List UInt8), (∀ x ∈ t, x.length ≤ B) → (t.foldl (fun s u => s ++ sp ++ u) s).length ≤ s.length + t.length * (B + sp.length)
  | [], s, _ => by simp
  | x :: t, s, h => by
    have h1 := accB_foldl_len sp B t (s ++ sp ++ x) fun y hy => h y (by simp [hy])
    have h2 := h x (by simp)
    rw [List.foldl_cons, List.length_cons, Nat.add_mul]
    simp only [List.length_append] at h1
    omega
theorem accB_len (sp : List UInt8) (B : Nat) (ls : List (List UInt8)) (h : ∀ x ∈ ls, x.length ≤ B) : (accB sp ls).length ≤ ls.length * (B + sp.length) := by
  cases ls with
  | nil => simp [accB]
  | cons x t =>
    have h1 := accB_foldl_len sp B t x fun y hy => h y (by simp [hy])
    have h2 := h x (by simp)
    rw [accB, List.length_cons, Nat.add_mul]
    omega
theorem accB_foldl_ne (sp : List UInt8) : ∀ (t : List (List UInt8)) (s : List UInt8), s ≠ [] → t.foldl (fun s u => s ++ sp ++ u) s ≠ []
  | [], s, h => h
  | x :: t, s, h => by
    rw [List.foldl_cons]
    exact accB_foldl_ne sp t _ (by simp [h])
theorem accB_ne (sp : List UInt8) (ls : List (List UInt8)) (h0 : ls ≠ []) (h : ∀ x ∈ ls, x ≠ []) : accB sp ls ≠ [] := by
  cases ls with
  | nil => exact absurd rfl h0
  | cons x t => exact accB_foldl_ne sp t x (h x (by simp))
def glueB (sp none : List UInt8) (ls : List (List UInt8)) : List UInt8 := if ls = [] then none else accB sp ls
def fmtMs (ms : List Mv) : List UInt8 := if (∀ m ∈ ms, okMv m) then glueB [32] [110, 111, 110, 101] (ms.map itemMv) else []
theorem fmtMs_no {ms : List Mv} {k : Nat} {m : Mv} (h : ms[k]? = some m) (hn : ¬ okMv m) : fmtMs ms = [] := by
  unfold fmtMs
  rw [if_neg]
  intro h2
  exact hn (h2 m (List.mem_of_getElem? h))
theorem fmtMs_yes {ms : List Mv} (h : ∀ m ∈ ms, okMv m) : fmtMs ms = glueB [32] [110, 111, 110, 101] (ms.map itemMv) := by
  unfold fmtMs
  rw [if_pos h]
theorem take_ok {ms : List Mv} {k : Nat} {m : Mv} (h : ms[k]? = some m) (hk : ∀ x ∈ ms.take k, okMv x) (hm : okMv m) : ∀ x ∈ ms.take (k + 1), okMv x := by
  obtain ⟨h1, rfl⟩ := List.getElem?_eq_some_iff.1 h
  intro x hx
  rw [List.take_succ_eq_append_getElem h1] at hx
  rcases List.mem_append.1 hx with hx | hx
  · exact hk x hx
  · simp at hx
    subst hx
    exact hm
theorem map_take {ms : List Mv} {k : Nat} {m : Mv} (h : ms[k]? = some m) : (ms.take (k + 1)).map itemMv = (ms.take k).map itemMv ++ [itemMv m] := by
  obtain ⟨h1, rfl⟩ := List.getElem?_eq_some_iff.1 h
  rw [List.take_succ_eq_append_getElem h1, List.map_append]
  rfl
end Go.Proofs.Ytimmnnncgnnkgaa

/- The laws' helpers on slices of Moves. -/
namespace Go.Proofs.Ytimmnnncgnnkgaa
set_option linter.unusedVariables false
set_option linter.unusedSimpArgs false
open Go.RowKit

set_option maxHeartbeats 800000 in
theorem eqMove_ints (x0 x1 x2 x3 : Int) (w : World) :
    Calls Try.prog 63 #[.agg #[.int .i64 x0, .int .i64 x1, .int .i64 x2, .int .i64 x3], .agg #[.int .i64 x0, .int .i64 x1, .int .i64 x2, .int .i64 x3]] w fun e w' => e = .returned (.bool true) ∧ Mid 0 0 w w' := by
  go_enter Try.func63, Try.ntmps63
  go_wp2_with fail
  go_ret
  exact ⟨rfl, (Mid.alloc _ _).trans (Mid.alloc _ _)⟩

/-- The cells of one element of a slice of structs of 4 ints. -/
theorem RV.flat4 {w : World} {lo hi : Nat} {A : Option Addr} {xs : List Int} {n k : Nat} (h : RV w lo hi A (ints xs)) (hl : xs.length = n * 4) (hk : k < n) :
    ∃ b off x0 x1 x2 x3, A = some ⟨b, off, none⟩ ∧ lo ≤ b ∧ b < hi ∧ xs[k * 4 + 0]? = some x0 ∧ xs[k * 4 + 1]? = some x1 ∧ xs[k * 4 + 2]? = some x2 ∧ xs[k * 4 + 3]? = some x3 ∧ w.cell? ⟨b, off + k * 4, none⟩ = some (.int .i64 x0) ∧ w.cell? ⟨b, off + k * 4 + 1, none⟩ = some (.int .i64 x1) ∧ w.cell? ⟨b, off + k * 4 + 2, none⟩ = some (.int .i64 x2) ∧ w.cell? ⟨b, off + k * 4 + 3, none⟩ = some (.int .i64 x3) := by
  obtain ⟨b, off, hA, h1, h2, hc⟩ := h.2 (by intro h0; have := congrArg List.length h0; rw [ints_len] at this; simp at this; subst this; simp at hl; omega)
  obtain ⟨x0, g0⟩ := get_of_lt xs (show k * 4 + 0 < xs.length by omega)
  obtain ⟨x1, g1⟩ := get_of_lt xs (show k * 4 + 1 < xs.length by omega)
  obtain ⟨x2, g2⟩ := get_of_lt xs (show k * 4 + 2 < xs.length by omega)
  obtain ⟨x3, g3⟩ := get_of_lt xs (show k * 4 + 3 < xs.length by omega)
  exact ⟨b, off, x0, x1, x2, x3, hA, h1, h2, g0, g1, g2, g3, hc (k * 4 + 0) _ (by rw [ints_get, g0]; rfl), hc (k * 4 + 1) _ (by rw [ints_get, g1]; rfl), hc (k * 4 + 2) _ (by rw [ints_get, g2]; rfl), hc (k * 4 + 3) _ (by rw [ints_get, g3]; rfl)⟩

set_option maxHeartbeats 1600000 in
theorem eqMoveS_flat (A A' : Option Addr) (xs : List Int) (n c c' : Nat) (w : World) (lo hi lo' hi' : Nat) (hr : RV w lo hi A (ints xs)) (hr' : RV w lo' hi' A' (ints xs)) (hl : xs.length = n * 4) (hn : n ≤ 1048576) :
    Calls Try.prog 27 #[.slice A n c, .slice A' n c'] w (Stp (.bool true) w) := by
  have HL := Lib.hid hl
  clear hl
  go_enter Try.func27, Try.ntmps27
  go_wp2_with fail
  go_loopw [5] (fun i wr => ∃ k : Nat, k ≤ n ∧ i = .int .i64 k ∧ Mid 0 0 w wr) (fun i _ => n - (intOf i).toNat)
  case atStart => exact ⟨0, Nat.zero_le _, rfl, Mid.refl _ _ _⟩
  case round =>
    obtain ⟨k, hk, rfl, hm⟩ := hrel
    by_cases hlt : k < n
    · obtain ⟨b, off, x0, x1, x2, x3, rfl, -, hbh, g0, g1, g2, g3, h0, h1, h2, h3⟩ := (hr.mid hm (Or.inl (Nat.zero_le _))).flat4 HL.out hlt
      obtain ⟨b', off', y0, y1, y2, y3, rfl, -, hbh', q0, q1, q2, q3, p0, p1, p2, p3⟩ := (hr'.mid hm (Or.inl (Nat.zero_le _))).flat4 HL.out hlt
      rw [g0] at q0
      obtain rfl := Option.some.inj q0
      rw [g1] at q1
      obtain rfl := Option.some.inj q1
      rw [g2] at q2
      obtain rfl := Option.some.inj q2
      rw [g3] at q3
      obtain rfl := Option.some.inj q3
      have hs1 : b < wr.heap.size := Nat.lt_of_lt_of_le hbh (Nat.le_trans hr.1 hm.size)
      have hs2 : b' < wr.heap.size := Nat.lt_of_lt_of_le hbh' (Nat.le_trans hr'.1 hm.size)
      have hmd := Mid.drew1 wr
      have hk0 : (0 : Int) ≤ (k : Int) := by omega
      have hkn : (k : Int) < (n : Int) := by omega
      clear g0 g1 g2 g3
      go_wp2_with fail
      go_region_held3 (fun w' => w'.cell? ⟨b, off + k * 4, none⟩ = some (.int .i64 x0) ∧ w'.cell? ⟨b, off + k * 4 + 1, none⟩ = some (.int .i64 x1) ∧ w'.cell? ⟨b, off + k * 4 + 2, none⟩ = some (.int .i64 x2) ∧ w'.cell? ⟨b, off + k * 4 + 3, none⟩ = some (.int .i64 x3) ∧ w'.cell? ⟨b', off' + k * 4, none⟩ = some (.int .i64 x0) ∧ w'.cell? ⟨b', off' + k * 4 + 1, none⟩ = some (.int .i64 x1) ∧ w'.cell? ⟨b', off' + k * 4 + 2, none⟩ = some (.int .i64 x2) ∧ w'.cell? ⟨b', off' + k * 4 + 3, none⟩ = some (.int .i64 x3)) (first | exact ⟨h0, h1, h2, h3, p0, p1, p2, p3⟩ | exact ⟨e0, e1, e2, e3, f0, f1, f2, f3⟩) (first | (go_at_call 63; refine (eqMove_ints x0 x1 x2 x3 _).mono ?_; rintro e w2 ⟨rfl, hm2⟩; have e0 := cell_keep (hmd.trans hm2) hs1 (Or.inr (Nat.zero_le _)) h0; have e1 := cell_keep (hmd.trans hm2) hs1 (Or.inr (Nat.zero_le _)) h1; have e2 := cell_keep (hmd.trans hm2) hs1 (Or.inr (Nat.zero_le _)) h2; have e3 := cell_keep (hmd.trans hm2) hs1 (Or.inr (Nat.zero_le _)) h3; have f0 := cell_keep (hmd.trans hm2) hs2 (Or.inr (Nat.zero_le _)) p0; have f1 := cell_keep (hmd.trans hm2) hs2 (Or.inr (Nat.zero_le _)) p1; have f2 := cell_keep (hmd.trans hm2) hs2 (Or.inr (Nat.zero_le _)) p2; have f3 := cell_keep (hmd.trans hm2) hs2 (Or.inr (Nat.zero_le _)) p3))
      go_wp2_with fail
      go_roundw
      case rel => exact ⟨k + 1, by omega, by go_num, (hm.trans hmd).trans hm2⟩
      case measure => simp [intOf]; omega
    · go_wp2_with fail
      go_ret
      exact ⟨rfl, hm⟩

theorem owns_setK {w : World} {base : Nat} {e : TypeId} {size g n cap : Nat} {xs ys : List Value} (h : w.ownsRow base e size (.slice (some ⟨g, 0, none⟩) n cap) n xs) (j : Nat) (u : Value) (hy : xs.set j u = ys) :
    (w.setCell ⟨g, j, none⟩ u).ownsRow base e size (.slice (some ⟨g, 0, none⟩) n cap) n ys := by
  subst hy
  exact (h.stored j u).1
end Go.Proofs.Ytimmnnncgnnkgaa

/- FormatMoves, both sides. -/
namespace Go.Proofs.Ytimmnnncgnnkgaa
set_option linter.unusedVariables false
set_option linter.unusedSimpArgs false
open Go.RowKit

def strs (ls : List (List UInt8)) : List Value := ls.map fun l => .string (str l)
theorem strs_len (ls : List (List UInt8)) : (strs ls).length = ls.length := by simp [strs]
theorem strs_append (a b : List (List UInt8)) : strs (a ++ b) = strs a ++ strs b := by simp [strs]
theorem strs_get (ls : List (List UInt8)) (k : Nat) : (strs ls)[k]? = (ls[k]?).map fun l => .string (str l) := by simp [strs]
theorem infoStr : (Try.prog.info? 9).map (fun i => (i.zero, i.size, i.bytes)) = some (some (.string ⟨#[]⟩), 1, 16) := by kernel_rfl
theorem undSStr : Try.prog.underlying 93 = some (.slice 9) := by kernel_rfl
section
variable {W : World} {ops : Array Oper} {rest : List Oper} {o : Oper} {a : Act} {Q : Exit → Act → World → Prop}
theorem wpList_pushStr (hgd : o.guard = none) (s x : Operand)
    (ho : o.op = .call { callee := .builtin .append, args := #[s, x], argTypes := #[93, 93] }) (lo : Nat) (A : Option Addr) (n c : Nat) (xs : List (List UInt8)) (hs : a.eval s = .slice A n c)
    (hown : W.ownsRow lo 9 1 (.slice A n c) n (strs xs)) (y : List UInt8) (u : ByteArray) (hu : u = str y) (hx : a.eval x = .slice (some ⟨W.heap.size, 0, none⟩) 1 1) (hn : n ≤ 1048576) (hb : lo ≤ W.heap.size)
    (h : ∀ A' c' w', w'.ownsRow lo 9 1 (.slice A' (n + 1) c') (n + 1) (strs (xs ++ [y])) → Mid lo W.heap.size W w' → wpList Try.prog ops Q rest (a.put o.dst (.slice A' (n + 1) c')) w') :
    wpList Try.prog ops Q (o :: rest) a (W.alloc (.cells #[.string u] 9)) := by
  subst hu
  refine wpList_push (news := [.string (str y)]) hgd s x 93 ho lo 9 (.string ⟨#[]⟩) 1 16 undSStr infoStr rfl (by decide) (.slice A n c) n (strs xs) hs hown 1 hx rfl ?_ (by unfold maxLen; omega) (by omega) hb ?_
  · intro u hu
    simp at hu
    subst hu
    rfl
  · intro v' w' h1 h2 _
    obtain ⟨A', c', rfl, -, -⟩ := owns_shape h1
    refine h A' c' w' ?_ (Mid.of_grownRow hown h2)
    rw [strs_append]
    exact h1
end

set_option maxHeartbeats 1600000 in
set_option maxRecDepth 100000 in
theorem impl_glued (A : Option Addr) (ls : List (List UInt8)) (c : Nat) (sp no : List UInt8) (w : World) (lo hi : Nat) (hr : RV w lo hi A (strs ls)) (hl : ls.length ≤ 1048576) (hc : ls.length ≤ c) (hb : ∀ x ∈ ls, x.length ≤ 1000) (hsp : sp.length ≤ 1000) :
    Calls Try.prog 62 #[.slice A ls.length c, .string (str sp), .string (str no)] w fun e w' => e = .returned (.string (str (glueB sp no ls))) ∧ Mid 0 0 w w' := by
  have HB := Lib.hid hb
  have HSP := Lib.hid hsp
  obtain ⟨spb, hspb⟩ : ∃ s, s = str sp := ⟨_, rfl⟩
  obtain ⟨nob, hnob⟩ : ∃ s, s = str no := ⟨_, rfl⟩
  rw [← hspb, ← hnob]
  have HS := Lib.hid hspb
  have HN := Lib.hid hnob
  have hsps : spb.size ≤ 1000 := by rw [hspb, str_size]; exact hsp
  clear hb hsp hspb hnob
  rcases Nat.eq_zero_or_pos ls.length with h0 | h0
  · have hnil := List.eq_nil_of_length_eq_zero h0
    subst hnil
    have hres : nob = str (glueB sp no []) := HN.out
    rw [← hres]
    clear hres
    go_enter Try.func62, Try.ntmps62
    go_wp2_with fail
    go_ret
    exact ⟨rfl, Mid.refl _ _ _⟩
  obtain ⟨n, hn⟩ : ∃ n, ls.length = n + 1 := ⟨ls.length - 1, by omega⟩
  have HL := Lib.hid hn
  rw [hn]
  obtain ⟨b, off, rfl, hblo, hbhi, hcs⟩ := hr.2 (by intro h; have := congrArg List.length h; rw [strs_len] at this; simp only [List.length_nil] at this; omega)
  obtain ⟨x0, hx0⟩ := get_of_lt ls (show 0 < ls.length by omega)
  have hc0 := hcs 0 (.string (str x0)) (by rw [strs_get, hx0]; rfl)
  obtain ⟨s0, hs0⟩ : ∃ s, s = str x0 := ⟨_, rfl⟩
  rw [← hs0] at hc0
  have HX0 : Hid (s0 = str (accB sp (ls.take (0 + 1)))) := Lib.hid (by
    rw [hs0]
    cases ls with
    | nil => simp at h0
    | cons x t => simp at hx0; subst hx0; rfl)
  have HCS := Lib.hid hcs
  have hbs : b < w.heap.size := Nat.lt_of_lt_of_le hbhi hr.1
  have hcn : n + 1 ≤ c := by omega
  have hcn2 : (1 : Int) ≤ ((n + 1 : Nat) : Int) := by omega
  have hcn3 : ((n + 1 : Nat) : Int) ≤ (c : Int) := by omega
  rw [Nat.add_zero] at hc0
  have HRR := Lib.hid hr
  have hn2 : n ≤ 1048576 := by omega
  clear hx0 hs0 hcs h0 hn hr
  by_cases hc1 : c = 1
  · subst hc1
    obtain rfl : n = 0 := by omega
    go_enter Try.func62, Try.ntmps62
    go_wp2_with fail
    go_loopw [7, 20] (fun sv iv wr => sv = .string s0 ∧ iv = .int .i64 0 ∧ wr = w) (fun _ _ _ => 0)
    case atStart => exact ⟨rfl, rfl, rfl⟩
    case round =>
      obtain ⟨rfl, rfl, rfl⟩ := hrel
      have htk : ls.take (0 + 1) = ls := List.take_of_length_le (by rw [HL.out]; exact Nat.le_refl _)
      have hne : ls ≠ [] := by intro h; have := HL.out; rw [h, List.length_nil] at this; omega
      have hres : s0 = str (glueB sp no ls) := by rw [HX0.out, htk, glueB, if_neg hne]
      have HRES := Lib.hid hres
      clear htk hne hres
      go_wp2_with fail
      go_ret
      exact ⟨by rw [HRES.out]; rfl, Mid.refl _ _ _⟩
  · go_enter Try.func62, Try.ntmps62
    go_wp2_with fail
    go_loopw [7, 20] (fun sv iv wr => ∃ (k : Nat) (s : ByteArray), iv = .int .i64 k ∧ sv = .string s ∧ k ≤ n ∧ Hid (s = str (accB sp (ls.take (k + 1)))) ∧ wr = w) (fun _ iv _ => n - (intOf iv).toNat)
    case atStart => exact ⟨0, s0, rfl, rfl, Nat.zero_le _, HX0, rfl⟩
    case round =>
      clear HX0 hc0
      obtain ⟨k, s, rfl, rfl, hk, HSS, rfl⟩ := hrel
      by_cases hlt : k < n
      · obtain ⟨x, hx⟩ := get_of_lt ls (show k + 1 < ls.length by rw [HL.out]; omega)
        have hcx := HCS.out (k + 1) (.string (str x)) (by rw [strs_get, hx]; rfl)
        obtain ⟨xb, hxb⟩ : ∃ s, s = str x := ⟨_, rfl⟩
        rw [← hxb, ← Nat.add_assoc, Nat.add_right_comm] at hcx
        have hxl : x.length ≤ 1000 := HB.out x (List.mem_of_getElem? hx)
        have hxs : xb.size ≤ 1000 := by rw [hxb, str_size]; exact hxl
        have hss : s.size ≤ 1048576 * 2000 := by
          rw [HSS.out, str_size]
          have h1 := accB_len sp 1000 (ls.take (k + 1)) fun y hy => HB.out y (List.mem_of_mem_take hy)
          have h2 := HSP.out
          have h3 : (ls.take (k + 1)).length ≤ 1048576 := by rw [List.length_take]; omega
          have h4 : (ls.take (k + 1)).length * (1000 + sp.length) ≤ 1048576 * 2000 := Nat.mul_le_mul h3 (by omega)
          omega
        have hz1 : s.size + spb.size ≤ 9223372036854775807 := by omega
        have hz2 : (s ++ spb).size + xb.size ≤ 9223372036854775807 := by rw [ByteArray.size_append]; omega
        have HS2 : Hid (s ++ spb ++ xb = str (accB sp (ls.take (k + 1 + 1)))) := Lib.hid (by
          obtain ⟨h1, h2⟩ := List.getElem?_eq_some_iff.1 hx
          rw [HSS.out, HS.out, hxb, str_app, str_app, List.take_succ_eq_append_getElem h1, h2, accB_snoc, if_neg]
          intro h
          have := congrArg List.length h
          rw [List.length_take, HL.out] at this
          simp only [List.length_nil] at this
          omega)
        have hk0 : (0 : Int) ≤ (k : Int) := by omega
        have hk1 : (k : Int) < (n : Int) := by omega
        clear hx hxb hxl
        go_wp2_with fail
        go_roundw
        case rel =>
          exact ⟨k + 1, s ++ spb ++ xb, by go_num, rfl, by omega, HS2, by trivial⟩
        case measure => simp [intOf]; omega
      · obtain rfl : n = k := by omega
        have htk : ls.take (n + 1) = ls := List.take_of_length_le (by rw [HL.out]; exact Nat.le_refl _)
        have hne : ls ≠ [] := by intro h; have := HL.out; rw [h, List.length_nil] at this; omega
        have hres : s = str (glueB sp no ls) := by rw [HSS.out, htk, glueB, if_neg hne]
        have HRES := Lib.hid hres
        clear htk hne hres
        go_wp2_with fail
        go_ret
        exact ⟨by rw [HRES.out]; rfl, Mid.refl _ _ _⟩
end Go.Proofs.Ytimmnnncgnnkgaa
