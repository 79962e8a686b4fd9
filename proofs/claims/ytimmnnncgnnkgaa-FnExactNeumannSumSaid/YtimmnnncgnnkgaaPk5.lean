/- Contracts and lemmas of this seat, many texts in one: see the words ahead of each. No condition beyond those typed in each lemma. -/
import Derived.Test.YtimmnnncgnnkgaaPk1
import Derived.Test.YtimmnnncgnnkgaaPk3
import Derived.Deep.CutRange
import Derived.Test.YtimmnnncgnnkgaaPk2

/- Plain: the components of a pullback, in order of their first pair. -/
namespace Go.Proofs.Ytimmnnncgnnkgaa
set_option linter.unusedVariables false
set_option linter.unusedSimpArgs false

theorem clash_eq : ∀ {es : List Ed}, (es.Pairwise fun e f => ¬ Clash e f) → ∀ {e f : Ed}, e ∈ es → f ∈ es → Clash e f → e = f
  | [], _, e, f, he, _, _ => by cases he
  | g :: t, h, e, f, he, hf, hc => by
    obtain ⟨h1, h2⟩ := List.pairwise_cons.1 h
    rcases List.mem_cons.1 he with ha | ha
    · rcases List.mem_cons.1 hf with hb | hb
      · rw [ha, hb]
      · rw [ha] at hc
        exact absurd hc (h1 f hb)
    · rcases List.mem_cons.1 hf with hb | hb
      · rw [hb] at hc
        exact absurd hc.symm (h1 e ha)
      · exact clash_eq h2 ha hb hc
theorem nextV_inv {r s : Int} {es : List Ed} (h : IsFol r s es) {v x : Int} (hx : 0 ≤ nextV es v x) : nextV es (nextV es v x) (-x) = v := by
  obtain ⟨e, he, hv⟩ := nextV_edge hx
  generalize nextV es v x = u at hv
  have hu : endOf u (-x) e = some v := by
    rw [endOf_some] at hv ⊢
    rcases hv with ⟨h1, h2, h3, h4⟩ | ⟨h1, h2, h3, h4⟩
    · exact .inr ⟨by omega, by omega, h4, h3⟩
    · exact .inl ⟨by omega, by omega, h4, h3⟩
  have hm : v ∈ ends es u (-x) := mem_ends.2 ⟨e, he, hu⟩
  refine leastI_eq hm fun y hy => ?_
  obtain ⟨f, hf, hy⟩ := mem_ends.1 hy
  rw [endOf_some] at hu hy
  have hc : Clash e f := by unfold Clash; omega
  have := clash_eq h.fol he hf hc
  subst this
  omega
/-- What the edges of the pairs count, less their number. -/
def pbRank (ea eb : List Ed) (r : Nat) (P : PS) : Int := ((pbAll ea eb r P P.length).length : Int) - (P.length : Int) + 1
/-- The place of a pair, u times s' plus v. -/
def pairAt (sb : Nat) (i : Nat) : Int × Int := (((i / sb : Nat) : Int), ((i % sb : Nat) : Int))
def compSt (ea eb : List Ed) (r sb : Nat) : Nat → PS × List Int
  | 0 => ([], [])
  | i + 1 => if pairAt sb i ∈ (compSt ea eb r sb i).1 then compSt ea eb r sb i
    else ((compSt ea eb r sb i).1 ++ pairsOf ea eb (lets r) (pairAt sb i), (compSt ea eb r sb i).2 ++ [pbRank ea eb r (pairsOf ea eb (lets r) (pairAt sb i))])
theorem compSt_in {ea eb : List Ed} {r sb i : Nat} (h : pairAt sb i ∈ (compSt ea eb r sb i).1) : compSt ea eb r sb (i + 1) = compSt ea eb r sb i := by rw [compSt, if_pos h]
theorem compSt_new {ea eb : List Ed} {r sb i : Nat} (h : pairAt sb i ∉ (compSt ea eb r sb i).1) : compSt ea eb r sb (i + 1) = ((compSt ea eb r sb i).1 ++ pairsOf ea eb (lets r) (pairAt sb i), (compSt ea eb r sb i).2 ++ [pbRank ea eb r (pairsOf ea eb (lets r) (pairAt sb i))]) := by rw [compSt, if_neg h]
theorem pairAt_in {sa sb i : Nat} (h : i < sa * sb) : PIn sa sb (pairAt sb i) := by
  have h0 : 0 < sb := by
    rcases Nat.eq_zero_or_pos sb with rfl | h0
    · rw [Nat.mul_zero] at h; omega
    · exact h0
  have h1 := (Nat.div_lt_iff_lt_mul h0).2 h
  have h2 := Nat.mod_lt i h0
  unfold PIn pairAt
  simp only
  generalize i / sb = d at h1
  generalize i % sb = m at h2
  omega
theorem pairAt_code (sb i : Nat) : pcode sb (pairAt sb i) = i := by
  have := Nat.div_add_mod i sb
  unfold pcode pairAt
  simp only
  rw [Int.mul_comm]
  exact_mod_cast this
/-- Closed under the letters' steps. -/
structure SeenOk (ea eb : List Ed) (r : Nat) (sa sb : Int) (st : PS) : Prop where
  cl : PClosed ea eb (lets r) st
  rng : ∀ p ∈ st, PIn sa sb p
theorem neg_lets {r : Nat} {x : Int} (h : x ∈ lets r) : -x ∈ lets r := by
  rw [mem_lets] at h ⊢
  omega
/-- A step out of pairs that are not in a closed set does not lead into it. -/
theorem out_step {ra rb sa sb : Int} {ea eb : List Ed} {r : Nat} {seen : PS} (ha : IsFol ra sa ea) (hb : IsFol rb sb eb) (hc : PClosed ea eb (lets r) seen) {p : Int × Int} {x : Int} (hx : x ∈ lets r) (hp : p ∉ seen)
    (h1 : ¬ nextV ea p.1 x < 0) (h2 : ¬ nextV eb p.2 x < 0) (hin : 0 ≤ p.1 ∧ 0 ≤ p.2) : pbNext ea eb p x ∉ seen := by
  intro hm
  have k1 : nextV ea (nextV ea p.1 x) (-x) = p.1 := nextV_inv ha (by omega)
  have k2 : nextV eb (nextV eb p.2 x) (-x) = p.2 := nextV_inv hb (by omega)
  have := hc _ hm (-x) (neg_lets hx) (by simp only [pbNext, k1]; omega) (by simp only [pbNext, k2]; omega)
  simp only [pbNext, k1, k2] at this
  exact hp this
theorem out_row {ra rb sa sb : Int} {ea eb : List Ed} {r : Nat} {seen : PS} (ha : IsFol ra sa ea) (hb : IsFol rb sb eb) (hc : PClosed ea eb (lets r) seen) {p : Int × Int} (hp : p ∉ seen) (hin : 0 ≤ p.1 ∧ 0 ≤ p.2) :
    ∀ (K : List Int), (∀ x ∈ K, x ∈ lets r) → ∀ {st : PS}, (∀ q ∈ st, q ∉ seen) → ∀ q ∈ pbRow ea eb K p st, q ∉ seen
  | [], _, st, h => h
  | x :: K, hK, st, h => by
    rw [pbRow_cons]
    refine out_row ha hb hc hp hin K (fun y hy => hK y (by simp [hy])) fun q hq => ?_
    unfold pbStep at hq
    split at hq
    · exact h q hq
    · rename_i hcc
      rcases List.mem_append.1 hq with hq | hq
      · exact h q hq
      · simp at hq
        subst hq
        exact out_step ha hb hc (hK x (by simp)) hp (fun h => hcc (.inl h)) (fun h => hcc (.inr (.inl h))) hin
theorem out_st {ra rb sa sb : Int} {ea eb : List Ed} {r : Nat} {seen : PS} (ha : IsFol ra sa ea) (hb : IsFol rb sb eb) (hc : PClosed ea eb (lets r) seen) {p0 : Int × Int} (hp : p0 ∉ seen) (hin : PIn sa sb p0) (i : Nat) : ∀ q ∈ pbSt ea eb (lets r) p0 i, q ∉ seen := by
  induction i with
  | zero => intro q hq; simp [pbSt] at hq; subst hq; exact hp
  | succ i ih =>
    cases h : (pbSt ea eb (lets r) p0 i)[i]? with
    | none =>
      have he : pbSt ea eb (lets r) p0 (i + 1) = pbSt ea eb (lets r) p0 i := by
        show (match (pbSt ea eb (lets r) p0 i)[i]? with | none => pbSt ea eb (lets r) p0 i | some p => pbRow ea eb (lets r) p (pbSt ea eb (lets r) p0 i)) = _
        rw [h]
      rw [he]
      exact ih
    | some p =>
      rw [pbSt_succ h]
      have hm := List.mem_of_getElem? h
      have hr := (pbSt_ok (lets r) ha.gr.all hb.gr.all hin i).rng p hm
      exact out_row ha hb hc (ih p hm) ⟨hr.1, hr.2.2.1⟩ (lets r) (fun x hx => hx) ih
theorem SeenOk.add {ra rb sa sb : Int} {ea eb : List Ed} {r : Nat} {seen : PS} (ha : IsGr ra sa ea) (hb : IsGr rb sb eb) (h : SeenOk ea eb r sa sb seen) {p0 : Int × Int} (hin : PIn sa sb p0) : SeenOk ea eb r sa sb (seen ++ pairsOf ea eb (lets r) p0) := by
  refine ⟨fun p hp x hx h1 h2 => ?_, fun p hp => ?_⟩
  · rcases List.mem_append.1 hp with hp | hp
    · exact List.mem_append_left _ (h.cl p hp x hx h1 h2)
    · exact List.mem_append_right _ (pairs_closed (lets r) ha hb hin p hp x hx h1 h2)
  · rcases List.mem_append.1 hp with hp | hp
    · exact h.rng p hp
    · exact (pairs_ok (lets r) ha.all hb.all hin).rng p hp
theorem compSt_ok {ra rb : Int} {sa sb : Nat} {ea eb : List Ed} {r : Nat} (ha : IsGr ra sa ea) (hb : IsGr rb sb eb) : ∀ i, i ≤ sa * sb → SeenOk ea eb r sa sb (compSt ea eb r sb i).1
  | 0, _ => ⟨fun p hp => by simp [compSt] at hp, fun p hp => by simp [compSt] at hp⟩
  | i + 1, hi => by
    by_cases h : pairAt sb i ∈ (compSt ea eb r sb i).1
    · rw [compSt_in h]
      exact compSt_ok ha hb i (by omega)
    · rw [compSt_new h]
      exact (compSt_ok ha hb i (by omega)).add ha hb (pairAt_in (by omega))
theorem compSt_len (ea eb : List Ed) (r sb : Nat) : ∀ i, (compSt ea eb r sb i).2.length ≤ i
  | 0 => Nat.le_refl _
  | i + 1 => by
    have := compSt_len ea eb r sb i
    by_cases h : pairAt sb i ∈ (compSt ea eb r sb i).1
    · rw [compSt_in h]; omega
    · rw [compSt_new h]; simp; omega
end Go.Proofs.Ytimmnnncgnnkgaa

/- The state of pieces as the program walks it: the matrix of parts, the parts found. -/
namespace Go.Proofs.Ytimmnnncgnnkgaa
set_option linter.unusedVariables false
set_option linter.unusedSimpArgs false
open Go.RowKit

theorem owns_box {w : World} {base n c b : Nat} {e : TypeId} {xs : List Value} (h : w.ownsRow base e 1 (.slice (some ⟨b, 0, none⟩) n c) n xs) : Box w b xs :=
  ⟨(h.lt b rfl).2, fun i u hu => (h.cellAt i (by have h1 := h.1; have h2 := (List.getElem?_eq_some_iff.1 hu).1; omega)).trans hu, h.frozenAt⟩

/-- The rows of the matrix, the first ones laid. -/
def matP (bs : List Nat) (nb n : Nat) : List Value := (bs.map fun b => Value.slice (some ⟨b, 0, none⟩) nb nb) ++ List.replicate (n - bs.length) (.slice none 0 0)
theorem matP_zero (nb n : Nat) : matP [] nb n = List.replicate n (.slice none 0 0) := by simp [matP]
theorem matP_set {bs : List Nat} {nb n b : Nat} (h : bs.length < n) : (matP bs nb n).set bs.length (.slice (some ⟨b, 0, none⟩) nb nb) = matP (bs ++ [b]) nb n := by
  unfold matP
  rw [set_fill _ _ _ (by simp) h, List.map_append, List.length_append]
  rfl
theorem matP_get {bs : List Nat} {nb n j b : Nat} (h : bs[j]? = some b) : (matP bs nb n)[j]? = some (.slice (some ⟨b, 0, none⟩) nb nb) := by
  unfold matP
  rw [List.getElem?_append_left (by simpa using (List.getElem?_eq_some_iff.1 h).1)]
  simp [h]
theorem matP_next {bs : List Nat} {nb n : Nat} (h : bs.length < n) : (matP bs nb n)[bs.length]? = some (.slice none 0 0) := by
  unfold matP
  rw [List.getElem?_append_right (by simp), List.length_map, Nat.sub_self, List.getElem?_replicate, if_pos (by omega)]
/-- A row, the first k cells at -1. -/
def fillI (k n : Nat) : List Int := List.replicate k (-1) ++ List.replicate (n - k) 0
theorem fillI_zero (n : Nat) : ints (fillI 0 n) = List.replicate n (.int .i64 0) := by simp [fillI, ints]
theorem fillI_set {k n : Nat} (h : k < n) : (ints (fillI k n)).set k (.int .i64 (-1)) = ints (fillI (k + 1) n) := by
  have h1 := set_fill (List.replicate k (-1 : Int)) 0 (-1) (by simp) h
  unfold fillI ints
  rw [← List.map_set, h1, List.replicate_succ']
theorem fillI_len {k n : Nat} (h : k ≤ n) : (fillI k n).length = n := by simp [fillI]; omega
theorem fillI_full (n : Nat) : fillI n n = List.replicate n (-1) := by simp [fillI]

theorem fillI_next {k n : Nat} (h : k < n) : (ints (fillI k n))[k]? = some (.int .i64 0) := by
  rw [ints_get]
  unfold fillI
  rw [List.getElem?_append_right (by simp), List.length_replicate, Nat.sub_self, List.getElem?_replicate, if_pos (by omega)]
  rfl
/-- The matrix while its rows are laid. -/
structure Mat1 (w : World) (M : Nat) (bs : List Nat) (nb n : Nat) : Prop where
  outer : Box w M (matP bs nb n)
  asc : bs.Pairwise (· < ·)
  rng : ∀ b ∈ bs, M < b
  rows : ∀ b ∈ bs, Box w b (ints (fillI nb nb))
theorem Mat1.mid {w w' : World} {M nb n lo hi : Nat} {bs : List Nat} (h : Mat1 w M bs nb n) (m : Mid lo hi w w') (hd : hi ≤ M ∨ w.heap.size ≤ lo) : Mat1 w' M bs nb n :=
  ⟨h.outer.mid m (by have := h.outer.1; omega), h.asc, h.rng, fun b hb => (h.rows b hb).mid m (by have h1 := (h.rows b hb).1; have h2 := h.rng b hb; omega)⟩
/-- The matrix holds a part's number at the pairs of S, and -1 elsewhere. -/
structure PMat (w : World) (M Ob : Nat) (bs : List Nat) (nb : Nat) (S : PS) : Prop where
  outer : Box w M (matP bs nb bs.length)
  nd : bs.Nodup
  rng : ∀ b ∈ bs, M < b ∧ b < Ob
  rows : ∀ (i b : Nat), bs[i]? = some b → ∃ row : List Int, Box w b (ints row) ∧ row.length = nb ∧ ∀ (j : Nat) (x : Int), row[j]? = some x → (x < 0 ↔ ((i : Int), (j : Int)) ∉ S) ∧ -1 ≤ x ∧ x ≤ 1600
theorem Mat1.full {w : World} {M nb : Nat} {bs : List Nat} (h : Mat1 w M bs nb bs.length) : PMat w M w.heap.size bs nb [] := by
  refine ⟨h.outer, h.asc.imp Nat.ne_of_lt, fun b hb => ⟨h.rng b hb, (h.rows b hb).1⟩, fun i b hi => ⟨fillI nb nb, h.rows b (List.mem_of_getElem? hi), fillI_len (Nat.le_refl _), fun j x hx => ?_⟩⟩
  rw [fillI_full] at hx
  have := List.eq_of_mem_replicate (List.mem_of_getElem? hx)
  subst this
  exact ⟨⟨fun _ h => by simp at h, fun _ => by omega⟩, by omega, by omega⟩
section
variable {w w' : World} {M Ob nb a b s t : Nat} {bs : List Nat} {S : PS}
theorem PMat.mid (h : PMat w M Ob bs nb S) (m : Mid a b w w') (hd : Ob ≤ a ∧ M < Ob ∨ b ≤ M) : PMat w' M Ob bs nb S := by
  refine ⟨h.outer.mid m (by omega), h.nd, h.rng, fun i g hi => ?_⟩
  obtain ⟨row, h1, h2, h3⟩ := h.rows i g hi
  exact ⟨row, h1.mid m (by have := h.rng g (List.mem_of_getElem? hi); omega), h2, h3⟩
theorem PMat.get (h : PMat w M Ob bs nb S) {g : Nat} (hs : bs[s]? = some g) (ht : t < nb) :
    ∃ x : Int, w.cell? ⟨M, s, none⟩ = some (.slice (some ⟨g, 0, none⟩) nb nb) ∧ w.cell? ⟨g, t, none⟩ = some (.int .i64 x) ∧ (x < 0 ↔ ((s : Int), (t : Int)) ∉ S) ∧ -1 ≤ x ∧ x ≤ 1600 := by
  obtain ⟨row, h1, h2, h3⟩ := h.rows s g hs
  obtain ⟨x, hx⟩ := get_of_lt row (show t < row.length by omega)
  obtain ⟨h4, h5, h6⟩ := h3 t x hx
  exact ⟨x, h.outer.cell s (matP_get hs), h1.cell t (by rw [ints_get, hx]; rfl), h4, h5, h6⟩
theorem PMat.frz (h : PMat w M Ob bs nb S) {g : Nat} (hs : bs[s]? = some g) : ∀ i, w.frozen? ⟨g, i, none⟩ = false := by
  obtain ⟨row, h1, -⟩ := h.rows s g hs
  exact h1.2.2
theorem PMat.put (h : PMat w M Ob bs nb S) {g : Nat} (hs : bs[s]? = some g) (ht : t < nb) {k : Int} (h0 : 0 ≤ k) (h1 : k ≤ 1600) : PMat (w.setCell ⟨g, t, none⟩ (.int .i64 k)) M Ob bs nb (S ++ [((s : Int), (t : Int))]) := by
  have hm := Mid.setCell w (lo := g) (hi := g + 1) (p := ⟨g, t, none⟩) (.int .i64 k) (Nat.le_refl _) (Nat.lt_succ_self _)
  have hg := h.rng g (List.mem_of_getElem? hs)
  refine ⟨h.outer.mid hm (by omega), h.nd, h.rng, fun i g' hi => ?_⟩
  obtain ⟨row, g1, g2, g3⟩ := h.rows i g' hi
  by_cases his : i = s
  · subst his
    rw [hs] at hi
    injection hi with hi
    subst hi
    refine ⟨row.set t k, ?_, by rw [List.length_set]; exact g2, fun j x hx => ?_⟩
    · exact g1.set t _ (by rw [ints_len]; omega) (by unfold ints; rw [List.map_set])
    · by_cases hj : j = t
      · subst hj
        rw [List.getElem?_set_self (by omega)] at hx
        injection hx with hx
        subst hx
        refine ⟨⟨fun h => absurd h (by omega), fun h => absurd (List.mem_append_right _ (by simp)) h⟩, by omega, h1⟩
      · rw [List.getElem?_set_ne (Ne.symm hj)] at hx
        obtain ⟨g4, g5, g6⟩ := g3 j x hx
        refine ⟨g4.trans ⟨fun h hm => ?_, fun h hm => h (List.mem_append_left _ hm)⟩, g5, g6⟩
        rcases List.mem_append.1 hm with hm | hm
        · exact h hm
        · simp at hm
          omega
  · have hne : g' ≠ g := fun e => by
      subst e
      have l1 := (List.getElem?_eq_some_iff.1 hi).1
      exact his ((List.getElem?_inj l1 h.nd).1 (hi.trans hs.symm))
    refine ⟨row, g1.mid hm (by omega), g2, fun j x hx => ?_⟩
    obtain ⟨g4, g5, g6⟩ := g3 j x hx
    refine ⟨g4.trans ⟨fun h hm => ?_, fun h hm => h (List.mem_append_left _ hm)⟩, g5, g6⟩
    rcases List.mem_append.1 hm with hm | hm
    · exact h hm
    · simp at hm
      omega
end

/-- A part of a pullback as the program keeps it. -/
structure Pc where
  u : Int
  v : Int
  n : Int
  m : Int
  e : Bool
def Pc.cells (p : Pc) : List Value := [.int .i64 p.u, .int .i64 p.v, .int .i64 p.n, .int .i64 p.m, .bool p.e]
def pcV (ps : List Pc) : List Value := ps.flatMap Pc.cells
theorem pcV_append (a b : List Pc) : pcV (a ++ b) = pcV a ++ pcV b := by simp [pcV]
theorem pcV_one (p : Pc) : pcV [p] = p.cells := by simp [pcV]
theorem pcV_len : ∀ ps : List Pc, (pcV ps).length = ps.length * 5
  | [] => rfl
  | p :: t => by
    have h := pcV_len t
    have e : pcV (p :: t) = p.cells ++ pcV t := by simp [pcV]
    rw [e, List.length_append, h]
    simp [Pc.cells]
    omega
theorem pcV_at : ∀ {ps : List Pc} {k i : Nat} {p : Pc} {u : Value}, ps[k]? = some p → p.cells[i]? = some u → (pcV ps)[k * 5 + i]? = some u
  | [], k, i, p, u, h, _ => by simp at h
  | q :: t, 0, i, p, u, h, hi => by
    simp at h
    subst h
    have e : pcV (q :: t) = q.cells ++ pcV t := by simp [pcV]
    have hl := (List.getElem?_eq_some_iff.1 hi).1
    rw [e, Nat.zero_mul, Nat.zero_add, List.getElem?_append_left hl]
    exact hi
  | q :: t, k + 1, i, p, u, h, hi => by
    simp at h
    have h1 := pcV_at h hi
    have e : pcV (q :: t) = q.cells ++ pcV t := by simp [pcV]
    rw [e, List.getElem?_append_right (by simp [Pc.cells]; omega), show (k + 1) * 5 + i - q.cells.length = k * 5 + i by simp [Pc.cells]; omega]
    exact h1
theorem pcV_cells {p : Pc} : ∀ u ∈ p.cells, u.oneCell' = true := by
  intro u hu
  simp [Pc.cells] at hu
  rcases hu with rfl | rfl | rfl | rfl | rfl <;> rfl
theorem undSPc : Try.prog.underlying 83 = some (.slice 87) := by kernel_rfl
theorem infoPc : (Try.prog.info? 87).map (fun i => (i.zero, i.size, i.bytes)) = some (some (.agg #[.int .i64 0, .int .i64 0, .int .i64 0, .int .i64 0, .bool false]), 5, 40) := by kernel_rfl
section
variable {W : World} {ops : Array Oper} {rest : List Oper} {o : Oper} {a : Act} {Q : Exit → Act → World → Prop}
theorem wpList_pushPc (hgd : o.guard = none) (s x : Operand)
    (ho : o.op = .call { callee := .builtin .append, args := #[s, x], argTypes := #[83, 83] }) (lo : Nat) (A : Option Addr) (n c : Nat) (ps : List Pc) (hs : a.eval s = .slice A n c)
    (hown : W.ownsRow lo 87 5 (.slice A n c) n (pcV ps)) (p : Pc) (hx : a.eval x = .slice (some ⟨W.heap.size, 0, none⟩) 1 1) (hn : n ≤ 1048576) (hb : lo ≤ W.heap.size)
    (h : ∀ A' c' w', w'.ownsRow lo 87 5 (.slice A' (n + 1) c') (n + 1) (pcV (ps ++ [p])) → W.grownBy w' (Value.ownBlock (.slice A n c)) → (Value.ownBlock (.slice A' (n + 1) c') = Value.ownBlock (.slice A n c) ∨ Value.ownBlock (.slice A' (n + 1) c') = some (W.heap.size + 1)) → wpList Try.prog ops Q rest (a.put o.dst (.slice A' (n + 1) c')) w') :
    wpList Try.prog ops Q (o :: rest) a (W.alloc (.cells #[.int .i64 p.u, .int .i64 p.v, .int .i64 p.n, .int .i64 p.m, .bool p.e] 87)) := by
  refine wpList_push (news := p.cells) hgd s x 83 ho lo 87 (.agg #[.int .i64 0, .int .i64 0, .int .i64 0, .int .i64 0, .bool false]) 5 40 undSPc infoPc rfl (by decide) (.slice A n c) n (pcV ps) hs hown 1 hx rfl pcV_cells (by unfold maxLen; omega) (by omega) hb ?_
  intro v' w' h1 h2 h3
  obtain ⟨A', c', rfl, -, -⟩ := owns_shape h1
  refine h A' c' w' ?_ h2 h3
  rw [pcV_append, pcV_one]
  exact h1
end
/-- The pair at a place. -/
theorem pairAt_eq {nb u v : Nat} (hv : v < nb) : pairAt nb (u * nb + v) = ((u : Int), (v : Int)) := by
  unfold pairAt
  rw [Nat.mul_comm u nb, Nat.mul_add_div (by omega), Nat.div_eq_of_lt hv, Nat.mul_add_mod, Nat.mod_eq_of_lt hv, Nat.add_zero]
/-- What the walk of pieces carries of the parts found. -/
structure PcsOk (es es' : List Ed) (r nb k : Nat) (ps : List Pc) : Prop where
  rk : ps.map (fun p => p.m - p.n + 1) = (compSt es es' r nb k).2
  bd : ∀ p ∈ ps, 0 ≤ p.n ∧ p.n ≤ 1600 ∧ 0 ≤ p.m ∧ p.m ≤ 4800
theorem PcsOk.len {es es' : List Ed} {r nb k : Nat} {ps : List Pc} (h : PcsOk es es' r nb k ps) : ps.length ≤ k := by
  have h1 := congrArg List.length h.rk
  have h2 := compSt_len es es' r nb k
  rw [List.length_map] at h1
  omega
end Go.Proofs.Ytimmnnncgnnkgaa

/- pieces, the program. -/
namespace Go.Proofs.Ytimmnnncgnnkgaa
set_option linter.unusedVariables false
set_option linter.unusedSimpArgs false
open Go.RowKit

theorem pbEs_half_len {ea eb : List Ed} {P : PS} {i j : Nat} {p : Int × Int} {x : Int} (h1 : j % 2 = 0) (h2 : x = ((j / 2 : Nat) : Int) + 1) (t1 : ¬ nextV ea p.1 x < 0) (t2 : ¬ nextV eb p.2 x < 0) :
    (pbEs ea eb P i p ((j + 1 + 1) / 2)).length = (pbEs ea eb P i p ((j + 1) / 2)).length + 1 := by
  rw [pbEs_half_yes h1 h2 t1 t2 rfl, List.length_append]
  rfl

set_option maxHeartbeats 6400000 in
set_option maxRecDepth 100000 in
theorem impl_pieces (rn sn tn : Nat) (A : Option Addr) (es : List Ed) (c : Nat) (B : Option Addr) (es' : List Ed) (d : Nat) (w : World) (lo hi lo2 hi2 : Nat)
    (hr : RG w lo hi A es) (hr2 : RG w lo2 hi2 B es') (hf1 : IsFol rn sn es) (hf2 : IsFol rn tn es') :
    Calls Try.prog 58 #[graV rn sn A es.length c, graV rn tn B es'.length d] w fun e w' => ∃ A1 c1 ps V, e = .returned (.tuple #[.slice A1 ps.length c1, V]) ∧ PcsOk es es' rn tn (sn * tn) ps ∧ RV w' w.heap.size w'.heap.size A1 (pcV ps) ∧ Mid 0 0 w w' := by
  have hsn : 1 ≤ sn ∧ sn ≤ 40 := by have := hf1.gr.size; omega
  have htn : 1 ≤ tn ∧ tn ≤ 40 := by have := hf2.gr.size; omega
  have hrn : 1 ≤ rn ∧ rn ≤ 3 := by have := hf1.gr.rank; omega
  have hl := hf1.gr.len
  have hl2 := hf2.gr.len
  have F1 := Lib.hid hf1
  have F2 := Lib.hid hf2
  have HGL : Hid (∀ e ∈ es, 1 ≤ e.l ∧ e.l ≤ 3) := Lib.hid (fun e he => by have := hf1.gr.all e he; unfold InG at this; omega)
  have HGL2 : Hid (∀ e ∈ es', 1 ≤ e.l ∧ e.l ≤ 3) := Lib.hid (fun e he => by have := hf2.gr.all e he; unfold InG at this; omega)
  have HST : Hid (sn * tn ≤ 1600) := Lib.hid (Nat.mul_le_mul hsn.2 htn.2)
  clear hf1 hf2
  have hm0 : Mid 0 0 w ((w.alloc (.cells #[.int .i64 rn, .int .i64 sn, .slice A es.length c] 28)).alloc (.cells #[.int .i64 rn, .int .i64 tn, .slice B es'.length d] 28)) := (Mid.alloc _ _).trans (Mid.alloc _ _)
  have B0 := (Box.new w #[.int .i64 rn, .int .i64 sn, .slice A es.length c] 28).mid (Mid.alloc _ (.cells #[.int .i64 rn, .int .i64 tn, .slice B es'.length d] 28)) (Or.inr (Nat.zero_le _))
  have B1 := Box.new (w.alloc (.cells #[.int .i64 rn, .int .i64 sn, .slice A es.length c] 28)) #[.int .i64 rn, .int .i64 tn, .slice B es'.length d] 28
  rw [World.size_alloc] at B1
  go_enter Try.func58, Try.ntmps58
  have p1 := B0.cell 1 rfl
  have hmx : sn ≤ maxLen := by unfold maxLen; omega
  have hmx2 : tn ≤ maxLen := by unfold maxLen; omega
  go_wp2_with (at_make; refine wpList_mk rfl _ _ 48 rfl 37 (.slice none 0 0) 24 undSSI infoSI rfl .i64 .i64 _ _ sn rfl rfl rfl rfl (by omega) hmx ?_; intro w2 hown2 hgr2 hsz2)
  have hmg := Mid.of_grown (lo := 0) (hi := 0) hgr2 (by intro g h; cases h)
  have hm2 := hm0.trans hmg
  replace B0 := B0.mid hmg (Or.inr (Nat.zero_le _))
  replace B1 := B1.mid hmg (Or.inr (Nat.zero_le _))
  simp only [World.size_alloc] at hown2 hsz2
  have hM2 : Mat1 w2 (w.heap.size + 1 + 1) [] tn sn := ⟨by rw [matP_zero]; exact owns_box hown2, List.Pairwise.nil, (by simp), (by simp)⟩
  obtain ⟨M, hM⟩ : ∃ M, w.heap.size + 1 + 1 = M := ⟨_, rfl⟩
  rw [hM] at hM2 ⊢
  have hMw : w.heap.size + 1 < M := by omega
  clear hown2 hgr2 hsz2 hmg hm0 p1 hM
  go_wp2_with fail
  go_loopw [24] (fun iv wr => ∃ bs : List Nat, Hid (bs.length ≤ sn) ∧ iv = .int .i64 (bs.length : Nat) ∧ Hid (Mat1 wr M bs tn sn) ∧ Box wr w.heap.size [.int .i64 rn, .int .i64 sn, .slice A es.length c] ∧ Box wr (w.heap.size + 1) [.int .i64 rn, .int .i64 tn, .slice B es'.length d] ∧ Mid 0 0 w wr) (fun iv _ => sn - (intOf iv).toNat)
  case atStart => exact ⟨[], Lib.hid (Nat.zero_le _), rfl, Lib.hid hM2, B0, B1, hm2⟩
  case round =>
    clear hM2 B0 B1 hm2
    obtain ⟨wo, hwo⟩ : ∃ wo, wo = wr := ⟨_, rfl⟩
    subst hwo
    obtain ⟨bs, HB, rfl, HM, B0, B1, hm⟩ := hrel
    obtain ⟨k, hk⟩ : ∃ k, bs.length = k := ⟨_, rfl⟩
    have HK := Lib.hid hk
    have hks : k ≤ sn := by rw [← hk]; exact HB.out
    rw [hk]
    clear hk
    by_cases hlt : k < sn
    · have hk0 : (0 : Int) ≤ (k : Int) := by omega
      have hk1 : (k : Int) < (sn : Int) := by omega
      have p1 := B1.cell 1 rfl
      have mo := HM.out.outer.cell k (by have h := matP_next (bs := bs) (nb := tn) (n := sn) (by rw [HK.out]; exact hlt); rw [HK.out] at h; exact h)
      have mf := HM.out.outer.2.2
      have mb := HM.out.outer.1
      go_wp2_with (at_make; refine wpList_mk rfl _ _ 37 rfl 3 (.int .i64 0) 8 undSI infoI rfl .i64 .i64 _ _ tn rfl rfl rfl rfl (by omega) hmx2 ?_; intro w3 hown3 hgr3 hsz3; have hmg3 := Mid.of_grown (lo := 0) (hi := 0) hgr3 (by intro g h; cases h); have mo3 := cell_keep hmg3 mb (Or.inr (Nat.zero_le _)) mo; have mf3 := ((HM.out.outer.mid hmg3 (Or.inr (Nat.zero_le _))).2.2))
      have hmm := hm.trans hmg3
      have HM3 := HM.out.mid hmg3 (Or.inl (Nat.zero_le _))
      replace B0 := B0.mid hmg3 (Or.inr (Nat.zero_le _))
      replace B1 := B1.mid hmg3 (Or.inr (Nat.zero_le _))
      have bx3 := owns_box hown3
      have hst := Mid.setCell w3 (lo := M) (hi := M + 1) (p := ⟨M, k, none⟩) (.slice (some ⟨wo.heap.size, 0, none⟩) tn tn) (Nat.le_refl _) (Nat.lt_succ_self _)
      have hbo := HM3.outer.set k (.slice (some ⟨wo.heap.size, 0, none⟩) tn tn) (by rw [← HK.out]; simp [matP]; have := HK.out; omega) rfl
      have hset := matP_set (bs := bs) (nb := tn) (n := sn) (b := wo.heap.size) (by rw [HK.out]; exact hlt)
      rw [HK.out] at hset
      rw [hset] at hbo
      obtain ⟨g, hg⟩ : ∃ g, wo.heap.size = g := ⟨_, rfl⟩
      have hMg : M < g := by rw [← hg]; exact mb
      have hall : ∀ b ∈ bs, M < b ∧ b < g ∧ Box (w3.setCell ⟨M, k, none⟩ (.slice (some ⟨g, 0, none⟩) tn tn)) b (ints (fillI tn tn)) := fun b hb => by
        have h1 := HM.out.rng b hb
        rw [hg] at hst
        exact ⟨h1, by rw [← hg]; exact (HM.out.rows b hb).1, (HM3.rows b hb).mid hst (Or.inr (by omega))⟩
      rw [hg] at bx3 hst hbo
      rw [hg]
      have bx4 := bx3.mid hst (Or.inr (by omega))
      rw [← fillI_zero] at bx4
      replace B0 := B0.mid hst (Or.inl (by omega))
      replace B1 := B1.mid hst (Or.inl (by omega))
      have hm4 := hmm.transNew hst (Or.inl (by omega))
      have HALL := Lib.hid hall
      have HASC := Lib.hid HM.out.asc
      generalize w3.setCell ⟨M, k, none⟩ (.slice (some ⟨g, 0, none⟩) tn tn) = w4 at B0 B1 hm4 HALL hbo bx4 ⊢
      clear hown3 hgr3 hsz3 hmg3 mo3 mf3 mo mf mb hmm HM3 bx3 hst hset hall HM hm hg p1
      go_loopw [38] (fun jv wr => ∃ j : Nat, Hid (j ≤ tn) ∧ jv = .int .i64 j ∧ Box wr g (ints (fillI j tn)) ∧ Box wr M (matP (bs ++ [g]) tn sn) ∧ Hid (∀ b ∈ bs, M < b ∧ b < g ∧ Box wr b (ints (fillI tn tn))) ∧ Box wr w.heap.size [.int .i64 rn, .int .i64 sn, .slice A es.length c] ∧ Box wr (w.heap.size + 1) [.int .i64 rn, .int .i64 tn, .slice B es'.length d] ∧ Mid 0 0 w wr) (fun jv _ => tn - (intOf jv).toNat)
      case atStart => exact ⟨0, Lib.hid (Nat.zero_le _), rfl, bx4, hbo, HALL, B0, B1, hm4⟩
      case round =>
        clear bx4 hbo HALL B0 B1 hm4
        obtain ⟨j, HJ, rfl, bx, bo, HALL, B0, B1, hm⟩ := hrel
        have hjt := HJ.out
        by_cases hlt2 : j < tn
        · have hj0 : (0 : Int) ≤ (j : Int) := by omega
          have hj1 : (j : Int) < (tn : Int) := by omega
          have c0 := bo.cell k (by have h := matP_get (nb := tn) (n := sn) (show (bs ++ [g])[k]? = some g by rw [← HK.out]; simp); exact h)
          have c1 := bx.cell j (fillI_next hlt2)
          have c2 := bx.2.2
          have hgs := bx.1
          have bx' := bx.set j (.int .i64 (-1)) (by rw [ints_len, fillI_len (by omega)]; exact hlt2) rfl
          rw [fillI_set hlt2] at bx'
          have hst := Mid.setCell wr (lo := g) (hi := g + 1) (p := ⟨g, j, none⟩) (.int .i64 (-1)) (Nat.le_refl _) (Nat.lt_succ_self _)
          replace B0 := B0.mid hst (Or.inl (by omega))
          replace B1 := B1.mid hst (Or.inl (by omega))
          have bo' := bo.mid hst (Or.inl (by omega))
          have hm' := hm.transNew hst (Or.inl (by omega))
          have HALL' : Hid (∀ b ∈ bs, M < b ∧ b < g ∧ Box (wr.setCell ⟨g, j, none⟩ (.int .i64 (-1))) b (ints (fillI tn tn))) := Lib.hid fun b hb => by
            obtain ⟨h1, h2, h3⟩ := HALL.out b hb
            exact ⟨h1, h2, h3.mid hst (Or.inl (by omega))⟩
          clear bx bo HALL hst hm
          go_wp2_with fail
          go_roundw
          case rel => exact ⟨j + 1, Lib.hid (by omega), by go_num, bx', bo', HALL', B0, B1, hm'⟩
          case measure => simp [intOf]; omega
        · obtain rfl : j = tn := by omega
          have HM5 : Hid (Mat1 wr M (bs ++ [g]) j sn) := Lib.hid ⟨bo, List.pairwise_append.2 ⟨HASC.out, by simp, fun a ha b hb => by simp at hb; subst hb; exact (HALL.out a ha).2.1⟩, fun b hb => by
            rcases List.mem_append.1 hb with hb | hb
            · exact (HALL.out b hb).1
            · simp at hb
              omega, fun b hb => by
            rcases List.mem_append.1 hb with hb | hb
            · exact (HALL.out b hb).2.2
            · simp at hb
              subst hb
              exact bx⟩
          clear bx bo HALL
          go_wp2_with fail
          go_roundw
          case rel => exact ⟨bs ++ [g], Lib.hid (by rw [List.length_append, HK.out]; simp; omega), by rw [List.length_append, HK.out]; go_num, HM5, B0, B1, hm⟩
          case measure => simp [intOf]; omega
    · obtain rfl : sn = k := by omega
      have hPM := Mat1.full (w := wo) (M := M) (nb := tn) (bs := bs) (by rw [HK.out]; exact HM.out)
      have hal := Mid.alloc wo (.cells #[] 87)
      have hown := owns_empty wo 87 5
      replace hPM := hPM.mid hal (Or.inr (Nat.zero_le _))
      replace B0 := B0.mid hal (Or.inr (Nat.zero_le _))
      replace B1 := B1.mid hal (Or.inr (Nat.zero_le _))
      replace hm := hm.trans hal
      have hM1 : M < wo.heap.size := HM.out.outer.1
      obtain ⟨Ob, hOb⟩ : ∃ Ob, wo.heap.size = Ob := ⟨_, rfl⟩
      rw [hOb] at hown hPM hM1
      have HOS : Hid (Ob < (wo.alloc (.cells #[] 87)).heap.size) := Lib.hid (by simp [hOb])
      clear HM hlt hks HB
      go_wp2_with fail
      generalize wo.alloc (.cells #[] 87) = w6 at hown hPM HOS B0 B1 hm ⊢
      have HP0 := Lib.hid hPM
      have hps0 : PcsOk es es' rn tn (0 * tn) [] := ⟨by rw [Nat.zero_mul]; rfl, by simp⟩
      have HPS0 := Lib.hid hps0
      have HOW0 := Lib.hid hown
      have hs00 : (compSt es es' rn tn (0 * tn)).1 = [] := by rw [Nat.zero_mul]; rfl
      clear hPM hown hal hps0
      go_loopw [9, 10] (fun ov uv wr => ∃ (u : Nat) (A0 : Option Addr) (c0 : Nat) (n0 : Nat) (ps : List Pc), Hid (u ≤ sn) ∧ uv = .int .i64 u ∧ ov = .slice A0 n0 c0 ∧ Hid (ps.length = n0) ∧ Hid (PcsOk es es' rn tn (u * tn) ps) ∧ Hid (PMat wr M Ob bs tn (compSt es es' rn tn (u * tn)).1) ∧ Hid (wr.ownsRow Ob 87 5 (.slice A0 n0 c0) n0 (pcV ps)) ∧ Hid (Ob < wr.heap.size) ∧ Box wr w.heap.size [.int .i64 rn, .int .i64 sn, .slice A es.length c] ∧ Box wr (w.heap.size + 1) [.int .i64 rn, .int .i64 tn, .slice B es'.length d] ∧ Mid 0 0 w wr) (fun _ uv _ => sn - (intOf uv).toNat)
      case atStart => exact ⟨0, _, 0, 0, [], Lib.hid (Nat.zero_le _), rfl, rfl, Lib.hid rfl, HPS0, by rw [hs00]; exact HP0, HOW0, HOS, B0, B1, hm⟩
      case round =>
        clear HP0 HPS0 HOW0 HOS B0 B1 hm hs00
        obtain ⟨w3', hw3'⟩ : ∃ w3', w3' = wr := ⟨_, rfl⟩
        subst hw3'
        obtain ⟨u, A0, c0, n0, ps, HU, rfl, rfl, HN0, HPS, HPM, HOW, HOS, B0, B1, hm⟩ := hrel
        have hus := HU.out
        have p1 := B0.cell 1 rfl
        by_cases hlt : u < sn
        · have hu0 : (0 : Int) ≤ (u : Int) := by omega
          have hu1 : (u : Int) < (sn : Int) := by omega
          obtain ⟨gu, hgu⟩ := get_of_lt bs (show u < bs.length by rw [HK.out]; exact hlt)
          have HGU := Lib.hid hgu
          clear hgu
          go_wp2_with fail
          go_loopw [9, 11] (fun ov vv wr => ∃ (v : Nat) (A0 : Option Addr) (c0 : Nat) (n0 : Nat) (ps : List Pc), Hid (v ≤ tn) ∧ vv = .int .i64 v ∧ ov = .slice A0 n0 c0 ∧ Hid (ps.length = n0) ∧ Hid (PcsOk es es' rn tn (u * tn + v) ps) ∧ Hid (PMat wr M Ob bs tn (compSt es es' rn tn (u * tn + v)).1) ∧ Hid (wr.ownsRow Ob 87 5 (.slice A0 n0 c0) n0 (pcV ps)) ∧ Hid (Ob < wr.heap.size) ∧ Box wr w.heap.size [.int .i64 rn, .int .i64 sn, .slice A es.length c] ∧ Box wr (w.heap.size + 1) [.int .i64 rn, .int .i64 tn, .slice B es'.length d] ∧ Mid 0 0 w wr) (fun _ vv _ => tn - (intOf vv).toNat)
          case atStart => exact ⟨0, A0, c0, n0, ps, Lib.hid (Nat.zero_le _), rfl, rfl, HN0, HPS, HPM, HOW, HOS, B0, B1, hm⟩
          case round =>
            clear HPS HPM HOW HOS B0 B1 hm p1 HN0
            obtain ⟨w4', hw4'⟩ : ∃ w4', w4' = wr := ⟨_, rfl⟩
            subst hw4'
            obtain ⟨v, A0, c0, n0, ps, HV, rfl, rfl, HN0, HPS, HPM, HOW, HOS, B0, B1, hm⟩ := hrel
            have hvs := HV.out
            have q1 := B1.cell 1 rfl
            by_cases hlt2 : v < tn
            · have hv0 : (0 : Int) ≤ (v : Int) := by omega
              have hv1 : (v : Int) < (tn : Int) := by omega
              have hpa := pairAt_eq (nb := tn) (u := u) hlt2
              have hidx : u * tn + v < sn * tn := by
                have h1 : (u + 1) * tn ≤ sn * tn := Nat.mul_le_mul_right _ hlt
                rw [Nat.succ_mul] at h1
                omega
              have hn0b : n0 ≤ 1600 := by
                have h1 := HPS.out.len
                have h2 := HN0.out
                have h3 := HST.out
                omega
              have HPA := Lib.hid hpa
              have HIX := Lib.hid hidx
              obtain ⟨x, m0, m1, hx, hx1, hx2⟩ := HPM.out.get HGU.out hlt2
              have HX := Lib.hid hx
              have mf := HPM.out.frz HGU.out
              have hOs := HOS.out
              have hgO := HPM.out.rng gu (List.mem_of_getElem? HGU.out)
              have hMs : M < w4'.heap.size := by omega
              have hgs : gu < w4'.heap.size := by omega
              clear hpa hidx hx
              by_cases hxn : x < 0
              · have d1 : decide (0 ≤ x) = false := by simp; omega
                have HNI := Lib.hid (HX.out.1 hxn)
                have hp0 : PIn sn tn ((u : Int), (v : Int)) := ⟨Int.natCast_nonneg _, Int.ofNat_lt.2 hlt, Int.natCast_nonneg _, Int.ofNat_lt.2 hlt2⟩
                have HP0 := Lib.hid hp0
                have hcx := compSt_new (ea := es) (eb := es') (r := rn) (sb := tn) (i := u * tn + v) (by rw [HPA.out]; exact HNI.out)
                rw [HPA.out] at hcx
                have HCX : Sec (compSt es es' rn tn (u * tn + v + 1) = ((compSt es es' rn tn (u * tn + v)).1 ++ pairsOf es es' (lets rn) ((u : Int), (v : Int)), (compSt es es' rn tn (u * tn + v)).2 ++ [pbRank es es' rn (pairsOf es es' (lets rn) ((u : Int), (v : Int)))])) := ⟨hcx⟩
                obtain ⟨S0, hS0⟩ : ∃ S0, (compSt es es' rn tn (u * tn + v)).1 = S0 := ⟨_, rfl⟩
                have hSok := compSt_ok (r := rn) F1.out.gr F2.out.gr (u * tn + v) (Nat.le_of_lt HIX.out)
                rw [hS0] at hSok HPM HNI
                have HOUT : Hid (∀ i, ∀ q ∈ pbSt es es' (lets rn) ((u : Int), (v : Int)) i, q ∉ S0) := Lib.hid fun i => out_st F1.out F2.out hSok.cl HNI.out hp0 i
                have HSOK := Lib.hid hSok
                have HS0 : Sec ((compSt es es' rn tn (u * tn + v)).1 = S0) := ⟨hS0⟩
                clear hcx hSok hS0 hp0 HX
                go_wp2_with fail
                have hPM1 := HPM.out.put HGU.out hlt2 (k := (n0 : Int)) (by omega) (by omega)
                have hst0 := Mid.setCell w4' (lo := gu) (hi := gu + 1) (p := ⟨gu, v, none⟩) (.int .i64 (n0 : Int)) (Nat.le_refl _) (Nat.lt_succ_self _)
                have hal1 := Mid.alloc (w4'.setCell ⟨gu, v, none⟩ (.int .i64 (n0 : Int))) (.cells #[.int .i64 u, .int .i64 v, .int .i64 0, .int .i64 0, .bool false] 87)
                have hal2 := Mid.alloc ((w4'.setCell ⟨gu, v, none⟩ (.int .i64 (n0 : Int))).alloc (.cells #[.int .i64 u, .int .i64 v, .int .i64 0, .int .i64 0, .bool false] 87)) (.cells #[.int .i64 u, .int .i64 v] 73)
                have Y0 := (Box.new (w4'.setCell ⟨gu, v, none⟩ (.int .i64 (n0 : Int))) #[.int .i64 u, .int .i64 v, .int .i64 0, .int .i64 0, .bool false] 87).mid hal2 (Or.inr (Nat.zero_le _))
                have ho0 := owns_litP ((w4'.setCell ⟨gu, v, none⟩ (.int .i64 (n0 : Int))).alloc (.cells #[.int .i64 u, .int .i64 v, .int .i64 0, .int .i64 0, .bool false] 87)) ((u : Int), (v : Int))
                have hPM3 := (hPM1.mid hal1 (Or.inr (Nat.zero_le _))).mid hal2 (Or.inr (Nat.zero_le _))
                have hOV : OV w4' Ob w4'.heap.size 87 5 A0 c0 n0 (pcV ps) := ⟨Nat.le_refl _, HOW.out, fun g hg => (HOW.out.lt g hg).2⟩
                have hOV3 := ((hOV.mid hst0 (Or.inl (by omega))).mid hal1 (Or.inl (Nat.zero_le _))).mid hal2 (Or.inl (Nat.zero_le _))
                replace B0 := ((B0.mid hst0 (Or.inl (by omega))).mid hal1 (Or.inr (Nat.zero_le _))).mid hal2 (Or.inr (Nat.zero_le _))
                replace B1 := ((B1.mid hst0 (Or.inl (by omega))).mid hal1 (Or.inr (Nat.zero_le _))).mid hal2 (Or.inr (Nat.zero_le _))
                have hm3 := ((hm.transNew hst0 (Or.inl (by omega))).trans hal1).trans hal2
                simp only [World.size_alloc, World.size_setCell] at Y0 ho0
                have hGO : Ob < w4'.heap.size := hOs
                generalize ((w4'.setCell ⟨gu, v, none⟩ (.int .i64 (n0 : Int))).alloc (.cells #[.int .i64 u, .int .i64 v, .int .i64 0, .int .i64 0, .bool false] 87)).alloc (.cells #[.int .i64 u, .int .i64 v] 73) = w5 at Y0 ho0 hPM3 hOV3 B0 B1 hm3 ⊢
                generalize w4'.heap.size = G at Y0 ho0 hOV3 hGO ⊢
                have HY := Lib.hid hPM3
                have HOV := Lib.hid hOV3
                have HO0 := Lib.hid ho0
                obtain ⟨P, hPP⟩ : ∃ P, pairsOf es es' (lets rn) ((u : Int), (v : Int)) = P := ⟨_, rfl⟩
                have HPP : Sec (pairsOf es es' (lets rn) ((u : Int), (v : Int)) = P) := ⟨hPP⟩
                generalize (some (⟨G + 1, 0, none⟩ : Addr)) = A1 at HO0 ⊢
                clear hPM1 hst0 hal1 hal2 hOV hOV3 hPM3 ho0 hPP hm HPM HOW HOS hOs hMs hgs m0 m1 mf q1
                go_loopw [13, 14] (fun tv iv wr => ∃ (i n1 : Nat) (A1 : Option Addr) (c1 : Nat) (m : Nat) (eb : Bool), iv = .int .i64 i ∧ tv = .slice A1 n1 c1 ∧ Hid (i ≤ n1) ∧ Hid (m = (pbAll es es' rn P i).length) ∧ Hid (wr.ownsRow (G + 1) 73 2 (.slice A1 n1 c1) n1 (ints (prI (pbSt es es' (lets rn) ((u : Int), (v : Int)) i)))) ∧ Box wr G [.int .i64 u, .int .i64 v, .int .i64 i, .int .i64 m, .bool eb] ∧ Hid (PMat wr M Ob bs tn (S0 ++ pbSt es es' (lets rn) ((u : Int), (v : Int)) i)) ∧ Hid (OV wr Ob G 87 5 A0 c0 n0 (pcV ps)) ∧ Box wr w.heap.size [.int .i64 rn, .int .i64 sn, .slice A es.length c] ∧ Box wr (w.heap.size + 1) [.int .i64 rn, .int .i64 tn, .slice B es'.length d] ∧ Mid 0 0 w wr) (fun _ iv _ => 1601 - (intOf iv).toNat)
                case atStart => exact ⟨0, 1, A1, 1, 0, false, rfl, rfl, Lib.hid (Nat.zero_le _), Lib.hid rfl, HO0, Y0, HY, HOV, B0, B1, hm3⟩
                case round =>
                  clear HO0 Y0 HY HOV B0 B1 hm3
                  obtain ⟨w6', hw6'⟩ : ∃ w6', w6' = wr := ⟨_, rfl⟩
                  subst hw6'
                  obtain ⟨i, n1, A1, c1, m, eb, rfl, rfl, HI, HMM, HTD, Y, HPM, HOV, B0, B1, hm⟩ := hrel
                  have hn1 : (pbSt es es' (lets rn) ((u : Int), (v : Int)) i).length = n1 := by have h1 := HTD.out.1; rw [ints_len, prI_len] at h1; omega
                  have hn16 : n1 ≤ 1600 := by rw [← hn1]; exact pb_len (lets rn) F1.out.gr F2.out.gr HP0.out i
                  have hin1 := HI.out
                  have hm48 : m ≤ 4800 := by
                    have h1 := HMM.out
                    have h2 := pbAll_len es es' rn P i
                    have h4 : i * rn ≤ 1600 * 3 := Nat.mul_le_mul (by omega) (by omega)
                    omega
                  by_cases hlt3 : i < n1
                  · obtain ⟨p, hp⟩ := get_of_lt (pbSt es es' (lets rn) ((u : Int), (v : Int)) i) (show i < _ by rw [hn1]; exact hlt3)
                    obtain ⟨a, b', rfl, ha, hb⟩ : ∃ a b' : Nat, p = ((a : Int), (b' : Int)) ∧ a < sn ∧ b' < tn := by
                      obtain ⟨x, y⟩ := p
                      obtain ⟨i1, i2, i3, i4⟩ := (pbSt_ok (lets rn) F1.out.gr.all F2.out.gr.all HP0.out i).rng _ (List.mem_of_getElem? hp)
                      simp only at i1 i2 i3 i4
                      exact ⟨x.toNat, y.toNat, Prod.ext (by simp only; omega) (by simp only; omega), by omega, by omega⟩
                    have HPT := Lib.hid hp
                    have hPi : P[i]? = some ((a : Int), (b' : Int)) := by rw [← HPP.out]; exact prefix_get (pbSt_prefix F1.out.gr F2.out.gr HP0.out (by rw [hn1]; exact hin1)) hp
                    have HSU := Lib.hid (pbAll_succ (ea := es) (eb := es') (r := rn) hPi)
                    have HSS := Lib.hid (pbSt_succ hp)
                    have HNO := Lib.hid (HOUT.out i _ (List.mem_of_getElem? hp))
                    have hi0 : (0 : Int) ≤ (i : Int) := by omega
                    have hi1 : (i : Int) < (n1 : Int) := by omega
                    clear hp hPi hn1
                    have y2 := Y.cell 2 rfl
                    have yf := Y.2.2
                    have hYs := Y.1
                    have hst1 := Mid.setCell w6' (lo := G) (hi := G + 1) (p := ⟨G, 2, none⟩) (.int .i64 ((i : Int) + 1)) (Nat.le_refl _) (Nat.lt_succ_self _)
                    have Y1 := Y.set 2 (.int .i64 ((i : Int) + 1)) (by simp) rfl
                    go_upto_region 27 with fail
                    go_cut [] from 85 to 169 (fun wx => ∃ e' : Bool, Hid (wx.ownsRow (G + 1) 73 2 (.slice A1 n1 c1) n1 (ints (prI (pbSt es es' (lets rn) ((u : Int), (v : Int)) i)))) ∧ Box wx G [.int .i64 u, .int .i64 v, .int .i64 ((i : Int) + 1), .int .i64 m, .bool e'] ∧ Hid (PMat wx M Ob bs tn (S0 ++ pbSt es es' (lets rn) ((u : Int), (v : Int)) i)) ∧ Hid (OV wx Ob G 87 5 A0 c0 n0 (pcV ps)) ∧ Box wx w.heap.size [.int .i64 rn, .int .i64 sn, .slice A es.length c] ∧ Box wx (w.heap.size + 1) [.int .i64 rn, .int .i64 tn, .slice B es'.length d] ∧ Mid 0 0 w wx)
                    case first =>
                      simp only [List.set_cons_succ, List.set_cons_zero] at Y1
                      have HTD1 := Lib.hid (owns_mid HTD.out hst1 (Or.inl (Nat.le_refl _)))
                      have HPM1 := Lib.hid (HPM.out.mid hst1 (Or.inl (by omega)))
                      have HOV1 := Lib.hid (HOV.out.mid hst1 (Or.inr (Nat.le_refl _)))
                      replace B0 := B0.mid hst1 (Or.inl (by omega))
                      replace B1 := B1.mid hst1 (Or.inl (by omega))
                      have hm1 := hm.transNew hst1 (Or.inl (by omega))
                      generalize w6'.setCell ⟨G, 2, none⟩ (.int .i64 ((i : Int) + 1)) = w7 at Y1 HTD1 HPM1 HOV1 B0 B1 hm1 ⊢
                      clear Y y2 yf hYs hst1 HTD HPM HOV hm
                      have hmd := Mid.drew1 w7
                      replace HTD1 := Lib.hid (owns_mid HTD1.out hmd (Or.inl (Nat.zero_le _)))
                      replace HPM1 := Lib.hid (HPM1.out.mid hmd (Or.inr (Nat.zero_le _)))
                      replace HOV1 := Lib.hid (HOV1.out.mid hmd (Or.inl (Nat.zero_le _)))
                      replace B0 := B0.mid hmd (Or.inr (Nat.zero_le _))
                      replace B1 := B1.mid hmd (Or.inr (Nat.zero_le _))
                      replace Y1 := Y1.mid hmd (Or.inr (Nat.zero_le _))
                      replace hm1 := hm1.trans hmd
                      obtain ⟨g1, hA1, hg1, hg1s⟩ := owns_addr HTD1.out (show 0 < n1 by omega)
                      subst hA1
                      have hrvo := owns_rv HTD1.out
                      have hc0 := (hrvo.atI (prI_at HPT.out).1).2
                      have hc1 := (hrvo.atI (prI_at HPT.out).2).2
                      rw [Nat.zero_add] at hc0 hc1
                      have y4 := Y1.cell 4 rfl
                      have yf := Y1.2.2
                      clear hrvo hmd
                      cases eb with
                      | true =>
                        refine wp_region_still_tail 16 (by kernel_rfl) (by kernel_rfl) ?_
                        simp only [List.take_succ_cons, List.take_zero, List.drop_succ_cons, List.drop_zero]
                        change wpStill _ _ (World.drew w7) (fun a' => wpList _ _ _ _ a' (World.drew w7)) _ _
                        generalize World.drew w7 = wz at HTD1 HPM1 HOV1 B0 B1 Y1 hm1 hc0 hc1 y4 yf hg1s ⊢
                        repeat
                          (with_reducible refine wpStill_step (fun K hK => ?_))
                          go_simp
                          first
                            | ((with_reducible refine hK _ ?_); clear hK K)
                        with_reducible refine wpStill_nil ?_
                        go_wp2_with fail
                        have hst2 := Mid.setCell wz (lo := G) (hi := G + 1) (p := ⟨G, 4, none⟩) (.bool true) (Nat.le_refl _) (Nat.lt_succ_self _)
                        have Y2 := Y1.set 4 (.bool true) (by simp) rfl
                        simp only [List.set_cons_succ, List.set_cons_zero] at Y2
                        go_meet
                        exact ⟨true, Lib.hid (owns_mid HTD1.out hst2 (Or.inl (Nat.le_refl _))), Y2, Lib.hid (HPM1.out.mid hst2 (Or.inl (by omega))), Lib.hid (HOV1.out.mid hst2 (Or.inr (Nat.le_refl _))), B0.mid hst2 (Or.inl (by omega)), B1.mid hst2 (Or.inl (by omega)), hm1.transNew hst2 (Or.inl (by omega))⟩
                      | false =>
                        refine wp_region_still_tail 16 (by kernel_rfl) (by kernel_rfl) ?_
                        simp only [List.take_succ_cons, List.take_zero, List.drop_succ_cons, List.drop_zero]
                        change wpStill _ _ (World.drew w7) (fun a' => wpList _ _ _ _ a' (World.drew w7)) _ _
                        generalize World.drew w7 = wz at HTD1 HPM1 HOV1 B0 B1 Y1 hm1 hc0 hc1 y4 yf hg1s ⊢
                        repeat
                          (with_reducible refine wpStill_step (fun K hK => ?_))
                          go_simp
                          first
                            | ((with_reducible refine hK _ ?_); clear hK K)
                        with_reducible refine wpStill_nil ?_
                        go_wp2_with fail
                        have hst2 := Mid.setCell wz (lo := G) (hi := G + 1) (p := ⟨G, 4, none⟩) (.bool ((a : Int) == (b' : Int))) (Nat.le_refl _) (Nat.lt_succ_self _)
                        have Y2 := Y1.set 4 (.bool ((a : Int) == (b' : Int))) (by simp) rfl
                        simp only [List.set_cons_succ, List.set_cons_zero] at Y2
                        go_meet
                        exact ⟨((a : Int) == (b' : Int)), Lib.hid (owns_mid HTD1.out hst2 (Or.inl (Nat.le_refl _))), Y2, Lib.hid (HPM1.out.mid hst2 (Or.inl (by omega))), Lib.hid (HOV1.out.mid hst2 (Or.inr (Nat.le_refl _))), B0.mid hst2 (Or.inl (by omega)), B1.mid hst2 (Or.inl (by omega)), hm1.transNew hst2 (Or.inl (by omega))⟩
                    case rest =>
                    clear Y y2 yf hYs hst1 Y1 HTD HPM HOV B0 B1 hm
                    obtain ⟨e', HTD, Y, HPM, HOV, B0, B1, hm⟩ := hcut
                    obtain ⟨w8, hw8⟩ : ∃ x, x = wc := ⟨_, rfl⟩
                    subst hw8
                    have p0 := B0.cell 0 rfl
                    go_wp2_with fail
                    with_reducible refine (impl_letters rn _ (by omega)).mono ?_
                    rintro en w9 ⟨A8, c8, rfl, hL8, hm8⟩
                    have hs8 := hm8.size
                    have hd1 : ∀ g, Value.ownBlock (.slice A1 n1 c1) = some g → g < w8.heap.size ∨ w9.heap.size ≤ g := fun g hg => Or.inl (HTD.out.lt g hg).2
                    have hGw : G < w8.heap.size := Y.1
                    replace HTD := Lib.hid (owns_mid HTD.out hm8 (Or.inl (Nat.zero_le _)))
                    replace HPM := Lib.hid (HPM.out.mid hm8 (Or.inr (Nat.zero_le _)))
                    replace HOV := Lib.hid (HOV.out.mid hm8 (Or.inl (Nat.zero_le _)))
                    replace B0 := B0.mid hm8 (Or.inr (Nat.zero_le _))
                    replace B1 := B1.mid hm8 (Or.inr (Nat.zero_le _))
                    replace Y := Y.mid hm8 (Or.inr (Nat.zero_le _))
                    replace hm := hm.trans hm8
                    have HL8 := Lib.hid hL8
                    have HD1 := Lib.hid hd1
                    obtain ⟨LL, hLL⟩ : ∃ n, (lets rn).length = n := ⟨_, rfl⟩
                    have hL6 : LL ≤ 6 := by rw [← hLL, lets_len]; omega
                    have HLL := Lib.hid hLL
                    have hst0 : pbRow es es' ((lets rn).take 0) ((a : Int), (b' : Int)) (pbSt es es' (lets rn) ((u : Int), (v : Int)) i) = pbSt es es' (lets rn) ((u : Int), (v : Int)) i := rfl
                    rw [← hst0] at HTD HPM
                    rw [hLL]
                    have HM0 : Hid (m = (pbAll es es' rn P i).length + (pbEs es es' P i ((a : Int), (b' : Int)) ((0 + 1) / 2)).length) := Lib.hid (by rw [HMM.out]; simp [pbEs])
                    clear p0 hm8 hL8 hd1 hLL hst0
                    generalize w8.heap.size = L8 at HL8 HD1 hGw hs8
                    generalize w9.heap.size = H8 at HL8 HD1 hs8
                    go_wp2_with fail
                    go_loopw [13, 115] (fun tv jv wr => ∃ (j n1 : Nat) (A1 : Option Addr) (c1 m : Nat), jv = .int .i64 j ∧ tv = .slice A1 n1 c1 ∧ Hid (j ≤ LL) ∧ Hid (m = (pbAll es es' rn P i).length + (pbEs es es' P i ((a : Int), (b' : Int)) ((j + 1) / 2)).length) ∧ Hid (wr.ownsRow (G + 1) 73 2 (.slice A1 n1 c1) n1 (ints (prI (pbRow es es' ((lets rn).take j) ((a : Int), (b' : Int)) (pbSt es es' (lets rn) ((u : Int), (v : Int)) i))))) ∧ Hid (RV wr L8 H8 A8 (ints (lets rn))) ∧ Hid (∀ g, Value.ownBlock (.slice A1 n1 c1) = some g → g < L8 ∨ H8 ≤ g) ∧ Box wr G [.int .i64 u, .int .i64 v, .int .i64 ((i : Int) + 1), .int .i64 m, .bool e'] ∧ Hid (PMat wr M Ob bs tn (S0 ++ pbRow es es' ((lets rn).take j) ((a : Int), (b' : Int)) (pbSt es es' (lets rn) ((u : Int), (v : Int)) i))) ∧ Hid (OV wr Ob G 87 5 A0 c0 n0 (pcV ps)) ∧ Box wr w.heap.size [.int .i64 rn, .int .i64 sn, .slice A es.length c] ∧ Box wr (w.heap.size + 1) [.int .i64 rn, .int .i64 tn, .slice B es'.length d] ∧ Mid 0 0 w wr) (fun _ jv _ => LL - (intOf jv).toNat)
                    case atStart => exact ⟨0, n1, A1, c1, m, rfl, rfl, Lib.hid (Nat.zero_le _), HM0, HTD, HL8, HD1, Y, HPM, HOV, B0, B1, hm⟩
                    case round =>
                      clear HTD HL8 HD1 Y HPM HOV B0 B1 hm HM0 HMM
                      obtain ⟨wp, hwp⟩ : ∃ wp, wp = wr := ⟨_, rfl⟩
                      subst hwp
                      obtain ⟨j, n1, A1, c1, m, rfl, rfl, HJ, HM, HTD, HL8, HD1, Y, HPM, HOV, B0, B1, hm⟩ := hrel
                      have hj := HJ.out
                      obtain ⟨stj, hstj⟩ : ∃ st, pbRow es es' ((lets rn).take j) ((a : Int), (b' : Int)) (pbSt es es' (lets rn) ((u : Int), (v : Int)) i) = st := ⟨_, rfl⟩
                      have hpj : stj[i]? = some ((a : Int), (b' : Int)) := by rw [← hstj]; exact prefix_get (pbRow_pre _ _ _ _ _) HPT.out
                      rw [hstj] at HTD HPM
                      have hn1 : stj.length = n1 := by have h1 := HTD.out.1; rw [ints_len, prI_len] at h1; omega
                      have hn1b : n1 ≤ 1600 := by
                        rw [← hn1, ← hstj]
                        have h1 := (pb_next_prefix F1.out.gr F2.out.gr HP0.out (j := j) HPT.out).length_le
                        have h2 := pairs_len (lets rn) F1.out.gr F2.out.gr HP0.out
                        omega
                      have hm48b : m ≤ 4900 := by
                        have h1 := HM.out
                        have h2 := pbAll_len es es' rn P i
                        have h3 := pbEs_len es es' P i ((a : Int), (b' : Int)) ((j + 1) / 2)
                        have h4 : i * rn ≤ 1600 * 3 := Nat.mul_le_mul (by omega) (by omega)
                        omega
                      by_cases hlt4 : j < LL
                      · obtain ⟨B4, o4, x, hA8, hB4, hx, hcx⟩ := HL8.out.at (k := j) (by rw [HLL.out]; exact hlt4)
                        subst hA8
                        have hxm := lets_le (List.mem_of_getElem? hx)
                        have HXL := Lib.hid (List.mem_of_getElem? hx)
                        have hnx := pbRow_take (ea := es) (eb := es') (p := ((a : Int), (b' : Int))) (st := pbSt es es' (lets rn) ((u : Int), (v : Int)) i) hx
                        rw [hstj] at hnx
                        have hpar := lets_at hx
                        have HNX := Lib.hid hnx
                        have HPAR := Lib.hid hpar
                        have hj0 : (0 : Int) ≤ (j : Int) := by omega
                        have hj1 : (j : Int) < (LL : Int) := by omega
                        have hi1' : (i : Int) < (n1 : Int) := by have h1 := (List.getElem?_eq_some_iff.1 hpj).1; omega
                        obtain ⟨g1, hA1, hg1, hg1s⟩ := owns_addr HTD.out (show 0 < n1 by omega)
                        subst hA1
                        have hrvo := owns_rv HTD.out
                        have hc0 := hrvo.atI (prI_at hpj).1
                        have hc1 := hrvo.atI (prI_at hpj).2
                        rw [Nat.zero_add] at hc0 hc1
                        have hB4s : B4 < wp.heap.size := Nat.lt_of_lt_of_le hB4 HL8.out.1
                        clear hx hnx hpar hpj hrvo
                        have k0 := wg_cell B0.1 (B0.cell 0 rfl)
                        have k1 := wg_cell B0.1 (B0.cell 1 rfl)
                        have k2 := wg_cell B0.1 (B0.cell 2 rfl)
                        have k3 := wg_cell hc0.1 hc0.2
                        have k4 := wg_cell hc1.1 hc1.2
                        have l0 := wg_cell B1.1 (B1.cell 0 rfl)
                        have l1 := wg_cell B1.1 (B1.cell 1 rfl)
                        have l2 := wg_cell B1.1 (B1.cell 2 rfl)
                        have hA := fun m os => impl_NextVertex rn sn A es c a x (wg wp m os) lo hi (hr.mid (hm.trans (Mid.ofWg wp m os)) (Or.inl (Nat.zero_le _))) (by omega) HGL.out (by omega) (by omega)
                        have hB := fun m os => impl_NextVertex rn tn B es' d b' x (wg wp m os) lo2 hi2 (hr2.mid (hm.trans (Mid.ofWg wp m os)) (Or.inl (Nat.zero_le _))) (by omega) HGL2.out (by omega) (by omega)
                        go_wp2_with fail
                        refine wp_region_quiet_wg (by kernel_rfl) (by kernel_rfl) ?_
                        repeat
                          (with_reducible refine wpQuiet_step (fun K hK => ?_))
                          go_simp
                          first
                            | ((with_reducible refine hK _ ?_); clear hK K)
                            | (rw [if_neg (by decide)]; (with_reducible refine hK _ ?_); clear hK K)
                            | (apply Exists.intro; refine ⟨fun _ => ?_, hK _ ?_⟩; ((first | (go_at_call 50; with_reducible exact Calls.wg_of (hA _ _)) | (go_at_call 50; with_reducible exact Calls.wg_of (hB _ _)))); clear hK K)
                        with_reducible refine wpQuiet_nil ?_
                        intro _ hw'
                        obtain ⟨⟨nq, osq⟩, hw''⟩ := hw'
                        subst hw''
                        have hwg := Mid.ofWg wp nq osq
                        generalize wg wp nq osq = w10 at hwg ⊢
                        replace HTD := Lib.hid (owns_mid HTD.out hwg (Or.inl (Nat.zero_le _)))
                        replace HPM := Lib.hid (HPM.out.mid hwg (Or.inr (Nat.zero_le _)))
                        replace HOV := Lib.hid (HOV.out.mid hwg (Or.inl (Nat.zero_le _)))
                        replace HL8 := Lib.hid (HL8.out.mid hwg (Or.inl (Nat.zero_le _)))
                        replace B0 := B0.mid hwg (Or.inr (Nat.zero_le _))
                        replace B1 := B1.mid hwg (Or.inr (Nat.zero_le _))
                        replace Y := Y.mid hwg (Or.inr (Nat.zero_le _))
                        replace hm := hm.trans hwg
                        clear k0 k1 k2 k3 k4 l0 l1 l2 hA hB hc0 hc1 hcx hwg hB4 hB4s hg1 hg1s
                        by_cases ht1 : nextV es a x < 0
                        · have d1 : decide (nextV es a x < 0) = true := by simpa using ht1
                          have HNS := Lib.hid (pbStep_no1 (ea := es) (eb := es') (p := ((a : Int), (b' : Int))) (st := stj) ht1)
                          have HPE : Hid (pbEs es es' P i ((a : Int), (b' : Int)) ((j + 1) / 2) = pbEs es es' P i ((a : Int), (b' : Int)) ((j + 1 + 1) / 2)) := Lib.hid (pbEs_half_no HPAR.out (Or.inl ht1)).symm
                          clear ht1
                          go_wp2_with fail
                          go_roundw
                          case rel => exact ⟨j + 1, n1, _, c1, m, by go_num, rfl, Lib.hid (by omega), Lib.hid (by rw [← HPE.out]; exact HM.out), by rw [HNX.out, HNS.out]; exact HTD, HL8, HD1, Y, by rw [HNX.out, HNS.out]; exact HPM, HOV, B0, B1, hm⟩
                          case measure => simp [intOf]; omega
                        · have d1 : decide (nextV es a x < 0) = false := by simpa using ht1
                          by_cases ht2 : nextV es' b' x < 0
                          · have d2 : decide (nextV es' b' x < 0) = true := by simpa using ht2
                            have HNS := Lib.hid (pbStep_no2 (ea := es) (eb := es') (p := ((a : Int), (b' : Int))) (st := stj) ht2)
                            have HPE : Hid (pbEs es es' P i ((a : Int), (b' : Int)) ((j + 1) / 2) = pbEs es es' P i ((a : Int), (b' : Int)) ((j + 1 + 1) / 2)) := Lib.hid (pbEs_half_no HPAR.out (Or.inr ht2)).symm
                            clear ht1 ht2
                            go_wp2_with fail
                            go_roundw
                            case rel => exact ⟨j + 1, n1, _, c1, m, by go_num, rfl, Lib.hid (by omega), Lib.hid (by rw [← HPE.out]; exact HM.out), by rw [HNX.out, HNS.out]; exact HTD, HL8, HD1, Y, by rw [HNX.out, HNS.out]; exact HPM, HOV, B0, B1, hm⟩
                            case measure => simp [intOf]; omega
                          · have d2 : decide (nextV es' b' x < 0) = false := by simpa using ht2
                            have hpin2 := pbNext_in F1.out.gr.all F2.out.gr.all ((a : Int), (b' : Int)) ht1 ht2
                            have hno2 := out_step F1.out F2.out HSOK.out.cl HXL.out HNO.out ht1 ht2 ⟨Int.natCast_nonneg _, Int.natCast_nonneg _⟩
                            obtain ⟨x', y', hpe, hx's, hy's⟩ : ∃ x' y' : Nat, pbNext es es' ((a : Int), (b' : Int)) x = ((x' : Int), (y' : Int)) ∧ x' < sn ∧ y' < tn := by
                              obtain ⟨i1, i2, i3, i4⟩ := hpin2
                              exact ⟨(nextV es a x).toNat, (nextV es' b' x).toNat, Prod.ext (by simp only [pbNext] at i1 ⊢; omega) (by simp only [pbNext] at i3 ⊢; omega), by simp only [pbNext] at i2; omega, by simp only [pbNext] at i4; omega⟩
                            rw [hpe] at hno2
                            have htx : nextV es a x = (x' : Int) := congrArg Prod.fst hpe
                            have hty : nextV es' b' x = (y' : Int) := congrArg Prod.snd hpe
                            have HT1 := Lib.hid ht1
                            have HT2 := Lib.hid ht2
                            have HPN := Lib.hid hpe
                            have HNO2 := Lib.hid hno2
                            simp only [htx, hty] at d1 d2 ⊢
                            obtain ⟨gs, hgs⟩ := get_of_lt bs (show x' < bs.length by rw [HK.out]; exact hx's)
                            obtain ⟨z, q0, q1, hz, hz1, hz2⟩ := HPM.out.get hgs hy's
                            have qf := HPM.out.frz hgs
                            have hgsO := HPM.out.rng gs (List.mem_of_getElem? hgs)
                            have HGS := Lib.hid hgs
                            have HZ := Lib.hid hz
                            have hG10 : G < w10.heap.size := Y.1
                            have hM10 : M < w10.heap.size := by omega
                            have hgs10 : gs < w10.heap.size := by omega
                            have e1 : (G == M) = false := by simp; omega
                            have e2 : (M == G) = false := by simp; omega
                            have e3 : (G == gs) = false := by simp; omega
                            have e4 : (gs == G) = false := by simp; omega
                            have f1 : ¬ G = M := by omega
                            have f2 : ¬ M = G := by omega
                            have f3 : ¬ G = gs := by omega
                            have f4 : ¬ gs = G := by omega
                            have xx0 : (0 : Int) ≤ (x' : Int) := by omega
                            have xx1 : (x' : Int) < (sn : Int) := by omega
                            have yy0 : (0 : Int) ≤ (y' : Int) := by omega
                            have yy1 : (y' : Int) < (tn : Int) := by omega
                            have y3 := Y.cell 3 rfl
                            have yf := Y.2.2
                            clear ht1 ht2 htx hty hpe hpin2 hno2 hz hgs
                            have hst3 := Mid.setCell w10 (lo := G) (hi := G + 1) (p := ⟨G, 3, none⟩) (.int .i64 ((m : Int) + 1)) (Nat.le_refl _) (Nat.lt_succ_self _)
                            have Y3 := Y.set 3 (.int .i64 ((m : Int) + 1)) (by simp) rfl
                            simp only [List.set_cons_succ, List.set_cons_zero] at Y3
                            by_cases hmem : ((x' : Int), (y' : Int)) ∈ stj
                            · have HNS := Lib.hid (pbStep_no3 (ea := es) (eb := es') (p := ((a : Int), (b' : Int))) (st := stj) (x := x) (by rw [HPN.out]; exact hmem))
                              have hzn : ¬ z < 0 := fun h => HZ.out.1 h (List.mem_append_right _ hmem)
                              have dz : decide (z < 0) = false := by simpa using hzn
                              clear hmem hzn
                              rcases HPAR.out with ⟨hev, hxv⟩ | ⟨hod, hxv⟩
                              · have d3 : decide (0 < x) = true := by simp; omega
                                have HPE : Sec ((pbEs es es' P i ((a : Int), (b' : Int)) ((j + 1 + 1) / 2)).length = (pbEs es es' P i ((a : Int), (b' : Int)) ((j + 1) / 2)).length + 1) := ⟨pbEs_half_len hev hxv HT1.out HT2.out⟩
                                clear hev hxv
                                have HTD1 := Lib.hid (owns_mid HTD.out hst3 (Or.inl (Nat.le_refl _)))
                                have HPM1 := Lib.hid (HPM.out.mid hst3 (Or.inl (by omega)))
                                have HOV1 := Lib.hid (HOV.out.mid hst3 (Or.inr (Nat.le_refl _)))
                                have HL9 := Lib.hid (HL8.out.mid hst3 (Or.inl (by omega)))
                                have C0 := B0.mid hst3 (Or.inl (by omega))
                                have C1 := B1.mid hst3 (Or.inl (by omega))
                                have hm1 := hm.transNew hst3 (Or.inl (by omega))
                                clear HTD HPM HOV HL8 B0 B1 hm hst3 Y
                                go_wp2_with fail
                                go_roundw
                                case rel => exact ⟨j + 1, n1, _, c1, m + 1, by go_num, rfl, Lib.hid (by omega), Lib.hid (by rw [HPE.out, HM.out]; omega), by rw [HNX.out, HNS.out]; exact HTD1, HL9, HD1, by rw [Int.natCast_add]; exact Y3, by rw [HNX.out, HNS.out]; exact HPM1, HOV1, C0, C1, hm1⟩
                                case measure => simp [intOf]; omega
                              · have d3 : decide (0 < x) = false := by simp; omega
                                have HPE : Hid (pbEs es es' P i ((a : Int), (b' : Int)) ((j + 1) / 2) = pbEs es es' P i ((a : Int), (b' : Int)) ((j + 1 + 1) / 2)) := Lib.hid (by rw [show (j + 1 + 1) / 2 = (j + 1) / 2 by omega])
                                clear hod hxv hst3 Y3
                                go_wp2_with fail
                                go_roundw
                                case rel => exact ⟨j + 1, n1, _, c1, m, by go_num, rfl, Lib.hid (by omega), Lib.hid (by rw [← HPE.out]; exact HM.out), by rw [HNX.out, HNS.out]; exact HTD, HL8, HD1, Y, by rw [HNX.out, HNS.out]; exact HPM, HOV, B0, B1, hm⟩
                                case measure => simp [intOf]; omega
                            · have HNS : Hid (pbStep es es' ((a : Int), (b' : Int)) stj x = stj ++ [((x' : Int), (y' : Int))]) := Lib.hid (by rw [pbStep_yes HT1.out HT2.out (by rw [HPN.out]; exact hmem), HPN.out])
                              have hzn : z < 0 := HZ.out.2 fun h => by
                                rcases List.mem_append.1 h with h | h
                                · exact HNO2.out h
                                · exact hmem h
                              have dz : decide (z < 0) = true := by simpa using hzn
                              have hn1m : n1 ≤ 1048576 := by omega
                              clear hmem hzn
                              rcases HPAR.out with ⟨hev, hxv⟩ | ⟨hod, hxv⟩
                              · have d3 : decide (0 < x) = true := by simp; omega
                                have HPE : Sec ((pbEs es es' P i ((a : Int), (b' : Int)) ((j + 1 + 1) / 2)).length = (pbEs es es' P i ((a : Int), (b' : Int)) ((j + 1) / 2)).length + 1) := ⟨pbEs_half_len hev hxv HT1.out HT2.out⟩
                                clear hev hxv
                                have HTD1 := Lib.hid (owns_mid HTD.out hst3 (Or.inl (Nat.le_refl _)))
                                have HPM1 := Lib.hid (HPM.out.mid hst3 (Or.inl (by omega)))
                                have HOV1 := Lib.hid (HOV.out.mid hst3 (Or.inr (Nat.le_refl _)))
                                have HL9 := Lib.hid (HL8.out.mid hst3 (Or.inl (by omega)))
                                have C0 := B0.mid hst3 (Or.inl (by omega))
                                have C1 := B1.mid hst3 (Or.inl (by omega))
                                have hm1 := hm.transNew hst3 (Or.inl (by omega))
                                have hs10 := hst3.size
                                clear HTD HPM HOV HL8 B0 B1 hm hst3 Y
                                have hst4 := Mid.setCell (w10.setCell ⟨G, 3, none⟩ (.int .i64 ((m : Int) + 1))) (lo := gs) (hi := gs + 1) (p := ⟨gs, y', none⟩) (.int .i64 (n0 : Int)) (Nat.le_refl _) (Nat.lt_succ_self _)
                                have hPM2 := HPM1.out.put HGS.out hy's (k := (n0 : Int)) (by omega) (by omega)
                                have hTD2 := owns_mid HTD1.out hst4 (Or.inl (by omega))
                                have HTD2 := Lib.hid hTD2
                                have HPM2 := Lib.hid hPM2
                                have HOV2 := Lib.hid (HOV1.out.mid hst4 (Or.inl (by omega)))
                                have HL10 := Lib.hid (HL9.out.mid hst4 (Or.inl (by omega)))
                                replace C0 := C0.mid hst4 (Or.inl (by omega))
                                replace C1 := C1.mid hst4 (Or.inl (by omega))
                                replace hm1 := hm1.transNew hst4 (Or.inl (by omega))
                                have Y5 := Y3.mid hst4 (Or.inr (by omega))
                                have hs4 : w10.heap.size ≤ ((w10.setCell ⟨G, 3, none⟩ (.int .i64 ((m : Int) + 1))).setCell ⟨gs, y', none⟩ (.int .i64 (n0 : Int))).heap.size := by simp
                                clear hTD2 hPM2 HTD1 HPM1 HOV1 HL9 hst4 Y3
                                go_wp2_with (at_builtin; refine MarkerX.to ?_)
                                unfold MarkerX
                                generalize hWe : (w10.setCell ⟨G, 3, none⟩ (.int .i64 ((m : Int) + 1))).setCell ⟨gs, y', none⟩ (.int .i64 (n0 : Int)) = w11 at HTD2 HPM2 HOV2 HL10 C0 C1 hm1 Y5 hs4 ⊢
                                have hsz : w10.heap.size = w11.heap.size := by rw [← hWe]; simp
                                rw [hsz] at hG10 ⊢
                                clear hWe
                                refine wpList_pushP rfl _ _ rfl _ _ n1 _ stj rfl HTD2.out ((x' : Int), (y' : Int)) rfl hn1m hG10 ?_
                                intro A12 c12 w12 ho12 hgr12 hat12
                                have hm12 := Mid.of_grownRow HTD2.out hgr12
                                have hs12 := hm12.size
                                have hH8 : H8 ≤ w11.heap.size := HL10.out.1
                                have HTD3 := Lib.hid ho12
                                have HPM3 := Lib.hid (HPM2.out.mid hm12 (Or.inl (by omega)))
                                have HOV3 := Lib.hid (HOV2.out.mid hm12 (Or.inr (by omega)))
                                have HL11 := Lib.hid (HL10.out.grown hgr12 HD1.out)
                                have HD12 : Hid (∀ g, Value.ownBlock (.slice A12 (n1 + 1) c12) = some g → g < L8 ∨ H8 ≤ g) := Lib.hid (by
                                  intro g hg
                                  rcases hat12 with h | h
                                  · exact HD1.out g (h.symm.trans hg)
                                  · rw [h] at hg
                                    injection hg with hg
                                    omega)
                                replace C0 := C0.mid hm12 (Or.inl (by omega))
                                replace C1 := C1.mid hm12 (Or.inl (by omega))
                                replace hm1 := hm1.transNew hm12 (Or.inl (by omega))
                                have Y6 := Y5.mid hm12 (Or.inl (by omega))
                                clear ho12 hgr12 hat12 hm12 HTD2 HPM2 HOV2 HL10 Y5
                                go_wp2_with fail
                                go_roundw
                                case rel => exact ⟨j + 1, n1 + 1, A12, c12, m + 1, by go_num, rfl, Lib.hid (by omega), Lib.hid (by rw [HPE.out, HM.out]; omega), by rw [HNX.out, HNS.out]; exact HTD3, HL11, HD12, by rw [Int.natCast_add]; exact Y6, by rw [HNX.out, HNS.out, ← List.append_assoc]; exact HPM3, HOV3, C0, C1, hm1⟩
                                case measure => simp [intOf]; omega
                              · have d3 : decide (0 < x) = false := by simp; omega
                                have HPE : Hid (pbEs es es' P i ((a : Int), (b' : Int)) ((j + 1) / 2) = pbEs es es' P i ((a : Int), (b' : Int)) ((j + 1 + 1) / 2)) := Lib.hid (by rw [show (j + 1 + 1) / 2 = (j + 1) / 2 by omega])
                                clear hod hxv hst3 Y3
                                have HTD1 := HTD
                                have HPM1 := HPM
                                have HOV1 := HOV
                                have HL9 := HL8
                                have C0 := B0
                                have C1 := B1
                                have hm1 := hm
                                have Y3 := Y
                                have hs10 := Nat.le_refl w10.heap.size
                                clear HTD HPM HOV HL8 B0 B1 hm Y
                                have hst4 := Mid.setCell (w10) (lo := gs) (hi := gs + 1) (p := ⟨gs, y', none⟩) (.int .i64 (n0 : Int)) (Nat.le_refl _) (Nat.lt_succ_self _)
                                have hPM2 := HPM1.out.put HGS.out hy's (k := (n0 : Int)) (by omega) (by omega)
                                have hTD2 := owns_mid HTD1.out hst4 (Or.inl (by omega))
                                have HTD2 := Lib.hid hTD2
                                have HPM2 := Lib.hid hPM2
                                have HOV2 := Lib.hid (HOV1.out.mid hst4 (Or.inl (by omega)))
                                have HL10 := Lib.hid (HL9.out.mid hst4 (Or.inl (by omega)))
                                replace C0 := C0.mid hst4 (Or.inl (by omega))
                                replace C1 := C1.mid hst4 (Or.inl (by omega))
                                replace hm1 := hm1.transNew hst4 (Or.inl (by omega))
                                have Y5 := Y3.mid hst4 (Or.inr (by omega))
                                have hs4 : w10.heap.size ≤ ((w10).setCell ⟨gs, y', none⟩ (.int .i64 (n0 : Int))).heap.size := by simp
                                clear hTD2 hPM2 HTD1 HPM1 HOV1 HL9 hst4 Y3
                                go_wp2_with (at_builtin; refine MarkerX.to ?_)
                                unfold MarkerX
                                generalize hWe : (w10).setCell ⟨gs, y', none⟩ (.int .i64 (n0 : Int)) = w11 at HTD2 HPM2 HOV2 HL10 C0 C1 hm1 Y5 hs4 ⊢
                                have hsz : w10.heap.size = w11.heap.size := by rw [← hWe]; simp
                                rw [hsz] at hG10 ⊢
                                clear hWe
                                refine wpList_pushP rfl _ _ rfl _ _ n1 _ stj rfl HTD2.out ((x' : Int), (y' : Int)) rfl hn1m hG10 ?_
                                intro A12 c12 w12 ho12 hgr12 hat12
                                have hm12 := Mid.of_grownRow HTD2.out hgr12
                                have hs12 := hm12.size
                                have hH8 : H8 ≤ w11.heap.size := HL10.out.1
                                have HTD3 := Lib.hid ho12
                                have HPM3 := Lib.hid (HPM2.out.mid hm12 (Or.inl (by omega)))
                                have HOV3 := Lib.hid (HOV2.out.mid hm12 (Or.inr (by omega)))
                                have HL11 := Lib.hid (HL10.out.grown hgr12 HD1.out)
                                have HD12 : Hid (∀ g, Value.ownBlock (.slice A12 (n1 + 1) c12) = some g → g < L8 ∨ H8 ≤ g) := Lib.hid (by
                                  intro g hg
                                  rcases hat12 with h | h
                                  · exact HD1.out g (h.symm.trans hg)
                                  · rw [h] at hg
                                    injection hg with hg
                                    omega)
                                replace C0 := C0.mid hm12 (Or.inl (by omega))
                                replace C1 := C1.mid hm12 (Or.inl (by omega))
                                replace hm1 := hm1.transNew hm12 (Or.inl (by omega))
                                have Y6 := Y5.mid hm12 (Or.inl (by omega))
                                clear ho12 hgr12 hat12 hm12 HTD2 HPM2 HOV2 HL10 Y5
                                go_wp2_with fail
                                go_roundw
                                case rel => exact ⟨j + 1, n1 + 1, A12, c12, m, by go_num, rfl, Lib.hid (by omega), Lib.hid (by rw [← HPE.out]; exact HM.out), by rw [HNX.out, HNS.out]; exact HTD3, HL11, HD12, Y6, by rw [HNX.out, HNS.out, ← List.append_assoc]; exact HPM3, HOV3, C0, C1, hm1⟩
                                case measure => simp [intOf]; omega
                      · obtain rfl : LL = j := by omega
                        have htk : (lets rn).take LL = lets rn := List.take_of_length_le (by rw [HLL.out]; exact Nat.le_refl _)
                        rw [htk] at hstj
                        have hj2 : (LL + 1) / 2 = rn := by have h1 := HLL.out; rw [lets_len] at h1; omega
                        rw [hj2] at HM
                        have HM2 : Hid (m = (pbAll es es' rn P (i + 1)).length) := Lib.hid (by rw [HSU.out, List.length_append]; exact HM.out)
                        have hst2 : pbSt es es' (lets rn) ((u : Int), (v : Int)) (i + 1) = stj := HSS.out.trans hstj
                        have HST2 := Lib.hid hst2
                        have hi1' : i < n1 := by have h1 := (List.getElem?_eq_some_iff.1 hpj).1; omega
                        have Y4 := Y
                        clear hst2 hstj htk hpj hn1 HM Y
                        go_wp2_with fail
                        go_roundw
                        case rel => exact ⟨i + 1, n1, A1, c1, m, e', by go_num, rfl, Lib.hid hi1', HM2, by rw [HST2.out]; exact HTD, by rw [Int.natCast_add]; exact Y4, by rw [HST2.out]; exact HPM, HOV, B0, B1, hm⟩
                        case measure => simp [intOf]; omega
                  · obtain rfl : n1 = i := by omega
                    have hPeq := pairs_eq F1.out.gr F2.out.gr HP0.out hn1
                    rw [HPP.out] at hPeq
                    have hPL : P.length = n1 := by rw [hPeq]; exact hn1
                    have y0 := Y.cell 0 rfl
                    have y1 := Y.cell 1 rfl
                    have y2 := Y.cell 2 rfl
                    have y3 := Y.cell 3 rfl
                    have y4 := Y.cell 4 rfl
                    have yf := Y.2.2
                    have hGs : G < w6'.heap.size := Y.1
                    have HOW2 := Lib.hid HOV.out.2.1
                    have HPS2 : Hid (PcsOk es es' rn tn (u * tn + (v + 1)) (ps ++ [⟨u, v, n1, m, eb⟩])) := Lib.hid (by
                      refine ⟨?_, fun p hp => ?_⟩
                      · rw [← Nat.add_assoc, HCX.out, List.map_append, HPS.out.rk]
                        show _ ++ [(m : Int) - (n1 : Int) + 1] = _ ++ [pbRank es es' rn (pairsOf es es' (lets rn) ((u : Int), (v : Int)))]
                        rw [HPP.out]
                        unfold pbRank
                        rw [hPL, ← HMM.out]
                      · rcases List.mem_append.1 hp with hp | hp
                        · exact HPS.out.bd p hp
                        · simp at hp
                          subst hp
                          simp only
                          omega)
                    have hS1 : (compSt es es' rn tn (u * tn + (v + 1))).1 = S0 ++ P := by
                      rw [← Nat.add_assoc, HCX.out, HPP.out, HS0.out]
                    rw [← hPeq, ← hS1] at HPM
                    clear hPeq hPL hS1 HMM Y HTD hn1 HCX HPP HS0 HPS HOV
                    go_wp2_with (at_builtin; refine MarkerX.to ?_)
                    unfold MarkerX
                    refine wpList_pushPc rfl _ _ rfl Ob _ n0 _ ps rfl HOW2.out ⟨u, v, n1, m, eb⟩ rfl (by omega) (by omega) ?_
                    intro A2 c2 w12 ho12 hgr12 hat12
                    have hm12 := Mid.of_grownRow HOW2.out hgr12
                    have hs12 := hm12.size
                    have HPM2 := Lib.hid (HPM.out.mid hm12 (Or.inl (by omega)))
                    have HOW3 := Lib.hid ho12
                    have HOS2 : Hid (Ob < w12.heap.size) := Lib.hid (by omega)
                    replace B0 := B0.mid hm12 (Or.inl (by omega))
                    replace B1 := B1.mid hm12 (Or.inl (by omega))
                    replace hm := hm.transNew hm12 (Or.inl (by omega))
                    have HN2 : Hid ((ps ++ [(⟨u, v, n1, m, eb⟩ : Pc)]).length = n0 + 1) := Lib.hid (by rw [List.length_append, HN0.out]; rfl)
                    clear ho12 hgr12 hat12 hm12 HPM HOW2 HN0 y0 y1 y2 y3 y4 yf
                    go_wp2_with fail
                    go_roundw
                    case rel => exact ⟨v + 1, A2, c2, n0 + 1, _, Lib.hid (by omega), by go_num, rfl, HN2, HPS2, HPM2, HOW3, HOS2, B0, B1, hm⟩
                    case measure => simp [intOf]; omega
              · have d1 : decide (0 ≤ x) = true := by simp; omega
                have hin : pairAt tn (u * tn + v) ∈ (compSt es es' rn tn (u * tn + v)).1 := by
                  rw [HPA.out]
                  exact Decidable.byContradiction fun h => hxn (HX.out.2 h)
                have hc := compSt_in hin
                have HPS2 : Hid (PcsOk es es' rn tn (u * tn + (v + 1)) ps) := Lib.hid ⟨by rw [← Nat.add_assoc, hc]; exact HPS.out.rk, HPS.out.bd⟩
                have HPM2 : Hid (PMat w4' M Ob bs tn (compSt es es' rn tn (u * tn + (v + 1))).1) := Lib.hid (by rw [← Nat.add_assoc, hc]; exact HPM.out)
                clear hin hc HPS HPM
                go_wp2_with fail
                go_roundw
                case rel => exact ⟨v + 1, A0, c0, n0, ps, Lib.hid (by omega), by go_num, rfl, HN0, HPS2, HPM2, HOW, HOS, B0, B1, hm⟩
                case measure => simp [intOf]; omega
            · obtain rfl : tn = v := by omega
              have HPS2 : Hid (PcsOk es es' rn tn ((u + 1) * tn) ps) := Lib.hid (by rw [Nat.succ_mul]; exact HPS.out)
              have HPM2 : Hid (PMat w4' M Ob bs tn (compSt es es' rn tn ((u + 1) * tn)).1) := Lib.hid (by rw [Nat.succ_mul]; exact HPM.out)
              clear HPS HPM
              go_wp2_with fail
              go_roundw
              case rel => exact ⟨u + 1, A0, c0, n0, ps, Lib.hid (by omega), by go_num, rfl, HN0, HPS2, HPM2, HOW, HOS, B0, B1, hm⟩
              case measure => simp [intOf]; omega
        · obtain rfl : sn = u := by omega
          have hlen := HN0.out
          go_wp2_with fail
          go_ret2
          exact ⟨A0, c0, ps, .slice (some ⟨M, 0, none⟩) sn sn, by rw [hlen]; rfl, HPS.out, (owns_rv HOW.out).wide (by omega) (Nat.le_refl _) (Nat.le_refl _), hm⟩
end Go.Proofs.Ytimmnnncgnnkgaa

/- l14Pairs, the reference: its row lies in blocks of its own. -/
namespace Go.Proofs.Ytimmnnncgnnkgaa
set_option linter.unusedVariables false
set_option linter.unusedSimpArgs false
open Go.RowKit

set_option maxHeartbeats 6400000 in
set_option maxRecDepth 100000 in
theorem spec_l14PairsO (r na nb u v : Nat) (A B : Option Addr) (ea eb : List Ed) (c d : Nat) (w : World) (lo hi lo2 hi2 : Nat) (hr : RG w lo hi A ea) (hr2 : RG w lo2 hi2 B eb) (hg : IsGr r na ea) (hg2 : IsGr r nb eb) (hu : u < na) (hv : v < nb) :
    Calls Try.prog 42 #[graV r na A ea.length c, graV r nb B eb.length d, .int .i64 u, .int .i64 v] w fun e w' => ∃ A1 c1, e = .returned (.slice A1 (pairsOf ea eb (lets r) (u, v)).length c1) ∧ RV w' w.heap.size w'.heap.size A1 (ints ((pairsOf ea eb (lets r) (u, v)).map (pcode nb))) ∧ Mid 0 0 w w' := by
  have hna : na ≤ 40 := by have := hg.size; omega
  have hnb : nb ≤ 40 := by have := hg2.size; omega
  have hnb1 : (0 : Int) < (nb : Int) := by have := hg2.size; omega
  have hnb0 : ¬ nb = 0 := by omega
  have hr3 : r ≤ 3 := by have := hg.rank; omega
  have hl := hg.len
  have hl2 := hg2.len
  have hgl : ∀ e ∈ ea, 1 ≤ e.l ∧ e.l ≤ 3 := fun e he => by have := hg.all e he; unfold InG at this; omega
  have hgl2 : ∀ e ∈ eb, 1 ≤ e.l ∧ e.l ≤ 3 := fun e he => by have := hg2.all e he; unfold InG at this; omega
  have hp0 : PIn na nb ((u : Int), (v : Int)) := ⟨Int.natCast_nonneg _, Int.ofNat_lt.2 hu, Int.natCast_nonneg _, Int.ofNat_lt.2 hv⟩
  have hmulb : (na : Int) * (nb : Int) ≤ 40 * 40 := Int.mul_le_mul (by omega) (by omega) (by omega) (by omega)
  obtain ⟨N, hN⟩ : ∃ N : Nat, (na : Int) * (nb : Int) = (N : Int) := ⟨na * nb, by simp⟩
  have hN16 : N ≤ 1600 := by rw [hN] at hmulb; omega
  obtain ⟨q0, u', v', m0, hpq, -, -, hm0e, hq0e, hq0, hpc0, hmq0, -, -⟩ := pcode_nat hN hp0
  simp only [Prod.mk.injEq, Int.ofNat_inj] at hpq
  obtain ⟨rfl, rfl⟩ := hpq
  have hmx : N ≤ maxLen := by unfold maxLen; omega
  have HP0 := Lib.hid hp0
  have HPC := Lib.hid hpc0
  have HG := Lib.hid hg
  have HG2 := Lib.hid hg2
  have HGL := Lib.hid hgl
  have HGL2 := Lib.hid hgl2
  have HNN := Lib.hid hN
  have hm0 : Mid 0 0 w ((w.alloc (.cells #[.int .i64 r, .int .i64 na, .slice A ea.length c] 28)).alloc (.cells #[.int .i64 r, .int .i64 nb, .slice B eb.length d] 28)) := (Mid.alloc _ _).trans (Mid.alloc _ _)
  have B0 := (Box.new w #[.int .i64 r, .int .i64 na, .slice A ea.length c] 28).mid (Mid.alloc _ (.cells #[.int .i64 r, .int .i64 nb, .slice B eb.length d] 28)) (Or.inr (Nat.zero_le _))
  have B1 := Box.new (w.alloc (.cells #[.int .i64 r, .int .i64 na, .slice A ea.length c] 28)) #[.int .i64 r, .int .i64 nb, .slice B eb.length d] 28
  rw [World.size_alloc] at B1
  clear hg hg2 hgl hgl2 hp0 hpc0 hmulb
  go_enter Try.func42, Try.ntmps42
  have p0 := B0.cell 0 rfl
  have p1 := B0.cell 1 rfl
  have p2 := B0.cell 2 rfl
  have p'0 := B1.cell 0 rfl
  have p'1 := B1.cell 1 rfl
  have p'2 := B1.cell 2 rfl
  go_wp2_with (at_make; refine MarkerX.to ?_)
  unfold MarkerX
  refine wpList_mk rfl _ _ 82 rfl 4 (.bool false) 1 undSB infoB rfl .i64 .i64 _ _ N rfl rfl rfl rfl (by omega) hmx ?_
  intro w2 hown2 hgr2 hsz2
  simp only [World.size_alloc] at hown2 hsz2
  have hm2 := hm0.trans (Mid.of_grown hgr2 (by intro g h; cases h))
  have hmg := Mid.of_grown (lo := 0) (hi := 0) hgr2 (by intro g h; cases h)
  have hst2 := Mid.setAt w2 (w.heap.size + 1 + 1) q0 (.bool true)
  replace B0 := B0.mid hmg (Or.inr (Nat.zero_le _))
  replace B1 := B1.mid hmg (Or.inr (Nat.zero_le _))
  clear hmg hm0 hgr2 p0 p1 p2 p'0 p'1 p'2
  have B0s := B0.mid hst2 (Or.inl (by omega))
  have B1s := B1.mid hst2 (Or.inl (by omega))
  have hwa : w.heap.size < w2.heap.size := by omega
  have hwb : w.heap.size + 1 < w2.heap.size := by omega
  have p0 := B0s.cell 0 rfl
  have p'0 := B1s.cell 0 rfl
  have p'1 := B1.cell 1 rfl
  have hal := hown2.alloc (.cells #[.int .i64 q0] 3)
  have hfz := hal.frozenAt q0
  obtain ⟨u0, -, hcs⟩ := owns_cell hal hq0
  clear hal
  have O0 := owns_lit (w2.setCell ⟨w.heap.size + 1 + 1, q0, none⟩ (.bool true)) 3 (.int .i64 q0)
  have hset := owns_set (ys := seenOf N [(q0 : Int)]) hown2 q0 (.bool true) (by rw [← seenOf_nil, seenOf_set hq0]; rfl)
  have hms := Mid.storeNew hm2 (p := ⟨w.heap.size + 1 + 1, q0, none⟩) (Nat.le_succ_of_le (Nat.le_succ_of_le (Nat.le_refl _))) (.bool true)
  have hal := Mid.alloc (w2.setCell ⟨w.heap.size + 1 + 1, q0, none⟩ (.bool true)) (.cells #[.int .i64 q0] 3)
  simp only [World.size_setCell] at O0
  go_wp2_with fail
  with_reducible refine (spec_l5Letters r _ (by omega)).mono ?_
  rintro en w4 ⟨A4, c4, rfl, hL4, hm4⟩
  have hs4 : w2.heap.size + 1 ≤ w4.heap.size := by have := hm4.size; simpa using this
  rw [World.size_alloc, World.size_setCell] at hL4
  replace B0s := B0s.mid hal (Or.inr (Nat.zero_le _))
  replace B1s := B1s.mid hal (Or.inr (Nat.zero_le _))
  replace hset := owns_mid hset hal (Or.inl (Nat.zero_le _))
  replace hms := hms.trans hal
  replace B0s := B0s.mid hm4 (Or.inr (Nat.zero_le _))
  replace B1s := B1s.mid hm4 (Or.inr (Nat.zero_le _))
  replace hset := owns_mid hset hm4 (Or.inl (Nat.zero_le _))
  replace O0 := owns_mid O0 hm4 (Or.inl (Nat.zero_le _))
  replace hms := hms.trans hm4
  have hst0 : (pbSt ea eb (lets r) ((u : Int), (v : Int)) 0).map (pcode nb) = [(q0 : Int)] := by
    show [pcode nb ((u : Int), (v : Int))] = _
    rw [HPC.out]
  have HST0 := Lib.hid hst0
  clear p0 p'0 p'1 hal hm4 hm2 hst2 hcs hfz hown2 B0 B1 hst0 hm0e hq0e
  have HLL := Lib.hid (lets_len r)
  obtain ⟨LL, hLL⟩ : ∃ LL, (lets r).length = LL := ⟨_, rfl⟩
  have hLL6 : LL ≤ 6 := by have := HLL.out; omega
  rw [hLL]
  have HLn := Lib.hid hLL
  clear hLL
  go_wp2_with fail
  go_loopw [10, 12] (fun ord iv wr => ∃ (i n1 : Nat) (A1 : Option Addr) (c1 : Nat), i ≤ n1 ∧ iv = .int .i64 i ∧ ord = .slice A1 n1 c1 ∧ Hid ((pbSt ea eb (lets r) (u, v) i).length = n1) ∧
      wr.ownsRow w2.heap.size 3 1 (.slice A1 n1 c1) n1 (ints ((pbSt ea eb (lets r) (u, v) i).map (pcode nb))) ∧ wr.ownsRow (w.heap.size + 1 + 1) 4 1 (.slice (some ⟨w.heap.size + 1 + 1, 0, none⟩) N N) N (seenOf N ((pbSt ea eb (lets r) (u, v) i).map (pcode nb))) ∧
          Hid (RV wr (w2.heap.size + 1) w4.heap.size A4 (ints (lets r))) ∧ Hid (∀ g, Value.ownBlock (.slice A1 n1 c1) = some g → g < w2.heap.size + 1 ∨ w4.heap.size ≤ g) ∧ Box wr w.heap.size [.int .i64 r, .int .i64 na, .slice A ea.length c] ∧ Box wr (w.heap.size + 1) [.int .i64 r, .int .i64 nb, .slice B eb.length d] ∧ Mid 0 0 w wr) (fun _ i _ => (1601 - intOf i).toNat)
  case atStart => exact ⟨0, 1, _, 1, Nat.zero_le _, rfl, rfl, Lib.hid rfl, by rw [HST0.out]; exact O0, by rw [HST0.out]; exact hset, Lib.hid hL4, Lib.hid (fun g hg => by injection hg with hg; simp at hg; omega), B0s, B1s, hms⟩
  case round =>
    clear O0 hset hL4 B0s B1s hms
    obtain ⟨wo, hwo⟩ : ∃ wo, wo = wr := ⟨_, rfl⟩
    subst hwo
    obtain ⟨i, n1, A1, c1, hin, rfl, rfl, HN, hord, hsee, HL4, HD, bx, bz, hm⟩ := hrel
    have hn1 : n1 ≤ 1600 := by have h1 := pb_len (lets r) HG.out HG2.out HP0.out i; have h2 := HN.out; omega
    have HOK := Lib.hid (pbSt_ok (lets r) HG.out.all HG2.out.all HP0.out i)
    by_cases hlt : i < n1
    · obtain ⟨p, hp⟩ := get_of_lt (pbSt ea eb (lets r) (u, v) i) (show i < (pbSt ea eb (lets r) (u, v) i).length by rw [HN.out]; exact hlt)
      have hpin := HOK.out.rng p (List.mem_of_getElem? hp)
      obtain ⟨q, a, b, m, rfl, ha, hb, -, -, hq, hpc, -, hqd, hqm⟩ := pcode_nat HNN.out hpin
      have HP := Lib.hid hp
      have HQ := Lib.hid hpc
      have hNX := Lib.hid (pbSt_succ hp)
      have hi0 : (0 : Int) ≤ (i : Int) := by omega
      clear hp hpin hpc
      go_wp2_with fail
      go_loopw [10, 13] (fun ord jv wr => ∃ (j n1 : Nat) (A1 : Option Addr) (c1 : Nat), j ≤ LL ∧ jv = .int .i64 j ∧ ord = .slice A1 n1 c1 ∧ Hid ((pbRow ea eb ((lets r).take j) (a, b) (pbSt ea eb (lets r) (u, v) i)).length = n1) ∧
          wr.ownsRow w2.heap.size 3 1 (.slice A1 n1 c1) n1 (ints ((pbRow ea eb ((lets r).take j) (a, b) (pbSt ea eb (lets r) (u, v) i)).map (pcode nb))) ∧ wr.ownsRow (w.heap.size + 1 + 1) 4 1 (.slice (some ⟨w.heap.size + 1 + 1, 0, none⟩) N N) N (seenOf N ((pbRow ea eb ((lets r).take j) (a, b) (pbSt ea eb (lets r) (u, v) i)).map (pcode nb))) ∧
          Hid (RV wr (w2.heap.size + 1) w4.heap.size A4 (ints (lets r))) ∧ Hid (∀ g, Value.ownBlock (.slice A1 n1 c1) = some g → g < w2.heap.size + 1 ∨ w4.heap.size ≤ g) ∧ Box wr w.heap.size [.int .i64 r, .int .i64 na, .slice A ea.length c] ∧ Box wr (w.heap.size + 1) [.int .i64 r, .int .i64 nb, .slice B eb.length d] ∧ Mid 0 0 w wr) (fun _ j _ => LL - (intOf j).toNat)
      case atStart => exact ⟨0, n1, _, c1, Nat.zero_le _, rfl, rfl, by rw [List.take_zero]; exact HN, hord, hsee, HL4, HD, bx, bz, hm⟩
      case round =>
        clear hord hsee HL4 HD bx bz hm
        obtain ⟨j, n1, A1, c1, hj, rfl, rfl, HN, hord, hsee, HL4, HD, bx, bz, hm⟩ := hrel
        obtain ⟨stj, hstj⟩ : ∃ st, pbRow ea eb ((lets r).take j) (a, b) (pbSt ea eb (lets r) (u, v) i) = st := ⟨_, rfl⟩
        have hokj : PbOk na nb stj := by rw [← hstj]; exact PbOk.row HG.out.all HG2.out.all _ _ HOK.out
        have hpj : stj[i]? = some ((a : Int), (b : Int)) := by rw [← hstj]; exact prefix_get (pbRow_pre _ _ _ _ _) HP.out
        rw [hstj] at HN hord hsee
        have hn1b : n1 ≤ 1600 := by
          have h1 := hokj.len (Int.natCast_nonneg _) (Int.natCast_nonneg _)
          have h2 := HN.out
          rw [HNN.out] at h1
          omega
        by_cases hlt2 : j < LL
        · obtain ⟨B4, o4, x, rfl, hB4, hx, hcx⟩ := HL4.out.at (k := j) (by rw [HLn.out]; exact hlt2)
          have hxm := lets_le (List.mem_of_getElem? hx)
          have hnx := pbRow_take (ea := ea) (eb := eb) (p := ((a : Int), (b : Int))) (st := pbSt ea eb (lets r) (u, v) i) hx
          rw [hstj] at hnx
          have hj0 : (0 : Int) ≤ (j : Int) := by omega
          have hj1 : (j : Int) < (LL : Int) := by omega
          have hil : i < n1 := by have h1 := (List.getElem?_eq_some_iff.1 hpj).1; have h2 := HN.out; omega
          have hi1 : (i : Int) < (n1 : Int) := by omega
          obtain ⟨g1, rfl, hg1, hg1s⟩ := owns_addr hord (show 0 < n1 by omega)
          have hcu : wr.cell? ⟨g1, i, none⟩ = some (.int .i64 q) := (hord.cellAt i (by omega)).trans (by rw [ints_get, List.getElem?_map, hpj]; show some (Value.int .i64 (pcode nb ((a : Int), (b : Int)))) = _; rw [HQ.out])
          have hB4s : B4 < wr.heap.size := Nat.lt_of_lt_of_le hB4 HL4.out.1
          have hcs1 := nextV_cases HG.out.all (a : Int) x
          have hcs2 := nextV_cases HG2.out.all (b : Int) x
          have HOJ := Lib.hid hokj
          have HNX0 := Lib.hid hnx
          have HX := Lib.hid hx
          have HPJ := Lib.hid hpj
          have HCS1 := Lib.hid hcs1
          have HCS2 := Lib.hid hcs2
          have hwa : IntKind.i64.wrap (a : Int) = (a : Int) := IntWalk.i64_in _ (by omega)
          have hwb : IntKind.i64.wrap (b : Int) = (b : Int) := IntWalk.i64_in _ (by omega)
          have k0 := wg_cell bx.1 (bx.cell 0 rfl)
          have k1 := wg_cell bx.1 (bx.cell 1 rfl)
          have k2 := wg_cell bx.1 (bx.cell 2 rfl)
          have k3 := wg_cell hg1s hcu
          have k4 := wg_cell hB4s hcx
          have k5 := wg_cell bz.1 (bz.cell 1 rfl)
          have hA := fun m os => spec_NextVertex r na A ea c a x (wg wr m os) lo hi (hr.mid (hm.trans (Mid.ofWg wr m os)) (Or.inl (Nat.zero_le _))) (by omega) HGL.out (by omega) (by omega)
          clear hx hokj hpj hstj hcu hcx hnx hcs1 hcs2
          go_wp2_with fail
          refine wp_region_quiet_wg (by kernel_rfl) (by kernel_rfl) ?_
          repeat
            (with_reducible refine wpQuiet_step (fun K hK => ?_))
            go_simp
            first
              | ((with_reducible refine hK _ ?_); clear hK K)
              | (rw [if_neg (by decide)]; (with_reducible refine hK _ ?_); clear hK K)
              | (apply Exists.intro; refine ⟨fun _ => ?_, hK _ ?_⟩; ((go_at_call 44; exact Calls.wg_of (hA _ _))); clear hK K)
          with_reducible refine wpQuiet_nil ?_
          intro _ hw'
          obtain ⟨⟨nq, osq⟩, hw''⟩ := hw'
          subst hw''
          have hwg := Mid.ofWg wr nq osq
          generalize wg wr nq osq = w6 at hwg ⊢
          replace bx := bx.mid hwg (Or.inr (Nat.zero_le _))
          replace bz := bz.mid hwg (Or.inr (Nat.zero_le _))
          replace hord := owns_mid hord hwg (Or.inl (Nat.zero_le _))
          replace hsee := owns_mid hsee hwg (Or.inl (Nat.zero_le _))
          replace hm := hm.trans hwg
          replace HL4 := Lib.hid (HL4.out.mid hwg (Or.inl (Nat.zero_le _)))
          have hg1s6 := Nat.lt_of_lt_of_le hg1s hwg.size
          have hB4s6 : B4 < w6.heap.size := Nat.lt_of_lt_of_le hB4 HL4.out.1
          obtain ⟨B5, o5, x5, hBe, hB5, hx5, hcx5⟩ := HL4.out.at (k := j) (by rw [HLn.out]; exact hlt2)
          injection hBe with hBe
          injection hBe with hBe1 hBe2
          subst hBe1
          subst hBe2
          have hxx : x5 = x := by have h := HX.out; rw [hx5] at h; injection h
          subst hxx
          have hcu6 : w6.cell? ⟨g1, i, none⟩ = some (.int .i64 q) := (hord.cellAt i (by omega)).trans (by rw [ints_get, List.getElem?_map, HPJ.out]; show some (Value.int .i64 (pcode nb ((a : Int), (b : Int)))) = _; rw [HQ.out])
          clear k0 k1 k2 k3 k4 k5 hA
          have k0 := wg_cell bz.1 (bz.cell 0 rfl)
          have k1 := wg_cell bz.1 (bz.cell 1 rfl)
          have k2 := wg_cell bz.1 (bz.cell 2 rfl)
          have k3 := wg_cell hg1s6 hcu6
          have k4 := wg_cell hB4s6 hcx5
          have hA := fun m os => spec_NextVertex r nb B eb d b x5 (wg w6 m os) lo2 hi2 (hr2.mid (hm.trans (Mid.ofWg w6 m os)) (Or.inl (Nat.zero_le _))) (by omega) HGL2.out (by omega) (by omega)
          clear hx5 hcx5 hcu6
          go_wp2_with fail
          refine wp_region_quiet_wg (by kernel_rfl) (by kernel_rfl) ?_
          repeat
            (with_reducible refine wpQuiet_step (fun K hK => ?_))
            go_simp
            first
              | ((with_reducible refine hK _ ?_); clear hK K)
              | (rw [if_neg (by decide)]; (with_reducible refine hK _ ?_); clear hK K)
              | (apply Exists.intro; refine ⟨fun _ => ?_, hK _ ?_⟩; ((go_at_call 44; exact Calls.wg_of (hA _ _))); clear hK K)
          with_reducible refine wpQuiet_nil ?_
          intro _ hw'
          obtain ⟨⟨nq, osq⟩, hw''⟩ := hw'
          subst hw''
          have hwg2 := Mid.ofWg w6 nq osq
          generalize wg w6 nq osq = w7 at hwg2 ⊢
          replace bx := bx.mid hwg2 (Or.inr (Nat.zero_le _))
          replace bz := bz.mid hwg2 (Or.inr (Nat.zero_le _))
          replace hord := owns_mid hord hwg2 (Or.inl (Nat.zero_le _))
          replace hsee := owns_mid hsee hwg2 (Or.inl (Nat.zero_le _))
          replace hm := hm.trans hwg2
          replace HL4 := Lib.hid (HL4.out.mid hwg2 (Or.inl (Nat.zero_le _)))
          clear k0 k1 k2 k3 k4 hA hwg hwg2 hg1s6 hB4s6 hB4s hg1s
          have k1 := bz.cell 1 rfl
          by_cases ht1 : nextV ea a x5 < 0
          · have b1 : decide (0 ≤ nextV ea a x5) = false := by simp; omega
            have HNX := Lib.hid (HNX0.out.trans (pbStep_no1 ht1))
            clear ht1
            go_wp2_with fail
            go_roundw
            case rel => exact ⟨j + 1, n1, _, c1, by omega, by go_num, rfl, by rw [HNX.out]; exact HN, by rw [HNX.out]; exact hord, by rw [HNX.out]; exact hsee, HL4, HD, bx, bz, hm⟩
            case measure => simp [intOf]; omega
          · have b1 : decide (0 ≤ nextV ea a x5) = true := by simp; omega
            by_cases ht2 : nextV eb b x5 < 0
            · have b2 : decide (0 ≤ nextV eb b x5) = false := by simp; omega
              have HNX := Lib.hid (HNX0.out.trans (pbStep_no2 ht2))
              clear ht1 ht2
              go_wp2_with fail
              go_roundw
              case rel => exact ⟨j + 1, n1, _, c1, by omega, by go_num, rfl, by rw [HNX.out]; exact HN, by rw [HNX.out]; exact hord, by rw [HNX.out]; exact hsee, HL4, HD, bx, bz, hm⟩
              case measure => simp [intOf]; omega
            · have hpin2 := pbNext_in HG.out.all HG2.out.all ((a : Int), (b : Int)) ht1 ht2
              obtain ⟨q', x', y', m', hpe, hx', hy', hme', hqe', hq', hpc', hmq', -, -⟩ := pcode_nat HNN.out hpin2
              have htx : nextV ea a x5 = (x' : Int) := congrArg Prod.fst hpe
              have hty : nextV eb b x5 = (y' : Int) := congrArg Prod.snd hpe
              have HMEM := Lib.hid (HOJ.out.mem hpin2)
              have HQ' := Lib.hid hpc'
              have HT1 := Lib.hid ht1
              have HT2 := Lib.hid ht2
              simp only [htx, hty]
              clear b1 ht1 ht2 hpe htx hty hpin2 hpc'
              have c1' : decide ((0 : Int) ≤ (x' : Int)) = true := by simp
              have c2' : decide ((0 : Int) ≤ (y' : Int)) = true := by simp
              obtain ⟨bb, hbb⟩ : ∃ bb : Bool, decide ((q' : Int) ∈ stj.map (pcode nb)) = bb := ⟨_, rfl⟩
              have hcs := (hsee.cellAt q' (by omega)).trans (seenOf_get hq')
              rw [hbb] at hcs
              cases bb with
              | true =>
                have hin' := HMEM.out.1 (by rw [HQ'.out]; exact of_decide_eq_true hbb)
                have HNX := Lib.hid (HNX0.out.trans (pbStep_no3 hin'))
                clear hbb hin'
                go_wp2_with fail
                go_roundw
                case rel => exact ⟨j + 1, n1, _, c1, by omega, by go_num, rfl, by rw [HNX.out]; exact HN, by rw [HNX.out]; exact hord, by rw [HNX.out]; exact hsee, HL4, HD, bx, bz, hm⟩
                case measure => simp [intOf]; omega
              | false =>
                have hnin : pbNext ea eb ((a : Int), (b : Int)) x5 ∉ stj := fun h => by
                  have := HMEM.out.2 h
                  rw [HQ'.out] at this
                  exact absurd this (of_decide_eq_false hbb)
                have HNX := Lib.hid (HNX0.out.trans (pbStep_yes HT1.out HT2.out hnin))
                have HMAP : Hid ((stj ++ [pbNext ea eb ((a : Int), (b : Int)) x5]).map (pcode nb) = stj.map (pcode nb) ++ [(q' : Int)]) := Lib.hid (by rw [List.map_append, ← HQ'.out]; rfl)
                have hst7 := Mid.setAt w7 (w.heap.size + 1 + 1) q' (.bool true)
                have hfz := hsee.frozenAt q'
                have hse8 := owns_set hsee q' (.bool true) (seenOf_set hq')
                have hord8 := owns_mid hord hst7 (Or.inl (by omega))
                have bx8 := bx.mid hst7 (Or.inl (by omega))
                have bz8 := bz.mid hst7 (Or.inl (by omega))
                have hm8 := hm.transNew hst7 (Or.inl (by omega))
                have HL8 := Lib.hid (HL4.out.mid hst7 (Or.inl (by omega)))
                have HO9 := Lib.hid hord8
                have HS9 := Lib.hid hse8
                have hsz7 : w2.heap.size ≤ w7.heap.size := by have := HL4.out.1; omega
                have k1' := bz8.cell 1 rfl
                clear hbb hnin hord hord8 hsee hse8 hst7
                go_wp2_with (at_builtin; refine wpList_pushI2 rfl _ _ rfl w2.heap.size _ n1 c1 (stj.map (pcode nb)) rfl HO9.out q' (by rw [World.size_setCell]; rfl) (by omega) (by rw [World.size_setCell]; exact hsz7) ?_; intro A10 c10 w10 hord10 hgr10 hat10)
                rw [World.size_setCell] at hat10
                have hm10 := Mid.of_grownRow HO9.out hgr10
                have bx10 := bx8.mid hm10 (Or.inl (by omega))
                have bz10 := bz8.mid hm10 (Or.inl (by omega))
                have hsee10 := owns_other HS9.out hgr10 (fun h => by simp [Value.ownBlock] at h; omega)
                have hL10 := HL8.out.grown hgr10 HD.out
                have hmm10 := hm8.transNew hm10 (Or.inl (by omega))
                have hw47 : w4.heap.size ≤ w7.heap.size := HL4.out.1
                have HD10 : Hid (∀ g, Value.ownBlock (.slice A10 (n1 + 1) c10) = some g → g < w2.heap.size + 1 ∨ w4.heap.size ≤ g) := Lib.hid (by
                  intro g hg
                  rcases hat10 with h | h
                  · exact HD.out g (h.symm.trans hg)
                  · rw [h] at hg
                    injection hg with hg
                    omega)
                have HL10 := Lib.hid hL10
                clear hL10 hat10 hgr10
                go_roundw
                case rel => exact ⟨j + 1, n1 + 1, A10, c10, by omega, by go_num, rfl, Lib.hid (by rw [HNX.out, List.length_append, HN.out]; rfl), by rw [HNX.out, HMAP.out]; exact hord10, by rw [HNX.out, HMAP.out]; exact hsee10, HL10, HD10, bx10, bz10, hmm10⟩
                case measure => simp [intOf]; omega
        · obtain rfl : j = LL := by omega
          have htk : (lets r).take j = lets r := List.take_of_length_le (by rw [HLn.out]; exact Nat.le_refl _)
          rw [htk] at hstj
          have hnx := hNX.out
          rw [hstj] at hnx
          have HNX := Lib.hid hnx
          have hin1 : i + 1 ≤ n1 := by have h1 := (List.getElem?_eq_some_iff.1 hpj).1; have h2 := HN.out; omega
          clear hnx hstj hpj
          go_wp2_with fail
          go_roundw
          case rel => exact ⟨i + 1, n1, A1, c1, hin1, by go_num, rfl, by rw [HNX.out]; exact HN, by rw [HNX.out]; exact hord, by rw [HNX.out]; exact hsee, HL4, HD, bx, bz, hm⟩
          case measure => simp [intOf]; omega
    · obtain rfl : i = n1 := by omega
      have HPE := Lib.hid (pairs_eq HG.out HG2.out HP0.out HN.out)
      go_wp2_with fail
      go_ret
      exact ⟨A1, c1, by rw [HPE.out, HN.out]; rfl, by rw [HPE.out]; exact (owns_rv hord).wide (Nat.le_of_lt hwa) (Nat.le_refl _) (Nat.le_refl _), hm⟩
end Go.Proofs.Ytimmnnncgnnkgaa

/- part, the program. -/
namespace Go.Proofs.Ytimmnnncgnnkgaa
set_option linter.unusedVariables false
set_option linter.unusedSimpArgs false
open Go.RowKit

theorem fill_neg {n k : Nat} (h : k < n) : (ints (List.replicate k (-1)) ++ (List.replicate n (Value.int .i64 0)).drop k).set k (.int .i64 (-1)) = ints (List.replicate (k + 1) (-1)) ++ (List.replicate n (Value.int .i64 0)).drop (k + 1) := by
  rw [set_over _ _ _ (by rw [ints_len, List.length_replicate]) (by simpa using h), List.replicate_succ', ints_append]
  rfl

set_option maxHeartbeats 6400000 in
set_option maxRecDepth 100000 in
theorem impl_part (r : Int) (n : Nat) (A : Option Addr) (es : List Ed) (c : Nat) (Ao : Option Addr) (ord : List Int) (co : Nat) (w : World) (lo hi lo' hi' : Nat) (hr : RG w lo hi A es) (hro : RV w lo' hi' Ao (ints ord)) (hg : IsGr r n es)
    (hnd : ord.Nodup) (hin : ∀ x ∈ ord, 0 ≤ x ∧ x < (n : Int)) :
    Calls Try.prog 123 #[graV r n A es.length c, .slice Ao ord.length co] w fun e w' => ∃ A1 c1, e = .returned (graV r ord.length A1 (partE ord es).length c1) ∧ OG w' w.heap.size w'.heap.size A1 c1 (partE ord es) ∧ Mid 0 0 w w' := by
  have hn40 : n ≤ 40 := by have := hg.size; omega
  have hl := hg.len
  have hol : ord.length ≤ n := nodup_le n ord hnd hin
  have hmx : n ≤ maxLen := by unfold maxLen; omega
  have HG := Lib.hid hg
  have HND := Lib.hid hnd
  have HIN := Lib.hid hin
  have hm0 : Mid 0 0 w ((w.alloc (.cells #[.int .i64 r, .int .i64 n, .slice A es.length c] 28)).alloc (.cells #[.int .i64 0, .int .i64 0, .slice none 0 0] 28)) := (Mid.alloc _ _).trans (Mid.alloc _ _)
  have B0 := (Box.new w #[.int .i64 r, .int .i64 n, .slice A es.length c] 28).mid (Mid.alloc _ (.cells #[.int .i64 0, .int .i64 0, .slice none 0 0] 28)) (Or.inr (Nat.zero_le _))
  have B2 := Box.new (w.alloc (.cells #[.int .i64 r, .int .i64 n, .slice A es.length c] 28)) #[.int .i64 0, .int .i64 0, .slice none 0 0] 28
  simp only [World.size_alloc] at B2
  clear hg hnd hin
  go_enter Try.func123, Try.ntmps123
  go_wp2_with (at_make; refine wpList_mk rfl _ _ 37 rfl 3 (.int .i64 0) 8 undSI infoI rfl .i64 .i64 _ _ n rfl rfl rfl rfl (by omega) hmx ?_; intro w2 hown2 hgr2 hsz2)
  simp only [World.size_alloc, Nat.add_assoc, Nat.reduceAdd] at hown2 hsz2
  have hm2 := Mid.of_grown (lo := 0) (hi := 0) hgr2 (by intro g h; cases h)
  replace B0 := B0.mid hm2 (Or.inr (Nat.zero_le _))
  replace B2 := B2.mid hm2 (Or.inr (Nat.zero_le _))
  replace hm0 := hm0.trans hm2
  clear hgr2 hm2
  go_loopw [17] (fun i wr => ∃ k : Nat, k ≤ n ∧ i = .int .i64 k ∧ wr.ownsRow (w.heap.size + 2) 3 1 (.slice (some ⟨w.heap.size + 2, 0, none⟩) n n) n (ints (List.replicate k (-1)) ++ (List.replicate n (Value.int .i64 0)).drop k) ∧
      Box wr w.heap.size [.int .i64 r, .int .i64 n, .slice A es.length c] ∧ Box wr (w.heap.size + 1) [.int .i64 0, .int .i64 0, .slice none 0 0] ∧ Mid 0 0 w wr) (fun i _ => n - (intOf i).toNat)
  case atStart => exact ⟨0, Nat.zero_le _, rfl, by simpa [ints] using hown2, B0, B2, hm0⟩
  case round =>
    clear hown2 B0 B2 hm0 hsz2
    obtain ⟨wo, hwo⟩ : ∃ wo, wo = wr := ⟨_, rfl⟩
    subst hwo
    obtain ⟨k, hk, rfl, hown, b0, b2, hm⟩ := hrel
    by_cases hlt : k < n
    · obtain ⟨u, -, hcs⟩ := owns_cell hown hlt
      have hfz := hown.frozenAt k
      have hset := owns_set hown k (.int .i64 (-1)) (fill_neg hlt)
      have hst := Mid.setAt wo (w.heap.size + 2) k (.int .i64 (-1))
      have hms := hm.storeNew (p := ⟨w.heap.size + 2, k, none⟩) (by show w.heap.size ≤ w.heap.size + 2; omega) (.int .i64 (-1))
      have c0 := b0.mid hst (Or.inl (by omega))
      have c2 := b2.mid hst (Or.inl (by omega))
      have hk1 : (k : Int) < (n : Int) := by omega
      have hk0 : (0 : Int) ≤ (k : Int) := by omega
      clear hown b0 b2 hm hst
      go_wp2_with fail
      go_roundw
      case rel => exact ⟨k + 1, by omega, by go_num, hset, c0, c2, hms⟩
      case measure => simp [intOf]; omega
    · obtain rfl : k = n := by omega
      rw [List.drop_of_length_le (by simp), List.append_nil, ← placeL_nil] at hown
      go_wp2_with fail
      go_loopw [26] (fun i wr => ∃ j : Nat, j ≤ ord.length ∧ i = .int .i64 j ∧ wr.ownsRow (w.heap.size + 2) 3 1 (.slice (some ⟨w.heap.size + 2, 0, none⟩) k k) k (ints (placeL k (ord.take j))) ∧
          Box wr w.heap.size [.int .i64 r, .int .i64 k, .slice A es.length c] ∧ Box wr (w.heap.size + 1) [.int .i64 0, .int .i64 0, .slice none 0 0] ∧ Mid 0 0 w wr) (fun i _ => ord.length - (intOf i).toNat)
      case atStart => exact ⟨0, Nat.zero_le _, rfl, by rw [List.take_zero]; exact hown, b0, b2, hm⟩
      case round =>
        clear hown b0 b2 hm
        obtain ⟨wi, hwi⟩ : ∃ wi, wi = wr := ⟨_, rfl⟩
        subst hwi
        obtain ⟨j, hj, rfl, hown, b0, b2, hm⟩ := hrel
        by_cases hlt2 : j < ord.length
        · obtain ⟨B, off, x, rfl, hbh, hx, hcx⟩ := (hro.mid hm (Or.inl (Nat.zero_le _))).at hlt2
          have hxr := HIN.out x (List.mem_of_getElem? hx)
          obtain ⟨m, rfl⟩ : ∃ m : Nat, x = m := ⟨x.toNat, by omega⟩
          have hmk : m < k := by omega
          obtain ⟨u, -, hcs⟩ := owns_cell hown hmk
          have hfz := hown.frozenAt m
          have hset := owns_set (ys := ints (placeL k (ord.take (j + 1)))) hown m (.int .i64 j) (by rw [← placeL_set HND.out hx hmk]; simp [ints])
          have hst := Mid.setAt wi (w.heap.size + 2) m (.int .i64 j)
          have hms := hm.storeNew (p := ⟨w.heap.size + 2, m, none⟩) (by show w.heap.size ≤ w.heap.size + 2; omega) (.int .i64 j)
          have c0 := b0.mid hst (Or.inl (by omega))
          have c2 := b2.mid hst (Or.inl (by omega))
          have hm1 : (m : Int) < (k : Int) := by omega
          have hm0 : (0 : Int) ≤ (m : Int) := by omega
          have hj1 : (j : Int) < (ord.length : Int) := by omega
          have hj0 : (0 : Int) ≤ (j : Int) := by omega
          clear hown b0 b2 hm hst hx
          go_wp2_with fail
          go_roundw
          case rel => exact ⟨j + 1, by omega, by go_num, hset, c0, c2, hms⟩
          case measure => simp [intOf]; omega
        · obtain rfl : j = ord.length := by omega
          rw [List.take_length] at hown
          have p0 := b0.cell 0 rfl
          have p1 := b0.cell 1 rfl
          have p2 := b0.cell 2 rfl
          have hws := b2.1
          have hws0 := b0.1
          have hal := Mid.alloc wi (.cells #[.int .i64 r, .int .i64 ord.length, .slice none 0 0] 28)
          have Y3 := Box.new wi #[.int .i64 r, .int .i64 ord.length, .slice none 0 0] 28
          go_wp2_with fail
          have hpl : w.heap.size + 2 < wi.heap.size := (hown.lt _ rfl).2
          obtain ⟨G, hG⟩ : ∃ G, wi.heap.size = G := ⟨_, rfl⟩
          have O0 : (wi.alloc (.cells #[.int .i64 r, .int .i64 ord.length, .slice none 0 0] 28)).ownsRow (G + 1) 70 3 (.slice none 0 0) 0 [] := ⟨rfl, .inl ⟨rfl, rfl⟩⟩
          have hownP := hown.alloc (.cells #[.int .i64 r, .int .i64 ord.length, .slice none 0 0] 28)
          replace b0 := b0.mid hal (Or.inr (Nat.zero_le _))
          replace b2 := b2.mid hal (Or.inr (Nat.zero_le _))
          replace hm := hm.trans hal
          have hw5s : (wi.alloc (.cells #[.int .i64 r, .int .i64 ord.length, .slice none 0 0] 28)).heap.size = G + 1 := by rw [World.size_alloc, hG]
          generalize wi.alloc (.cells #[.int .i64 r, .int .i64 ord.length, .slice none 0 0] 28) = w5 at O0 hownP Y3 b0 b2 hm hw5s ⊢
          rw [hG] at Y3 hpl hws hws0 ⊢
          clear hown hG hal p0 p1 p2
          go_loopw [44] (fun i wr => ∃ (q : Nat) (A2 : Option Addr) (n2 c2 : Nat), q ≤ es.length ∧ i = .int .i64 q ∧ Hid (((es.take q).filterMap (partOf ord)).length = n2) ∧
              wr.ownsRow (G + 1) 70 3 (.slice A2 n2 c2) n2 (ints (edI ((es.take q).filterMap (partOf ord)))) ∧ wr.ownsRow (w.heap.size + 2) 3 1 (.slice (some ⟨w.heap.size + 2, 0, none⟩) k k) k (ints (placeL k ord)) ∧
              Box wr w.heap.size [.int .i64 r, .int .i64 k, .slice A es.length c] ∧ Box wr (w.heap.size + 1) [.int .i64 0, .int .i64 0, .slice none 0 0] ∧ Box wr G [.int .i64 r, .int .i64 ord.length, .slice A2 n2 c2] ∧ Mid 0 0 w wr) (fun i _ => es.length - (intOf i).toNat)
          case atStart => exact ⟨0, none, 0, 0, Nat.zero_le _, rfl, Lib.hid rfl, by simpa [edI, ints] using O0, hownP, b0, b2, Y3, hm⟩
          case round =>
            clear O0 hownP b0 b2 Y3 hm hw5s
            obtain ⟨q, A2, n2, c2, hq, rfl, HN, hown, hownP, b0, b2, Y3, hm⟩ := hrel
            have hn2 : n2 ≤ 120 := by have h1 := List.length_filterMap_le (partOf ord) (es.take q); have h2 := HN.out; simp at h1; omega
            by_cases hlt3 : q < es.length
            · obtain ⟨B, off, e, rfl, -, hbh, he, e0, e1, e2⟩ := (hr.mid hm (Or.inl (Nat.zero_le _))).ed hlt3
              have hin := HG.out.all e (List.mem_of_getElem? he)
              have htk : (es.take (q + 1)).filterMap (partOf ord) = (es.take q).filterMap (partOf ord) ++ (partOf ord e).toList := by
                rw [take_snoc he, List.filterMap_append]
                cases hd : partOf ord e <;> simp [hd]
              obtain ⟨i1, i2, i3, i4, i5, i6⟩ := hin
              obtain ⟨x, l, y⟩ := e
              simp only at i1 i2 i3 i4 i5 i6 e0 e1 e2 htk
              obtain ⟨ia, rfl⟩ : ∃ ia : Nat, x = ia := ⟨x.toNat, by omega⟩
              obtain ⟨ib, rfl⟩ : ∃ ib : Nat, y = ib := ⟨y.toNat, by omega⟩
              have hia : ia < k := by omega
              have hib : ib < k := by omega
              have hq0 : (0 : Int) ≤ (q : Int) := by omega
              have hq1 : (q : Int) < (es.length : Int) := by omega
              have hal := Mid.alloc wr (.cells #[.int .i64 ia, .int .i64 l, .int .i64 ib] 70)
              have ZE := Box.new wr #[.int .i64 ia, .int .i64 l, .int .i64 ib] 70
              have hgs : w.heap.size + 2 < wr.heap.size := (hownP.lt _ rfl).2
              have hGr : G < wr.heap.size := Y3.1
              have hbE : Value.ownBlock (.slice A2 n2 c2) ≠ some wr.heap.size := fun h => by have := (hown.lt _ h).2; omega
              have hbk : Value.ownBlock (.slice A2 n2 c2) ≠ some G := fun h => by have := (hown.lt _ h).1; omega
              have hownV := hown.alloc (.cells #[.int .i64 ia, .int .i64 l, .int .i64 ib] 70)
              replace b0 := b0.mid hal (Or.inr (Nat.zero_le _))
              replace b2 := b2.mid hal (Or.inr (Nat.zero_le _))
              replace Y3 := Y3.mid hal (Or.inr (Nat.zero_le _))
              replace hownP := owns_mid hownP hal (Or.inl (Nat.zero_le _))
              replace hm := hm.trans hal
              obtain ⟨pa, hpa⟩ : ∃ pa, idxI ord ia = pa := ⟨_, rfl⟩
              obtain ⟨pb, hpb⟩ : ∃ pb, idxI ord ib = pb := ⟨_, rfl⟩
              have hga : (ints (placeL k ord))[ia]? = some (.int .i64 pa) := by rw [ints_get, placeL_get ord hia, hpa]; rfl
              have hgb : (ints (placeL k ord))[ib]? = some (.int .i64 pb) := by rw [ints_get, placeL_get ord hib, hpb]; rfl
              have hca := (hownP.cellAt ia (by omega)).trans hga
              have hcb := (hownP.cellAt ib (by omega)).trans hgb
              have HTK := Lib.hid htk
              have HPA := Lib.hid hpa
              have HPB := Lib.hid hpb
              have HGA := Lib.hid hga
              have HGB := Lib.hid hgb
              clear he htk hpa hpb hown hga hgb
              by_cases hok : 0 ≤ pa ∧ 0 ≤ pb
              · have hpo : partOf ord ⟨(ia : Int), l, (ib : Int)⟩ = some ⟨pa, l, pb⟩ := by
                  unfold partOf
                  simp only [HPA.out, HPB.out]
                  rw [if_pos hok]
                have HT : Hid ((es.take (q + 1)).filterMap (partOf ord) = (es.take q).filterMap (partOf ord) ++ [⟨pa, l, pb⟩]) := Lib.hid (by rw [HTK.out, hpo]; rfl)
                have d1 : decide (0 ≤ pa) = true := by simpa using hok.1
                have d2 : decide (0 ≤ pb) = true := by simpa using hok.2
                clear hpo hok
                go_wp2_with fail
                clear e0 e1 e2 hca hcb d1 d2
                generalize hwx : wr.alloc (.cells #[.int .i64 ia, .int .i64 l, .int .i64 ib] 70) = wx at ZE b0 b2 Y3 hownV hownP hm ⊢
                generalize hgE : wr.heap.size = E at ZE hgs hGr hbE ⊢
                clear hgE hwx hal
                have hmd := Mid.drew1 wx
                replace b0 := b0.mid hmd (Or.inr (Nat.zero_le _))
                replace b2 := b2.mid hmd (Or.inr (Nat.zero_le _))
                replace Y3 := Y3.mid hmd (Or.inr (Nat.zero_le _))
                replace ZE := ZE.mid hmd (Or.inr (Nat.zero_le _))
                replace hownV := owns_mid hownV hmd (Or.inl (Nat.zero_le _))
                replace hownP := owns_mid hownP hmd (Or.inl (Nat.zero_le _))
                replace hm := hm.trans hmd
                have hca := (hownP.cellAt ia (by omega)).trans HGA.out
                have hcb := (hownP.cellAt ib (by omega)).trans HGB.out
                have f0 := ZE.cell 0 rfl
                have f1 := ZE.cell 1 rfl
                have f2 := ZE.cell 2 rfl
                have g2 := Y3.cell 2 rfl
                clear hmd
                refine wp_region_T (S := (fun w' => w'.cell? ⟨E, 0, none⟩ = some (.int .i64 ia) ∧ w'.cell? ⟨E, 1, none⟩ = some (.int .i64 l) ∧ w'.cell? ⟨E, 2, none⟩ = some (.int .i64 ib) ∧ w'.cell? ⟨G, 2, none⟩ = some (.slice A2 n2 c2) ∧ w'.cell? ⟨w.heap.size + 2, ia, none⟩ = some (.int .i64 pa) ∧ w'.cell? ⟨w.heap.size + 2, ib, none⟩ = some (.int .i64 pb))) 18 (by kernel_rfl) ⟨f0, f1, f2, g2, hca, hcb⟩ ?_
                generalize World.drew wx = wz at b0 b2 Y3 ZE hownV hownP hm f0 f1 f2 g2 hca hcb ⊢
                have hS : wz.cell? ⟨E, 0, none⟩ = some (.int .i64 ia) ∧ wz.cell? ⟨E, 1, none⟩ = some (.int .i64 l) ∧ wz.cell? ⟨E, 2, none⟩ = some (.int .i64 ib) ∧ wz.cell? ⟨G, 2, none⟩ = some (.slice A2 n2 c2) ∧ wz.cell? ⟨w.heap.size + 2, ia, none⟩ = some (.int .i64 pa) ∧ wz.cell? ⟨w.heap.size + 2, ib, none⟩ = some (.int .i64 pb) := ⟨f0, f1, f2, g2, hca, hcb⟩
                refine wpAnyT_take (i := 0) (v := ?_) rfl (by kernel_rfl) (by kernel_rfl) (by kernel_rfl) (by kernel_rfl) (fun _ _ _ h => h) (Or.inl ⟨by rfl, ?_⟩) hS ?_
                rotate_left
                focus (intro w hSw; (try dsimp only at hSw); go_simp; try with_reducible rfl)
                try simp only [Act.put, List.setIfInBounds_toArray, List.set_cons_zero, List.set_cons_succ, List.getElem_toArray, List.getElem_cons_zero, List.getElem_cons_succ]
                refine wpAnyT_take (i := 1) (v := ?_) rfl (by kernel_rfl) (by kernel_rfl) (by kernel_rfl) (by kernel_rfl) (fun _ _ _ h => h) (Or.inl ⟨by rfl, ?_⟩) hS ?_
                rotate_left
                focus (intro w hSw; (try dsimp only at hSw); go_simp; try with_reducible rfl)
                try simp only [Act.put, List.setIfInBounds_toArray, List.set_cons_zero, List.set_cons_succ, List.getElem_toArray, List.getElem_cons_zero, List.getElem_cons_succ]
                refine wpAnyT_take (i := 2) (v := ?_) rfl (by kernel_rfl) (by kernel_rfl) (by kernel_rfl) (by kernel_rfl) (fun _ _ _ h => h) (Or.inl ⟨by rfl, ?_⟩) hS ?_
                rotate_left
                focus (intro w hSw; (try dsimp only at hSw); go_simp; try with_reducible rfl)
                try simp only [Act.put, List.setIfInBounds_toArray, List.set_cons_zero, List.set_cons_succ, List.getElem_toArray, List.getElem_cons_zero, List.getElem_cons_succ]
                refine wpAnyT_take (i := 3) (v := ?_) rfl (by kernel_rfl) (by kernel_rfl) (by kernel_rfl) (by kernel_rfl) (fun _ _ _ h => h) (Or.inl ⟨by rfl, ?_⟩) hS ?_
                rotate_left
                focus (intro w hSw; (try dsimp only at hSw); go_simp; try with_reducible rfl)
                try simp only [Act.put, List.setIfInBounds_toArray, List.set_cons_zero, List.set_cons_succ, List.getElem_toArray, List.getElem_cons_zero, List.getElem_cons_succ]
                refine wpAnyT_take (i := 4) (v := ?_) rfl (by kernel_rfl) (by kernel_rfl) (by kernel_rfl) (by kernel_rfl) (fun _ _ _ h => h) (Or.inl ⟨by rfl, ?_⟩) hS ?_
                rotate_left
                focus (intro w hSw; (try dsimp only at hSw); go_simp; try with_reducible rfl)
                try simp only [Act.put, List.setIfInBounds_toArray, List.set_cons_zero, List.set_cons_succ, List.getElem_toArray, List.getElem_cons_zero, List.getElem_cons_succ]
                refine wpAnyT_take (i := 5) (v := ?_) rfl (by kernel_rfl) (by kernel_rfl) (by kernel_rfl) (by kernel_rfl) (fun _ _ _ h => h) (Or.inl ⟨by rfl, ?_⟩) hS ?_
                rotate_left
                focus (intro w hSw; (try dsimp only at hSw); go_simp; try with_reducible rfl)
                try simp only [Act.put, List.setIfInBounds_toArray, List.set_cons_zero, List.set_cons_succ, List.getElem_toArray, List.getElem_cons_zero, List.getElem_cons_succ]
                refine wpAnyT_take (i := 6) (v := ?_) rfl (by kernel_rfl) (by kernel_rfl) (by kernel_rfl) (by kernel_rfl) (fun _ _ _ h => h) (Or.inl ⟨by rfl, ?_⟩) hS ?_
                rotate_left
                focus (intro w hSw; (try dsimp only at hSw); go_simp; try with_reducible rfl)
                try simp only [Act.put, List.setIfInBounds_toArray, List.set_cons_zero, List.set_cons_succ, List.getElem_toArray, List.getElem_cons_zero, List.getElem_cons_succ]
                refine wpAnyT_take (i := 7) (v := ?_) rfl (by kernel_rfl) (by kernel_rfl) (by kernel_rfl) (by kernel_rfl) (fun _ _ _ h => h) (Or.inl ⟨by rfl, ?_⟩) hS ?_
                rotate_left
                focus (intro w hSw; (try dsimp only at hSw); go_simp; try with_reducible rfl)
                try simp only [Act.put, List.setIfInBounds_toArray, List.set_cons_zero, List.set_cons_succ, List.getElem_toArray, List.getElem_cons_zero, List.getElem_cons_succ]
                refine wpAnyT_take (i := 8) (v := ?_) rfl (by kernel_rfl) (by kernel_rfl) (by kernel_rfl) (by kernel_rfl) (fun _ _ _ h => h) (Or.inl ⟨by rfl, ?_⟩) hS ?_
                rotate_left
                focus (intro w hSw; (try dsimp only at hSw); go_simp; try with_reducible rfl)
                try simp only [Act.put, List.setIfInBounds_toArray, List.set_cons_zero, List.set_cons_succ, List.getElem_toArray, List.getElem_cons_zero, List.getElem_cons_succ]
                refine wpAnyT_take (i := 9) (v := ?_) rfl (by kernel_rfl) (by kernel_rfl) (by kernel_rfl) (by kernel_rfl) (fun _ _ _ h => h) (Or.inl ⟨by rfl, ?_⟩) hS ?_
                rotate_left
                focus (intro w hSw; (try dsimp only at hSw); go_simp; try with_reducible rfl)
                try simp only [Act.put, List.setIfInBounds_toArray, List.set_cons_zero, List.set_cons_succ, List.getElem_toArray, List.getElem_cons_zero, List.getElem_cons_succ]
                refine wpAnyT_take (i := 10) (v := ?_) rfl (by kernel_rfl) (by kernel_rfl) (by kernel_rfl) (by kernel_rfl) (fun _ _ _ h => h) (Or.inl ⟨by rfl, ?_⟩) hS ?_
                rotate_left
                focus (intro w hSw; (try dsimp only at hSw); go_simp; try with_reducible rfl)
                try simp only [Act.put, List.setIfInBounds_toArray, List.set_cons_zero, List.set_cons_succ, List.getElem_toArray, List.getElem_cons_zero, List.getElem_cons_succ]
                refine wpAnyT_take (i := 11) (v := ?_) rfl (by kernel_rfl) (by kernel_rfl) (by kernel_rfl) (by kernel_rfl) (fun _ _ _ h => h) (Or.inl ⟨by rfl, ?_⟩) hS ?_
                rotate_left
                focus (intro w hSw; (try dsimp only at hSw); go_simp; try with_reducible rfl)
                try simp only [Act.put, List.setIfInBounds_toArray, List.set_cons_zero, List.set_cons_succ, List.getElem_toArray, List.getElem_cons_zero, List.getElem_cons_succ]
                refine wpAnyT_take (i := 12) (v := ?_) rfl (by kernel_rfl) (by kernel_rfl) (by kernel_rfl) (by kernel_rfl) (fun _ _ _ h => h) (Or.inl ⟨by rfl, ?_⟩) hS ?_
                rotate_left
                focus (intro w hSw; (try dsimp only at hSw); go_simp; try with_reducible rfl)
                try simp only [Act.put, List.setIfInBounds_toArray, List.set_cons_zero, List.set_cons_succ, List.getElem_toArray, List.getElem_cons_zero, List.getElem_cons_succ]
                refine wpAnyT_take (i := 13) (v := ?_) rfl (by kernel_rfl) (by kernel_rfl) (by kernel_rfl) (by kernel_rfl) (fun _ _ _ h => h) (Or.inl ⟨by rfl, ?_⟩) hS ?_
                rotate_left
                focus (intro w hSw; (try dsimp only at hSw); go_simp; try with_reducible rfl)
                try simp only [Act.put, List.setIfInBounds_toArray, List.set_cons_zero, List.set_cons_succ, List.getElem_toArray, List.getElem_cons_zero, List.getElem_cons_succ]
                refine wpAnyT_take (i := 14) (v := ?_) rfl (by kernel_rfl) (by kernel_rfl) (by kernel_rfl) (by kernel_rfl) (fun _ _ _ h => h) (Or.inl ⟨by rfl, ?_⟩) hS ?_
                rotate_left
                focus (intro w hSw; (try dsimp only at hSw); go_simp; try with_reducible rfl)
                try simp only [Act.put, List.setIfInBounds_toArray, List.set_cons_zero, List.set_cons_succ, List.getElem_toArray, List.getElem_cons_zero, List.getElem_cons_succ]
                have haz := Mid.alloc wz (.cells #[.int .i64 pa, .int .i64 l, .int .i64 pb] 70)
                have hGz : G < wz.heap.size := Y3.1
                have hownT := hownV.alloc (.cells #[.int .i64 pa, .int .i64 l, .int .i64 pb] 70)
                replace b0 := b0.mid haz (Or.inr (Nat.zero_le _))
                replace b2 := b2.mid haz (Or.inr (Nat.zero_le _))
                replace Y3 := Y3.mid haz (Or.inr (Nat.zero_le _))
                replace ZE := ZE.mid haz (Or.inr (Nat.zero_le _))
                replace hownP := owns_mid hownP haz (Or.inl (Nat.zero_le _))
                replace hm := hm.trans haz
                have hS2 := And.intro (ZE.cell 0 rfl) (And.intro (ZE.cell 1 rfl) (And.intro (ZE.cell 2 rfl) (And.intro (Y3.cell 2 rfl) (And.intro ((hownP.cellAt ia (by omega)).trans HGA.out) ((hownP.cellAt ib (by omega)).trans HGB.out)))))
                have hrs : Rs (wz.alloc (.cells #[.int .i64 pa, .int .i64 l, .int .i64 pb] 70)) (wz.heap.size + 1) (some ⟨wz.heap.size, 0, none⟩) [.int .i64 pa, .int .i64 l, .int .i64 pb] := fun _ => ⟨wz.heap.size, 0, rfl, Nat.lt_succ_self _, fun j u hu => (World.cell?_alloc_at _ _ _ _ rfl).trans (by simpa using hu)⟩
                have hone : ∀ u ∈ [Value.int .i64 pa, .int .i64 l, .int .i64 pb], u.oneCell' = true := by
                  intro u hu
                  simp at hu
                  rcases hu with rfl | rfl | rfl <;> rfl
                have hmxl : n2 + 1 ≤ maxLen := by unfold maxLen; omega
                have hbyt : (n2 + 1) * 24 ≤ 140737488355328 := by omega
                have hbas : G + 1 ≤ (wz.alloc (.cells #[.int .i64 pa, .int .i64 l, .int .i64 pb] 70)).heap.size := by have h1 := Y3.1; omega
                have HO := Lib.hid hone
                have HB0 := Lib.hid (fun (g : Nat) (h : Value.ownBlock (.slice A2 n2 c2) = some g) => (hownT.lt g h).1)
                have HBk := Lib.hid hbk
                have HBe := Lib.hid hbE
                clear hone hbk hbE hownV f0 f1 f2 g2 hca hcb hS haz
                refine wpAnyT_ready (rs := [15]) (by kernel_rfl) (by simp) (AllReadyT.cons rfl (fun K hK => ?_) AllReadyT.nil)
                go_simp
                refine hK.out _ _ (Or.inr hS2) (fun _ => ?_)
                clear hK K
                try simp only [Act.put, List.setIfInBounds_toArray, List.set_cons_zero, List.set_cons_succ, List.getElem_toArray, List.getElem_cons_zero, List.getElem_cons_succ]
                generalize hwt : wz.alloc (.cells #[.int .i64 pa, .int .i64 l, .int .i64 pb] 70) = wt at b0 b2 Y3 ZE hownT hownP hm hS2 hrs hbas ⊢
                have hszt : wt.heap.size = wz.heap.size + 1 := by rw [← hwt]; simp
                have HZT := Lib.hid hszt
                have HP := Lib.hid hownP
                clear hwt hszt hownP
                refine wpAnyT_ready (rs := [16]) (by kernel_rfl) (by simp) (AllReadyT.cons rfl (fun K hK => ?_) AllReadyT.nil)
                (refine step_cat (by rfl) (.tmp 63) (.tmp 77) 26 (by rfl) (G + 1) 70 (.agg #[.int .i64 0, .int .i64 0, .int .i64 0]) 3 24 undSE infoE rfl (by decide) (.slice A2 n2 c2) n2 _ (by rfl) hownT (some ⟨wz.heap.size, 0, none⟩) 1 1 _ [.int .i64 pa, .int .i64 l, .int .i64 pb] (by rfl) hrs rfl HO.out hmxl hbyt hbas ?_; intro v9 w9 ho9 hgr9 hat9; obtain ⟨A9, c9, rfl, -, -⟩ := owns_shape ho9; have hP9 := HP.out.kept hgr9 (owns_ne HP.out hownT (by decide)))
                refine hK.out _ _ (Or.inr ⟨(ZE.grown hgr9 HBe.out).cell 0 rfl, (ZE.grown hgr9 HBe.out).cell 1 rfl, (ZE.grown hgr9 HBe.out).cell 2 rfl, (Y3.grown hgr9 HBk.out).cell 2 rfl, (hP9.cellAt ia (by omega)).trans HGA.out, (hP9.cellAt ib (by omega)).trans HGB.out⟩) (fun _ => ?_)
                clear hK K
                try simp only [Act.put, List.setIfInBounds_toArray, List.set_cons_zero, List.set_cons_succ, List.getElem_toArray, List.getElem_cons_zero, List.getElem_cons_succ]
                replace Y3 := Y3.grown hgr9 HBk.out
                replace ZE := ZE.grown hgr9 HBe.out
                replace b0 := b0.grown hgr9 (fun h => by have := HB0.out _ h; omega)
                replace b2 := b2.grown hgr9 (fun h => by have := HB0.out _ h; omega)
                replace hm : Mid 0 0 w w9 := hm.transNew (Mid.of_grownRow hownT hgr9) (Or.inl (by omega))
                have hS3 := And.intro (ZE.cell 0 rfl) (And.intro (ZE.cell 1 rfl) (And.intro (ZE.cell 2 rfl) (And.intro (Y3.cell 2 rfl) (And.intro ((hP9.cellAt ia (by omega)).trans HGA.out) ((hP9.cellAt ib (by omega)).trans HGB.out)))))
                have hne : Value.ownBlock (.slice A9 (n2 + 1) c9) ≠ some G := by
                  rcases hat9 with h | h
                  · rw [h]; exact HBk.out
                  · rw [h]
                    intro he
                    injection he with he
                    have := HZT.out
                    omega
                have HNE := Lib.hid hne
                have hr2 := Y3.cell 2 rfl
                have hrf := Y3.2.2
                clear hne hat9 hS2 hrs hownT
                refine wpAnyT_take (i := 17) (v := ?_) rfl (by kernel_rfl) (by kernel_rfl) (by kernel_rfl) (by kernel_rfl) (fun _ _ _ h => h) (Or.inl ⟨by rfl, ?_⟩) hS3 ?_
                rotate_left
                focus (intro w hSw; (try dsimp only at hSw); go_simp; try with_reducible rfl)
                try simp only [Act.put, List.setIfInBounds_toArray, List.set_cons_zero, List.set_cons_succ, List.getElem_toArray, List.getElem_cons_zero, List.getElem_cons_succ]
                refine wpAnyT_ready (rs := [18]) (by kernel_rfl) (by simp) (AllReadyT.cons rfl (fun K hK => ?_) AllReadyT.nil)
                (go_simp)
                refine hK.out _ _ (Or.inl rfl) (fun _ => ?_)
                clear hK K
                try simp only [Act.put, List.setIfInBounds_toArray, List.set_cons_zero, List.set_cons_succ, List.getElem_toArray, List.getElem_cons_zero, List.getElem_cons_succ]
                refine wpAnyT_done (by kernel_rfl) ?_ _
                go_wp2_with fail
                go_roundw
                case rel =>
                  have hst := Mid.setAt w9 G 2 (.slice A9 (n2 + 1) c9)
                  refine ⟨q + 1, A9, n2 + 1, c9, by omega, by go_num, Lib.hid (by rw [HT.out, List.length_append, HN.out]; rfl), ?_, hP9.kept (grown_of_setCell w9 G 2 (.slice A9 (n2 + 1) c9)) (.inr ?_), b0.mid hst (Or.inl (by omega)), b2.mid hst (Or.inl (by omega)), Y3.set 2 _ (by simp) rfl, hm.storeNew (by show w.heap.size ≤ G; omega) _⟩
                  · have h1 := owns_other ho9 (k := G) (grown_setCell (World.grownBy.refl _ (some G)) 2 (.slice A9 (n2 + 1) c9)) HNE.out
                    rw [HT.out, edI_append, ints_append, edI_one]
                    exact h1
                  · intro h
                    injection h with h
                    simp at h
                    omega
                case measure => simp [intOf]; omega
              · have hpo : partOf ord ⟨(ia : Int), l, (ib : Int)⟩ = none := by
                  unfold partOf
                  simp only [HPA.out, HPB.out]
                  rw [if_neg hok]
                have HT : Hid ((es.take (q + 1)).filterMap (partOf ord) = (es.take q).filterMap (partOf ord)) := Lib.hid (by rw [HTK.out, hpo]; simp)
                by_cases h1 : 0 ≤ pa
                · have d1 : decide (0 ≤ pa) = true := by simpa using h1
                  have d2 : decide (0 ≤ pb) = false := by simp; omega
                  clear hpo hok h1
                  go_wp2_with fail
                  go_roundw
                  case rel => exact ⟨q + 1, A2, n2, c2, by omega, by go_num, by rw [HT.out]; exact HN, by rw [HT.out]; exact hownV, hownP, b0, b2, Y3, hm⟩
                  case measure => simp [intOf]; omega
                · have d1 : decide (0 ≤ pa) = false := by simp; omega
                  clear hpo hok h1
                  go_wp2_with fail
                  go_roundw
                  case rel => exact ⟨q + 1, A2, n2, c2, by omega, by go_num, by rw [HT.out]; exact HN, by rw [HT.out]; exact hownV, hownP, b0, b2, Y3, hm⟩
                  case measure => simp [intOf]; omega
            · obtain rfl : q = es.length := by omega
              rw [List.take_length] at hown HN
              have hGr : G < wr.heap.size := Y3.1
              have hrg : RG wr (G + 1) wr.heap.size A2 (es.filterMap (partOf ord)) := OV.rv (e := 70) (size := 3) (c := c2) (n := n2) ⟨Nat.le_refl _, hown, fun g hg => (hown.lt g hg).2⟩
              have z2 := Y3.cell 2 rfl
              go_wp2_with fail
              with_reducible refine (impl_sortedN A2 (es.filterMap (partOf ord)) n2 c2 _ _ _ HN.out hrg (by omega)).mono ?_
              rintro en w6 ⟨A4, c4, rfl, ho6, hm6⟩
              replace b2 := b2.mid hm6 (Or.inr (Nat.zero_le _))
              replace Y3 := Y3.mid hm6 (Or.inr (Nat.zero_le _))
              replace hm := hm.trans hm6
              have hsz6 := hm6.size
              clear z2
              have a0 := b2.cell 0 rfl
              have a1 := b2.cell 1 rfl
              have a2 := b2.cell 2 rfl
              have x0 := Y3.cell 0 rfl
              have x1 := Y3.cell 1 rfl
              have x2 := Y3.cell 2 rfl
              have af := b2.2.2
              have bf := Y3.2.2
              go_wp2_with fail
              have hcl : (w.heap.size + 1 == G) = false := by simp; omega
              refine bodyPost_ret (v := .agg #[.int .i64 r, .int .i64 ord.length, .slice A4 (canon (es.filterMap (partOf ord))).length c4]) (by simp [results, Try.results123, go_sem, a0, a1, a2, x0, x1, x2, af, bf]) rfl ⟨A4, c4, rfl, ?_, ?_⟩
              · refine OG.wide (OG.mid ho6 (a := w.heap.size) (b := G + 1) ?_ (Or.inl hGr)) (by omega) (by simp) (Nat.le_refl _)
                repeat (first | exact Mid.refl _ _ _ | refine Mid.stored ?_ _ (by simp; try omega) (by simp; try omega))
              · repeat (first | exact hm | refine Mid.storeNew ?_ (by simp; try omega) _)
end Go.Proofs.Ytimmnnncgnnkgaa

/- RenumberGraph, the reference, at an order that is one. -/
namespace Go.Proofs.Ytimmnnncgnnkgaa
set_option linter.unusedVariables false
set_option linter.unusedSimpArgs false
open Go.RowKit

set_option maxHeartbeats 6400000 in
set_option maxRecDepth 100000 in
theorem spec_RenumberGraph (r : Int) (n : Nat) (A : Option Addr) (es : List Ed) (c : Nat) (Ao : Option Addr) (ord : List Int) (co : Nat) (w : World) (lo hi lo' hi' : Nat) (hr : RG w lo hi A es) (hro : RV w lo' hi' Ao (ints ord)) (hg : IsGr r n es)
    (hnd : ord.Nodup) (hin : ∀ x ∈ ord, 0 ≤ x ∧ x < (n : Int)) (hne : 0 < ord.length) :
    Calls Try.prog 143 #[graV r n A es.length c, .slice Ao ord.length co] w fun e w' => ∃ A1 c1, e = .returned (.tuple #[graV r ord.length A1 (partE ord es).length c1, .bool true]) ∧ OG w' w.heap.size w'.heap.size A1 c1 (partE ord es) ∧ Mid 0 0 w w' := by
  have hn40 : n ≤ 40 := by have := hg.size; omega
  have hl := hg.len
  have hol : ord.length ≤ n := nodup_le n ord hnd hin
  have hmx : n ≤ maxLen := by unfold maxLen; omega
  have HG := Lib.hid hg
  have HND := Lib.hid hnd
  have HIN := Lib.hid hin
  have hm0 : Mid 0 0 w (((w.alloc (.cells #[.int .i64 r, .int .i64 n, .slice A es.length c] 28)).alloc (.cells #[.int .i64 0, .int .i64 0, .slice none 0 0] 28)).alloc (.cells #[.int .i64 r, .int .i64 ord.length, .slice none 0 0] 28)) := ((Mid.alloc _ _).trans (Mid.alloc _ _)).trans (Mid.alloc _ _)
  have b0 := ((Box.new w #[.int .i64 r, .int .i64 n, .slice A es.length c] 28).mid (Mid.alloc _ (.cells #[.int .i64 0, .int .i64 0, .slice none 0 0] 28)) (Or.inr (Nat.zero_le _))).mid (Mid.alloc _ (.cells #[.int .i64 r, .int .i64 ord.length, .slice none 0 0] 28)) (Or.inr (Nat.zero_le _))
  have b2 := (Box.new (w.alloc (.cells #[.int .i64 r, .int .i64 n, .slice A es.length c] 28)) #[.int .i64 0, .int .i64 0, .slice none 0 0] 28).mid (Mid.alloc _ (.cells #[.int .i64 r, .int .i64 ord.length, .slice none 0 0] 28)) (Or.inr (Nat.zero_le _))
  have Y3 := Box.new ((w.alloc (.cells #[.int .i64 r, .int .i64 n, .slice A es.length c] 28)).alloc (.cells #[.int .i64 0, .int .i64 0, .slice none 0 0] 28)) #[.int .i64 r, .int .i64 ord.length, .slice none 0 0] 28
  simp only [World.size_alloc, Nat.add_assoc, Nat.reduceAdd] at b2 Y3
  have e1 : ((ord.length : Int) == 0) = false := by simp only [beq_eq_false_iff_ne]; omega
  have e2 : decide ((n : Int) < (ord.length : Int)) = false := by simp; omega
  clear hg hnd hin
  go_enter Try.func143, Try.ntmps143
  go_wp2_with fail
  generalize hw1 : (((w.alloc (.cells #[.int .i64 r, .int .i64 n, .slice A es.length c] 28)).alloc (.cells #[.int .i64 0, .int .i64 0, .slice none 0 0] 28)).alloc (.cells #[.int .i64 r, .int .i64 ord.length, .slice none 0 0] 28)) = w1 at hm0 b0 b2 Y3 ⊢
  clear hw1
  with_reducible refine (spec_IsGraph r n A es c _ _ _ (hr.mid hm0 (Or.inl (Nat.zero_le _))).rv (by omega) true (iff_of_true rfl HG.out)).mono ?_
  rintro en w2 ⟨rfl, hm2⟩
  replace b0 := b0.mid hm2 (Or.inr (Nat.zero_le _))
  replace b2 := b2.mid hm2 (Or.inr (Nat.zero_le _))
  replace Y3 := Y3.mid hm2 (Or.inr (Nat.zero_le _))
  replace hm0 := hm0.trans hm2
  have p0 := b0.cell 0 rfl
  have p1 := b0.cell 1 rfl
  have p2 := b0.cell 2 rfl
  clear hm2
  go_wp2_with (at_make; refine wpList_mk rfl _ _ 37 rfl 3 (.int .i64 0) 8 undSI infoI rfl .i64 .i64 _ _ n rfl rfl rfl rfl (by omega) hmx ?_; intro w3 hown3 hgr3 hsz3)
  have hm3 := Mid.of_grown (lo := 0) (hi := 0) hgr3 (by intro g h; cases h)
  have hP3 : w.heap.size + 3 ≤ w2.heap.size := Y3.1
  replace b0 := b0.mid hm3 (Or.inr (Nat.zero_le _))
  replace b2 := b2.mid hm3 (Or.inr (Nat.zero_le _))
  replace Y3 := Y3.mid hm3 (Or.inr (Nat.zero_le _))
  replace hm0 := hm0.trans hm3
  obtain ⟨P, hP⟩ : ∃ P, w2.heap.size = P := ⟨_, rfl⟩
  rw [hP] at hown3 hsz3 hP3 ⊢
  clear hgr3 hm3 p0 p1 p2 hP
  go_loopw [8] (fun i wr => ∃ j : Nat, j ≤ ord.length ∧ i = .int .i64 j ∧ wr.ownsRow P 3 1 (.slice (some ⟨P, 0, none⟩) n n) n (ints (placeM n (ord.take j))) ∧
      Box wr w.heap.size [.int .i64 r, .int .i64 n, .slice A es.length c] ∧ Box wr (w.heap.size + 1) [.int .i64 0, .int .i64 0, .slice none 0 0] ∧ Box wr (w.heap.size + 2) [.int .i64 r, .int .i64 ord.length, .slice none 0 0] ∧ Mid 0 0 w wr) (fun i _ => ord.length - (intOf i).toNat)
  case atStart => exact ⟨0, Nat.zero_le _, rfl, by rw [List.take_zero, placeM_nil]; simpa [ints] using hown3, b0, b2, Y3, hm0⟩
  case round =>
    clear hown3 b0 b2 Y3 hm0 hsz3
    obtain ⟨wi, hwi⟩ : ∃ wi, wi = wr := ⟨_, rfl⟩
    subst hwi
    obtain ⟨j, hj, rfl, hown, b0, b2, Y3, hm⟩ := hrel
    by_cases hlt2 : j < ord.length
    · obtain ⟨B, off, x, rfl, hbh, hx, hcx⟩ := (hro.mid hm (Or.inl (Nat.zero_le _))).at hlt2
      have hxr := HIN.out x (List.mem_of_getElem? hx)
      obtain ⟨m, rfl⟩ : ∃ m : Nat, x = m := ⟨x.toNat, by omega⟩
      have hmk : m < n := by omega
      have hxn := not_in_take HND.out hx
      have hcs : wi.cell? ⟨P, m, none⟩ = some (.int .i64 0) := (hown.cellAt m (by omega)).trans (by rw [ints_get, placeM_get _ hmk, idxI_neg hxn]; rfl)
      have hfz := hown.frozenAt m
      have HX := Lib.hid hx
      have hPs : P < wi.heap.size := (hown.lt _ rfl).2
      have hBs : B < wi.heap.size := by have := hro.1; have := hm.size; omega
      have hib : inB (m : Int) 0 ((n : Int) - 1) = true := by unfold inB; simp; omega
      have hwr : IntKind.i64.wrap ((n : Int) - 1) = (n : Int) - 1 := IntWalk.i64_in _ (by omega)
      have u0 := wg_cell b0.1 (b0.cell 0 rfl)
      have u1 := wg_cell b0.1 (b0.cell 1 rfl)
      have u2 := wg_cell b0.1 (b0.cell 2 rfl)
      have u3 := wg_cell hBs hcx
      have u4 := wg_cell hPs hcs
      have hm1 : (m : Int) < (n : Int) := by omega
      have hm0 : (0 : Int) ≤ (m : Int) := by omega
      have hj1 : (j : Int) < (ord.length : Int) := by omega
      have hj0 : (0 : Int) ≤ (j : Int) := by omega
      clear hx hxn
      go_wp2_with fail
      refine wp_region_quiet_wg (by kernel_rfl) (by kernel_rfl) ?_
      repeat
        (with_reducible refine wpQuiet_step (fun K hK => ?_))
        go_simp
        first
          | ((with_reducible refine hK _ ?_); clear hK K)
          | (rw [if_neg (by decide)]; (with_reducible refine hK _ ?_); clear hK K)
          | (apply Exists.intro; refine ⟨fun _ => ?_, hK _ ?_⟩; ((go_at_call 41; exact Calls.wg_same (l1In_at hib _))); clear hK K)
      with_reducible refine wpQuiet_nil ?_
      intro _ hw'
      obtain ⟨⟨nq, osq⟩, hw''⟩ := hw'
      subst hw''
      have hwg := Mid.ofWg wi nq osq
      have hown2 := owns_mid hown hwg (Or.inl (Nat.zero_le _))
      have v4 := u4 nq osq
      have v3 := u3 nq osq
      have hfz2 := hown2.frozenAt m
      have hsv : (ints (placeM n (ord.take j))).set m (.int .i64 ((j : Int) + 1)) = ints (placeM n (ord.take (j + 1))) := by rw [← placeM_set HND.out HX.out hmk]; simp [ints]
      have hset2 := owns_set hown2 m (.int .i64 ((j : Int) + 1)) hsv
      have hst := Mid.setAt (wg wi nq osq) P m (.int .i64 ((j : Int) + 1))
      have hms := (hm.trans hwg).storeNew (p := ⟨P, m, none⟩) (by show w.heap.size ≤ P; omega) (.int .i64 ((j : Int) + 1))
      replace b0 := b0.mid hwg (Or.inr (Nat.zero_le _))
      replace b2 := b2.mid hwg (Or.inr (Nat.zero_le _))
      replace Y3 := Y3.mid hwg (Or.inr (Nat.zero_le _))
      replace b0 := b0.mid hst (Or.inl (by omega))
      replace b2 := b2.mid hst (Or.inl (by omega))
      replace Y3 := Y3.mid hst (Or.inl (by omega))
      clear hown hown2 hm u0 u1 u2 u3 u4 hwg hst hsv
      go_wp2_with fail
      go_roundw
      case rel => exact ⟨j + 1, by omega, by go_num, hset2, b0, b2, Y3, hms⟩
      case measure => simp [intOf]; omega
    · obtain rfl : j = ord.length := by omega
      rw [List.take_length] at hown
      have p0 := b0.cell 0 rfl
      have p1 := b0.cell 1 rfl
      have p2 := b0.cell 2 rfl
      go_wp2_with fail
      clear p0 p1 p2
      go_loopw [9] (fun i wr => ∃ (q : Nat) (A2 : Option Addr) (c2 lo2 hi2 : Nat) (xs : List Ed), q ≤ es.length ∧ i = .int .i64 q ∧ Hid (xs = putAll [] ((es.take q).filterMap (partOf ord))) ∧
          OG wr lo2 hi2 A2 c2 xs ∧ P ≤ lo2 ∧ wr.ownsRow P 3 1 (.slice (some ⟨P, 0, none⟩) n n) n (ints (placeM n ord)) ∧
          Box wr w.heap.size [.int .i64 r, .int .i64 n, .slice A es.length c] ∧ Box wr (w.heap.size + 1) [.int .i64 0, .int .i64 0, .slice none 0 0] ∧ Box wr (w.heap.size + 2) [.int .i64 r, .int .i64 ord.length, .slice A2 xs.length c2] ∧ Mid 0 0 w wr) (fun i _ => es.length - (intOf i).toNat)
      case atStart => exact ⟨0, none, 0, P, _, [], Nat.zero_le _, rfl, Lib.hid rfl, ⟨Nat.le_of_lt (show P < wi.heap.size from (hown.lt _ rfl).2), ⟨rfl, .inl ⟨rfl, rfl⟩⟩, fun g hg => by simp [Value.ownBlock] at hg⟩, Nat.le_refl _, hown, b0, b2, Y3, hm⟩
      case round =>
        clear hown b0 b2 Y3 hm
        obtain ⟨q, A2, c2, lo2, hi2, xs, hq, rfl, HX, hown, hlo2, hownP, b0, b2, Y3, hm⟩ := hrel
        have hxl : xs.length ≤ 120 := by
          have h1 := putAll_len [] ((es.take q).filterMap (partOf ord))
          have h2 := List.length_filterMap_le (partOf ord) (es.take q)
          rw [← HX.out] at h1
          simp at h1 h2
          omega
        by_cases hlt3 : q < es.length
        · obtain ⟨B, off, e, rfl, -, hbh, he, e0, e1, e2⟩ := (hr.mid hm (Or.inl (Nat.zero_le _))).ed hlt3
          have hin := HG.out.all e (List.mem_of_getElem? he)
          have htk : (es.take (q + 1)).filterMap (partOf ord) = (es.take q).filterMap (partOf ord) ++ (partOf ord e).toList := by
            rw [take_snoc he, List.filterMap_append]
            cases hd : partOf ord e <;> simp [hd]
          obtain ⟨i1, i2, i3, i4, i5, i6⟩ := hin
          obtain ⟨x, l, y⟩ := e
          simp only at i1 i2 i3 i4 i5 i6 e0 e1 e2 htk
          obtain ⟨ia, rfl⟩ : ∃ ia : Nat, x = ia := ⟨x.toNat, by omega⟩
          obtain ⟨ib, rfl⟩ : ∃ ib : Nat, y = ib := ⟨y.toNat, by omega⟩
          have hia : ia < n := by omega
          have hib : ib < n := by omega
          have hq0 : (0 : Int) ≤ (q : Int) := by omega
          have hq1 : (q : Int) < (es.length : Int) := by omega
          have hal := Mid.alloc wr (.cells #[.int .i64 ia, .int .i64 l, .int .i64 ib] 70)
          have ZE := Box.new wr #[.int .i64 ia, .int .i64 l, .int .i64 ib] 70
          have hgs : P < wr.heap.size := (hownP.lt _ rfl).2
          have p0 := b0.cell 0 rfl
          have p1 := b0.cell 1 rfl
          have p2 := b0.cell 2 rfl
          replace b0 := b0.mid hal (Or.inr (Nat.zero_le _))
          replace b2 := b2.mid hal (Or.inr (Nat.zero_le _))
          replace Y3 := Y3.mid hal (Or.inr (Nat.zero_le _))
          replace hownP := owns_mid hownP hal (Or.inl (Nat.zero_le _))
          replace hown := hown.mid hal (Or.inl (Nat.zero_le _))
          replace hm := hm.trans hal
          obtain ⟨pa, hpa⟩ : ∃ pa, idxI ord ia + 1 = pa := ⟨_, rfl⟩
          obtain ⟨pb, hpb⟩ : ∃ pb, idxI ord ib + 1 = pb := ⟨_, rfl⟩
          have hpa0 : pa ≤ 41 := by
            by_cases h : 0 ≤ idxI ord ia
            · have := idxI_lt h; omega
            · omega
          have hpb0 : pb ≤ 41 := by
            by_cases h : 0 ≤ idxI ord ib
            · have := idxI_lt h; omega
            · omega
          have hga : (ints (placeM n ord))[ia]? = some (.int .i64 pa) := by rw [ints_get, placeM_get ord hia, hpa]; rfl
          have hgb : (ints (placeM n ord))[ib]? = some (.int .i64 pb) := by rw [ints_get, placeM_get ord hib, hpb]; rfl
          have hca := (hownP.cellAt ia (by omega)).trans hga
          have hcb := (hownP.cellAt ib (by omega)).trans hgb
          have HTK := Lib.hid htk
          have HPA := Lib.hid hpa
          have HPB := Lib.hid hpb
          have HGA := Lib.hid hga
          have HGB := Lib.hid hgb
          clear he htk hpa hpb hga hgb
          by_cases hok : 0 < pa ∧ 0 < pb
          · have hpo : partOf ord ⟨(ia : Int), l, (ib : Int)⟩ = some ⟨pa - 1, l, pb - 1⟩ := by
              have h1 := HPA.out
              have h2 := HPB.out
              unfold partOf
              simp only
              rw [if_pos ⟨by omega, by omega⟩, ← h1, ← h2, Int.add_sub_cancel, Int.add_sub_cancel]
            have HT : Hid ((es.take (q + 1)).filterMap (partOf ord) = (es.take q).filterMap (partOf ord) ++ [⟨pa - 1, l, pb - 1⟩]) := Lib.hid (by rw [HTK.out, hpo]; rfl)
            have d1 : decide (0 < pa) = true := by simpa using hok.1
            have d2 : decide (0 < pb) = true := by simpa using hok.2
            have hpa1 := hok.1
            have hpb1 := hok.2
            clear hpo hok
            go_wp2_with fail
            clear e0 e1 e2 hca hcb d1 d2 p0 p1 p2
            generalize hwx : wr.alloc (.cells #[.int .i64 ia, .int .i64 l, .int .i64 ib] 70) = wx at ZE b0 b2 Y3 hown hownP hm ⊢
            generalize hgE : wr.heap.size = E at ZE hgs ⊢
            clear hgE hwx hal
            have hmd := Mid.drew1 wx
            replace b0 := b0.mid hmd (Or.inr (Nat.zero_le _))
            replace b2 := b2.mid hmd (Or.inr (Nat.zero_le _))
            replace Y3 := Y3.mid hmd (Or.inr (Nat.zero_le _))
            replace ZE := ZE.mid hmd (Or.inr (Nat.zero_le _))
            replace hownP := owns_mid hownP hmd (Or.inl (Nat.zero_le _))
            replace hown := hown.mid hmd (Or.inl (Nat.zero_le _))
            replace hm := hm.trans hmd
            have hca := (hownP.cellAt ia (by omega)).trans HGA.out
            have hcb := (hownP.cellAt ib (by omega)).trans HGB.out
            have f0 := ZE.cell 0 rfl
            have f1 := ZE.cell 1 rfl
            have f2 := ZE.cell 2 rfl
            have g2 := Y3.cell 2 rfl
            have hw1 : IntKind.i64.wrap (pa - 1) = pa - 1 := IntWalk.i64_in _ (by omega)
            have hw2 : IntKind.i64.wrap (pb - 1) = pb - 1 := IntWalk.i64_in _ (by omega)
            clear hmd
            refine wp_region_T (S := (fun w' => w'.cell? ⟨E, 0, none⟩ = some (.int .i64 ia) ∧ w'.cell? ⟨E, 1, none⟩ = some (.int .i64 l) ∧ w'.cell? ⟨E, 2, none⟩ = some (.int .i64 ib) ∧ w'.cell? ⟨w.heap.size + 2, 2, none⟩ = some (.slice A2 xs.length c2) ∧ w'.cell? ⟨P, ia, none⟩ = some (.int .i64 pa) ∧ w'.cell? ⟨P, ib, none⟩ = some (.int .i64 pb))) 19 (by kernel_rfl) ⟨f0, f1, f2, g2, hca, hcb⟩ ?_
            generalize World.drew wx = wz at b0 b2 Y3 ZE hown hownP hm f0 f1 f2 g2 hca hcb ⊢
            have hS : wz.cell? ⟨E, 0, none⟩ = some (.int .i64 ia) ∧ wz.cell? ⟨E, 1, none⟩ = some (.int .i64 l) ∧ wz.cell? ⟨E, 2, none⟩ = some (.int .i64 ib) ∧ wz.cell? ⟨w.heap.size + 2, 2, none⟩ = some (.slice A2 xs.length c2) ∧ wz.cell? ⟨P, ia, none⟩ = some (.int .i64 pa) ∧ wz.cell? ⟨P, ib, none⟩ = some (.int .i64 pb) := ⟨f0, f1, f2, g2, hca, hcb⟩
            refine wpAnyT_take (i := 0) (v := ?_) rfl (by kernel_rfl) (by kernel_rfl) (by kernel_rfl) (by kernel_rfl) (fun _ _ _ h => h) (Or.inl ⟨by rfl, ?_⟩) hS ?_
            rotate_left
            focus (intro w hSw; (try dsimp only at hSw); go_simp; try with_reducible rfl)
            try simp only [Act.put, List.setIfInBounds_toArray, List.set_cons_zero, List.set_cons_succ, List.getElem_toArray, List.getElem_cons_zero, List.getElem_cons_succ]
            refine wpAnyT_take (i := 1) (v := ?_) rfl (by kernel_rfl) (by kernel_rfl) (by kernel_rfl) (by kernel_rfl) (fun _ _ _ h => h) (Or.inl ⟨by rfl, ?_⟩) hS ?_
            rotate_left
            focus (intro w hSw; (try dsimp only at hSw); go_simp; try with_reducible rfl)
            try simp only [Act.put, List.setIfInBounds_toArray, List.set_cons_zero, List.set_cons_succ, List.getElem_toArray, List.getElem_cons_zero, List.getElem_cons_succ]
            refine wpAnyT_take (i := 2) (v := ?_) rfl (by kernel_rfl) (by kernel_rfl) (by kernel_rfl) (by kernel_rfl) (fun _ _ _ h => h) (Or.inl ⟨by rfl, ?_⟩) hS ?_
            rotate_left
            focus (intro w hSw; (try dsimp only at hSw); go_simp; try with_reducible rfl)
            try simp only [Act.put, List.setIfInBounds_toArray, List.set_cons_zero, List.set_cons_succ, List.getElem_toArray, List.getElem_cons_zero, List.getElem_cons_succ]
            refine wpAnyT_take (i := 3) (v := ?_) rfl (by kernel_rfl) (by kernel_rfl) (by kernel_rfl) (by kernel_rfl) (fun _ _ _ h => h) (Or.inl ⟨by rfl, ?_⟩) hS ?_
            rotate_left
            focus (intro w hSw; (try dsimp only at hSw); go_simp; try with_reducible rfl)
            try simp only [Act.put, List.setIfInBounds_toArray, List.set_cons_zero, List.set_cons_succ, List.getElem_toArray, List.getElem_cons_zero, List.getElem_cons_succ]
            refine wpAnyT_take (i := 4) (v := ?_) rfl (by kernel_rfl) (by kernel_rfl) (by kernel_rfl) (by kernel_rfl) (fun _ _ _ h => h) (Or.inl ⟨by rfl, ?_⟩) hS ?_
            rotate_left
            focus (intro w hSw; (try dsimp only at hSw); go_simp; try with_reducible rfl)
            try simp only [Act.put, List.setIfInBounds_toArray, List.set_cons_zero, List.set_cons_succ, List.getElem_toArray, List.getElem_cons_zero, List.getElem_cons_succ]
            refine wpAnyT_take (i := 5) (v := ?_) rfl (by kernel_rfl) (by kernel_rfl) (by kernel_rfl) (by kernel_rfl) (fun _ _ _ h => h) (Or.inl ⟨by rfl, ?_⟩) hS ?_
            rotate_left
            focus (intro w hSw; (try dsimp only at hSw); go_simp; try with_reducible rfl)
            try simp only [Act.put, List.setIfInBounds_toArray, List.set_cons_zero, List.set_cons_succ, List.getElem_toArray, List.getElem_cons_zero, List.getElem_cons_succ]
            refine wpAnyT_take (i := 6) (v := ?_) rfl (by kernel_rfl) (by kernel_rfl) (by kernel_rfl) (by kernel_rfl) (fun _ _ _ h => h) (Or.inl ⟨by rfl, ?_⟩) hS ?_
            rotate_left
            focus (intro w hSw; (try dsimp only at hSw); go_simp; try with_reducible rfl)
            try simp only [Act.put, List.setIfInBounds_toArray, List.set_cons_zero, List.set_cons_succ, List.getElem_toArray, List.getElem_cons_zero, List.getElem_cons_succ]
            refine wpAnyT_take (i := 7) (v := ?_) rfl (by kernel_rfl) (by kernel_rfl) (by kernel_rfl) (by kernel_rfl) (fun _ _ _ h => h) (Or.inl ⟨by rfl, ?_⟩) hS ?_
            rotate_left
            focus (intro w hSw; (try dsimp only at hSw); go_simp; try with_reducible rfl)
            try simp only [Act.put, List.setIfInBounds_toArray, List.set_cons_zero, List.set_cons_succ, List.getElem_toArray, List.getElem_cons_zero, List.getElem_cons_succ]
            refine wpAnyT_take (i := 8) (v := ?_) rfl (by kernel_rfl) (by kernel_rfl) (by kernel_rfl) (by kernel_rfl) (fun _ _ _ h => h) (Or.inl ⟨by rfl, ?_⟩) hS ?_
            rotate_left
            focus (intro w hSw; (try dsimp only at hSw); go_simp; try with_reducible rfl)
            try simp only [Act.put, List.setIfInBounds_toArray, List.set_cons_zero, List.set_cons_succ, List.getElem_toArray, List.getElem_cons_zero, List.getElem_cons_succ]
            refine wpAnyT_take (i := 9) (v := ?_) rfl (by kernel_rfl) (by kernel_rfl) (by kernel_rfl) (by kernel_rfl) (fun _ _ _ h => h) (Or.inl ⟨by rfl, ?_⟩) hS ?_
            rotate_left
            focus (intro w hSw; (try dsimp only at hSw); go_simp; try with_reducible rfl)
            try simp only [Act.put, List.setIfInBounds_toArray, List.set_cons_zero, List.set_cons_succ, List.getElem_toArray, List.getElem_cons_zero, List.getElem_cons_succ]
            refine wpAnyT_take (i := 10) (v := ?_) rfl (by kernel_rfl) (by kernel_rfl) (by kernel_rfl) (by kernel_rfl) (fun _ _ _ h => h) (Or.inl ⟨by rfl, ?_⟩) hS ?_
            rotate_left
            focus (intro w hSw; (try dsimp only at hSw); go_simp; try with_reducible rfl)
            try simp only [Act.put, List.setIfInBounds_toArray, List.set_cons_zero, List.set_cons_succ, List.getElem_toArray, List.getElem_cons_zero, List.getElem_cons_succ]
            refine wpAnyT_take (i := 11) (v := ?_) rfl (by kernel_rfl) (by kernel_rfl) (by kernel_rfl) (by kernel_rfl) (fun _ _ _ h => h) (Or.inl ⟨by rfl, ?_⟩) hS ?_
            rotate_left
            focus (intro w hSw; (try dsimp only at hSw); go_simp; try with_reducible rfl)
            try simp only [Act.put, List.setIfInBounds_toArray, List.set_cons_zero, List.set_cons_succ, List.getElem_toArray, List.getElem_cons_zero, List.getElem_cons_succ]
            refine wpAnyT_take (i := 12) (v := ?_) rfl (by kernel_rfl) (by kernel_rfl) (by kernel_rfl) (by kernel_rfl) (fun _ _ _ h => h) (Or.inl ⟨by rfl, ?_⟩) hS ?_
            rotate_left
            focus (intro w hSw; (try dsimp only at hSw); go_simp; try with_reducible rfl)
            try simp only [Act.put, List.setIfInBounds_toArray, List.set_cons_zero, List.set_cons_succ, List.getElem_toArray, List.getElem_cons_zero, List.getElem_cons_succ]
            refine wpAnyT_take (i := 13) (v := ?_) rfl (by kernel_rfl) (by kernel_rfl) (by kernel_rfl) (by kernel_rfl) (fun _ _ _ h => h) (Or.inl ⟨by rfl, ?_⟩) hS ?_
            rotate_left
            focus (intro w hSw; (try dsimp only at hSw); go_simp; try with_reducible rfl)
            try simp only [Act.put, List.setIfInBounds_toArray, List.set_cons_zero, List.set_cons_succ, List.getElem_toArray, List.getElem_cons_zero, List.getElem_cons_succ]
            refine wpAnyT_take (i := 14) (v := ?_) rfl (by kernel_rfl) (by kernel_rfl) (by kernel_rfl) (by kernel_rfl) (fun _ _ _ h => h) (Or.inl ⟨by rfl, ?_⟩) hS ?_
            rotate_left
            focus (intro w hSw; (try dsimp only at hSw); go_simp; try with_reducible rfl)
            try simp only [Act.put, List.setIfInBounds_toArray, List.set_cons_zero, List.set_cons_succ, List.getElem_toArray, List.getElem_cons_zero, List.getElem_cons_succ]
            refine wpAnyT_take (i := 15) (v := ?_) rfl (by kernel_rfl) (by kernel_rfl) (by kernel_rfl) (by kernel_rfl) (fun _ _ _ h => h) (Or.inl ⟨by rfl, ?_⟩) hS ?_
            rotate_left
            focus (intro w hSw; (try dsimp only at hSw); go_simp; try with_reducible rfl)
            try simp only [Act.put, List.setIfInBounds_toArray, List.set_cons_zero, List.set_cons_succ, List.getElem_toArray, List.getElem_cons_zero, List.getElem_cons_succ]
            refine wpAnyT_take (i := 16) (v := ?_) rfl (by kernel_rfl) (by kernel_rfl) (by kernel_rfl) (by kernel_rfl) (fun _ _ _ h => h) (Or.inl ⟨by rfl, ?_⟩) hS ?_
            rotate_left
            focus (intro w hSw; (try dsimp only at hSw); go_simp; try with_reducible rfl)
            try simp only [Act.put, List.setIfInBounds_toArray, List.set_cons_zero, List.set_cons_succ, List.getElem_toArray, List.getElem_cons_zero, List.getElem_cons_succ]
            have hQ := spec_l4Put A2 xs c2 ⟨pa - 1, l, pb - 1⟩ wz _ _ hown.rg (by omega)
            refine wpAnyT_ready (rs := [17]) (by kernel_rfl) (by simp) (AllReadyT.cons rfl (fun K hK => ?_) AllReadyT.nil)
            (go_simp; refine hQ.mono ?_; rintro en w9 ⟨A9, c9, rfl, ho9, hm9⟩; have b0' := b0.mid hm9 (Or.inr (Nat.zero_le _)); have b2' := b2.mid hm9 (Or.inr (Nat.zero_le _)); have Y3' := Y3.mid hm9 (Or.inr (Nat.zero_le _)); have ZE' := ZE.mid hm9 (Or.inr (Nat.zero_le _)); have hP9 := owns_mid hownP hm9 (Or.inl (Nat.zero_le _)); go_wp2_with fail)
            refine hK.out _ _ (Or.inr ⟨ZE'.cell 0 rfl, ZE'.cell 1 rfl, ZE'.cell 2 rfl, Y3'.cell 2 rfl, (hP9.cellAt ia (by omega)).trans HGA.out, (hP9.cellAt ib (by omega)).trans HGB.out⟩) (fun _ => ?_)
            clear hK K
            try simp only [Act.put, List.setIfInBounds_toArray, List.set_cons_zero, List.set_cons_succ, List.getElem_toArray, List.getElem_cons_zero, List.getElem_cons_succ]
            have hmr9 := hm.trans hm9
            have hPz : P ≤ wz.heap.size := Nat.le_of_lt (show P < wz.heap.size from (hownP.lt _ rfl).2)
            have hS3 := And.intro (ZE'.cell 0 rfl) (And.intro (ZE'.cell 1 rfl) (And.intro (ZE'.cell 2 rfl) (And.intro (Y3'.cell 2 rfl) (And.intro ((hP9.cellAt ia (by omega)).trans HGA.out) ((hP9.cellAt ib (by omega)).trans HGB.out)))))
            have hr2 := Y3'.cell 2 rfl
            have hrf := Y3'.2.2
            clear hS b0 b2 Y3 ZE hm hown hownP f0 f1 f2 g2 hca hcb hQ
            refine wpAnyT_take (i := 18) (v := ?_) rfl (by kernel_rfl) (by kernel_rfl) (by kernel_rfl) (by kernel_rfl) (fun _ _ _ h => h) (Or.inl ⟨by rfl, ?_⟩) hS3 ?_
            rotate_left
            focus (intro w hSw; (try dsimp only at hSw); go_simp; try with_reducible rfl)
            try simp only [Act.put, List.setIfInBounds_toArray, List.set_cons_zero, List.set_cons_succ, List.getElem_toArray, List.getElem_cons_zero, List.getElem_cons_succ]
            refine wpAnyT_ready (rs := [19]) (by kernel_rfl) (by simp) (AllReadyT.cons rfl (fun K hK => ?_) AllReadyT.nil)
            (go_simp)
            refine hK.out _ _ (Or.inl rfl) (fun _ => ?_)
            clear hK K
            try simp only [Act.put, List.setIfInBounds_toArray, List.set_cons_zero, List.set_cons_succ, List.getElem_toArray, List.getElem_cons_zero, List.getElem_cons_succ]
            refine wpAnyT_done (by kernel_rfl) ?_ _
            go_wp2_with fail
            go_roundw
            case rel =>
              have hst := Mid.setAt w9 (w.heap.size + 2) 2 (.slice A9 (putE ⟨pa - 1, l, pb - 1⟩ xs).length c9)
              refine ⟨q + 1, A9, c9, _, _, _, by omega, by go_num, Lib.hid ?_, ho9.mid hst (Or.inl (by omega)), hPz, owns_mid hP9 hst (Or.inl (by omega)), b0'.mid hst (Or.inl (by omega)), b2'.mid hst (Or.inl (by omega)), Y3'.set 2 _ (by simp) rfl, hmr9.storeNew (by show w.heap.size ≤ w.heap.size + 2; omega) _⟩
              rw [HT.out, putAll_snoc, ← HX.out]
            case measure => simp [intOf]; omega
          · have hpo : partOf ord ⟨(ia : Int), l, (ib : Int)⟩ = none := by
              have h1 := HPA.out
              have h2 := HPB.out
              unfold partOf
              simp only
              rw [if_neg (fun h => hok ⟨by omega, by omega⟩)]
            have HT : Hid ((es.take (q + 1)).filterMap (partOf ord) = (es.take q).filterMap (partOf ord)) := Lib.hid (by rw [HTK.out, hpo]; simp)
            by_cases h1 : 0 < pa
            · have d1 : decide (0 < pa) = true := by simpa using h1
              have d2 : decide (0 < pb) = false := by simp; omega
              clear hpo hok h1
              go_wp2_with fail
              go_roundw
              case rel => exact ⟨q + 1, A2, c2, lo2, hi2, xs, by omega, by go_num, by rw [HT.out]; exact HX, hown, hlo2, hownP, b0, b2, Y3, hm⟩
              case measure => simp [intOf]; omega
            · have d1 : decide (0 < pa) = false := by simp; omega
              clear hpo hok h1
              go_wp2_with fail
              go_roundw
              case rel => exact ⟨q + 1, A2, c2, lo2, hi2, xs, by omega, by go_num, by rw [HT.out]; exact HX, hown, hlo2, hownP, b0, b2, Y3, hm⟩
              case measure => simp [intOf]; omega
        · obtain rfl : q = es.length := by omega
          have hxx := HX.out
          rw [List.take_length] at hxx
          have HXX := Lib.hid (show xs = partE ord es from hxx)
          clear hxx
          have p0 := b0.cell 0 rfl
          have p1 := b0.cell 1 rfl
          have p2 := b0.cell 2 rfl
          have a0 := b2.cell 0 rfl
          have a1 := b2.cell 1 rfl
          have a2 := b2.cell 2 rfl
          have x0 := Y3.cell 0 rfl
          have x1 := Y3.cell 1 rfl
          have x2 := Y3.cell 2 rfl
          have af := b2.2.2
          have bf := Y3.2.2
          go_wp2_with fail
          refine bodyPost_ret (v := .tuple #[.agg #[.int .i64 r, .int .i64 ord.length, .slice A2 xs.length c2], .bool true]) (by simp [results, Try.results143, go_sem, a0, a1, a2, x0, x1, x2, af, bf]) rfl ⟨A2, c2, by rw [HXX.out], ?_, ?_⟩
          · rw [← HXX.out]
            refine OG.wide (OG.mid hown (a := w.heap.size) (b := w.heap.size + 3) ?_ (Or.inl (by omega))) (by omega) (by have := hown.size; simpa using this) (Nat.le_refl _)
            repeat (first | exact Mid.refl _ _ _ | refine Mid.stored ?_ _ (by simp; try omega) (by simp; try omega))
          · repeat (first | exact hm | refine Mid.storeNew ?_ (by simp; try omega) _)
end Go.Proofs.Ytimmnnncgnnkgaa

/- EqualGraphs, of both. -/
namespace Go.Proofs.Ytimmnnncgnnkgaa
set_option linter.unusedVariables false
set_option linter.unusedSimpArgs false
open Go.RowKit

set_option maxHeartbeats 3200000 in
theorem impl_EqualGraphs (r s : Int) (A : Option Addr) (es : List Ed) (c : Nat) (r' s' : Int) (A' : Option Addr) (es' : List Ed) (c' : Nat) (w : World) (lo hi lo' hi' : Nat) (hr : RG w lo hi A es) (hr' : RG w lo' hi' A' es') (hl : es.length ≤ 1048576) (hl' : es'.length ≤ 1048576) (b : Bool) (hb : b = true ↔ r = r' ∧ s = s' ∧ es = es') :
    Calls Try.prog 93 #[graV r s A es.length c, graV r' s' A' es'.length c'] w fun e w' => e = .returned (.bool b) ∧ Mid 0 0 w w' := by
  have HB := Lib.hid hb
  clear hb
  have hm0 : Mid 0 0 w ((w.alloc (.cells #[.int .i64 r, .int .i64 s, .slice A es.length c] 28)).alloc (.cells #[.int .i64 r', .int .i64 s', .slice A' es'.length c'] 28)) := (Mid.alloc _ _).trans (Mid.alloc _ _)
  by_cases h1 : r = r'
  · by_cases h2 : s = s'
    · subst h1 h2
      have hbd : decide (es = es') = b := by rw [Bool.eq_iff_iff, HB.out]; simp
      have HBD := Lib.hid hbd
      clear hbd
      clear HB
      go_enter Try.func93, Try.ntmps93
      go_wp2_with fail
      with_reducible refine (equalE A A' es es' c c' _ _ _ _ _ (hr.mid hm0 (Or.inl (Nat.zero_le _))) (hr'.mid hm0 (Or.inl (Nat.zero_le _))) hl hl').mono ?_
      rintro en w1 ⟨rfl, hm1⟩
      have hmm := hm0.trans hm1
      rw [HBD.out]
      clear HBD
      cases b with
      | false =>
        go_wp2_with fail
        go_ret
        exact ⟨rfl, hmm⟩
      | true =>
        go_wp2_with fail
        go_ret
        exact ⟨rfl, hmm⟩
    · have b2 : (s == s') = false := by simpa only [beq_eq_false_iff_ne] using h2
      obtain rfl : b = false := bool_no HB.out fun h => h2 h.2.1
      subst h1
      clear HB h2
      go_enter Try.func93, Try.ntmps93
      go_wp2_with fail
      go_ret
      exact ⟨rfl, hm0⟩
  · have b2 : (r == r') = false := by simpa only [beq_eq_false_iff_ne] using h1
    obtain rfl : b = false := bool_no HB.out fun h => h1 h.1
    clear HB h1
    go_enter Try.func93, Try.ntmps93
    go_wp2_with fail
    go_ret
    exact ⟨rfl, hm0⟩

set_option maxHeartbeats 3200000 in
set_option maxRecDepth 20000 in
theorem spec_EqualGraphs (r s : Int) (A : Option Addr) (es : List Ed) (c : Nat) (r' s' : Int) (A' : Option Addr) (es' : List Ed) (c' : Nat) (w : World) (lo hi lo' hi' : Nat) (hr : RG w lo hi A es) (hr' : RG w lo' hi' A' es') (hl : es.length ≤ 1048576) (hl' : es'.length ≤ 1048576) (b : Bool) (hb : b = true ↔ r = r' ∧ s = s' ∧ es = es') :
    Calls Try.prog 118 #[graV r s A es.length c, graV r' s' A' es'.length c'] w fun e w' => e = .returned (.bool b) ∧ Mid 0 0 w w' := by
  have HB := Lib.hid hb
  clear hb
  have hm0 : Mid 0 0 w ((w.alloc (.cells #[.int .i64 r, .int .i64 s, .slice A es.length c] 28)).alloc (.cells #[.int .i64 r', .int .i64 s', .slice A' es'.length c'] 28)) := (Mid.alloc _ _).trans (Mid.alloc _ _)
  by_cases h1 : r = r'
  · by_cases h2 : s = s'
    · by_cases h3 : es.length = es'.length
      · subst h1 h2
        have HL := Lib.hid h3
        have b0 : (r != r) = false := by simp
        have b1 : (s != s) = false := by simp
        have b2 : ((es.length : Int) != (es'.length : Int)) = false := by simp; omega
        have B0 := (Box.new w #[.int .i64 r, .int .i64 s, .slice A es.length c] 28).mid (Mid.alloc _ (.cells #[.int .i64 r, .int .i64 s, .slice A' es'.length c'] 28)) (Or.inr (Nat.zero_le _))
        have B1 := Box.new (w.alloc (.cells #[.int .i64 r, .int .i64 s, .slice A es.length c] 28)) #[.int .i64 r, .int .i64 s, .slice A' es'.length c'] 28
        rw [World.size_alloc] at B1
        have hle1 : es.length ≤ es'.length := by omega
        have hle2 : es'.length ≤ es.length := by omega
        clear h3
        go_enter Try.func118, Try.ntmps118
        go_wp2_with fail
        go_loopw [5] (fun i wr => ∃ (k : Nat), k ≤ es.length ∧ i = .int .i64 k ∧ Hid (∀ j, j < k → es[j]? = es'[j]?) ∧ Box wr w.heap.size [.int .i64 r, .int .i64 s, .slice A es.length c] ∧ Box wr (w.heap.size + 1) [.int .i64 r, .int .i64 s, .slice A' es'.length c'] ∧ Mid 0 0 w wr) (fun i _ => es.length - (intOf i).toNat)
        case atStart => exact ⟨0, Nat.zero_le _, rfl, Lib.hid (fun j h => absurd h (Nat.not_lt_zero _)), B0, B1, hm0⟩
        case round =>
          clear B0 B1 hm0
          obtain ⟨k, hk, rfl, HE, bx, by1, hm⟩ := hrel
          have p0 := bx.cell 0 rfl
          have p1 := bx.cell 1 rfl
          have p2 := bx.cell 2 rfl
          have q0 := by1.cell 0 rfl
          have q1 := by1.cell 1 rfl
          have q2 := by1.cell 2 rfl
          by_cases hlt : k < es.length
          · obtain ⟨B, off, e, rfl, -, hbh, he, e0, e1, e2⟩ := (hr.mid hm (Or.inl (Nat.zero_le _))).ed hlt
            obtain ⟨B', off', f, rfl, -, hbh', hf, f0, f1, f2⟩ := (hr'.mid hm (Or.inl (Nat.zero_le _))).ed (k := k) (by omega)
            have hs1 : B < wr.heap.size := Nat.lt_of_lt_of_le hbh (Nat.le_trans hr.1 hm.size)
            have hs2 : B' < wr.heap.size := Nat.lt_of_lt_of_le hbh' (Nat.le_trans hr'.1 hm.size)
            have x0 := wg_cell hs1 e0
            have x1 := wg_cell hs1 e1
            have x2 := wg_cell hs1 e2
            have y0 := wg_cell hs2 f0
            have y1 := wg_cell hs2 f1
            have y2 := wg_cell hs2 f2
            have u2 := wg_cell bx.1 p2
            have v2 := wg_cell by1.1 q2
            have hk0 : (0 : Int) ≤ (k : Int) := by omega
            have hkn : (k : Int) < (es.length : Int) := by omega
            have hkm : (k : Int) < (es'.length : Int) := by omega
            have hgd := guardEd e f
            have HE1 := Lib.hid he
            have HF1 := Lib.hid hf
            clear he hf
            by_cases hef : e = f
            · have hq := neqEd_run e f (show decide (e ≠ f) = false by simp [hef])
              have HEF := Lib.hid hef
              clear hef
              go_wp2_with fail
              refine wp_region_quiet_wg (by kernel_rfl) (by kernel_rfl) ?_
              repeat
                (with_reducible refine wpQuiet_step (fun K hK => ?_))
                go_simp
                first
                  | ((with_reducible refine hK _ ?_); clear hK K)
                  | (rw [if_neg (by decide)]; (with_reducible refine hK _ ?_); clear hK K)
                  | (apply Exists.intro; refine ⟨fun _ => ?_, hK _ ?_⟩; (fail); clear hK K)
              with_reducible refine wpQuiet_nil ?_
              intro _ hw'
              obtain ⟨⟨nq, osq⟩, hw''⟩ := hw'
              subst hw''
              go_wp2_with fail
              go_roundw
              case rel =>
                have hwg := Mid.ofWg wr nq osq
                refine ⟨k + 1, by omega, by go_num, Lib.hid fun j hj => ?_, bx.mid hwg (Or.inr (Nat.zero_le _)), by1.mid hwg (Or.inr (Nat.zero_le _)), hm.trans hwg⟩
                by_cases h : j < k
                · exact HE.out j h
                · obtain rfl : j = k := by omega
                  rw [HE1.out, HF1.out, HEF.out]
              case measure => simp [intOf]; omega
            · have hq := neqEd_run e f (show decide (e ≠ f) = true by simp [hef])
              obtain rfl : b = false := bool_no HB.out fun h => hef (by
                have h1 := HE1.out
                rw [h.2.2, HF1.out] at h1
                injection h1 with h1
                exact h1.symm)
              clear hef
              go_wp2_with fail
              refine wp_region_quiet_wg (by kernel_rfl) (by kernel_rfl) ?_
              repeat
                (with_reducible refine wpQuiet_step (fun K hK => ?_))
                go_simp
                first
                  | ((with_reducible refine hK _ ?_); clear hK K)
                  | (rw [if_neg (by decide)]; (with_reducible refine hK _ ?_); clear hK K)
                  | (apply Exists.intro; refine ⟨fun _ => ?_, hK _ ?_⟩; (fail); clear hK K)
              with_reducible refine wpQuiet_nil ?_
              intro _ hw'
              obtain ⟨⟨nq, osq⟩, hw''⟩ := hw'
              subst hw''
              go_wp2_with fail
              go_ret
              exact ⟨rfl, hm.trans (Mid.ofWg wr nq osq)⟩
          · obtain rfl : k = es.length := by omega
            obtain rfl : b = true := HB.out.2 ⟨by trivial, by trivial, List.ext_getElem? fun j => by
              by_cases h : j < es.length
              · exact HE.out j h
              · rw [List.getElem?_eq_none (by omega), List.getElem?_eq_none (by omega)]⟩
            go_wp2_with fail
            go_ret
            exact ⟨rfl, hm⟩
      · subst h1 h2
        have b0 : (r != r) = false := by simp
        have b1 : (s != s) = false := by simp
        have b2 : ((es.length : Int) != (es'.length : Int)) = true := by simp; omega
        obtain rfl : b = false := bool_no HB.out fun h => h3 (by rw [h.2.2])
        clear HB h3
        go_enter Try.func118, Try.ntmps118
        go_wp2_with fail
        go_ret
        exact ⟨rfl, hm0⟩
    · have b2 : (s != s') = true := by simpa using h2
      have b0 : (r != r') = false := by simpa using h1
      obtain rfl : b = false := bool_no HB.out fun h => h2 h.2.1
      clear HB h2 h1
      go_enter Try.func118, Try.ntmps118
      go_wp2_with fail
      go_ret
      exact ⟨rfl, hm0⟩
  · have b2 : (r != r') = true := by simpa using h1
    obtain rfl : b = false := bool_no HB.out fun h => h1 h.1
    clear HB h1
    go_enter Try.func118, Try.ntmps118
    go_wp2_with fail
    go_ret
    exact ⟨rfl, hm0⟩
end Go.Proofs.Ytimmnnncgnnkgaa

/- CanonicalOrder of the program, CanonicalGraph of both. -/
namespace Go.Proofs.Ytimmnnncgnnkgaa
set_option linter.unusedVariables false
set_option linter.unusedSimpArgs false
open Go.RowKit

set_option maxHeartbeats 1600000 in
theorem impl_CanonicalOrder (r n : Nat) (A : Option Addr) (es : List Ed) (c : Nat) (w : World) (lo hi : Nat) (hr : RG w lo hi A es) (hcl : es.length ≤ c) (hf : IsFol r n es) :
    Calls Try.prog 125 #[graV r n A es.length c] w fun e w' => ∃ A1 c1, e = .returned (.slice A1 (ordE r es 0).length c1) ∧ RV w' 0 w'.heap.size A1 (ints (ordE r es 0)) ∧ Mid 0 0 w w' := by
  have hl := hf.gr.len
  have hn1 : 0 < n := by have := hf.gr.size; omega
  have hm0 : Mid 0 0 w (w.alloc (.cells #[.int .i64 r, .int .i64 n, .slice A es.length c] 28)) := Mid.alloc _ _
  have B0 := Box.new w #[.int .i64 r, .int .i64 n, .slice A es.length c] 28
  have HF := Lib.hid hf
  clear hf
  go_enter Try.func125, Try.ntmps125
  go_wp2_with fail
  with_reducible refine (impl_IsFolded r n A es c _ _ _ (hr.mid hm0 (Or.inl (Nat.zero_le _))) (by omega) hcl true (iff_of_true rfl HF.out)).mono ?_
  rintro en w1 ⟨rfl, hm1⟩
  replace B0 := B0.mid hm1 (Or.inr (Nat.zero_le _))
  replace hm0 := hm0.trans hm1
  have p0 := B0.cell 0 rfl
  have p1 := B0.cell 1 rfl
  have p2 := B0.cell 2 rfl
  have hT := impl_tree r n 0 A es c w1 lo hi (hr.mid hm0 (Or.inl (Nat.zero_le _))) HF.out.gr hn1
  have h00 : ((0 : Nat) : Int) = 0 := rfl
  rw [h00] at hT
  go_wp2_with fail
  with_reducible refine (hT).mono ?_
  rintro en w2 ⟨A1, c1, rfl, hm2, hord, -⟩
  have hx := (owns_rv hord).wide (Nat.zero_le _) (Nat.le_refl _) (Nat.le_refl _)
  go_wp2_with fail
  go_ret
  exact ⟨A1, c1, rfl, hx, hm0.trans hm2⟩

theorem canonG_fol {r n : Nat} {es : List Ed} (h : IsFol r n es) : canonG r ((n : Int), es) = (((ordE r es 0).length : Int), partE (ordE r es 0) es) := if_pos h
theorem canonG_no {r s : Int} {es : List Ed} (h : ¬ IsFol r s es) : canonG r (s, es) = (s, es) := if_neg h
theorem ordE_ok {r n : Nat} {es : List Ed} (h : IsFol r n es) : 0 < (ordE r es 0).length ∧ (ordE r es 0).Nodup ∧ ∀ x ∈ ordE r es 0, 0 ≤ x ∧ x < (n : Int) := by
  have hs := h.gr.size
  obtain ⟨h1, -, h2, h3⟩ := ordE_len h.gr (v := 0) (Int.le_refl _) (by omega)
  exact ⟨h1, h2, h3⟩

set_option maxHeartbeats 1000000 in
set_option maxRecDepth 20000 in
theorem impl_CanonicalGraph (r n : Nat) (A : Option Addr) (es : List Ed) (c : Nat) (w : World) (lo hi : Nat) (hr : RG w lo hi A es) (hcl : es.length ≤ c) (hg : IsGr r n es) :
    Calls Try.prog 94 #[graV r n A es.length c] w fun e w' => ∃ A1 c1, e = .returned (graV r (canonG r ((n : Int), es)).1 A1 (canonG r ((n : Int), es)).2.length c1) ∧ OG w' w.heap.size w'.heap.size A1 c1 (canonG r ((n : Int), es)).2 ∧ Mid 0 0 w w' := by
  have hl := hg.len
  have hm0 : Mid 0 0 w ((w.alloc (.cells #[.int .i64 r, .int .i64 n, .slice A es.length c] 28)).alloc (.cells #[.int .i64 0, .int .i64 0, .slice none 0 0] 28)) := (Mid.alloc _ _).trans (Mid.alloc _ _)
  have b0 := (Box.new w #[.int .i64 r, .int .i64 n, .slice A es.length c] 28).mid (Mid.alloc _ (.cells #[.int .i64 0, .int .i64 0, .slice none 0 0] 28)) (Or.inr (Nat.zero_le _))
  have b2 := Box.new (w.alloc (.cells #[.int .i64 r, .int .i64 n, .slice A es.length c] 28)) #[.int .i64 0, .int .i64 0, .slice none 0 0] 28
  simp only [World.size_alloc] at b2
  have HG := Lib.hid hg
  clear hg
  by_cases hf : IsFol r n es
  · rw [canonG_fol hf]
    have HF := Lib.hid hf
    clear hf
    go_enter Try.func94, Try.ntmps94
    go_wp2_with fail
    with_reducible refine (impl_IsFolded r n A es c _ _ _ (hr.mid hm0 (Or.inl (Nat.zero_le _))) (by omega) hcl true (iff_of_true rfl HF.out)).mono ?_
    rintro en w1 ⟨rfl, hm1⟩
    replace b0 := b0.mid hm1 (Or.inr (Nat.zero_le _))
    replace b2 := b2.mid hm1 (Or.inr (Nat.zero_le _))
    replace hm0 := hm0.trans hm1
    go_wp2_with fail
    have hmd := Mid.drew1 w1
    replace b0 := b0.mid hmd (Or.inr (Nat.zero_le _))
    replace b2 := b2.mid hmd (Or.inr (Nat.zero_le _))
    replace hm0 := hm0.trans hmd
    have p0 := b0.cell 0 rfl
    have p1 := b0.cell 1 rfl
    have p2 := b0.cell 2 rfl
    refine wp_region_T (S := (fun w' => w'.cell? ⟨w.heap.size, 0, none⟩ = some (.int .i64 r) ∧ w'.cell? ⟨w.heap.size, 1, none⟩ = some (.int .i64 n) ∧ w'.cell? ⟨w.heap.size, 2, none⟩ = some (.slice A es.length c))) 4 (by kernel_rfl) ⟨p0, p1, p2⟩ ?_
    generalize World.drew w1 = wz at b0 b2 hm0 p0 p1 p2 ⊢
    have hS : wz.cell? ⟨w.heap.size, 0, none⟩ = some (.int .i64 r) ∧ wz.cell? ⟨w.heap.size, 1, none⟩ = some (.int .i64 n) ∧ wz.cell? ⟨w.heap.size, 2, none⟩ = some (.slice A es.length c) := ⟨p0, p1, p2⟩
    refine wpAnyT_take (i := 0) (v := ?_) rfl (by kernel_rfl) (by kernel_rfl) (by kernel_rfl) (by kernel_rfl) (fun _ _ _ h => h) (Or.inl ⟨by rfl, ?_⟩) hS ?_
    rotate_left
    focus (intro w hSw; (try dsimp only at hSw); go_simp; try with_reducible rfl)
    try simp only [Act.put, List.setIfInBounds_toArray, List.set_cons_zero, List.set_cons_succ, List.getElem_toArray, List.getElem_cons_zero, List.getElem_cons_succ]
    refine wpAnyT_take (i := 1) (v := ?_) rfl (by kernel_rfl) (by kernel_rfl) (by kernel_rfl) (by kernel_rfl) (fun _ _ _ h => h) (Or.inl ⟨by rfl, ?_⟩) hS ?_
    rotate_left
    focus (intro w hSw; (try dsimp only at hSw); go_simp; try with_reducible rfl)
    try simp only [Act.put, List.setIfInBounds_toArray, List.set_cons_zero, List.set_cons_succ, List.getElem_toArray, List.getElem_cons_zero, List.getElem_cons_succ]
    have hQ := impl_CanonicalOrder r n A es c wz lo hi (hr.mid hm0 (Or.inl (Nat.zero_le _))) hcl HF.out
    refine wpAnyT_ready (rs := [2]) (by kernel_rfl) (by simp) (AllReadyT.cons rfl (fun K hK => ?_) AllReadyT.nil)
    (go_simp; refine hQ.mono ?_; rintro en w2 ⟨A2, c2, rfl, hord, hm2⟩; have b0' := b0.mid hm2 (Or.inr (Nat.zero_le _)); have b2' := b2.mid hm2 (Or.inr (Nat.zero_le _)); go_wp2_with fail)
    refine hK.out _ _ (Or.inr ⟨b0'.cell 0 rfl, b0'.cell 1 rfl, b0'.cell 2 rfl⟩) (fun _ => ?_)
    clear hK K
    try simp only [Act.put, List.setIfInBounds_toArray, List.set_cons_zero, List.set_cons_succ, List.getElem_toArray, List.getElem_cons_zero, List.getElem_cons_succ]
    replace hm0 := hm0.trans hm2
    obtain ⟨ho1, ho2, ho3⟩ := ordE_ok HF.out
    have hR := impl_part r n A es c A2 (ordE r es 0) c2 w2 lo hi _ _ (hr.mid hm0 (Or.inl (Nat.zero_le _))) hord HG.out ho2 ho3
    have HR := Lib.hid hR
    clear hS hQ b0 b2 hm2 p0 p1 p2 hR ho1 ho2 ho3
    refine wpAnyT_ready (rs := [3]) (by kernel_rfl) (by simp) (AllReadyT.cons rfl (fun K hK => ?_) AllReadyT.nil)
    (go_simp; refine HR.out.mono ?_; rintro en w3 ⟨A3, c3, rfl, hog, hm3⟩; have b0 := b0'.mid hm3 (Or.inr (Nat.zero_le _)); have b2 := b2'.mid hm3 (Or.inr (Nat.zero_le _)); go_wp2_with fail)
    refine hK.out _ _ (Or.inr ⟨b0.cell 0 rfl, b0.cell 1 rfl, b0.cell 2 rfl⟩) (fun _ => ?_)
    clear hK K
    try simp only [Act.put, List.setIfInBounds_toArray, List.set_cons_zero, List.set_cons_succ, List.getElem_toArray, List.getElem_cons_zero, List.getElem_cons_succ]
    have hsz2 := hm0.size
    have hb2s := b2'.1
    replace hm0 := hm0.trans hm3
    have z0 := b2.cell 0 rfl
    have z1 := b2.cell 1 rfl
    have z2 := b2.cell 2 rfl
    have zf := b2.2.2
    clear b0' b2' hm3 HR hord
    refine wpAnyT_ready (rs := [4]) (by kernel_rfl) (by simp) (AllReadyT.cons rfl (fun K hK => ?_) AllReadyT.nil)
    (go_simp)
    refine hK.out _ _ (Or.inl rfl) (fun _ => ?_)
    clear hK K
    try simp only [Act.put, List.setIfInBounds_toArray, List.set_cons_zero, List.set_cons_succ, List.getElem_toArray, List.getElem_cons_zero, List.getElem_cons_succ]
    refine wpAnyT_done (by kernel_rfl) ?_ _
    go_wp2_with fail
    refine bodyPost_ret (v := .agg #[.int .i64 r, .int .i64 (ordE r es 0).length, .slice A3 (partE (ordE r es 0) es).length c3]) (by simp [results, Try.results94, go_sem, z0, z1, z2, zf]) rfl ⟨A3, c3, rfl, ?_, ?_⟩
    · refine OG.wide (OG.mid hog (a := w.heap.size + 1) (b := w.heap.size + 2) ?_ (Or.inl (by omega))) (by omega) (by simp) (Nat.le_refl _)
      repeat (first | exact Mid.refl _ _ _ | refine Mid.stored ?_ _ (by simp; try omega) (by simp; try omega))
    · repeat (first | exact hm0 | refine Mid.storeNew ?_ (by simp; try omega) _)
  · rw [canonG_no hf]
    have HF := Lib.hid hf
    clear hf
    go_enter Try.func94, Try.ntmps94
    go_wp2_with fail
    with_reducible refine (impl_IsFolded r n A es c _ _ _ (hr.mid hm0 (Or.inl (Nat.zero_le _))) (by omega) hcl false (iff_of_false Bool.false_ne_true HF.out)).mono ?_
    rintro en w1 ⟨rfl, hm1⟩
    have hsz1 : w.heap.size + 2 ≤ w1.heap.size := by have := hm1.size; simpa using this
    replace b0 := b0.mid hm1 (Or.inr (Nat.zero_le _))
    replace b2 := b2.mid hm1 (Or.inr (Nat.zero_le _))
    replace hm0 := hm0.trans hm1
    have p0 := b0.cell 0 rfl
    have p1 := b0.cell 1 rfl
    have p2 := b0.cell 2 rfl
    go_wp2_with fail
    with_reducible refine (impl_copyGraph r n A es c _ _ _ (hr.mid hm0 (Or.inl (Nat.zero_le _))) (by omega)).mono ?_
    rintro en w2 ⟨A2, c2, rfl, hog, hm2⟩
    have hsz2 := hm0.size
    replace b2 := b2.mid hm2 (Or.inr (Nat.zero_le _))
    replace hm0 := hm0.trans hm2
    have z0 := b2.cell 0 rfl
    have z1 := b2.cell 1 rfl
    have z2 := b2.cell 2 rfl
    have zf := b2.2.2
    clear p0 p1 p2
    go_wp2_with fail
    refine bodyPost_ret (v := .agg #[.int .i64 r, .int .i64 n, .slice A2 es.length c2]) (by simp [results, Try.results94, go_sem, z0, z1, z2, zf]) rfl ⟨A2, c2, rfl, ?_, ?_⟩
    · refine OG.wide (OG.mid hog (a := w.heap.size + 1) (b := w.heap.size + 2) ?_ (Or.inl (by omega))) (by omega) (by simp) (Nat.le_refl _)
      repeat (first | exact Mid.refl _ _ _ | refine Mid.stored ?_ _ (by simp; try omega) (by simp; try omega))
    · repeat (first | exact hm0 | refine Mid.storeNew ?_ (by simp; try omega) _)

set_option maxHeartbeats 1000000 in
set_option maxRecDepth 20000 in
theorem spec_CanonicalGraph (r n : Nat) (A : Option Addr) (es : List Ed) (c : Nat) (w : World) (lo hi : Nat) (hr : RG w lo hi A es) (hg : IsGr r n es) :
    Calls Try.prog 119 #[graV r n A es.length c] w fun e w' => ∃ A1 c1, e = .returned (graV r (canonG r ((n : Int), es)).1 A1 (canonG r ((n : Int), es)).2.length c1) ∧ OG w' w.heap.size w'.heap.size A1 c1 (canonG r ((n : Int), es)).2 ∧ Mid 0 0 w w' := by
  have hl := hg.len
  have hm0 : Mid 0 0 w ((w.alloc (.cells #[.int .i64 r, .int .i64 n, .slice A es.length c] 28)).alloc (.cells #[.int .i64 0, .int .i64 0, .slice none 0 0] 28)) := (Mid.alloc _ _).trans (Mid.alloc _ _)
  have b0 := (Box.new w #[.int .i64 r, .int .i64 n, .slice A es.length c] 28).mid (Mid.alloc _ (.cells #[.int .i64 0, .int .i64 0, .slice none 0 0] 28)) (Or.inr (Nat.zero_le _))
  have b2 := Box.new (w.alloc (.cells #[.int .i64 r, .int .i64 n, .slice A es.length c] 28)) #[.int .i64 0, .int .i64 0, .slice none 0 0] 28
  simp only [World.size_alloc] at b2
  have HG := Lib.hid hg
  clear hg
  by_cases hf : IsFol r n es
  · rw [canonG_fol hf]
    have HF := Lib.hid hf
    clear hf
    go_enter Try.func119, Try.ntmps119
    go_wp2_with fail
    with_reducible refine (spec_CanonicalOrder r n A es c _ _ _ (hr.mid hm0 (Or.inl (Nat.zero_le _))) HF.out).mono ?_
    rintro en w1 ⟨A1, c1, rfl, hord, hm1⟩
    replace b0 := b0.mid hm1 (Or.inr (Nat.zero_le _))
    replace b2 := b2.mid hm1 (Or.inr (Nat.zero_le _))
    replace hm0 := hm0.trans hm1
    have p0 := b0.cell 0 rfl
    have p1 := b0.cell 1 rfl
    have p2 := b0.cell 2 rfl
    obtain ⟨ho1, ho2, ho3⟩ := ordE_ok HF.out
    have e1 : (((ordE r es 0).length : Int) == 0) = false := by simp only [beq_eq_false_iff_ne]; omega
    have HR0 := Lib.hid (spec_RenumberGraph r n A es c A1 (ordE r es 0) c1 w1 lo hi _ _ (hr.mid hm0 (Or.inl (Nat.zero_le _))) hord HG.out ho2 ho3 ho1)
    have hsz1 : w.heap.size + 2 ≤ w1.heap.size := by have := hm1.size; simpa using this
    obtain ⟨os, hos⟩ : ∃ os, ordE r es 0 = os := ⟨_, rfl⟩
    obtain ⟨ps, hps⟩ : ∃ ps, partE os es = ps := ⟨_, rfl⟩
    rw [hos] at HR0 e1 ⊢
    rw [hps] at HR0
    have HOS := Lib.hid hos
    have HPS := Lib.hid hps
    have HR := HR0
    clear ho1 ho2 ho3 hord hm1 hos hps HR0
    go_wp2_with fail
    with_reducible refine (HR.out).mono ?_
    rintro en w2 ⟨A2, c2, rfl, hog, hm2⟩
    clear HR
    have hsz2 := hm2.size
    have hal := Mid.alloc w2 (.cells #[.int .i64 r, .int .i64 os.length, .slice A2 ps.length c2] 28)
    have Y3 := Box.new w2 #[.int .i64 r, .int .i64 os.length, .slice A2 ps.length c2] 28
    replace b2 := b2.mid hm2 (Or.inr (Nat.zero_le _))
    replace hm0 := hm0.trans hm2
    clear p0 p1 p2
    have z0 := b2.cell 0 rfl
    have z1 := b2.cell 1 rfl
    have z2 := b2.cell 2 rfl
    have zf := b2.2.2
    have hb22 : w.heap.size + 1 < w2.heap.size := b2.1
    go_wp2_with fail
    refine bodyPost_ret (v := .agg #[.int .i64 r, .int .i64 os.length, .slice A2 ps.length c2]) (by simp [results, Try.results119, go_sem, z0, z1, z2, zf, hb22, World.cell?_alloc_lt]) rfl ⟨A2, c2, by rw [HOS.out, HPS.out], ?_, ?_⟩
    · rw [HOS.out, HPS.out]
      refine OG.wide (OG.mid (OG.mid hog (a := w.heap.size + 1) (b := w.heap.size + 2) ?_ (Or.inl (by omega))) (Mid.alloc _ _) (Or.inl (Nat.zero_le _))) (by omega) (by simp) (Nat.le_refl _)
      repeat (first | exact Mid.refl _ _ _ | refine Mid.stored ?_ _ (by simp; try omega) (by simp; try omega))
    · refine Mid.trans ?_ (Mid.alloc _ _)
      repeat (first | exact hm0 | refine Mid.storeNew ?_ (by simp; try omega) _)
  · rw [canonG_no hf]
    have HF := Lib.hid hf
    clear hf
    go_enter Try.func119, Try.ntmps119
    go_wp2_with fail
    with_reducible refine (spec_CanonicalOrder_no r n A es c _ _ _ (hr.mid hm0 (Or.inl (Nat.zero_le _))) (by omega) HF.out).mono ?_
    rintro en w1 ⟨A1, c1, rfl, hm1⟩
    have hsz1 : w.heap.size + 2 ≤ w1.heap.size := by have := hm1.size; simpa using this
    replace b0 := b0.mid hm1 (Or.inr (Nat.zero_le _))
    replace b2 := b2.mid hm1 (Or.inr (Nat.zero_le _))
    replace hm0 := hm0.trans hm1
    have p0 := b0.cell 0 rfl
    have p1 := b0.cell 1 rfl
    have p2 := b0.cell 2 rfl
    go_wp2_with fail
    with_reducible refine (spec_l4Copy r n A es c _ _ _ (hr.mid hm0 (Or.inl (Nat.zero_le _))) (by omega)).mono ?_
    rintro en w2 ⟨A2, c2, rfl, hog, hm2⟩
    have hsz2 := hm0.size
    replace b2 := b2.mid hm2 (Or.inr (Nat.zero_le _))
    replace hm0 := hm0.trans hm2
    have z0 := b2.cell 0 rfl
    have z1 := b2.cell 1 rfl
    have z2 := b2.cell 2 rfl
    have zf := b2.2.2
    clear p0 p1 p2
    go_wp2_with fail
    refine bodyPost_ret (v := .agg #[.int .i64 r, .int .i64 n, .slice A2 es.length c2]) (by simp [results, Try.results119, go_sem, z0, z1, z2, zf]) rfl ⟨A2, c2, rfl, ?_, ?_⟩
    · refine OG.wide (OG.mid hog (a := w.heap.size + 1) (b := w.heap.size + 2) ?_ (Or.inl (by omega))) (by omega) (by simp) (Nat.le_refl _)
      repeat (first | exact Mid.refl _ _ _ | refine Mid.stored ?_ _ (by simp; try omega) (by simp; try omega))
    · repeat (first | exact hm0 | refine Mid.storeNew ?_ (by simp; try omega) _)
end Go.Proofs.Ytimmnnncgnnkgaa
