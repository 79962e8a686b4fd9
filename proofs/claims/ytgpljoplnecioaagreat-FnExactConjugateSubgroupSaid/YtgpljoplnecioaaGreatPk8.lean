/- Contracts and lemmas of this seat, many texts in one: see the words ahead of each. No condition beyond those typed in each lemma. -/
import Derived.Test.YtgpljoplnecioaaGreatPk1
import Derived.Test.YtgpljoplnecioaaGreatPk6
import Derived.Test.YtgpljoplnecioaaGreatPk2
import Derived.Test.YtgpljoplnecioaaGreatPk5
import Derived.Test.YtgpljoplnecioaaGreatPk3
import Derived.Test.YtgpljoplnecioaaGreatPk4

/- Plain: the pairs of vertices that are reached from one, in order, and the edges among them. -/
namespace Go.Proofs.YtgpljoplnecioaaGreat
set_option linter.unusedVariables false
set_option linter.unusedSimpArgs false

abbrev PS := List (Int × Int)
/-- Where a letter leads a pair. -/
def pbNext (ea eb : List Ed) (p : Int × Int) (x : Int) : Int × Int := (nextV ea p.1 x, nextV eb p.2 x)
/-- One letter of the search. -/
def pbStep (ea eb : List Ed) (p : Int × Int) (st : PS) (x : Int) : PS :=
  if nextV ea p.1 x < 0 ∨ nextV eb p.2 x < 0 ∨ pbNext ea eb p x ∈ st then st else st ++ [pbNext ea eb p x]
def pbRow (ea eb : List Ed) (L : List Int) (p : Int × Int) (st : PS) : PS := L.foldl (pbStep ea eb p) st
def pbSt (ea eb : List Ed) (L : List Int) (p0 : Int × Int) : Nat → PS
  | 0 => [p0]
  | i + 1 => match (pbSt ea eb L p0 i)[i]? with
    | none => pbSt ea eb L p0 i
    | some p => pbRow ea eb L p (pbSt ea eb L p0 i)
def pairsOf (ea eb : List Ed) (L : List Int) (p0 : Int × Int) : PS := pbSt ea eb L p0 1601
theorem pbStep_pre (ea eb : List Ed) (p : Int × Int) (st : PS) (x : Int) : st <+: pbStep ea eb p st x := by
  unfold pbStep
  split
  · exact List.prefix_refl _
  · exact List.prefix_append _ _
theorem pbRow_pre (ea eb : List Ed) (L : List Int) (p : Int × Int) (st : PS) : st <+: pbRow ea eb L p st := by
  unfold pbRow
  induction L generalizing st with
  | nil => exact List.prefix_refl _
  | cons x t ih => exact (pbStep_pre ea eb p st x).trans (ih _)
theorem pbSt_succ {ea eb : List Ed} {L : List Int} {p0 p : Int × Int} {i : Nat} (h : (pbSt ea eb L p0 i)[i]? = some p) : pbSt ea eb L p0 (i + 1) = pbRow ea eb L p (pbSt ea eb L p0 i) := by
  show (match (pbSt ea eb L p0 i)[i]? with | none => pbSt ea eb L p0 i | some p => pbRow ea eb L p (pbSt ea eb L p0 i)) = _
  rw [h]
theorem pbSt_pre (ea eb : List Ed) (L : List Int) (p0 : Int × Int) (i : Nat) : pbSt ea eb L p0 i <+: pbSt ea eb L p0 (i + 1) := by
  show _ <+: (match (pbSt ea eb L p0 i)[i]? with | none => pbSt ea eb L p0 i | some p => pbRow ea eb L p (pbSt ea eb L p0 i))
  split
  · exact List.prefix_refl _
  · exact pbRow_pre ea eb L _ _
theorem pbSt_pre' (ea eb : List Ed) (L : List Int) (p0 : Int × Int) (i d : Nat) : pbSt ea eb L p0 i <+: pbSt ea eb L p0 (i + d) := by
  induction d with
  | zero => exact List.prefix_refl _
  | succ d ih => exact ih.trans (pbSt_pre ea eb L p0 (i + d))
theorem pbSt_stop {ea eb : List Ed} {L : List Int} {p0 : Int × Int} {i : Nat} (h : (pbSt ea eb L p0 i).length ≤ i) (d : Nat) : pbSt ea eb L p0 (i + d) = pbSt ea eb L p0 i := by
  induction d with
  | zero => rfl
  | succ d ih =>
    show (match (pbSt ea eb L p0 (i + d))[i + d]? with | none => pbSt ea eb L p0 (i + d) | some p => pbRow ea eb L p (pbSt ea eb L p0 (i + d))) = _
    rw [ih, List.getElem?_eq_none (by omega)]
/-- A pair's number. -/
def pcode (sb : Int) (p : Int × Int) : Int := p.1 * sb + p.2
/-- The pair lies in range. -/
def PIn (sa sb : Int) (p : Int × Int) : Prop := 0 ≤ p.1 ∧ p.1 < sa ∧ 0 ≤ p.2 ∧ p.2 < sb
theorem pcode_rng {sa sb : Int} {p : Int × Int} (h : PIn sa sb p) : 0 ≤ pcode sb p ∧ pcode sb p < sa * sb := by
  obtain ⟨h1, h2, h3, h4⟩ := h
  have k1 : 0 ≤ p.1 * sb := Int.mul_nonneg h1 (by omega)
  have k2 : (p.1 + 1) * sb ≤ sa * sb := Int.mul_le_mul_of_nonneg_right (by omega) (by omega)
  rw [Int.add_mul, Int.one_mul] at k2
  unfold pcode
  omega
theorem pcode_div {sa sb : Int} {p : Int × Int} (h : PIn sa sb p) : pcode sb p / sb = p.1 ∧ pcode sb p % sb = p.2 := by
  obtain ⟨h1, h2, h3, h4⟩ := h
  unfold pcode
  constructor
  · rw [Int.add_comm, Int.add_mul_ediv_right _ _ (by omega), Int.ediv_eq_zero_of_lt h3 h4, Int.zero_add]
  · rw [Int.add_comm, Int.add_mul_emod_self_right, Int.emod_eq_of_lt h3 h4]
theorem pcode_tdiv {sa sb : Int} {p : Int × Int} (h : PIn sa sb p) : Int.tdiv (pcode sb p) sb = p.1 ∧ Int.tmod (pcode sb p) sb = p.2 := by
  have h0 := pcode_rng h
  rw [Int.tdiv_eq_ediv_of_nonneg h0.1, Int.tmod_eq_emod_of_nonneg h0.1]
  exact pcode_div h
theorem pcode_inj {sa sb : Int} {p q : Int × Int} (hp : PIn sa sb p) (hq : PIn sa sb q) (h : pcode sb p = pcode sb q) : p = q := by
  have h1 := pcode_div hp
  have h2 := pcode_div hq
  rw [h] at h1
  exact Prod.ext (h1.1.symm.trans h2.1) (h1.2.symm.trans h2.2)
structure PbOk (sa sb : Int) (st : PS) : Prop where
  nd : st.Nodup
  rng : ∀ p ∈ st, PIn sa sb p
theorem PbOk.codes {sa sb : Int} {st : PS} (h : PbOk sa sb st) : (st.map (pcode sb)).Nodup := by
  rw [List.Nodup, List.pairwise_map]
  exact (List.pairwise_iff_forall_sublist.2 fun {a b} hab hc => by
    have ha : a ∈ st := hab.subset (by simp)
    have hb : b ∈ st := hab.subset (by simp)
    have h1 := pcode_inj (h.rng a ha) (h.rng b hb) hc
    have h2 := (List.pairwise_iff_forall_sublist.1 h.nd) hab
    exact h2 h1)
theorem PbOk.mem {sa sb : Int} {st : PS} {p : Int × Int} (h : PbOk sa sb st) (hp : PIn sa sb p) : pcode sb p ∈ st.map (pcode sb) ↔ p ∈ st := by
  constructor
  · intro hm
    obtain ⟨q, hq, he⟩ := List.mem_map.1 hm
    rw [← pcode_inj (h.rng q hq) hp he]
    exact hq
  · exact fun hm => List.mem_map.2 ⟨p, hm, rfl⟩
theorem PbOk.len {sa sb : Int} {st : PS} (h : PbOk sa sb st) (ha : 0 ≤ sa) (hb : 0 ≤ sb) : (st.length : Int) ≤ sa * sb := by
  have h1 := nodup_le (sa * sb).toNat (st.map (pcode sb)) h.codes fun x hx => by
    obtain ⟨p, hp, rfl⟩ := List.mem_map.1 hx
    have h2 := pcode_rng (h.rng p hp)
    omega
  rw [List.length_map] at h1
  have h0 : 0 ≤ sa * sb := Int.mul_nonneg ha hb
  omega
theorem PbOk.start {sa sb : Int} {p0 : Int × Int} (h0 : PIn sa sb p0) : PbOk sa sb [p0] := ⟨by simp, fun p hp => by simp at hp; subst hp; exact h0⟩
theorem pbNext_in {r r' sa sb : Int} {ea eb : List Ed} (hga : ∀ e ∈ ea, InG r sa e) (hgb : ∀ e ∈ eb, InG r' sb e) (p : Int × Int) {x : Int} (h1 : ¬ nextV ea p.1 x < 0) (h2 : ¬ nextV eb p.2 x < 0) : PIn sa sb (pbNext ea eb p x) := by
  have k1 := nextV_cases hga p.1 x
  have k2 := nextV_cases hgb p.2 x
  unfold PIn pbNext
  omega
theorem PbOk.step {r r' sa sb : Int} {ea eb : List Ed} (hga : ∀ e ∈ ea, InG r sa e) (hgb : ∀ e ∈ eb, InG r' sb e) {st : PS} (h : PbOk sa sb st) (p : Int × Int) (x : Int) : PbOk sa sb (pbStep ea eb p st x) := by
  unfold pbStep
  split
  · exact h
  · rename_i hc
    have hc1 : ¬ nextV ea p.1 x < 0 := fun h => hc (.inl h)
    have hc2 : ¬ nextV eb p.2 x < 0 := fun h => hc (.inr (.inl h))
    have hc3 : pbNext ea eb p x ∉ st := fun h => hc (.inr (.inr h))
    refine ⟨?_, ?_⟩
    · rw [List.nodup_append]
      refine ⟨h.nd, by simp, ?_⟩
      intro a ha b hb
      simp at hb
      subst hb
      intro e
      subst e
      exact hc3 ha
    · intro q hq
      rcases List.mem_append.1 hq with hq | hq
      · exact h.rng q hq
      · simp at hq
        subst hq
        exact pbNext_in hga hgb p hc1 hc2
theorem PbOk.row {r r' sa sb : Int} {ea eb : List Ed} (hga : ∀ e ∈ ea, InG r sa e) (hgb : ∀ e ∈ eb, InG r' sb e) (p : Int × Int) : ∀ (K : List Int) {st : PS}, PbOk sa sb st → PbOk sa sb (pbRow ea eb K p st)
  | [], st, h => h
  | x :: K, st, h => PbOk.row hga hgb p K (h.step hga hgb p x)
theorem pbSt_ok {r r' sa sb : Int} {ea eb : List Ed} (L : List Int) (hga : ∀ e ∈ ea, InG r sa e) (hgb : ∀ e ∈ eb, InG r' sb e) {p0 : Int × Int} (h0 : PIn sa sb p0) (i : Nat) : PbOk sa sb (pbSt ea eb L p0 i) := by
  induction i with
  | zero => exact PbOk.start h0
  | succ i ih =>
    show PbOk sa sb (match (pbSt ea eb L p0 i)[i]? with | none => pbSt ea eb L p0 i | some p => pbRow ea eb L p (pbSt ea eb L p0 i))
    split
    · exact ih
    · exact PbOk.row hga hgb _ L ih
theorem pb_len {r r' sa sb : Int} {ea eb : List Ed} (L : List Int) (hga : IsGr r sa ea) (hgb : IsGr r' sb eb) {p0 : Int × Int} (h0 : PIn sa sb p0) (i : Nat) : (pbSt ea eb L p0 i).length ≤ 1600 := by
  have h1 := (pbSt_ok L hga.all hgb.all h0 i).len (by have := hga.size; omega) (by have := hgb.size; omega)
  have h2 : sa * sb ≤ 40 * 40 := Int.mul_le_mul hga.size.2 hgb.size.2 (by have := hgb.size; omega) (by omega)
  omega
theorem pairs_eq {r r' sa sb : Int} {ea eb : List Ed} {L : List Int} (hga : IsGr r sa ea) (hgb : IsGr r' sb eb) {p0 : Int × Int} (h0 : PIn sa sb p0) {i : Nat} (h : (pbSt ea eb L p0 i).length = i) : pairsOf ea eb L p0 = pbSt ea eb L p0 i := by
  have := pb_len L hga hgb h0 i
  have h2 := pbSt_stop (show (pbSt ea eb L p0 i).length ≤ i by omega) (1601 - i)
  rw [← h2, show i + (1601 - i) = 1601 by omega]
  rfl
theorem pairs_ok {r r' sa sb : Int} {ea eb : List Ed} (L : List Int) (hga : ∀ e ∈ ea, InG r sa e) (hgb : ∀ e ∈ eb, InG r' sb e) {p0 : Int × Int} (h0 : PIn sa sb p0) : PbOk sa sb (pairsOf ea eb L p0) := pbSt_ok L hga hgb h0 1601
theorem pairs_len {r r' sa sb : Int} {ea eb : List Ed} (L : List Int) (hga : IsGr r sa ea) (hgb : IsGr r' sb eb) {p0 : Int × Int} (h0 : PIn sa sb p0) : (pairsOf ea eb L p0).length ≤ 1600 := pb_len L hga hgb h0 1601
theorem pbSt_pos (ea eb : List Ed) (L : List Int) (p0 : Int × Int) (i : Nat) : 0 < (pbSt ea eb L p0 i).length := by
  have := (pbSt_pre' ea eb L p0 0 i).length_le
  rw [Nat.zero_add] at this
  simp [pbSt] at this
  omega
/-- A search's state at place i that has not ended is a prefix of the pairs. -/
theorem pbSt_prefix {r r' sa sb : Int} {ea eb : List Ed} {L : List Int} (hga : IsGr r sa ea) (hgb : IsGr r' sb eb) {p0 : Int × Int} (h0 : PIn sa sb p0) {i : Nat} (h : i ≤ (pbSt ea eb L p0 i).length) : pbSt ea eb L p0 i <+: pairsOf ea eb L p0 := by
  have h1 := pb_len L hga hgb h0 i
  have h2 := pbSt_pre' ea eb L p0 i (1601 - i)
  rw [show i + (1601 - i) = 1601 by omega] at h2
  exact h2
/-- The rest of a row is a prefix of the row's end. -/
theorem pbRow_cons (ea eb : List Ed) (x : Int) (K : List Int) (p : Int × Int) (st : PS) : pbRow ea eb (x :: K) p st = pbRow ea eb K p (pbStep ea eb p st x) := rfl
theorem pbRow_take {ea eb : List Ed} {L : List Int} {p : Int × Int} {st : PS} {k : Nat} {x : Int} (h : L[k]? = some x) : pbRow ea eb (L.take (k + 1)) p st = pbStep ea eb p (pbRow ea eb (L.take k) p st) x := by
  unfold pbRow
  rw [List.take_add_one, h]
  simp [List.foldl_append]

/-- The edge of a pair's letter among pairs. -/
def pbEd (ea eb : List Ed) (P : PS) (i : Nat) (p : Int × Int) (x : Int) : Option Ed :=
  if nextV ea p.1 x < 0 ∨ nextV eb p.2 x < 0 then none else some ⟨i, x, (P.idxOf (pbNext ea eb p x) : Nat)⟩
def pbEs (ea eb : List Ed) (P : PS) (i : Nat) (p : Int × Int) (k : Nat) : List Ed := (List.range k).filterMap fun (j : Nat) => pbEd ea eb P i p ((j : Int) + 1)
/-- The edges of the first n pairs. -/
def pbAll (ea eb : List Ed) (r : Nat) (P : PS) : Nat → List Ed
  | 0 => []
  | n + 1 => pbAll ea eb r P n ++ (match P[n]? with | none => [] | some p => pbEs ea eb P n p r)
theorem pbAll_succ {ea eb : List Ed} {r : Nat} {P : PS} {n : Nat} {p : Int × Int} (h : P[n]? = some p) : pbAll ea eb r P (n + 1) = pbAll ea eb r P n ++ pbEs ea eb P n p r := by rw [pbAll, h]
theorem pbEs_succ (ea eb : List Ed) (P : PS) (i : Nat) (p : Int × Int) (k : Nat) : pbEs ea eb P i p (k + 1) = pbEs ea eb P i p k ++ (pbEd ea eb P i p ((k : Int) + 1)).toList := by
  unfold pbEs
  rw [List.range_succ, List.filterMap_append]
  cases h : pbEd ea eb P i p ((k : Int) + 1) <;> simp [h]
theorem pbEs_len (ea eb : List Ed) (P : PS) (i : Nat) (p : Int × Int) (k : Nat) : (pbEs ea eb P i p k).length ≤ k := by
  have := List.length_filterMap_le (fun (j : Nat) => pbEd ea eb P i p ((j : Int) + 1)) (List.range k)
  rw [List.length_range] at this
  exact this
theorem pbAll_len (ea eb : List Ed) (r : Nat) (P : PS) (n : Nat) : (pbAll ea eb r P n).length ≤ n * r := by
  induction n with
  | zero => simp [pbAll]
  | succ n ih =>
    rw [pbAll, List.length_append, Nat.succ_mul]
    split
    · simp; omega
    · have := pbEs_len ea eb P n ‹_› r
      omega
/-- The letters above zero among the first k of the letters. -/
theorem lets_at {n k : Nat} {x : Int} (h : (lets n)[k]? = some x) : (k % 2 = 0 ∧ x = ((k / 2 : Nat) : Int) + 1) ∨ (k % 2 = 1 ∧ x = -(((k / 2 : Nat) : Int) + 1)) := by
  induction n with
  | zero => simp [lets] at h
  | succ n ih =>
    rw [lets] at h
    rcases Nat.lt_or_ge k (lets n).length with hk | hk
    · rw [List.getElem?_append_left hk] at h
      exact ih h
    · rw [List.getElem?_append_right hk] at h
      rw [lets_len] at h hk
      have hc : k = 2 * n ∨ k = 2 * n + 1 ∨ 2 * n + 2 ≤ k := by omega
      rcases hc with rfl | rfl | hc
      · left
        simp at h
        refine ⟨by omega, ?_⟩
        rw [← h]
        omega
      · right
        rw [show 2 * n + 1 - 2 * n = 1 by omega] at h
        simp at h
        refine ⟨by omega, ?_⟩
        rw [show (2 * n + 1) / 2 = n by omega, ← h]
      · rw [List.getElem?_eq_none (by simp; omega)] at h
        cases h
structure PullOk (r s : Int) (es : List Ed) (r' s' : Int) (es' : List Ed) (u v : Int) : Prop where
  f1 : IsFol r s es
  f2 : IsFol r' s' es'
  rk : r = r'
  u0 : 0 ≤ u ∧ u < s
  v0 : 0 ≤ v ∧ v < s'
  sz : (pairsOf es es' (lets r.toNat) (u, v)).length ≤ 40
  ln : (pbAll es es' r.toNat (pairsOf es es' (lets r.toNat) (u, v)) (pairsOf es es' (lets r.toNat) (u, v)).length).length ≤ 120
theorem PullOk.pin {r s : Int} {es : List Ed} {r' s' : Int} {es' : List Ed} {u v : Int} (h : PullOk r s es r' s' es' u v) : PIn s s' (u, v) := ⟨h.u0.1, h.u0.2, h.v0.1, h.v0.2⟩
/-- The edges lie among the pairs. -/
def PClosed (ea eb : List Ed) (L : List Int) (P : PS) : Prop := ∀ p ∈ P, ∀ x ∈ L, ¬ nextV ea p.1 x < 0 → ¬ nextV eb p.2 x < 0 → pbNext ea eb p x ∈ P
theorem pbRow_closed {ea eb : List Ed} {p : Int × Int} : ∀ (K : List Int) {st : PS}, ∀ x ∈ K, ¬ nextV ea p.1 x < 0 → ¬ nextV eb p.2 x < 0 → pbNext ea eb p x ∈ pbRow ea eb K p st
  | [], st, x, h, _, _ => by cases h
  | y :: K, st, x, h, h1, h2 => by
    rw [pbRow_cons]
    rcases List.mem_cons.1 h with rfl | h
    · refine (pbRow_pre ea eb K p _).subset ?_
      unfold pbStep
      split
      · rename_i hc
        rcases hc with hc | hc | hc
        · exact absurd hc h1
        · exact absurd hc h2
        · exact hc
      · simp
    · exact pbRow_closed K x h h1 h2
theorem pbSt_closed {ea eb : List Ed} {L : List Int} {p0 : Int × Int} : ∀ (i j : Nat) {p : Int × Int}, j < i → (pbSt ea eb L p0 i)[j]? = some p → ∀ x ∈ L, ¬ nextV ea p.1 x < 0 → ¬ nextV eb p.2 x < 0 → pbNext ea eb p x ∈ pbSt ea eb L p0 i
  | 0, j, p, hj, hp, x, hx, h1, h2 => absurd hj (Nat.not_lt_zero j)
  | i + 1, j, p, hj, hp, x, hx, h1, h2 => by
    cases hq : (pbSt ea eb L p0 i)[i]? with
    | none =>
      have he : pbSt ea eb L p0 (i + 1) = pbSt ea eb L p0 i := by
        show (match (pbSt ea eb L p0 i)[i]? with | none => pbSt ea eb L p0 i | some p => pbRow ea eb L p (pbSt ea eb L p0 i)) = _
        rw [hq]
      rw [he] at hp ⊢
      have hl := List.getElem?_eq_none_iff.1 hq
      have := (List.getElem?_eq_some_iff.1 hp).1
      exact pbSt_closed i j (by omega) hp x hx h1 h2
    | some q =>
      have he := pbSt_succ hq
      rcases Nat.lt_or_ge j i with hji | hji
      · have hl := (List.getElem?_eq_some_iff.1 hq).1
        have hp' : (pbSt ea eb L p0 i)[j]? = some p := by
          obtain ⟨t, ht⟩ := pbSt_pre ea eb L p0 i
          rw [← ht, List.getElem?_append_left (by omega)] at hp
          exact hp
        exact (pbSt_pre ea eb L p0 i).subset (pbSt_closed i j hji hp' x hx h1 h2)
      · obtain rfl : j = i := by omega
        have hp' := prefix_get (pbSt_pre ea eb L p0 j) hq
        rw [hp] at hp'
        injection hp' with hp'
        subst hp'
        rw [he]
        exact pbRow_closed L x hx h1 h2
theorem pairs_closed {r r' sa sb : Int} {ea eb : List Ed} (L : List Int) (hga : IsGr r sa ea) (hgb : IsGr r' sb eb) {p0 : Int × Int} (h0 : PIn sa sb p0) : PClosed ea eb L (pairsOf ea eb L p0) := by
  intro p hp x hx h1 h2
  obtain ⟨j, hj⟩ := List.mem_iff_getElem?.1 hp
  have hl := pairs_len L hga hgb h0
  have := (List.getElem?_eq_some_iff.1 hj).1
  exact pbSt_closed 1601 j (by omega) hj x hx h1 h2
theorem pbAll_in {ea eb : List Ed} {r : Nat} {P : PS} (hc : PClosed ea eb (lets r) P) : ∀ (n : Nat) {e : Ed}, e ∈ pbAll ea eb r P n → n ≤ P.length → InG r P.length e
  | 0, e, h, hn => by simp [pbAll] at h
  | n + 1, e, h, hn => by
    have hp := List.getElem?_eq_getElem (l := P) (i := n) (by omega)
    rw [pbAll_succ hp] at h
    rcases List.mem_append.1 h with h | h
    · exact pbAll_in hc n h (by omega)
    · simp only [pbEs, List.mem_filterMap, List.mem_range] at h
      obtain ⟨j, hj, he⟩ := h
      unfold pbEd at he
      split at he
      · cases he
      · rename_i hcc
        injection he with he
        subst he
        have hm := hc P[n] (List.getElem_mem _) ((j : Int) + 1) (mem_lets.2 ⟨by omega, by omega, by omega⟩) (fun h => hcc (.inl h)) (fun h => hcc (.inr h))
        have hi := List.idxOf_lt_length_iff.2 hm
        unfold InG
        simp only
        omega
/-- What PullbackAt gives. -/
def pullE (r : Int) (es es' : List Ed) (u v : Int) : List Ed := canon (pbAll es es' r.toNat (pairsOf es es' (lets r.toNat) (u, v)) (pairsOf es es' (lets r.toNat) (u, v)).length)
theorem pull_gr {r s : Int} {es : List Ed} {r' s' : Int} {es' : List Ed} {u v : Int} (h : PullOk r s es r' s' es' u v) : IsGr r ((pairsOf es es' (lets r.toNat) (u, v)).length : Int) (pullE r es es' u v) := by
  have hr := h.f1.gr.rank
  have h0 : 0 < (pairsOf es es' (lets r.toNat) (u, v)).length := pbSt_pos es es' (lets r.toNat) (u, v) 1601
  have hsz := h.sz
  refine ⟨hr, ⟨by omega, by omega⟩, ?_, ?_, asc_canon _⟩
  · have h1 := canon_len (pbAll es es' r.toNat (pairsOf es es' (lets r.toNat) (u, v)) (pairsOf es es' (lets r.toNat) (u, v)).length)
    have := h.ln
    unfold pullE
    omega
  · intro e he
    have hi := pbAll_in (pairs_closed (lets r.toNat) h.f1.gr h.f2.gr h.pin) _ (mem_canon.1 he) (Nat.le_refl _)
    rw [show ((r.toNat : Nat) : Int) = r by omega] at hi
    exact hi
def PullIs (r s : Int) (es : List Ed) (r' s' : Int) (es' : List Ed) (u v : Int) (rr rs : Int) (res : List Ed) (b : Bool) : Prop :=
  (b = true ∧ PullOk r s es r' s' es' u v ∧ rr = r ∧ rs = ((pairsOf es es' (lets r.toNat) (u, v)).length : Int) ∧ res = pullE r es es' u v) ∨ (b = false ∧ ¬ PullOk r s es r' s' es' u v ∧ rr = 0 ∧ rs = 0 ∧ res = [])
theorem PullIs.no {r s : Int} {es : List Ed} {r' s' : Int} {es' : List Ed} {u v : Int} {rr rs : Int} {res : List Ed} {b : Bool} (h : PullIs r s es r' s' es' u v rr rs res b) (hn : ¬ PullOk r s es r' s' es' u v) : b = false ∧ rr = 0 ∧ rs = 0 ∧ res = [] := by
  rcases h with ⟨-, h, -⟩ | ⟨h1, -, h2⟩
  · exact absurd h hn
  · exact ⟨h1, h2⟩
theorem PullIs.yes {r s : Int} {es : List Ed} {r' s' : Int} {es' : List Ed} {u v : Int} {rr rs : Int} {res : List Ed} {b : Bool} (h : PullIs r s es r' s' es' u v rr rs res b) (hn : PullOk r s es r' s' es' u v) : b = true ∧ rr = r ∧ rs = ((pairsOf es es' (lets r.toNat) (u, v)).length : Int) ∧ res = pullE r es es' u v := by
  rcases h with ⟨h1, -, h2⟩ | ⟨-, h, -⟩
  · exact ⟨h1, h2⟩
  · exact absurd hn h
end Go.Proofs.YtgpljoplnecioaaGreat

/- Plain: how far a word can be read; the graph with the rest of the word added; the base moved; the flower of some words. -/
namespace Go.Proofs.YtgpljoplnecioaaGreat
set_option linter.unusedVariables false
set_option linter.unusedSimpArgs false

/-- The vertex to which the first letters lead, and how many can be read. -/
def rdA (es : List Ed) : Int → List Int → Int × Nat
  | v, [] => (v, 0)
  | v, x :: t => if nextV es v x < 0 then (v, 0) else ((rdA es (nextV es v x) t).1, (rdA es (nextV es v x) t).2 + 1)
theorem rdA_le (es : List Ed) : ∀ (w : List Int) (v : Int), (rdA es v w).2 ≤ w.length
  | [], v => Nat.le_refl _
  | x :: t, v => by
    rw [rdA]
    split
    · exact Nat.zero_le _
    · exact Nat.succ_le_succ (rdA_le es t _)
theorem rdA_in {r s : Int} {es : List Ed} (hg : ∀ e ∈ es, InG r s e) : ∀ (w : List Int) {v : Int}, 0 ≤ v ∧ v < s → 0 ≤ (rdA es v w).1 ∧ (rdA es v w).1 < s
  | [], v, h => h
  | x :: t, v, h => by
    rw [rdA]
    split
    · exact h
    · have := nextV_cases hg v x
      exact rdA_in hg t (by omega)
theorem WordP.drop {r : Int} {w : List Int} (h : WordP r w) (n : Nat) : WordP r (w.drop n) := by
  refine ⟨fun x hx => h.1 x (List.mem_of_mem_drop hx), fun k x y hx hy => ?_⟩
  rw [List.getElem?_drop] at hx hy
  exact h.2 (n + k) x y hx (by rw [← hy]; congr 1)
theorem IsW.drop {r : Int} {w : List Int} (h : IsW r w) (n : Nat) : IsW r (w.drop n) := ⟨h.1, h.2.1, by have := h.2.2.1; rw [List.length_drop]; omega, h.2.2.2.drop n⟩
theorem gr_more {r s : Int} {es : List Ed} (h : IsGr r s es) (hs : s < 40) : IsGr r (s + 1) es := by
  have h1 := h.size
  exact ⟨h.rank, ⟨by omega, by omega⟩, h.len, fun e he => by have := h.all e he; unfold InG at *; omega, h.asc⟩
/-- The graph with what cannot be read of a word added: its size, its edges, the vertex to which the whole word leads. -/
def ExtIs (r s : Int) (es : List Ed) (w : List Int) (b : Bool) (s2 : Int) (es2 : List Ed) (x : Int) : Prop :=
  (b = true ∧ (rdA es 0 w).2 = w.length ∧ s2 = s ∧ es2 = es ∧ x = (rdA es 0 w).1) ∨
  (b = true ∧ (rdA es 0 w).2 < w.length ∧ s < 40 ∧ PathOk r (s + 1) es (rdA es 0 w).1 (w.drop (rdA es 0 w).2) s ∧ s2 = s + 1 + ((w.drop (rdA es 0 w).2).length : Int) - 1 ∧
    es2 = canon (es ++ pathE (rdA es 0 w).1 (s + 1) (w.drop (rdA es 0 w).2) s (w.drop (rdA es 0 w).2).length) ∧ x = s) ∨
  (b = false ∧ (rdA es 0 w).2 < w.length ∧ ¬ (s < 40 ∧ PathOk r (s + 1) es (rdA es 0 w).1 (w.drop (rdA es 0 w).2) s) ∧ s2 = 0 ∧ es2 = [] ∧ x = 0)
theorem ext_ex (r s : Int) (es : List Ed) (w : List Int) : ∃ b s2 es2 x, ExtIs r s es w b s2 es2 x := by
  rcases Nat.lt_or_ge (rdA es 0 w).2 w.length with h | h
  · by_cases hc : s < 40 ∧ PathOk r (s + 1) es (rdA es 0 w).1 (w.drop (rdA es 0 w).2) s
    · exact ⟨_, _, _, _, .inr (.inl ⟨rfl, h, hc.1, hc.2, rfl, rfl, rfl⟩)⟩
    · exact ⟨_, _, _, _, .inr (.inr ⟨rfl, h, hc, rfl, rfl, rfl⟩)⟩
  · have := rdA_le es w 0
    exact ⟨_, _, _, _, .inl ⟨rfl, by omega, rfl, rfl, rfl⟩⟩
theorem ExtIs.gr {r s : Int} {es : List Ed} {w : List Int} {s2 : Int} {es2 : List Ed} {x : Int} (h : ExtIs r s es w true s2 es2 x) (hg : IsGr r s es) : IsGr r s2 es2 ∧ 0 ≤ x ∧ x < s2 := by
  have hs := hg.size
  rcases h with ⟨-, -, rfl, rfl, rfl⟩ | ⟨-, -, h1, h2, rfl, rfl, rfl⟩ | ⟨h, -⟩
  · exact ⟨hg, rdA_in hg.all w (by omega)⟩
  · have hl : 0 < (w.drop (rdA es 0 w).2).length := List.length_pos_iff.2 h2.ne
    exact ⟨path_gr h2, by omega, by omega⟩
  · cases h
/-- The base moved to v. -/
def mvOrd (s v : Int) : List Int := v :: but v.toNat s.toNat
noncomputable def moveA (r s : Int) (es : List Ed) (v : Int) : Int × List Ed := coreA r (s, partE (mvOrd s v) es)
theorem mvOrd_ok {s v : Int} (h : 0 ≤ v ∧ v < s) : (mvOrd s v).length = s.toNat ∧ (mvOrd s v).Nodup ∧ ∀ x ∈ mvOrd s v, 0 ≤ x ∧ x < s := by
  refine ⟨?_, ?_, ?_⟩
  · have := but_len v.toNat (k := s.toNat) (by omega)
    simp only [mvOrd, List.length_cons, this]
    omega
  · refine List.nodup_cons.2 ⟨fun hm => ?_, but_nodup _ _⟩
    obtain ⟨u, -, hu, he⟩ := mem_but.1 hm
    omega
  · intro x hx
    rcases List.mem_cons.1 hx with rfl | hx
    · exact h
    · have := but_range hx
      omega
theorem mv_gr {r s : Int} {es : List Ed} {v : Int} (hg : IsGr r s es) (h : 0 ≤ v ∧ v < s) : IsGr r s (partE (mvOrd s v) es) := by
  obtain ⟨h1, -, -⟩ := mvOrd_ok h
  have h2 := partE_gr hg (order := mvOrd s v) (by simp [mvOrd]) (by have := hg.size; omega)
  rw [h1] at h2
  rw [show ((s.toNat : Nat) : Int) = s by omega] at h2
  exact h2
theorem moveA_gr {r s : Int} {es : List Ed} {v : Int} (hg : IsGr r s es) (h : 0 ≤ v ∧ v < s) : IsGr r (moveA r s es v).1 (moveA r s es v).2 := coreA_gr (g := (s, partE (mvOrd s v) es)) (mv_gr hg h)
def MoveIs (r s : Int) (es : List Ed) (v : Int) (rs : Int) (res : List Ed) (b : Bool) : Prop :=
  (b = true ∧ (IsFol r s es ∧ 0 ≤ v ∧ v < s) ∧ rs = (moveA r s es v).1 ∧ res = (moveA r s es v).2) ∨ (b = false ∧ ¬ (IsFol r s es ∧ 0 ≤ v ∧ v < s) ∧ rs = s ∧ res = es)
/-- The flower of some words. -/
def petalA (g : Int × List Ed) (w : List Int) : Int × List Ed := if w = [] then g else (g.1 + (w.length : Int) - 1, canon (g.2 ++ pathE 0 g.1 w 0 w.length))
def flowA (l : List (List Int)) (g : Int × List Ed) : Int × List Ed := l.foldl petalA g
theorem flowA_take {l : List (List Int)} {k : Nat} {w : List Int} (h : l[k]? = some w) (g : Int × List Ed) : flowA (l.take (k + 1)) g = petalA (flowA (l.take k) g) w := by
  unfold flowA
  rw [List.take_add_one, h]
  simp [List.foldl_append]
end Go.Proofs.YtgpljoplnecioaaGreat

/- A row of one cell of the call's own, laid by a literal. -/
namespace Go.Proofs.YtgpljoplnecioaaGreat
set_option linter.unusedVariables false
open Go.RowKit
theorem owns_lit (w : World) (e : TypeId) (u : Value) : (w.alloc (.cells #[u] e)).ownsRow w.heap.size e 1 (.slice (some ⟨w.heap.size, 0, none⟩) 1 1) 1 [u] :=
  ⟨rfl, .inr ⟨w.heap.size, 1, #[u], rfl, Nat.le_refl _, heap_alloc_new w _, Nat.le_refl _, by unfold maxLen; omega, rfl, rfl⟩⟩
end Go.Proofs.YtgpljoplnecioaaGreat

/- AddVertex and MoveBase, both sides. -/
namespace Go.Proofs.YtgpljoplnecioaaGreat
set_option linter.unusedVariables false
set_option linter.unusedSimpArgs false
open Go.RowKit

def AvIs (r s : Int) (es : List Ed) (rs : Int) (b : Bool) : Prop := (b = true ∧ (IsGr r s es ∧ s < 40) ∧ rs = s + 1) ∨ (b = false ∧ ¬ (IsGr r s es ∧ s < 40) ∧ rs = s)
theorem AvIs_ex (r s : Int) (es : List Ed) : ∃ rs b, AvIs r s es rs b := by
  by_cases h : IsGr r s es ∧ s < 40
  · exact ⟨_, _, .inl ⟨rfl, h, rfl⟩⟩
  · exact ⟨_, _, .inr ⟨rfl, h, rfl⟩⟩
theorem MoveIs.no {r s : Int} {es : List Ed} {v rs : Int} {res : List Ed} {b : Bool} (h : MoveIs r s es v rs res b) (hn : ¬ (IsFol r s es ∧ 0 ≤ v ∧ v < s)) : b = false ∧ rs = s ∧ res = es := by
  rcases h with ⟨-, h, -⟩ | ⟨h1, -, h2⟩
  · exact absurd h hn
  · exact ⟨h1, h2⟩
theorem MoveIs.yes {r s : Int} {es : List Ed} {v rs : Int} {res : List Ed} {b : Bool} (h : MoveIs r s es v rs res b) (hn : IsFol r s es ∧ 0 ≤ v ∧ v < s) : b = true ∧ rs = (moveA r s es v).1 ∧ res = (moveA r s es v).2 := by
  rcases h with ⟨h1, -, h2⟩ | ⟨-, h, -⟩
  · exact ⟨h1, h2⟩
  · exact absurd hn h
theorem MoveIs_ex (r s : Int) (es : List Ed) (v : Int) : ∃ rs res b, MoveIs r s es v rs res b := by
  by_cases h : IsFol r s es ∧ 0 ≤ v ∧ v < s
  · exact ⟨_, _, _, .inl ⟨rfl, h, rfl, rfl⟩⟩
  · exact ⟨_, _, _, .inr ⟨rfl, h, rfl, rfl⟩⟩


set_option maxHeartbeats 1600000 in
set_option maxRecDepth 20000 in
theorem spec_AddVertex (r s : Int) (A : Option Addr) (es : List Ed) (c : Nat) (w : World) (lo hi : Nat) (hr : RG w lo hi A es) (hl : es.length ≤ 1048576) (rs : Int) (b : Bool) (hres : AvIs r s es rs b) :
    Calls Tryz.prog 63 #[graV r s A es.length c] w fun e w' => ∃ A1 c1, e = .returned (.tuple #[graV r rs A1 es.length c1, .bool b]) ∧ OG w' w.heap.size w'.heap.size A1 c1 es ∧ Mid 0 0 w w' := by
  have hm0 : Mid 0 0 w ((w.alloc (.cells #[.int .i64 r, .int .i64 s, .slice A es.length c] 29)).alloc (.cells #[.int .i64 0, .int .i64 0, .slice none 0 0] 29)) := (Mid.alloc _ _).trans (Mid.alloc _ _)
  have B0 := (Box.new w #[.int .i64 r, .int .i64 s, .slice A es.length c] 29).mid (Mid.alloc _ (.cells #[.int .i64 0, .int .i64 0, .slice none 0 0] 29)) (Or.inr (Nat.zero_le _))
  have B2 := Box.new (w.alloc (.cells #[.int .i64 r, .int .i64 s, .slice A es.length c] 29)) #[.int .i64 0, .int .i64 0, .slice none 0 0] 29
  simp only [World.size_alloc] at B2
  obtain ⟨b1, hb1⟩ := bool_of (IsGr r s es)
  have H1 := Lib.hid hb1
  clear hb1
  go_enter Tryz.func63, Tryz.ntmps63
  go_wp2_with fail
  generalize ((w.alloc (.cells #[.int .i64 r, .int .i64 s, .slice A es.length c] 29)).alloc (.cells #[.int .i64 0, .int .i64 0, .slice none 0 0] 29)) = w1 at hm0 B0 B2 ⊢
  have hs1 : w.heap.size + 1 < w1.heap.size := B2.1
  with_reducible refine (spec_l4Copy r s A es c _ _ _ (hr.mid hm0 (Or.inl (Nat.zero_le _))) hl).mono ?_
  rintro en w2 ⟨A1, c1, rfl, ho2, hm2⟩
  have hal := Mid.alloc w2 (.cells #[.int .i64 r, .int .i64 s, .slice A1 es.length c1] 29)
  have Y3 := Box.new w2 #[.int .i64 r, .int .i64 s, .slice A1 es.length c1] 29
  have hs2 := hm2.size
  replace B0 := B0.mid hm2 (Or.inr (Nat.zero_le _))
  replace B2 := B2.mid hm2 (Or.inr (Nat.zero_le _))
  replace hm0 := hm0.trans hm2
  replace B0 := B0.mid hal (Or.inr (Nat.zero_le _))
  replace B2 := B2.mid hal (Or.inr (Nat.zero_le _))
  replace hm0 := hm0.trans hal
  have ho5 := (ho2.mid hal (Or.inl (Nat.zero_le _)))
  have p0 := B0.cell 0 rfl
  have p1 := B0.cell 1 rfl
  have p2 := B0.cell 2 rfl
  go_wp2_with fail
  generalize w2.alloc (.cells #[.int .i64 r, .int .i64 s, .slice A1 es.length c1] 29) = w3 at hm0 B0 B2 Y3 ho5 p0 p1 p2 ⊢
  have hG3 : w2.heap.size < w3.heap.size := Y3.1
  with_reducible refine (spec_IsGraph r s A es c _ _ _ (hr.mid hm0 (Or.inl (Nat.zero_le _))).rv hl b1 H1.out).mono ?_
  rintro en w4 ⟨rfl, hm4⟩
  replace B0 := B0.mid hm4 (Or.inr (Nat.zero_le _))
  replace B2 := B2.mid hm4 (Or.inr (Nat.zero_le _))
  replace Y3 := Y3.mid hm4 (Or.inr (Nat.zero_le _))
  replace ho5 := ho5.mid hm4 (Or.inl (Nat.zero_le _))
  replace hm0 := hm0.trans hm4
  have hs4 := hm4.size
  clear p0 p1 p2 hm4 ho2 hal
  have p0 := B0.cell 0 rfl
  have p1 := B0.cell 1 rfl
  have p2 := B0.cell 2 rfl
  have q0 := Y3.cell 0 rfl
  have q1 := Y3.cell 1 rfl
  have q2 := Y3.cell 2 rfl
  cases b1 with
  | false =>
    have hno : ¬ (IsGr r s es ∧ s < 40) := fun h => by have := H1.out.2 h.1; cases this
    obtain ⟨rfl, rfl⟩ : b = false ∧ rs = s := by
      rcases hres with ⟨-, h, -⟩ | ⟨h1, -, h2⟩
      · exact absurd h hno
      · exact ⟨h1, h2⟩
    clear hres hno
    have a0 := B2.cell 0 rfl
    have a1 := B2.cell 1 rfl
    have a2 := B2.cell 2 rfl
    have af := B2.2.2
    go_wp2_with fail
    refine bodyPost_ret (v := .tuple #[.agg #[.int .i64 r, .int .i64 rs, .slice A1 es.length c1], .bool false]) (by simp [results, Tryz.results63, go_sem, a0, a1, a2, af, q0, q1, q2]) rfl ⟨A1, c1, rfl, ?_, ?_⟩
    · refine OG.wide (OG.mid ho5 (a := w.heap.size) (b := w.heap.size + 2) ?_ (Or.inl (by omega))) (by omega) (by have := ho5.size; simp; omega) (Nat.le_refl _)
      repeat (first | exact Mid.refl _ _ _ | refine Mid.stored ?_ _ (by simp; try omega) (by simp; try omega))
    · repeat (first | exact hm0 | refine Mid.storeNew ?_ (by simp; try omega) _)
  | true =>
  have hgr := H1.out.1 rfl
  have hsz := hgr.size
  have GR := Lib.hid hgr
  clear hgr H1
  by_cases h40 : s < 40
  · obtain ⟨rfl, rfl⟩ : b = true ∧ rs = s + 1 := by
      rcases hres with ⟨h1, -, h2⟩ | ⟨-, h, -⟩
      · exact ⟨h1, h2⟩
      · exact absurd ⟨GR.out, h40⟩ h
    have d40 : (s == 40) = false := by simp only [beq_eq_false_iff_ne]; omega
    have d40' : decide ((40 : Int) ≤ s) = false := by simp; omega
    have hw1 : IntKind.i64.wrap (s + 1) = s + 1 := IntWalk.i64_in _ (by omega)
    have hst := Mid.setCell w4 (lo := w2.heap.size) (hi := w2.heap.size + 1) (p := ⟨w2.heap.size, 1, none⟩) (.int .i64 (s + 1)) (Nat.le_refl _) (Nat.lt_succ_self _)
    have qf := Y3.2.2
    have Y4 := Y3.set 1 (.int .i64 (s + 1)) (by simp) rfl
    simp only [List.set_cons_succ, List.set_cons_zero] at Y4
    have r0 := Y4.cell 0 rfl
    have r1 := Y4.cell 1 rfl
    have r2 := Y4.cell 2 rfl
    have B4 := B2.mid hst (Or.inl (by omega))
    have hm9 := hm0.storeNew (p := ⟨w2.heap.size, 1, none⟩) (by show w.heap.size ≤ w2.heap.size; omega) (.int .i64 (s + 1))
    have ho9 := ho5.mid hst (Or.inr (Nat.le_refl _))
    have hcl : (w.heap.size + 1 == w2.heap.size) = false := by simp; omega
    have hsp : w.heap.size + 1 < w2.heap.size := by omega
    have a0 := B2.cell 0 rfl
    have a1 := B2.cell 1 rfl
    have a2 := B2.cell 2 rfl
    have af := B2.2.2
    clear hres
    go_wp2_with fail
    refine bodyPost_ret (v := .tuple #[.agg #[.int .i64 r, .int .i64 (s + 1), .slice A1 es.length c1], .bool true]) (by simp [results, Tryz.results63, go_sem, a0, a1, a2, af, q0, q1, q2, qf]) rfl ⟨A1, c1, rfl, ?_, ?_⟩
    · refine OG.wide (OG.mid ho9 (a := w.heap.size) (b := w.heap.size + 2) ?_ (Or.inl (by omega))) (by omega) (by have := ho9.size; simp at this ⊢; omega) (Nat.le_refl _)
      repeat (first | exact Mid.refl _ _ _ | refine Mid.stored ?_ _ (by simp; try omega) (by simp; try omega))
    · repeat (first | exact hm9 | refine Mid.storeNew ?_ (by simp; try omega) _)
  · obtain ⟨rfl, rfl⟩ : b = false ∧ rs = s := by
      rcases hres with ⟨-, h, -⟩ | ⟨h1, -, h2⟩
      · exact absurd h.2 h40
      · exact ⟨h1, h2⟩
    have d40 : (rs == 40) = true := by simp only [beq_iff_eq]; omega
    have d40' : decide ((40 : Int) ≤ rs) = true := by simp; omega
    clear hres
    have a0 := B2.cell 0 rfl
    have a1 := B2.cell 1 rfl
    have a2 := B2.cell 2 rfl
    have af := B2.2.2
    go_wp2_with fail
    refine bodyPost_ret (v := .tuple #[.agg #[.int .i64 r, .int .i64 rs, .slice A1 es.length c1], .bool false]) (by simp [results, Tryz.results63, go_sem, a0, a1, a2, af, q0, q1, q2]) rfl ⟨A1, c1, rfl, ?_, ?_⟩
    · refine OG.wide (OG.mid ho5 (a := w.heap.size) (b := w.heap.size + 2) ?_ (Or.inl (by omega))) (by omega) (by have := ho5.size; simp; omega) (Nat.le_refl _)
      repeat (first | exact Mid.refl _ _ _ | refine Mid.stored ?_ _ (by simp; try omega) (by simp; try omega))
    · repeat (first | exact hm0 | refine Mid.storeNew ?_ (by simp; try omega) _)

set_option maxHeartbeats 3200000 in
set_option maxRecDepth 20000 in
theorem spec_MoveBase (r s : Int) (A : Option Addr) (es : List Ed) (c : Nat) (v : Int) (w : World) (lo hi : Nat) (hr : RG w lo hi A es) (hl : es.length ≤ 1048576) (hvw : -9223372036854775808 ≤ v ∧ v ≤ 9223372036854775807) (rs : Int) (res : List Ed) (b : Bool) (hres : MoveIs r s es v rs res b) :
    Calls Tryz.prog 65 #[graV r s A es.length c, .int .i64 v] w fun e w' => ∃ A1 c1, e = .returned (.tuple #[graV r rs A1 res.length c1, .bool b]) ∧ OG w' w.heap.size w'.heap.size A1 c1 res ∧ Mid 0 0 w w' := by
  have hm0 : Mid 0 0 w ((w.alloc (.cells #[.int .i64 r, .int .i64 s, .slice A es.length c] 29)).alloc (.cells #[.int .i64 0, .int .i64 0, .slice none 0 0] 29)) := (Mid.alloc _ _).trans (Mid.alloc _ _)
  have b0 := (Box.new w #[.int .i64 r, .int .i64 s, .slice A es.length c] 29).mid (Mid.alloc _ (.cells #[.int .i64 0, .int .i64 0, .slice none 0 0] 29)) (Or.inr (Nat.zero_le _))
  have b2 := Box.new (w.alloc (.cells #[.int .i64 r, .int .i64 s, .slice A es.length c] 29)) #[.int .i64 0, .int .i64 0, .slice none 0 0] 29
  simp only [World.size_alloc] at b2
  have HR := Lib.hid hres
  clear hres
  obtain ⟨b1, hb1⟩ := bool_of (IsFol r s es)
  have H1 := Lib.hid hb1
  clear hb1
  go_enter Tryz.func65, Tryz.ntmps65
  go_wp2_with fail
  generalize ((w.alloc (.cells #[.int .i64 r, .int .i64 s, .slice A es.length c] 29)).alloc (.cells #[.int .i64 0, .int .i64 0, .slice none 0 0] 29)) = w1 at hm0 b0 b2 ⊢
  have hs1 : w.heap.size + 1 < w1.heap.size := b2.1
  with_reducible refine (spec_IsFolded r s A es c _ _ _ (hr.mid hm0 (Or.inl (Nat.zero_le _))) hl b1 H1.out).mono ?_
  rintro en w2 ⟨rfl, hm2⟩
  replace b0 := b0.mid hm2 (Or.inr (Nat.zero_le _))
  replace b2 := b2.mid hm2 (Or.inr (Nat.zero_le _))
  replace hm0 := hm0.trans hm2
  have hs2 := hm2.size
  have p0 := b0.cell 0 rfl
  have p1 := b0.cell 1 rfl
  have p2 := b0.cell 2 rfl
  cases b1 with
  | false =>
    have hno : ¬ (IsFol r s es ∧ 0 ≤ v ∧ v < s) := fun h => by have := H1.out.2 h.1; cases this
    obtain ⟨rfl, rfl, rfl⟩ := HR.out.no hno
    clear hno HR
    go_wp2_with fail
    with_reducible refine (spec_l4Copy r rs A res c _ _ _ (hr.mid hm0 (Or.inl (Nat.zero_le _))) hl).mono ?_
    rintro en w8 ⟨A8, c8, rfl, ho8, hm8⟩
    replace b2 := b2.mid hm8 (Or.inr (Nat.zero_le _))
    replace hm0 := hm0.trans hm8
    have hs8 := hm8.size
    have hbx := b2.1
    have z0 := b2.cell 0 rfl
    have z1 := b2.cell 1 rfl
    have z2 := b2.cell 2 rfl
    have zf := b2.2.2
    clear p0 p1 p2
    go_wp2_with fail
    refine bodyPost_ret (v := .tuple #[.agg #[.int .i64 r, .int .i64 rs, .slice A8 res.length c8], .bool false]) (by simp [results, Tryz.results65, go_sem, z0, z1, z2, zf]) rfl ⟨A8, c8, rfl, ?_, ?_⟩
    · refine OG.wide (OG.mid ho8 (a := w.heap.size + 1) (b := w.heap.size + 2) ?_ (Or.inl (by omega))) (by omega) (by simp) (Nat.le_refl _)
      repeat (first | exact Mid.refl _ _ _ | refine Mid.stored ?_ _ (by simp; try omega) (by simp; try omega))
    · repeat (first | exact hm0 | refine Mid.storeNew ?_ (by simp; try omega) _)
  | true =>
  have hfol := H1.out.1 rfl
  have hsz := hfol.gr.size
  have HF := Lib.hid hfol
  clear hfol H1
  obtain ⟨b3, hb3⟩ := bool_of (0 ≤ v ∧ v < s)
  have H3 := Lib.hid hb3
  clear hb3
  have hwsub : IntKind.i64.wrap (s - 1) = s - 1 := IntWalk.i64_in _ (by omega)
  go_wp2_with fail
  with_reducible refine (l1In_at (has_bool hsz.1 hsz.2 H3.out).2 _).mono ?_
  rintro en w3 ⟨rfl, rfl⟩
  clear p0 p1 p2
  have p0 := b0.cell 0 rfl
  have p1 := b0.cell 1 rfl
  have p2 := b0.cell 2 rfl
  cases b3 with
  | false =>
    have hno : ¬ (IsFol r s es ∧ 0 ≤ v ∧ v < s) := fun h => by have := H3.out.2 h.2; cases this
    obtain ⟨rfl, rfl, rfl⟩ := HR.out.no hno
    clear hno HR
    go_wp2_with fail
    with_reducible refine (spec_l4Copy r rs A res c _ _ _ (hr.mid hm0 (Or.inl (Nat.zero_le _))) hl).mono ?_
    rintro en w8 ⟨A8, c8, rfl, ho8, hm8⟩
    replace b2 := b2.mid hm8 (Or.inr (Nat.zero_le _))
    replace hm0 := hm0.trans hm8
    have hs8 := hm8.size
    have hbx := b2.1
    have z0 := b2.cell 0 rfl
    have z1 := b2.cell 1 rfl
    have z2 := b2.cell 2 rfl
    have zf := b2.2.2
    clear p0 p1 p2
    go_wp2_with fail
    refine bodyPost_ret (v := .tuple #[.agg #[.int .i64 r, .int .i64 rs, .slice A8 res.length c8], .bool false]) (by simp [results, Tryz.results65, go_sem, z0, z1, z2, zf]) rfl ⟨A8, c8, rfl, ?_, ?_⟩
    · refine OG.wide (OG.mid ho8 (a := w.heap.size + 1) (b := w.heap.size + 2) ?_ (Or.inl (by omega))) (by omega) (by simp) (Nat.le_refl _)
      repeat (first | exact Mid.refl _ _ _ | refine Mid.stored ?_ _ (by simp; try omega) (by simp; try omega))
    · repeat (first | exact hm0 | refine Mid.storeNew ?_ (by simp; try omega) _)
  | true =>
  have hv := H3.out.1 rfl
  obtain ⟨rfl, hrs, hre⟩ := HR.out.yes ⟨HF.out, hv⟩
  obtain ⟨rn, rfl⟩ : ∃ rn : Nat, r = rn := ⟨r.toNat, by have := HF.out.gr.rank; omega⟩
  obtain ⟨sn, rfl⟩ : ∃ sn : Nat, s = sn := ⟨s.toNat, by omega⟩
  obtain ⟨vn, rfl⟩ : ∃ vn : Nat, v = vn := ⟨v.toNat, by omega⟩
  have hvn : vn < sn := by omega
  have hsn40 : sn ≤ 40 := by omega
  have hmo := mvOrd_ok (s := (sn : Int)) (v := (vn : Int)) hv
  have hgm := mv_gr HF.out.gr hv
  have hmd : moveA (rn : Int) sn es vn = coreA rn ((sn : Int), partE (mvOrd sn vn) es) := rfl
  rw [hmd] at hrs hre
  obtain ⟨q, qs, hQ, -⟩ := nat_gr (coreA_gr (g := ((sn : Int), partE (mvOrd sn vn) es)) hgm)
  rw [hQ] at hrs hre
  subst hrs
  subst res
  have hord : mvOrd (sn : Int) vn = ((vn : Nat) : Int) :: but vn sn := by simp [mvOrd]
  rw [hord] at hmo hgm hQ
  obtain ⟨ord, hord2⟩ : ∃ ord, ((vn : Nat) : Int) :: but vn sn = ord := ⟨_, rfl⟩
  have HORD := Lib.hid hord2
  rw [hord2] at hmo hgm hQ
  have hol : ord.length = sn := by have := hmo.1; omega
  have HOL := Lib.hid hol
  have HMO := Lib.hid hmo
  have HGM := Lib.hid hgm
  have HQ := Lib.hid hQ
  have O0 := owns_lit w2 3 (.int .i64 (vn : Int))
  have hal := Mid.alloc w2 (.cells #[.int .i64 (vn : Int)] 3)
  have hw3 : w.heap.size + 1 < w2.heap.size := b2.1
  replace b0 := b0.mid hal (Or.inr (Nat.zero_le _))
  replace b2 := b2.mid hal (Or.inr (Nat.zero_le _))
  replace hm0 := hm0.trans hal
  clear HR H3 hmd hord hord2 hmo hgm hQ hol hv
  clear p0 p1 p2
  go_wp2_with fail
  go_loopw [6, 7] (fun out i wr => ∃ (k n1 : Nat) (A1 : Option Addr) (c1 : Nat), k ≤ sn ∧ i = .int .i64 k ∧ out = .slice A1 n1 c1 ∧ Hid (n1 = (but vn k).length + 1) ∧ w2.heap.size ≤ wr.heap.size ∧ wr.ownsRow w2.heap.size 3 1 (.slice A1 n1 c1) n1 (ints (((vn : Nat) : Int) :: but vn k)) ∧
      Box wr w.heap.size [.int .i64 rn, .int .i64 sn, .slice A es.length c] ∧ Box wr (w.heap.size + 1) [.int .i64 0, .int .i64 0, .slice none 0 0] ∧ Mid 0 0 w wr) (fun _ i _ => sn - (intOf i).toNat)
  case atStart => exact ⟨0, 1, _, 1, Nat.zero_le _, rfl, rfl, Lib.hid rfl, by simp, O0, b0, b2, hm0⟩
  case round =>
    clear O0 b0 b2 hm0 hal
    obtain ⟨k, n1, A1, c1, hk, rfl, rfl, HN, hwr, hown, b0, b2, hm⟩ := hrel
    have p0 := b0.cell 0 rfl
    have p1 := b0.cell 1 rfl
    have p2 := b0.cell 2 rfl
    have hn1 : n1 ≤ 100 := by
      have h1 := HN.out
      have h2 : (but vn k).length ≤ k := by rw [but, List.length_map]; exact Nat.le_trans (List.length_filter_le _ _) (by simp)
      omega
    by_cases hlt : k < sn
    · have hbs := but_succ vn k
      have hk1 : (k : Int) < (sn : Int) := by omega
      by_cases hkv : k = vn
      · rw [if_pos hkv] at hbs
        have HBS := Lib.hid hbs
        have dk : ((k : Int) != (vn : Int)) = false := by rw [hkv]; simp
        clear hbs
        have HKV := Lib.hid hkv
        clear hkv
        go_wp2_with fail
        go_roundw
        case rel => exact ⟨k + 1, n1, A1, c1, hlt, by go_num, rfl, Lib.hid (by rw [HBS.out]; exact HN.out), hwr, by rw [HBS.out]; exact hown, b0, b2, hm⟩
        case measure => simp [intOf]; omega
      · rw [if_neg hkv] at hbs
        have HBS := Lib.hid hbs
        have dk : ((k : Int) != (vn : Int)) = true := by rw [bne_iff_ne]; omega
        have HO := Lib.hid hown
        clear hbs hkv hown
        go_wp2_with (at_builtin; refine wpList_pushI rfl _ _ rfl w2.heap.size A1 n1 c1 _ rfl HO.out (k : Int) rfl (by omega) hwr ?_; intro A9 c9 w9 ho9 hm9)
        go_roundw
        case rel => exact ⟨k + 1, n1 + 1, A9, c9, hlt, by go_num, rfl, Lib.hid (by rw [HBS.out, List.length_append, HN.out]; rfl), Nat.le_trans hwr hm9.size, by rw [HBS.out]; exact ho9, b0.mid hm9 (Or.inl (by omega)), b2.mid hm9 (Or.inl (by omega)), hm.transNew hm9 (Or.inl (by omega))⟩
        case measure => simp [intOf]; omega
    · obtain rfl : k = sn := by omega
      rw [HORD.out] at hown
      have hnn : n1 = ord.length := by rw [HN.out, ← HORD.out]; rfl
      have hrv := owns_rv hown
      clear HN
      subst hnn
      have hlo : w.heap.size + 1 < wr.heap.size := b2.1
      go_wp2_with fail
      with_reducible refine (spec_RenumberGraph rn k A es c A1 ord c1 _ _ _ _ _ (hr.mid hm (Or.inl (Nat.zero_le _))) hrv HF.out.gr HMO.out.2.1 HMO.out.2.2 (by rw [HOL.out]; omega)).mono ?_
      rintro en w6 ⟨A6, c6, rfl, ho6, hm6⟩
      rw [HOL.out]
      replace b2 := b2.mid hm6 (Or.inr (Nat.zero_le _))
      replace hm := hm.trans hm6
      have ha6 := Mid.alloc w6 (.cells #[.int .i64 rn, .int .i64 k, .slice A6 (partE ord es).length c6] 29)
      have Y6 := Box.new w6 #[.int .i64 rn, .int .i64 k, .slice A6 (partE ord es).length c6] 29
      replace b2 := b2.mid ha6 (Or.inr (Nat.zero_le _))
      replace ho6 := ho6.mid ha6 (Or.inl (Nat.zero_le _))
      replace hm := hm.trans ha6
      have y0 := Y6.cell 0 rfl
      have y1 := Y6.cell 1 rfl
      have y2 := Y6.cell 2 rfl
      clear p0 p1 p2
      go_wp2_with fail
      have hP := spec_CoreGraph rn k A6 (partE ord es) c6 _ _ _ (OG.rg ho6) HGM.out
      rw [HQ.out] at hP
      dsimp only at hP
      have HPP := Lib.hid hP
      clear hP
      with_reducible refine HPP.out.mono ?_
      rintro en w8 ⟨A5, c5, rfl, ho8, hm8⟩
      clear HPP
      replace b2 := b2.mid hm8 (Or.inr (Nat.zero_le _))
      replace hm := hm.trans hm8
      have hbx := b2.1
      have z0 := b2.cell 0 rfl
      have z1 := b2.cell 1 rfl
      have z2 := b2.cell 2 rfl
      have zf := b2.2.2
      go_wp2_with fail
      refine bodyPost_ret (v := .tuple #[.agg #[.int .i64 rn, .int .i64 q, .slice A5 qs.length c5], .bool true]) (by simp [results, Tryz.results65, go_sem, z0, z1, z2, zf]) rfl ⟨A5, c5, rfl, ?_, ?_⟩
      · refine OG.wide (OG.mid ho8 (a := w.heap.size + 1) (b := w.heap.size + 2) ?_ (Or.inl (by have := hm6.size; simp; omega))) (by have := hm6.size; simp; omega) (by simp) (Nat.le_refl _)
        repeat (first | exact Mid.refl _ _ _ | refine Mid.stored ?_ _ (by simp; try omega) (by simp; try omega))
      · repeat (first | exact hm | refine Mid.storeNew ?_ (by simp; try omega) _)


set_option maxHeartbeats 1600000 in
set_option maxRecDepth 20000 in
theorem impl_AddVertex (r s : Int) (A : Option Addr) (es : List Ed) (c : Nat) (w : World) (lo hi : Nat) (hr : RG w lo hi A es) (hl : es.length ≤ 1048576) (rs : Int) (b : Bool) (hres : AvIs r s es rs b) :
    Calls Tryz.prog 95 #[graV r s A es.length c] w fun e w' => ∃ A1 c1, e = .returned (.tuple #[graV r rs A1 es.length c1, .bool b]) ∧ OG w' w.heap.size w'.heap.size A1 c1 es ∧ Mid 0 0 w w' := by
  have hm0 : Mid 0 0 w ((w.alloc (.cells #[.int .i64 r, .int .i64 s, .slice A es.length c] 29)).alloc (.cells #[.int .i64 0, .int .i64 0, .slice none 0 0] 29)) := (Mid.alloc _ _).trans (Mid.alloc _ _)
  have B0 := (Box.new w #[.int .i64 r, .int .i64 s, .slice A es.length c] 29).mid (Mid.alloc _ (.cells #[.int .i64 0, .int .i64 0, .slice none 0 0] 29)) (Or.inr (Nat.zero_le _))
  have B2 := Box.new (w.alloc (.cells #[.int .i64 r, .int .i64 s, .slice A es.length c] 29)) #[.int .i64 0, .int .i64 0, .slice none 0 0] 29
  simp only [World.size_alloc] at B2
  obtain ⟨b1, hb1⟩ := bool_of (IsGr r s es)
  have H1 := Lib.hid hb1
  clear hb1
  go_enter Tryz.func95, Tryz.ntmps95
  go_wp2_with fail
  generalize ((w.alloc (.cells #[.int .i64 r, .int .i64 s, .slice A es.length c] 29)).alloc (.cells #[.int .i64 0, .int .i64 0, .slice none 0 0] 29)) = w1 at hm0 B0 B2 ⊢
  have hs1 : w.heap.size + 1 < w1.heap.size := B2.1
  with_reducible refine (impl_copyGraph r s A es c _ _ _ (hr.mid hm0 (Or.inl (Nat.zero_le _))) hl).mono ?_
  rintro en w2 ⟨A1, c1, rfl, ho2, hm2⟩
  have hal := Mid.alloc w2 (.cells #[.int .i64 r, .int .i64 s, .slice A1 es.length c1] 29)
  have Y3 := Box.new w2 #[.int .i64 r, .int .i64 s, .slice A1 es.length c1] 29
  have hs2 := hm2.size
  replace B0 := B0.mid hm2 (Or.inr (Nat.zero_le _))
  replace B2 := B2.mid hm2 (Or.inr (Nat.zero_le _))
  replace hm0 := hm0.trans hm2
  replace B0 := B0.mid hal (Or.inr (Nat.zero_le _))
  replace B2 := B2.mid hal (Or.inr (Nat.zero_le _))
  replace hm0 := hm0.trans hal
  have ho5 := (ho2.mid hal (Or.inl (Nat.zero_le _)))
  have p0 := B0.cell 0 rfl
  have p1 := B0.cell 1 rfl
  have p2 := B0.cell 2 rfl
  go_wp2_with fail
  generalize w2.alloc (.cells #[.int .i64 r, .int .i64 s, .slice A1 es.length c1] 29) = w3 at hm0 B0 B2 Y3 ho5 p0 p1 p2 ⊢
  have hG3 : w2.heap.size < w3.heap.size := Y3.1
  with_reducible refine (impl_IsGraph r s A es c _ _ _ (hr.mid hm0 (Or.inl (Nat.zero_le _))).rv hl b1 H1.out).mono ?_
  rintro en w4 ⟨rfl, hm4⟩
  replace B0 := B0.mid hm4 (Or.inr (Nat.zero_le _))
  replace B2 := B2.mid hm4 (Or.inr (Nat.zero_le _))
  replace Y3 := Y3.mid hm4 (Or.inr (Nat.zero_le _))
  replace ho5 := ho5.mid hm4 (Or.inl (Nat.zero_le _))
  replace hm0 := hm0.trans hm4
  have hs4 := hm4.size
  clear p0 p1 p2 hm4 ho2 hal
  have p0 := B0.cell 0 rfl
  have p1 := B0.cell 1 rfl
  have p2 := B0.cell 2 rfl
  have q0 := Y3.cell 0 rfl
  have q1 := Y3.cell 1 rfl
  have q2 := Y3.cell 2 rfl
  cases b1 with
  | false =>
    have hno : ¬ (IsGr r s es ∧ s < 40) := fun h => by have := H1.out.2 h.1; cases this
    obtain ⟨rfl, rfl⟩ : b = false ∧ rs = s := by
      rcases hres with ⟨-, h, -⟩ | ⟨h1, -, h2⟩
      · exact absurd h hno
      · exact ⟨h1, h2⟩
    clear hres hno
    have a0 := B2.cell 0 rfl
    have a1 := B2.cell 1 rfl
    have a2 := B2.cell 2 rfl
    have af := B2.2.2
    go_wp2_with fail
    refine bodyPost_ret (v := .tuple #[.agg #[.int .i64 r, .int .i64 rs, .slice A1 es.length c1], .bool false]) (by simp [results, Tryz.results95, go_sem, a0, a1, a2, af, q0, q1, q2]) rfl ⟨A1, c1, rfl, ?_, ?_⟩
    · refine OG.wide (OG.mid ho5 (a := w.heap.size) (b := w.heap.size + 2) ?_ (Or.inl (by omega))) (by omega) (by have := ho5.size; simp; omega) (Nat.le_refl _)
      repeat (first | exact Mid.refl _ _ _ | refine Mid.stored ?_ _ (by simp; try omega) (by simp; try omega))
    · repeat (first | exact hm0 | refine Mid.storeNew ?_ (by simp; try omega) _)
  | true =>
  have hgr := H1.out.1 rfl
  have hsz := hgr.size
  have GR := Lib.hid hgr
  clear hgr H1
  by_cases h40 : s < 40
  · obtain ⟨rfl, rfl⟩ : b = true ∧ rs = s + 1 := by
      rcases hres with ⟨h1, -, h2⟩ | ⟨-, h, -⟩
      · exact ⟨h1, h2⟩
      · exact absurd ⟨GR.out, h40⟩ h
    have d40 : (s == 40) = false := by simp only [beq_eq_false_iff_ne]; omega
    have d40' : decide ((40 : Int) ≤ s) = false := by simp; omega
    have hw1 : IntKind.i64.wrap (s + 1) = s + 1 := IntWalk.i64_in _ (by omega)
    have hst := Mid.setCell w4 (lo := w2.heap.size) (hi := w2.heap.size + 1) (p := ⟨w2.heap.size, 1, none⟩) (.int .i64 (s + 1)) (Nat.le_refl _) (Nat.lt_succ_self _)
    have qf := Y3.2.2
    have Y4 := Y3.set 1 (.int .i64 (s + 1)) (by simp) rfl
    simp only [List.set_cons_succ, List.set_cons_zero] at Y4
    have r0 := Y4.cell 0 rfl
    have r1 := Y4.cell 1 rfl
    have r2 := Y4.cell 2 rfl
    have B4 := B2.mid hst (Or.inl (by omega))
    have hm9 := hm0.storeNew (p := ⟨w2.heap.size, 1, none⟩) (by show w.heap.size ≤ w2.heap.size; omega) (.int .i64 (s + 1))
    have ho9 := ho5.mid hst (Or.inr (Nat.le_refl _))
    have hcl : (w.heap.size + 1 == w2.heap.size) = false := by simp; omega
    have hsp : w.heap.size + 1 < w2.heap.size := by omega
    have a0 := B2.cell 0 rfl
    have a1 := B2.cell 1 rfl
    have a2 := B2.cell 2 rfl
    have af := B2.2.2
    clear hres
    go_wp2_with fail
    refine bodyPost_ret (v := .tuple #[.agg #[.int .i64 r, .int .i64 (s + 1), .slice A1 es.length c1], .bool true]) (by simp [results, Tryz.results95, go_sem, a0, a1, a2, af, q0, q1, q2, qf]) rfl ⟨A1, c1, rfl, ?_, ?_⟩
    · refine OG.wide (OG.mid ho9 (a := w.heap.size) (b := w.heap.size + 2) ?_ (Or.inl (by omega))) (by omega) (by have := ho9.size; simp at this ⊢; omega) (Nat.le_refl _)
      repeat (first | exact Mid.refl _ _ _ | refine Mid.stored ?_ _ (by simp; try omega) (by simp; try omega))
    · repeat (first | exact hm9 | refine Mid.storeNew ?_ (by simp; try omega) _)
  · obtain ⟨rfl, rfl⟩ : b = false ∧ rs = s := by
      rcases hres with ⟨-, h, -⟩ | ⟨h1, -, h2⟩
      · exact absurd h.2 h40
      · exact ⟨h1, h2⟩
    have d40 : (rs == 40) = true := by simp only [beq_iff_eq]; omega
    have d40' : decide ((40 : Int) ≤ rs) = true := by simp; omega
    clear hres
    have a0 := B2.cell 0 rfl
    have a1 := B2.cell 1 rfl
    have a2 := B2.cell 2 rfl
    have af := B2.2.2
    go_wp2_with fail
    refine bodyPost_ret (v := .tuple #[.agg #[.int .i64 r, .int .i64 rs, .slice A1 es.length c1], .bool false]) (by simp [results, Tryz.results95, go_sem, a0, a1, a2, af, q0, q1, q2]) rfl ⟨A1, c1, rfl, ?_, ?_⟩
    · refine OG.wide (OG.mid ho5 (a := w.heap.size) (b := w.heap.size + 2) ?_ (Or.inl (by omega))) (by omega) (by have := ho5.size; simp; omega) (Nat.le_refl _)
      repeat (first | exact Mid.refl _ _ _ | refine Mid.stored ?_ _ (by simp; try omega) (by simp; try omega))
    · repeat (first | exact hm0 | refine Mid.storeNew ?_ (by simp; try omega) _)

set_option maxHeartbeats 3200000 in
set_option maxRecDepth 20000 in
theorem impl_MoveBase (r s : Int) (A : Option Addr) (es : List Ed) (c : Nat) (v : Int) (w : World) (lo hi : Nat) (hr : RG w lo hi A es) (hl : es.length ≤ 1048576) (hcl : es.length ≤ c) (hvw : -9223372036854775808 ≤ v ∧ v ≤ 9223372036854775807) (rs : Int) (res : List Ed) (b : Bool) (hres : MoveIs r s es v rs res b) :
    Calls Tryz.prog 67 #[graV r s A es.length c, .int .i64 v] w fun e w' => ∃ A1 c1, e = .returned (.tuple #[graV r rs A1 res.length c1, .bool b]) ∧ OG w' w.heap.size w'.heap.size A1 c1 res ∧ Mid 0 0 w w' := by
  have hm0 : Mid 0 0 w ((w.alloc (.cells #[.int .i64 r, .int .i64 s, .slice A es.length c] 29)).alloc (.cells #[.int .i64 0, .int .i64 0, .slice none 0 0] 29)) := (Mid.alloc _ _).trans (Mid.alloc _ _)
  have b0 := (Box.new w #[.int .i64 r, .int .i64 s, .slice A es.length c] 29).mid (Mid.alloc _ (.cells #[.int .i64 0, .int .i64 0, .slice none 0 0] 29)) (Or.inr (Nat.zero_le _))
  have b2 := Box.new (w.alloc (.cells #[.int .i64 r, .int .i64 s, .slice A es.length c] 29)) #[.int .i64 0, .int .i64 0, .slice none 0 0] 29
  simp only [World.size_alloc] at b2
  have HR := Lib.hid hres
  clear hres
  obtain ⟨b1, hb1⟩ := bool_of (IsFol r s es)
  have H1 := Lib.hid hb1
  clear hb1
  go_enter Tryz.func67, Tryz.ntmps67
  go_wp2_with fail
  generalize ((w.alloc (.cells #[.int .i64 r, .int .i64 s, .slice A es.length c] 29)).alloc (.cells #[.int .i64 0, .int .i64 0, .slice none 0 0] 29)) = w1 at hm0 b0 b2 ⊢
  have hs1 : w.heap.size + 1 < w1.heap.size := b2.1
  with_reducible refine (impl_IsFolded r s A es c _ _ _ (hr.mid hm0 (Or.inl (Nat.zero_le _))) hl hcl b1 H1.out).mono ?_
  rintro en w2 ⟨rfl, hm2⟩
  replace b0 := b0.mid hm2 (Or.inr (Nat.zero_le _))
  replace b2 := b2.mid hm2 (Or.inr (Nat.zero_le _))
  replace hm0 := hm0.trans hm2
  have hs2 := hm2.size
  have p0 := b0.cell 0 rfl
  have p1 := b0.cell 1 rfl
  have p2 := b0.cell 2 rfl
  cases b1 with
  | false =>
    have hno : ¬ (IsFol r s es ∧ 0 ≤ v ∧ v < s) := fun h => by have := H1.out.2 h.1; cases this
    obtain ⟨rfl, rfl, rfl⟩ := HR.out.no hno
    clear hno HR
    go_wp2_with fail
    with_reducible refine (impl_copyGraph r rs A res c _ _ _ (hr.mid hm0 (Or.inl (Nat.zero_le _))) hl).mono ?_
    rintro en w8 ⟨A8, c8, rfl, ho8, hm8⟩
    replace b2 := b2.mid hm8 (Or.inr (Nat.zero_le _))
    replace hm0 := hm0.trans hm8
    have hs8 := hm8.size
    have hbx := b2.1
    have z0 := b2.cell 0 rfl
    have z1 := b2.cell 1 rfl
    have z2 := b2.cell 2 rfl
    have zf := b2.2.2
    clear p0 p1 p2
    go_wp2_with fail
    refine bodyPost_ret (v := .tuple #[.agg #[.int .i64 r, .int .i64 rs, .slice A8 res.length c8], .bool false]) (by simp [results, Tryz.results67, go_sem, z0, z1, z2, zf]) rfl ⟨A8, c8, rfl, ?_, ?_⟩
    · refine OG.wide (OG.mid ho8 (a := w.heap.size + 1) (b := w.heap.size + 2) ?_ (Or.inl (by omega))) (by omega) (by simp) (Nat.le_refl _)
      repeat (first | exact Mid.refl _ _ _ | refine Mid.stored ?_ _ (by simp; try omega) (by simp; try omega))
    · repeat (first | exact hm0 | refine Mid.storeNew ?_ (by simp; try omega) _)
  | true =>
  have hfol := H1.out.1 rfl
  have hsz := hfol.gr.size
  have HF := Lib.hid hfol
  clear hfol H1
  obtain ⟨b3, hb3⟩ := bool_of (0 ≤ v ∧ v < s)
  have H3 := Lib.hid hb3
  clear hb3
  have hwsub : IntKind.i64.wrap (s - 1) = s - 1 := IntWalk.i64_in _ (by omega)
  go_wp2_with fail
  with_reducible refine (impl_has r s A es.length c v _ b3 (has_bool hsz.1 hsz.2 H3.out).1).mono ?_
  rintro en w3 ⟨rfl, hm3⟩
  replace b0 := b0.mid hm3 (Or.inr (Nat.zero_le _))
  replace b2 := b2.mid hm3 (Or.inr (Nat.zero_le _))
  replace hm0 := hm0.trans hm3
  have hs3 := hm3.size
  clear hm3
  clear p0 p1 p2
  have p0 := b0.cell 0 rfl
  have p1 := b0.cell 1 rfl
  have p2 := b0.cell 2 rfl
  cases b3 with
  | false =>
    have hno : ¬ (IsFol r s es ∧ 0 ≤ v ∧ v < s) := fun h => by have := H3.out.2 h.2; cases this
    obtain ⟨rfl, rfl, rfl⟩ := HR.out.no hno
    clear hno HR
    go_wp2_with fail
    with_reducible refine (impl_copyGraph r rs A res c _ _ _ (hr.mid hm0 (Or.inl (Nat.zero_le _))) hl).mono ?_
    rintro en w8 ⟨A8, c8, rfl, ho8, hm8⟩
    replace b2 := b2.mid hm8 (Or.inr (Nat.zero_le _))
    replace hm0 := hm0.trans hm8
    have hs8 := hm8.size
    have hbx := b2.1
    have z0 := b2.cell 0 rfl
    have z1 := b2.cell 1 rfl
    have z2 := b2.cell 2 rfl
    have zf := b2.2.2
    clear p0 p1 p2
    go_wp2_with fail
    refine bodyPost_ret (v := .tuple #[.agg #[.int .i64 r, .int .i64 rs, .slice A8 res.length c8], .bool false]) (by simp [results, Tryz.results67, go_sem, z0, z1, z2, zf]) rfl ⟨A8, c8, rfl, ?_, ?_⟩
    · refine OG.wide (OG.mid ho8 (a := w.heap.size + 1) (b := w.heap.size + 2) ?_ (Or.inl (by omega))) (by omega) (by simp) (Nat.le_refl _)
      repeat (first | exact Mid.refl _ _ _ | refine Mid.stored ?_ _ (by simp; try omega) (by simp; try omega))
    · repeat (first | exact hm0 | refine Mid.storeNew ?_ (by simp; try omega) _)
  | true =>
  have hv := H3.out.1 rfl
  obtain ⟨rfl, hrs, hre⟩ := HR.out.yes ⟨HF.out, hv⟩
  obtain ⟨rn, rfl⟩ : ∃ rn : Nat, r = rn := ⟨r.toNat, by have := HF.out.gr.rank; omega⟩
  obtain ⟨sn, rfl⟩ : ∃ sn : Nat, s = sn := ⟨s.toNat, by omega⟩
  obtain ⟨vn, rfl⟩ : ∃ vn : Nat, v = vn := ⟨v.toNat, by omega⟩
  have hvn : vn < sn := by omega
  have hsn40 : sn ≤ 40 := by omega
  have hmo := mvOrd_ok (s := (sn : Int)) (v := (vn : Int)) hv
  have hgm := mv_gr HF.out.gr hv
  have hmd : moveA (rn : Int) sn es vn = coreA rn ((sn : Int), partE (mvOrd sn vn) es) := rfl
  rw [hmd] at hrs hre
  obtain ⟨q, qs, hQ, -⟩ := nat_gr (coreA_gr (g := ((sn : Int), partE (mvOrd sn vn) es)) hgm)
  rw [hQ] at hrs hre
  subst hrs
  subst res
  have hord : mvOrd (sn : Int) vn = ((vn : Nat) : Int) :: but vn sn := by simp [mvOrd]
  rw [hord] at hmo hgm hQ
  obtain ⟨ord, hord2⟩ : ∃ ord, ((vn : Nat) : Int) :: but vn sn = ord := ⟨_, rfl⟩
  have HORD := Lib.hid hord2
  rw [hord2] at hmo hgm hQ
  have hol : ord.length = sn := by have := hmo.1; omega
  have HOL := Lib.hid hol
  have HMO := Lib.hid hmo
  have HGM := Lib.hid hgm
  have HQ := Lib.hid hQ
  have O0 := owns_lit w3 3 (.int .i64 (vn : Int))
  have hal := Mid.alloc w3 (.cells #[.int .i64 (vn : Int)] 3)
  have hw3 : w.heap.size + 1 < w3.heap.size := b2.1
  replace b0 := b0.mid hal (Or.inr (Nat.zero_le _))
  replace b2 := b2.mid hal (Or.inr (Nat.zero_le _))
  replace hm0 := hm0.trans hal
  clear HR H3 hmd hord hord2 hmo hgm hQ hol hv
  clear p0 p1 p2
  go_wp2_with fail
  go_loopw [6, 7] (fun out i wr => ∃ (k n1 : Nat) (A1 : Option Addr) (c1 : Nat), k ≤ sn ∧ i = .int .i64 k ∧ out = .slice A1 n1 c1 ∧ Hid (n1 = (but vn k).length + 1) ∧ w3.heap.size ≤ wr.heap.size ∧ wr.ownsRow w3.heap.size 3 1 (.slice A1 n1 c1) n1 (ints (((vn : Nat) : Int) :: but vn k)) ∧
      Box wr w.heap.size [.int .i64 rn, .int .i64 sn, .slice A es.length c] ∧ Box wr (w.heap.size + 1) [.int .i64 0, .int .i64 0, .slice none 0 0] ∧ Mid 0 0 w wr) (fun _ i _ => sn - (intOf i).toNat)
  case atStart => exact ⟨0, 1, _, 1, Nat.zero_le _, rfl, rfl, Lib.hid rfl, by simp, O0, b0, b2, hm0⟩
  case round =>
    clear O0 b0 b2 hm0 hal
    obtain ⟨k, n1, A1, c1, hk, rfl, rfl, HN, hwr, hown, b0, b2, hm⟩ := hrel
    have p0 := b0.cell 0 rfl
    have p1 := b0.cell 1 rfl
    have p2 := b0.cell 2 rfl
    have hn1 : n1 ≤ 100 := by
      have h1 := HN.out
      have h2 : (but vn k).length ≤ k := by rw [but, List.length_map]; exact Nat.le_trans (List.length_filter_le _ _) (by simp)
      omega
    by_cases hlt : k < sn
    · have hbs := but_succ vn k
      have hk1 : (k : Int) < (sn : Int) := by omega
      by_cases hkv : k = vn
      · rw [if_pos hkv] at hbs
        have HBS := Lib.hid hbs
        have dk : ((k : Int) != (vn : Int)) = false := by rw [hkv]; simp
        clear hbs
        have HKV := Lib.hid hkv
        clear hkv
        go_wp2_with fail
        go_roundw
        case rel => exact ⟨k + 1, n1, A1, c1, hlt, by go_num, rfl, Lib.hid (by rw [HBS.out]; exact HN.out), hwr, by rw [HBS.out]; exact hown, b0, b2, hm⟩
        case measure => simp [intOf]; omega
      · rw [if_neg hkv] at hbs
        have HBS := Lib.hid hbs
        have dk : ((k : Int) != (vn : Int)) = true := by rw [bne_iff_ne]; omega
        have HO := Lib.hid hown
        clear hbs hkv hown
        go_wp2_with (at_builtin; refine wpList_pushI rfl _ _ rfl w3.heap.size A1 n1 c1 _ rfl HO.out (k : Int) rfl (by omega) hwr ?_; intro A9 c9 w9 ho9 hm9)
        go_roundw
        case rel => exact ⟨k + 1, n1 + 1, A9, c9, hlt, by go_num, rfl, Lib.hid (by rw [HBS.out, List.length_append, HN.out]; rfl), Nat.le_trans hwr hm9.size, by rw [HBS.out]; exact ho9, b0.mid hm9 (Or.inl (by omega)), b2.mid hm9 (Or.inl (by omega)), hm.transNew hm9 (Or.inl (by omega))⟩
        case measure => simp [intOf]; omega
    · obtain rfl : k = sn := by omega
      rw [HORD.out] at hown
      have hnn : n1 = ord.length := by rw [HN.out, ← HORD.out]; rfl
      have hrv := owns_rv hown
      clear HN
      subst hnn
      have hlo : w.heap.size + 1 < wr.heap.size := b2.1
      go_wp2_with fail
      with_reducible refine (impl_part rn k A es c A1 ord c1 _ _ _ _ _ (hr.mid hm (Or.inl (Nat.zero_le _))) hrv HF.out.gr HMO.out.2.1 HMO.out.2.2).mono ?_
      rintro en w6 ⟨A6, c6, rfl, ho6, hm6⟩
      rw [HOL.out]
      replace b2 := b2.mid hm6 (Or.inr (Nat.zero_le _))
      replace hm := hm.trans hm6
      clear p0 p1 p2
      go_wp2_with fail
      have hP := impl_CoreGraph rn k A6 (partE ord es) c6 w6 _ _ (OG.rg ho6) HGM.out
      rw [HQ.out] at hP
      dsimp only at hP
      have HPP := Lib.hid hP
      clear hP
      with_reducible refine HPP.out.mono ?_
      rintro en w8 ⟨A5, c5, rfl, ho8, hm8⟩
      clear HPP
      replace b2 := b2.mid hm8 (Or.inr (Nat.zero_le _))
      replace hm := hm.trans hm8
      have hbx := b2.1
      have z0 := b2.cell 0 rfl
      have z1 := b2.cell 1 rfl
      have z2 := b2.cell 2 rfl
      have zf := b2.2.2
      go_wp2_with fail
      refine bodyPost_ret (v := .tuple #[.agg #[.int .i64 rn, .int .i64 q, .slice A5 qs.length c5], .bool true]) (by simp [results, Tryz.results67, go_sem, z0, z1, z2, zf]) rfl ⟨A5, c5, rfl, ?_, ?_⟩
      · refine OG.wide (OG.mid ho8 (a := w.heap.size + 1) (b := w.heap.size + 2) ?_ (Or.inl (by have := hm6.size; simp; omega))) (by have := hm6.size; simp; omega) (by simp) (Nat.le_refl _)
        repeat (first | exact Mid.refl _ _ _ | refine Mid.stored ?_ _ (by simp; try omega) (by simp; try omega))
      · repeat (first | exact hm | refine Mid.storeNew ?_ (by simp; try omega) _)

end Go.Proofs.YtgpljoplnecioaaGreat

/- MissingSteps (whether there are some), IsFiniteIndex. -/
namespace Go.Proofs.YtgpljoplnecioaaGreat
set_option linter.unusedVariables false
set_option linter.unusedSimpArgs false
open Go.RowKit

/-- Every letter goes on at every vertex. -/
def Full (r n : Nat) (es : List Ed) : Prop := ∀ v : Nat, v < n → ∀ x ∈ lets r, 0 ≤ nextV es v x
/-- The same of the vertices below v, and of the first j letters at v. -/
def FullTo (r : Nat) (es : List Ed) (v j : Nat) : Prop := (∀ u : Nat, u < v → ∀ x ∈ lets r, 0 ≤ nextV es u x) ∧ ∀ x ∈ (lets r).take j, 0 ≤ nextV es v x
theorem FullTo.zero (r : Nat) (es : List Ed) : FullTo r es 0 0 := ⟨fun u h => absurd h (Nat.not_lt_zero _), by simp⟩
theorem FullTo.step {r : Nat} {es : List Ed} {v j : Nat} {x : Int} (hx : (lets r)[j]? = some x) : FullTo r es v (j + 1) ↔ FullTo r es v j ∧ 0 ≤ nextV es v x := by
  unfold FullTo
  rw [take_snocI hx]
  constructor
  · rintro ⟨h1, h2⟩
    exact ⟨⟨h1, fun y hy => h2 y (List.mem_append.2 (.inl hy))⟩, h2 x (by simp)⟩
  · rintro ⟨⟨h1, h2⟩, h3⟩
    refine ⟨h1, fun y hy => ?_⟩
    rcases List.mem_append.1 hy with hy | hy
    · exact h2 y hy
    · simp at hy; subst hy; exact h3
theorem FullTo.row {r : Nat} {es : List Ed} {v : Nat} : FullTo r es v (lets r).length ↔ FullTo r es (v + 1) 0 := by
  unfold FullTo
  rw [List.take_length]
  constructor
  · rintro ⟨h1, h2⟩
    refine ⟨fun u hu x hx => ?_, by simp⟩
    by_cases h : u < v
    · exact h1 u h x hx
    · obtain rfl : u = v := by omega
      exact h2 x hx
  · rintro ⟨h1, -⟩
    exact ⟨fun u hu x hx => h1 u (by omega) x hx, fun x hx => h1 v (by omega) x hx⟩
theorem FullTo.all {r n : Nat} {es : List Ed} : FullTo r es n 0 ↔ Full r n es := ⟨fun h => h.1, fun h => ⟨h, by simp⟩⟩

set_option maxHeartbeats 1600000 in
theorem impl_lettersO (n : Nat) (w : World) (hn : n ≤ 1000) :
    Calls Tryz.prog 142 #[.int .i64 n] w fun e w' => ∃ A c, e = .returned (.slice A (lets n).length c) ∧ w'.ownsRow w.heap.size 3 1 (.slice A (lets n).length c) (lets n).length (ints (lets n)) ∧ Mid 0 0 w w' := by
  have hm0 : Mid 0 0 w (w.alloc (.cells #[] 3)) := Mid.alloc _ _
  have O0 := owns_empty w 3 1
  go_enter Tryz.func142, Tryz.ntmps142
  go_wp2_with fail
  go_loopw [3, 4] (fun out i wr => ∃ (k : Nat) (A1 : Option Addr) (c1 n1 : Nat), k ≤ n ∧ i = .int .i64 ((k : Int) + 1) ∧ out = .slice A1 n1 c1 ∧ Hid ((lets k).length = n1) ∧
      wr.ownsRow w.heap.size 3 1 (.slice A1 n1 c1) n1 (ints (lets k)) ∧ Mid 0 0 w wr ∧ w.heap.size ≤ wr.heap.size) (fun _ i _ => (n + 1 - intOf i).toNat)
  case atStart => exact ⟨0, _, 0, 0, Nat.zero_le _, rfl, rfl, Lib.hid rfl, O0, hm0, hm0.size⟩
  case round =>
    obtain ⟨k, A1, c1, n1, hk, rfl, rfl, HN, hown, hm, hsz⟩ := hrel
    have hn1 : n1 ≤ 2000 := by have h1 := lets_len k; have h2 := HN.out; omega
    by_cases hlt : k < n
    · have hkn : (k : Int) + 1 ≤ n := by omega
      have hk0 : (0 : Int) ≤ (k : Int) := by omega
      have b4 : wrap64 (-((k : Int) + 1)) = -((k : Int) + 1) := by unfold wrap64; omega
      have HW := Lib.hid hown
      clear hown
      go_wp2_with (at_builtin; refine wpList_push rfl _ _ 35 rfl w.heap.size 3 (.int .i64 0) 1 8 undSI infoI rfl (by decide) _ _ _ rfl HW.out 2 [.int .i64 ((k : Int) + 1), .int .i64 (-((k : Int) + 1))] rfl rfl ?c1 ?c2 ?c3 hsz ?next)
      case c1 => exact one_of_ints [(k : Int) + 1, -((k : Int) + 1)]
      case c2 => unfold maxLen; omega
      case c3 => omega
      case next =>
        intro v' w3 hown1 hgr _
        obtain ⟨A3, c3, rfl, -, -⟩ := owns_shape hown1
        have hm3 := Mid.of_grownRow HW.out hgr
        go_wp2_with fail
        go_roundw
        case rel =>
          refine ⟨k + 1, A3, c3, n1 + 2, by omega, by go_num, rfl, Lib.hid (by have := HN.out; simp [lets]; omega), ?_, hm.transNew hm3 (Or.inl (Nat.le_refl _)), Nat.le_trans hsz hm3.size⟩
          rw [lets, ints_append]
          exact hown1
        case measure => simp [intOf]; omega
    · obtain rfl : k = n := by omega
      have hx := HN.out
      have hsz2 := hm.size
      go_wp2_with fail
      go_ret
      exact ⟨_, _, (by rw [hx]; rfl), (by rw [hx]; exact hown), hm⟩

set_option maxHeartbeats 1600000 in
theorem spec_l5LettersO (n : Nat) (w : World) (hn : n ≤ 1000) :
    Calls Tryz.prog 123 #[.int .i64 n] w fun e w' => ∃ A c, e = .returned (.slice A (lets n).length c) ∧ w'.ownsRow w.heap.size 3 1 (.slice A (lets n).length c) (lets n).length (ints (lets n)) ∧ Mid 0 0 w w' := by
  have hm0 : Mid 0 0 w (w.alloc (.cells #[] 3)) := Mid.alloc _ _
  have O0 := owns_empty w 3 1
  go_enter Tryz.func123, Tryz.ntmps123
  go_wp2_with fail
  go_loopw [3, 4] (fun out i wr => ∃ (k : Nat) (A1 : Option Addr) (c1 n1 : Nat), k ≤ n ∧ i = .int .i64 ((k : Int) + 1) ∧ out = .slice A1 n1 c1 ∧ Hid ((lets k).length = n1) ∧
      wr.ownsRow w.heap.size 3 1 (.slice A1 n1 c1) n1 (ints (lets k)) ∧ Mid 0 0 w wr ∧ w.heap.size ≤ wr.heap.size) (fun _ i _ => (n + 1 - intOf i).toNat)
  case atStart => exact ⟨0, _, 0, 0, Nat.zero_le _, rfl, rfl, Lib.hid rfl, O0, hm0, hm0.size⟩
  case round =>
    obtain ⟨k, A1, c1, n1, hk, rfl, rfl, HN, hown, hm, hsz⟩ := hrel
    have hn1 : n1 ≤ 2000 := by have h1 := lets_len k; have h2 := HN.out; omega
    by_cases hlt : k < n
    · have hkn : (k : Int) + 1 ≤ n := by omega
      have hk0 : (0 : Int) ≤ (k : Int) := by omega
      have b4 : wrap64 (-((k : Int) + 1)) = -((k : Int) + 1) := by unfold wrap64; omega
      have HW := Lib.hid hown
      clear hown
      go_wp2_with (first | (at_builtin; refine wpList_pushI rfl _ _ rfl w.heap.size A1 n1 c1 (lets k) rfl HW.out ((k : Int) + 1) rfl (by omega) hsz ?_; intro A2 c2 w2 hown2 hm2; have hsz2 := Nat.le_trans hsz hm2.size; have HW2 := Lib.hid hown2; clear hown2) | (at_builtin; refine wpList_pushI rfl _ _ rfl w.heap.size A2 (n1 + 1) c2 (lets k ++ [(k : Int) + 1]) rfl HW2.out (-((k : Int) + 1)) rfl (by omega) hsz2 ?_; intro A3 c3 w3 hown3 hm3))
      go_roundw
      case rel =>
        refine ⟨k + 1, A3, c3, n1 + 1 + 1, by omega, by go_num, rfl, Lib.hid (by have := HN.out; simp [lets]; omega), ?_, (hm.transNew hm2 (Or.inl (Nat.le_refl _))).transNew hm3 (Or.inl (Nat.le_refl _)), Nat.le_trans hsz2 hm3.size⟩
        rw [List.append_assoc] at hown3
        exact hown3
      case measure => simp [intOf]; omega
    · obtain rfl : k = n := by omega
      have hx := HN.out
      have hsz2 := hm.size
      go_wp2_with fail
      go_ret
      exact ⟨_, _, (by rw [hx]; rfl), (by rw [hx]; exact hown), hm⟩

/-- A subgroup of finite index. -/
structure IsFin (r s : Int) (es : List Ed) : Prop where
  cor : IsCor r s es
  full : Full r.toNat s.toNat es

end Go.Proofs.YtgpljoplnecioaaGreat

/- ActionOf, of both, and the law's data. -/
namespace Go.Proofs.YtgpljoplnecioaaGreat
set_option linter.unusedVariables false
set_option linter.unusedSimpArgs false
open Go.RowKit

/-- Where the letter x leads from each vertex; for all letters up to k. -/
def rowL (n : Nat) (es : List Ed) (x : Int) : List Int := (List.range n).map fun (v : Nat) => nextV es (v : Int) x
def actL (n : Nat) (es : List Ed) (k : Nat) : List (List Int) := (List.range k).map fun (i : Nat) => rowL n es ((i : Int) + 1)
theorem rowL_len (n : Nat) (es : List Ed) (x : Int) : (rowL n es x).length = n := by simp [rowL]
theorem rowL_succ (n : Nat) (es : List Ed) (x : Int) : rowL (n + 1) es x = rowL n es x ++ [nextV es (n : Int) x] := by simp [rowL, List.range_succ]
theorem actL_len (n : Nat) (es : List Ed) (k : Nat) : (actL n es k).length = k := by simp [actL]
theorem actL_succ (n : Nat) (es : List Ed) (k : Nat) : actL n es (k + 1) = actL n es k ++ [rowL n es ((k : Int) + 1)] := by simp [actL, List.range_succ]
theorem actL_sum (n : Nat) (es : List Ed) (k : Nat) : sumL (actL n es k) = k * n := by
  induction k with
  | zero => simp [actL, sumL]
  | succ k ih => rw [actL_succ, sumL_append, ih, sumL_one, rowL_len, Nat.succ_mul]

open Classical in
noncomputable def actI (r s : Int) (es : List Ed) : List (List Int) := if IsFin r s es then actL s.toNat es r.toNat else []
def ActionOfIs (r0 s0 : Int) (d0 : List Ed) (res0 : List (List Int)) : Prop := res0 = actI r0 s0 d0
theorem ActionOfIs_ex (r0 s0 : Int) (d0 : List Ed) (hl0 : d0.length ≤ 1048576) : ∃ res0, ActionOfIs r0 s0 d0 res0 := ⟨_, rfl⟩
theorem ActionOfIs_len {r0 s0 : Int} {d0 : List Ed} {res0 : List (List Int)} (h : ActionOfIs r0 s0 d0 res0) (hl0 : d0.length ≤ 1048576) : res0.length + sumL res0 ≤ 1048576 := by
  obtain rfl : res0 = _ := h
  unfold actI
  split
  · rename_i h
    have h1 := h.cor.gr.rank
    have h2 := h.cor.gr.size
    have h3 := actL_sum s0.toNat d0 r0.toNat
    have h4 : r0.toNat * s0.toNat ≤ 3 * 40 := Nat.mul_le_mul (by omega) (by omega)
    rw [actL_len]
    omega
  · simp [sumL]
end Go.Proofs.YtgpljoplnecioaaGreat

/- read, WalkWord, WordPermutation; the law's data. -/
namespace Go.Proofs.YtgpljoplnecioaaGreat
set_option linter.unusedVariables false
set_option linter.unusedSimpArgs false
open Go.RowKit

/-- Where a list of letters leads. -/
def goV (es : List Ed) : Int → List Int → Option Int
  | v, [] => some v
  | v, x :: t => if nextV es v x < 0 then none else goV es (nextV es v x) t
theorem goV_app (es : List Ed) : ∀ (a b : List Int) (v : Int), goV es v (a ++ b) = (goV es v a).bind fun u => goV es u b
  | [], b, v => rfl
  | x :: a, b, v => by
    rw [List.cons_append, goV, goV]
    split
    · rfl
    · exact goV_app es a b _
theorem goV_one (es : List Ed) (v x : Int) : goV es v [x] = if nextV es v x < 0 then none else some (nextV es v x) := by
  rw [goV]
  rfl
theorem goV_stop {es : List Ed} {v u x : Int} {w : List Int} {k : Nat} (h : goV es v (w.take k) = some u) (hx : w[k]? = some x) (hn : nextV es u x < 0) : goV es v w = none := by
  have h1 : w = w.take k ++ (x :: w.drop (k + 1)) := by rw [← drop_of w hx, List.take_append_drop]
  rw [h1, goV_app, h, Option.bind_some, goV, if_pos hn]
theorem goV_next {es : List Ed} {v u x : Int} {w : List Int} {k : Nat} (h : goV es v (w.take k) = some u) (hx : w[k]? = some x) (hn : ¬ nextV es u x < 0) : goV es v (w.take (k + 1)) = some (nextV es u x) := by
  rw [take_snocI hx, goV_app, h, Option.bind_some, goV_one, if_neg hn]

set_option maxHeartbeats 3200000 in
theorem impl_read (r n : Nat) (A : Option Addr) (es : List Ed) (c : Nat) (v : Int) (Aw : Option Addr) (wd : List Int) (cw : Nat) (w : World) (lo hi lo' hi' : Nat) (hr : RG w lo hi A es) (hw : RV w lo' hi' Aw (ints wd)) (hg : IsGr r n es) (hwl : wd.length ≤ 1048576) (hok : OkI wd) :
    Calls Tryz.prog 94 #[graV r n A es.length c, .int .i64 v, .slice Aw wd.length cw] w fun e w' => ∃ (u : Int) (k : Nat), e = .returned (.tuple #[.int .i64 u, .int .i64 k]) ∧ k ≤ wd.length ∧ goV es v (wd.take k) = some u ∧ (k = wd.length ∨ ∃ x, wd[k]? = some x ∧ nextV es u x < 0) ∧ Mid 0 0 w w' := by
  have hl := hg.len
  have HGL := Lib.hid (show ∀ e ∈ es, 1 ≤ e.l ∧ e.l ≤ 3 from fun e he => by have := hg.all e he; have := hg.rank; unfold InG at *; omega)
  have HG := Lib.hid hg
  have HOK := Lib.hid hok
  have hm0 : Mid 0 0 w (w.alloc (.cells #[.int .i64 r, .int .i64 n, .slice A es.length c] 29)) := Mid.alloc _ _
  have b0 := Box.new w #[.int .i64 r, .int .i64 n, .slice A es.length c] 29
  clear hg hok
  go_enter Tryz.func94, Tryz.ntmps94
  go_wp2_with fail
  go_loopw [1, 13] (fun vv iv wr => ∃ (k : Nat) (u : Int), k ≤ wd.length ∧ iv = .int .i64 k ∧ vv = .int .i64 u ∧ Hid (goV es v (wd.take k) = some u) ∧ Box wr w.heap.size [.int .i64 r, .int .i64 n, .slice A es.length c] ∧ Mid 0 0 w wr) (fun _ i _ => wd.length - (intOf i).toNat)
  case atStart => exact ⟨0, v, Nat.zero_le _, rfl, rfl, Lib.hid rfl, b0, hm0⟩
  case round =>
    clear b0 hm0
    obtain ⟨k, u, hk, rfl, rfl, HV, b0, hm⟩ := hrel
    have p0 := b0.cell 0 rfl
    have p1 := b0.cell 1 rfl
    have p2 := b0.cell 2 rfl
    by_cases hlt : k < wd.length
    · obtain ⟨B, off, x, rfl, hbh, hx, hcx⟩ := (hw.mid hm (Or.inl (Nat.zero_le _))).at hlt
      have hxr := HOK.out x (List.mem_of_getElem? hx)
      have hk1 : (k : Int) < (wd.length : Int) := by omega
      have HX := Lib.hid hx
      clear hx
      go_wp2_with fail
      with_reducible refine (impl_NextVertex r n A es c u x _ lo hi (hr.mid hm (Or.inl (Nat.zero_le _))) (by omega) HGL.out (by omega) (by omega)).mono ?_
      rintro en w6 ⟨rfl, hm6⟩
      replace b0 := b0.mid hm6 (Or.inr (Nat.zero_le _))
      replace hm := hm.trans hm6
      generalize htx : nextV es u x = t
      by_cases ht : t < 0
      · have d1 : decide (t < 0) = true := by simpa using ht
        have HN : Hid (nextV es u x < 0) := Lib.hid (by rw [htx]; exact ht)
        clear ht htx hcx p0 p1 p2
        go_wp2_with fail
        go_ret2
        exact ⟨u, k, rfl, hk, HV.out, .inr ⟨x, HX.out, HN.out⟩, hm⟩
      · have d1 : decide (t < 0) = false := by simpa using ht
        have HN := Lib.hid (goV_next HV.out HX.out (by rw [htx]; exact ht))
        rw [htx] at HN
        clear ht htx hcx p0 p1 p2
        go_wp2_with fail
        go_roundw
        case rel => exact ⟨k + 1, t, by omega, by go_num, rfl, HN, b0, hm⟩
        case measure => simp [intOf]; omega
    · obtain rfl : k = wd.length := by omega
      go_wp2_with fail
      go_ret2
      exact ⟨u, wd.length, rfl, Nat.le_refl _, HV.out, .inl rfl, hm⟩

set_option maxHeartbeats 3200000 in
theorem spec_WalkWord (r n v : Nat) (A : Option Addr) (es : List Ed) (c : Nat) (Aw : Option Addr) (wd : List Int) (cw : Nat) (w : World) (lo hi lo' hi' : Nat) (hr : RG w lo hi A es) (hw : RV w lo' hi' Aw (ints wd)) (hf : IsFol r n es) (hv : v < n) (hwl : wd.length ≤ 1048576) (hok : OkI wd) :
    Calls Tryz.prog 62 #[graV r n A es.length c, .int .i64 v, .slice Aw wd.length cw] w fun e w' => ∃ (u : Int) (b : Bool), e = .returned (.tuple #[.int .i64 u, .bool b]) ∧ (b = true → goV es v wd = some u) ∧ (b = false → goV es v wd = none) ∧ Mid 0 0 w w' := by
  have hg := hf.gr
  have hl := hg.len
  have hn40 : n ≤ 40 := by have := hg.size; omega
  have HGL := Lib.hid (show ∀ e ∈ es, 1 ≤ e.l ∧ e.l ≤ 3 from fun e he => by have := hg.all e he; have := hg.rank; unfold InG at *; omega)
  have HF := Lib.hid hf
  have HOK := Lib.hid hok
  have hm0 : Mid 0 0 w (w.alloc (.cells #[.int .i64 r, .int .i64 n, .slice A es.length c] 29)) := Mid.alloc _ _
  have b0 := Box.new w #[.int .i64 r, .int .i64 n, .slice A es.length c] 29
  have hib : inB (v : Int) 0 ((n : Int) - 1) = true := by unfold inB; simp; omega
  clear hg hok hf
  go_enter Tryz.func62, Tryz.ntmps62
  go_wp2_with fail
  with_reducible refine (spec_IsFolded r n A es c _ _ _ (hr.mid hm0 (Or.inl (Nat.zero_le _))) (by omega) true (iff_of_true rfl HF.out)).mono ?_
  rintro en w1 ⟨rfl, hm1⟩
  replace b0 := b0.mid hm1 (Or.inr (Nat.zero_le _))
  replace hm0 := hm0.trans hm1
  have p0 := b0.cell 0 rfl
  have p1 := b0.cell 1 rfl
  have p2 := b0.cell 2 rfl
  go_wp2_with fail
  with_reducible refine (l1In_at hib _).mono ?_
  rintro en w2 ⟨rfl, rfl⟩
  go_wp2_with fail
  clear p0 p1 p2 hm1
  go_loopw [1, 8] (fun vv iv wr => ∃ (k : Nat) (u : Int), k ≤ wd.length ∧ iv = .int .i64 k ∧ vv = .int .i64 u ∧ Hid (goV es v (wd.take k) = some u) ∧ Box wr w.heap.size [.int .i64 r, .int .i64 n, .slice A es.length c] ∧ Mid 0 0 w wr) (fun _ i _ => wd.length - (intOf i).toNat)
  case atStart => exact ⟨0, v, Nat.zero_le _, rfl, rfl, Lib.hid rfl, b0, hm0⟩
  case round =>
    clear b0 hm0
    obtain ⟨k, u, hk, rfl, rfl, HV, b0, hm⟩ := hrel
    by_cases hlt : k < wd.length
    · obtain ⟨B, off, x, rfl, hbh, hx, hcx⟩ := (hw.mid hm (Or.inl (Nat.zero_le _))).at hlt
      have hxr := HOK.out x (List.mem_of_getElem? hx)
      have hk1 : (k : Int) < (wd.length : Int) := by omega
      have hk0 : (0 : Int) ≤ (k : Int) := by omega
      have HX := Lib.hid hx
      have hBs : B < wr.heap.size := by have := hw.1; have := hm.size; omega
      have k0 := wg_cell b0.1 (b0.cell 0 rfl)
      have k1 := wg_cell b0.1 (b0.cell 1 rfl)
      have k2 := wg_cell b0.1 (b0.cell 2 rfl)
      have k4 := wg_cell hBs hcx
      have hA := fun m os => spec_NextVertex r n A es c u x (wg wr m os) lo hi (hr.mid (hm.trans (Mid.ofWg wr m os)) (Or.inl (Nat.zero_le _))) (by omega) HGL.out (by omega) (by omega)
      clear hx hcx
      go_wp2_with fail
      refine wp_region_quiet_wg (by kernel_rfl) (by kernel_rfl) ?_
      repeat
        (with_reducible refine wpQuiet_step (fun K hK => ?_))
        go_simp
        first
          | ((with_reducible refine hK _ ?_); clear hK K)
          | (rw [if_neg (by decide)]; (with_reducible refine hK _ ?_); clear hK K)
          | (apply Exists.intro; refine ⟨fun _ => ?_, hK _ ?_⟩; ((go_at_call 91; exact Calls.wg_of (hA _ _))); clear hK K)
      with_reducible refine wpQuiet_nil ?_
      intro _ hw'
      obtain ⟨⟨nq, osq⟩, hw''⟩ := hw'
      subst hw''
      have hwg := Mid.ofWg wr nq osq
      generalize wg wr nq osq = w6 at hwg ⊢
      replace b0 := b0.mid hwg (Or.inr (Nat.zero_le _))
      replace hm := hm.trans hwg
      generalize htx : nextV es u x = t
      clear k0 k1 k2 k4 hA
      by_cases ht : t < 0
      · have d1 : decide (t < 0) = true := by simpa using ht
        have HN := Lib.hid (goV_stop HV.out HX.out (by rw [htx]; exact ht))
        clear ht htx
        go_wp2_with fail
        go_ret2
        exact ⟨-1, false, rfl, (fun h => nomatch h), fun _ => HN.out, hm⟩
      · have d1 : decide (t < 0) = false := by simpa using ht
        have HN := Lib.hid (goV_next HV.out HX.out (by rw [htx]; exact ht))
        rw [htx] at HN
        clear ht htx
        go_wp2_with fail
        go_roundw
        case rel => exact ⟨k + 1, t, by omega, by go_num, rfl, HN, b0, hm⟩
        case measure => simp [intOf]; omega
    · obtain rfl : k = wd.length := by omega
      rw [List.take_length] at HV
      go_wp2_with fail
      go_ret2
      exact ⟨u, true, rfl, fun _ => HV.out, (fun h => nomatch h), hm⟩

/-- Where the word leads from each vertex, if it leads on from all below k. -/
def permTo (es : List Ed) (wd : List Int) (k : Nat) : List Int := (List.range k).map fun (v : Nat) => (goV es v wd).getD 0
theorem permTo_succ {es : List Ed} {wd : List Int} {k : Nat} {u : Int} (h : goV es (k : Int) wd = some u) : permTo es wd (k + 1) = permTo es wd k ++ [u] := by simp [permTo, List.range_succ, h]
theorem permTo_len (es : List Ed) (wd : List Int) (k : Nat) : (permTo es wd k).length = k := by simp [permTo]
open Classical in
noncomputable def wordP (r s : Int) (es : List Ed) (wd : List Int) : List Int := if IsFin r s es ∧ ∀ v : Nat, v < s.toNat → goV es v wd ≠ none then permTo es wd s.toNat else []
theorem wordP_yes {r n : Nat} {es : List Ed} {wd : List Int} (h : IsFin r n es) (h2 : ∀ v : Nat, v < n → goV es v wd ≠ none) : wordP r n es wd = permTo es wd n := if_pos ⟨h, h2⟩
theorem wordP_no {r n : Nat} {es : List Ed} {wd : List Int} {v : Nat} (hv : v < n) (h2 : goV es v wd = none) : wordP r n es wd = [] := if_neg fun h => h.2 v hv h2
theorem wordP_inf {r s : Int} {es : List Ed} {wd : List Int} (h : ¬ IsFin r s es) : wordP r s es wd = [] := if_neg fun h' => h h'.1

def WordPermutationIs (r0 s0 : Int) (d0 : List Ed) (d1 : List Int) (res0 : List Int) : Prop := res0 = wordP r0 s0 d0 d1
theorem WordPermutationIs_ex (r0 s0 : Int) (d0 : List Ed) (d1 : List Int) (hl0 : d0.length ≤ 1048576) (o1 : OkI d1) (hl1 : d1.length ≤ 1048576) : ∃ res0, WordPermutationIs r0 s0 d0 d1 res0 := ⟨_, rfl⟩
theorem WordPermutationIs_len {r0 s0 : Int} {d0 : List Ed} {d1 : List Int} {res0 : List Int} (h : WordPermutationIs r0 s0 d0 d1 res0) (hl0 : d0.length ≤ 1048576) (o1 : OkI d1) (hl1 : d1.length ≤ 1048576) : res0.length ≤ 1048576 := by
  obtain rfl : res0 = _ := h
  unfold wordP
  split
  · rename_i h
    have h2 := h.1.cor.gr.size
    rw [permTo_len]
    omega
  · simp
end Go.Proofs.YtgpljoplnecioaaGreat

/- Regions that draw their order, with cells that every operation but the last ones leaves as they are. -/
namespace Go.Proofs.YtgpljoplnecioaaGreat
set_option linter.unusedVariables false
set_option linter.unusedSimpArgs false
open Go.RowKit

section
variable {P : Program} {ops : Array Oper} {Q : Exit → Act → World → Prop} {md : Region.Mode} {S : World → Prop} {Z : List Nat}

/-- Whatever order is picked from here on; S holds behind every operation but those of Z. -/
def wpAnyZ (P : Program) (md : Region.Mode) (ops : Array Oper) (Q : Exit → Act → World → Prop) (S : World → Prop) (Z : List Nat) : Nat → Array Bool → Act → World → Prop
  | 0, listed, a, w => Region.ready md ops listed = [] ∧ Q .normal a w
  | fuel + 1, listed, a, w =>
    (Region.ready md ops listed = [] → Q .normal a w) ∧
    ∀ i ∈ Region.ready md ops listed, wpOp P ops Q i (fun a' w' => (i ∈ Z ∨ S w') ∧ wpAnyZ P md ops Q S Z fuel (listed.setIfInBounds i true) a' w') a w
theorem wpAny_of_Z : ∀ (fuel : Nat) (listed : Array Bool) (a : Act) (w : World), wpAnyZ P md ops Q S Z fuel listed a w → wpAny P md ops Q fuel listed a w
  | 0, _, _, _, h => h
  | fuel + 1, _, _, _, h => ⟨h.1, fun i hi => wpOp_mono (fun a' w' h' => wpAny_of_Z fuel _ a' w' h'.2) (h.2 i hi)⟩
/-- The last operation does not come up while one that it waits for has not. -/
theorem not_lastZ {z i : Nat} {listed : Array Bool} (hz : Region.waitsFor md ops z i = true) (hun : listed.getD i true = false) : z ∉ Region.ready md ops listed := by
  intro hr
  obtain ⟨-, oz, hoz, hall⟩ := mem_ready.1 hr
  obtain ⟨oz', hoz', e, he, hb, hon⟩ := Region.waitsFor_spec hz
  obtain rfl : oz' = oz := Option.some.inj (hoz'.symm.trans hoz)
  have h1 := hall e he hb
  rw [hon, getD_both hun] at h1
  cases h1
theorem not_lastC {i m : Nat} {C : List Nat} {listed : Array Bool} (hC : ∀ m ∈ C, listed.getD m true = false ∧ ∃ p ∈ i :: C, Region.waitsFor md ops m p = true) (hi : listed.getD i true = false) (hm : m ∈ C) : m ∉ Region.ready md ops listed := by
  obtain ⟨-, p, hp, hw⟩ := hC m hm
  have hun : listed.getD p true = false := by
    rcases List.mem_cons.1 hp with rfl | hp
    · exact hi
    · exact (hC p hp).1
  exact not_lastZ hw hun
theorem wpAnyZ_firstC {i : Nat} {oi : Oper} {v : Value} {C : List Nat} (hi : ops[i]? = some oi) (hsel : ∀ (j : Nat) (o : Oper) cs b, ops[j]? = some o → o.op ≠ .select cs b)
    (hQ : ∀ c a w, Q (.panic c) (a.put oi.dst v) w → Q (.panic c) a w) (hZC : ∀ z ∈ Z, z ∈ C) :
    ∀ (fuel : Nat) (listed : Array Bool) (a : Act) (w : World),
      (∀ j oj, ops[j]? = some oj → j ≠ i → listed.getD j true = false → (∀ e ∈ oj.after, Region.binds md e = true → e.on ≠ i) → oi.apart ops oj = true) →
      (∀ m ∈ C, listed.getD m true = false ∧ ∃ p ∈ i :: C, Region.waitsFor md ops m p = true) →
      i ∈ Region.ready md ops listed → YieldsIf P ops S oi v a → S w →
      wpAnyZ P md ops Q S Z fuel (listed.setIfInBounds i true) (a.put oi.dst v) w → wpAnyZ P md ops Q S Z (fuel + 1) listed a w := by
  intro fuel
  induction fuel with
  | zero =>
    intro listed a w _ _ hr hy hS H
    refine ⟨fun h => (by rw [h] at hr; cases hr), fun j hj => ?_⟩
    by_cases hji : j = i
    · subst hji; exact hy.wpOp hi hS ⟨.inr hS, H⟩
    · have := ready_mono hj hji
      rw [H.1] at this
      cases this
  | succ fuel ih =>
    intro listed a w hfree hC hr hy hS H
    refine ⟨fun h => (by rw [h] at hr; cases hr), fun j hj => ?_⟩
    by_cases hji : j = i
    · subst hji; exact hy.wpOp hi hS ⟨.inr hS, H⟩
    · have hjC : j ∉ C := fun e => not_lastC hC (mem_ready.1 hr).1 e hj
      have hjz : j ∉ Z := fun e => hjC (hZC j e)
      have h1 := H.2 j (ready_mono hj hji)
      obtain ⟨hjun, oj, hoj, hall⟩ := mem_ready.1 hj
      have hnot : ∀ e ∈ oj.after, Region.binds md e = true → e.on ≠ i := fun e he hb heq => by
        have h1 := hall e he hb
        have h0 := (mem_ready.1 hr).1
        rw [heq] at h1
        rcases Nat.lt_or_ge i listed.size with h' | h'
        · simp [h'] at h0 h1; rw [h0] at h1; cases h1
        · simp [Array.getElem?_eq_none h'] at h1
      have h2 := wpOp_putIf hoj (hfree j oj hoj hji hjun hnot) (fun cs b => hsel i oi cs b hi) (fun cs b => hsel j oj cs b hoj) hQ hy h1
      have hfree' : ∀ k ok, ops[k]? = some ok → k ≠ i → (listed.setIfInBounds j true).getD k true = false →
          (∀ e ∈ ok.after, Region.binds md e = true → e.on ≠ i) → oi.apart ops ok = true := fun k ok hk hki hun hno => by
        refine hfree k ok hk hki ?_ hno
        by_cases hjk : j = k
        · subst hjk; exact hjun
        · rw [getD_set_ne true hjk] at hun; exact hun
      have hC' : ∀ m ∈ C, (listed.setIfInBounds j true).getD m true = false ∧ ∃ p ∈ i :: C, Region.waitsFor md ops m p = true := fun m hm => by
        refine ⟨?_, (hC m hm).2⟩
        have hjm : j ≠ m := fun e => hjC (e ▸ hm)
        rw [getD_set_ne true hjm]
        exact (hC m hm).1
      refine wpOp_mono (fun a' w' h3 => ?_) h2
      have hS' : S w' := h3.2.1.resolve_left hjz
      refine ⟨.inr hS', ih (listed.setIfInBounds j true) a' w' hfree' hC' (ready_mono hr (Ne.symm hji)) h3.1 hS' ?_⟩
      rw [Array.setIfInBounds_comm _ _ hji]
      exact h3.2.2
theorem wpAnyZ_takeC (C : List Nat) {i : Nat} {oi : Oper} {v : Value} {fuel : Nat} {listed : Array Bool} {a : Act} {w : World} (hi : ops[i]? = some oi)
    (hs : Region.noSelect ops = true) (hf : Region.free md ops listed i = true) (hr : (Region.ready md ops listed).contains i = true)
    (hz : ((Z.all fun z => C.contains z) && C.all fun m => (listed.getD m true == false) && (i :: C).any fun p => Region.waitsFor md ops m p) = true)
    (hQ : ∀ c a w, Q (.panic c) (a.put oi.dst v) w → Q (.panic c) a w) (hy : YieldsIf P ops S oi v a) (hS : S w)
    (h : wpAnyZ P md ops Q S Z fuel (listed.setIfInBounds i true) (a.put oi.dst v) w) : wpAnyZ P md ops Q S Z (fuel + 1) listed a w := by
  rw [Bool.and_eq_true] at hz
  refine wpAnyZ_firstC hi (Region.noSelect_spec hs) hQ (C := C) (fun z hzm => by simpa using List.all_eq_true.1 hz.1 z hzm) fuel listed a w (Region.free_spec hi hf) (fun m hm => ?_) (by simpa using hr) hy hS h
  have := List.all_eq_true.1 hz.2 m hm
  rw [Bool.and_eq_true] at this
  refine ⟨by simpa using this.1, ?_⟩
  obtain ⟨p, hp, hw⟩ := List.any_eq_true.1 this.2
  exact ⟨p, hp, hw⟩
def AllReadyZ (P : Program) (md : Region.Mode) (ops : Array Oper) (Q : Exit → Act → World → Prop) (S : World → Prop) (Z : List Nat) (fuel : Nat) (listed : Array Bool) (a : Act) (w : World) (rs : List Nat) : Prop :=
  ∀ i ∈ rs, wpOp P ops Q i (fun a' w' => (i ∈ Z ∨ S w') ∧ wpAnyZ P md ops Q S Z fuel (listed.setIfInBounds i true) a' w') a w
theorem AllReadyZ.nil {fuel : Nat} {listed : Array Bool} {a : Act} {w : World} : AllReadyZ P md ops Q S Z fuel listed a w [] := fun _ h => by cases h
theorem AllReadyZ.cons {fuel : Nat} {listed : Array Bool} {a : Act} {w : World} {i : Nat} {o : Oper} {rs : List Nat} (ho : ops[i]? = some o)
    (h : ∀ K' : Act → World → Prop, Shut (∀ a w, (i ∈ Z ∨ S w) → ((i ∈ Z ∨ S w) → wpAnyZ P md ops Q S Z fuel (listed.setIfInBounds i true) a w) → K' a w) → if Region.wanted o (yielded ops a.tmps) = true then Oper.wp P o a w K' Q else K' (a.put o.dst undef) w)
    (hs : AllReadyZ P md ops Q S Z fuel listed a w rs) : AllReadyZ P md ops Q S Z fuel listed a w (i :: rs) := fun j hj => by
  rcases List.mem_cons.1 hj with rfl | hj
  · exact wpOp_step ho (fun K' hK => h K' (fun a w hS hW => hK a w ⟨hS, hW hS⟩))
  · exact hs j hj
theorem wpAnyZ_ready {rs : List Nat} {fuel : Nat} {listed : Array Bool} {a : Act} {w : World} (hr : Region.ready md ops listed = rs) (hne : rs ≠ [])
    (h : AllReadyZ P md ops Q S Z fuel listed a w rs) : wpAnyZ P md ops Q S Z (fuel + 1) listed a w :=
  ⟨fun h0 => absurd (hr.symm.trans h0) hne, fun i hi => h i (hr ▸ hi)⟩
theorem wpAnyZ_done {listed : Array Bool} {a : Act} {w : World} (hr : Region.ready md ops listed = []) (h : Q .normal a w) : ∀ fuel, wpAnyZ P md ops Q S Z fuel listed a w
  | 0 => ⟨hr, h⟩
  | _ + 1 => ⟨fun _ => h, by rw [hr]; simp⟩
theorem wp_region_Z {id : Nat} {a : Act} {w : World} (Z : List Nat) (hm : P.follows .mixedOrders = true) (hS : S w.drew)
    (h : wpAnyZ P .any ops Q S Z ops.size (Array.replicate ops.size false) a w.drew) : (Code.region id ops true).wp P Q a w :=
  wp_region_any hm (wpAny_of_Z _ _ _ _ h)
end
end Go.Proofs.YtgpljoplnecioaaGreat

/- ReadLength (reference), extend (program). -/
namespace Go.Proofs.YtgpljoplnecioaaGreat
set_option linter.unusedVariables false
set_option linter.unusedSimpArgs false
open Go.RowKit

theorem rdA_is {es : List Ed} : ∀ {w : List Int} {v u : Int} {k : Nat}, goV es v (w.take k) = some u → k ≤ w.length → (k = w.length ∨ ∃ x, w[k]? = some x ∧ nextV es u x < 0) → rdA es v w = (u, k)
  | [], v, u, k, h, hk, h2 => by
    obtain rfl : k = 0 := by simpa using hk
    rw [List.take_nil, goV] at h
    injection h with h
    subst h
    rfl
  | x :: t, v, u, 0, h, hk, h2 => by
    rw [List.take_zero, goV] at h
    injection h with h
    subst h
    rcases h2 with h2 | ⟨y, hy, hn⟩
    · simp at h2
    · simp at hy
      subst hy
      rw [rdA, if_pos hn]
  | x :: t, v, u, k + 1, h, hk, h2 => by
    rw [List.take_succ_cons, goV] at h
    split at h
    · cases h
    · rename_i hn
      have ih := rdA_is (w := t) h (by simpa using hk) (by
        rcases h2 with h2 | ⟨y, hy, hy2⟩
        · exact .inl (by simpa using h2)
        · exact .inr ⟨y, by simpa using hy, hy2⟩)
      rw [rdA, if_neg hn, ih]
theorem goV_rdA {es : List Ed} : ∀ (w : List Int) (v : Int), goV es v (w.take (rdA es v w).2) = some (rdA es v w).1
  | [], v => rfl
  | x :: t, v => by
    by_cases hn : nextV es v x < 0
    · rw [rdA, if_pos hn]
      rfl
    · rw [rdA, if_neg hn]
      simp only [List.take_succ_cons, goV, if_neg hn]
      exact goV_rdA t _
/-- The rest of a row. -/
theorem RV.dropI {w : World} {lo hi b off : Nat} {xs : List Int} (h : RV w lo hi (some ⟨b, off, none⟩) (ints xs)) (k : Nat) : RV w lo hi (some ⟨b, off + k, none⟩) (ints (xs.drop k)) := by
  refine ⟨h.1, fun hn => ?_⟩
  obtain ⟨b', off', hA, h1, h2, h3⟩ := h.2 (by intro h0; apply hn; simp [ints] at h0 ⊢; rw [h0]; simp)
  injection hA with hA
  injection hA with e1 e2
  subst e1 e2
  refine ⟨b, off + k, rfl, h1, h2, fun j u hu => ?_⟩
  have := h3 (k + j) u (by
    simp only [ints, List.getElem?_map, List.getElem?_drop] at hu ⊢
    exact hu)
  rw [Nat.add_assoc]
  exact this

set_option maxHeartbeats 1600000 in
theorem spec_ReadLength (r n v : Nat) (A : Option Addr) (es : List Ed) (c : Nat) (Aw : Option Addr) (wd : List Int) (cw : Nat) (w : World) (lo hi lo' hi' : Nat) (hr : RG w lo hi A es) (hw : RV w lo' hi' Aw (ints wd)) (hf : IsFol r n es) (hv : v < n) (hwl : wd.length ≤ 1048576) (hok : OkI wd) :
    Calls Tryz.prog 61 #[graV r n A es.length c, .int .i64 v, .slice Aw wd.length cw] w fun e w' => e = .returned (.int .i64 ((rdA es v wd).2 : Nat)) ∧ Mid 0 0 w w' := by
  have hg := hf.gr
  have hl := hg.len
  have hn40 : n ≤ 40 := by have := hg.size; omega
  have HGL := Lib.hid (show ∀ e ∈ es, 1 ≤ e.l ∧ e.l ≤ 3 from fun e he => by have := hg.all e he; have := hg.rank; unfold InG at *; omega)
  have HF := Lib.hid hf
  have HOK := Lib.hid hok
  have hm0 : Mid 0 0 w (w.alloc (.cells #[.int .i64 r, .int .i64 n, .slice A es.length c] 29)) := Mid.alloc _ _
  have b0 := Box.new w #[.int .i64 r, .int .i64 n, .slice A es.length c] 29
  have hib : inB (v : Int) 0 ((n : Int) - 1) = true := by unfold inB; simp; omega
  have hw1 : IntKind.i64.wrap ((n : Int) - 1) = (n : Int) - 1 := IntWalk.i64_in _ (by omega)
  obtain ⟨kk, hkk⟩ : ∃ kk, (rdA es (v : Int) wd).2 = kk := ⟨_, rfl⟩
  have HKK := Lib.hid hkk
  rw [hkk]
  clear hg hok hf hkk
  go_enter Tryz.func61, Tryz.ntmps61
  go_wp2_with fail
  with_reducible refine (spec_IsFolded r n A es c _ _ _ (hr.mid hm0 (Or.inl (Nat.zero_le _))) (by omega) true (iff_of_true rfl HF.out)).mono ?_
  rintro en w1 ⟨rfl, hm1⟩
  replace b0 := b0.mid hm1 (Or.inr (Nat.zero_le _))
  replace hm0 := hm0.trans hm1
  have p0 := b0.cell 0 rfl
  have p1 := b0.cell 1 rfl
  have p2 := b0.cell 2 rfl
  go_wp2_with fail
  with_reducible refine (l1In_at hib _).mono ?_
  rintro en w2 ⟨rfl, rfl⟩
  go_wp2_with fail
  clear p0 p1 p2 hm1
  go_loopw [1, 7] (fun vv iv wr => ∃ (k : Nat) (u : Int), k ≤ wd.length ∧ iv = .int .i64 k ∧ vv = .int .i64 u ∧ Hid (goV es v (wd.take k) = some u) ∧ Box wr w.heap.size [.int .i64 r, .int .i64 n, .slice A es.length c] ∧ Mid 0 0 w wr) (fun _ i _ => wd.length - (intOf i).toNat)
  case atStart => exact ⟨0, v, Nat.zero_le _, rfl, rfl, Lib.hid rfl, b0, hm0⟩
  case round =>
    clear b0 hm0
    obtain ⟨k, u, hk, rfl, rfl, HV, b0, hm⟩ := hrel
    by_cases hlt : k < wd.length
    · obtain ⟨B, off, x, rfl, hbh, hx, hcx⟩ := (hw.mid hm (Or.inl (Nat.zero_le _))).at hlt
      have hxr := HOK.out x (List.mem_of_getElem? hx)
      have hk1 : (k : Int) < (wd.length : Int) := by omega
      have hk0 : (0 : Int) ≤ (k : Int) := by omega
      have HX := Lib.hid hx
      have hBs : B < wr.heap.size := by have := hw.1; have := hm.size; omega
      have k0 := wg_cell b0.1 (b0.cell 0 rfl)
      have k1 := wg_cell b0.1 (b0.cell 1 rfl)
      have k2 := wg_cell b0.1 (b0.cell 2 rfl)
      have k4 := wg_cell hBs hcx
      have hA := fun m os => spec_NextVertex r n A es c u x (wg wr m os) lo hi (hr.mid (hm.trans (Mid.ofWg wr m os)) (Or.inl (Nat.zero_le _))) (by omega) HGL.out (by omega) (by omega)
      clear hx hcx
      go_wp2_with fail
      refine wp_region_quiet_wg (by kernel_rfl) (by kernel_rfl) ?_
      repeat
        (with_reducible refine wpQuiet_step (fun K hK => ?_))
        go_simp
        first
          | ((with_reducible refine hK _ ?_); clear hK K)
          | (rw [if_neg (by decide)]; (with_reducible refine hK _ ?_); clear hK K)
          | (apply Exists.intro; refine ⟨fun _ => ?_, hK _ ?_⟩; ((go_at_call 91; exact Calls.wg_of (hA _ _))); clear hK K)
      with_reducible refine wpQuiet_nil ?_
      intro _ hw'
      obtain ⟨⟨nq, osq⟩, hw''⟩ := hw'
      subst hw''
      have hwg := Mid.ofWg wr nq osq
      generalize wg wr nq osq = w6 at hwg ⊢
      replace b0 := b0.mid hwg (Or.inr (Nat.zero_le _))
      replace hm := hm.trans hwg
      generalize htx : nextV es u x = t
      clear k0 k1 k2 k4 hA
      by_cases ht : t < 0
      · have d1 : decide (t < 0) = true := by simpa using ht
        have hfin := rdA_is HV.out hk (.inr ⟨x, HX.out, by rw [htx]; exact ht⟩)
        have HK : Hid (kk = k) := Lib.hid (by rw [← HKK.out, hfin])
        clear ht htx hfin
        go_wp2_with fail
        go_ret
        exact ⟨by rw [HK.out]; rfl, hm⟩
      · have d1 : decide (t < 0) = false := by simpa using ht
        have HN := Lib.hid (goV_next HV.out HX.out (by rw [htx]; exact ht))
        rw [htx] at HN
        clear ht htx
        go_wp2_with fail
        go_roundw
        case rel => exact ⟨k + 1, t, by omega, by go_num, rfl, HN, b0, hm⟩
        case measure => simp [intOf]; omega
    · obtain rfl : k = wd.length := by omega
      have hfin := rdA_is HV.out hk (.inl rfl)
      have HK : Hid (kk = wd.length) := Lib.hid (by rw [← HKK.out, hfin])
      clear hfin
      go_wp2_with fail
      go_ret
      exact ⟨by rw [HK.out]; rfl, hm⟩
end Go.Proofs.YtgpljoplnecioaaGreat

/- extend and ConjugateSubgroup, the program. -/
namespace Go.Proofs.YtgpljoplnecioaaGreat
set_option linter.unusedVariables false
set_option linter.unusedSimpArgs false
open Go.RowKit

theorem RG_nil {w : World} : RG w 0 w.heap.size none [] := ⟨Nat.le_refl _, fun h => absurd rfl h⟩
theorem ExtIs.full {r s : Int} {es : List Ed} {w : List Int} {b : Bool} {s2 : Int} {es2 : List Ed} {x : Int} (h : ExtIs r s es w b s2 es2 x) (hk : (rdA es 0 w).2 = w.length) : b = true ∧ s2 = s ∧ es2 = es ∧ x = (rdA es 0 w).1 := by
  rcases h with ⟨h1, -, h2⟩ | ⟨-, h1, -⟩ | ⟨-, h1, -⟩
  · exact ⟨h1, h2⟩
  · omega
  · omega
theorem ExtIs.more {r s : Int} {es : List Ed} {w : List Int} {b : Bool} {s2 : Int} {es2 : List Ed} {x : Int} (h : ExtIs r s es w b s2 es2 x) (hk : (rdA es 0 w).2 < w.length) (hp : s < 40 ∧ PathOk r (s + 1) es (rdA es 0 w).1 (w.drop (rdA es 0 w).2) s) :
    b = true ∧ s2 = s + 1 + ((w.drop (rdA es 0 w).2).length : Int) - 1 ∧ es2 = canon (es ++ pathE (rdA es 0 w).1 (s + 1) (w.drop (rdA es 0 w).2) s (w.drop (rdA es 0 w).2).length) ∧ x = s := by
  rcases h with ⟨-, h1, -⟩ | ⟨h1, -, -, -, h2⟩ | ⟨-, -, h1, -⟩
  · omega
  · exact ⟨h1, h2⟩
  · exact absurd hp h1
theorem ExtIs.not {r s : Int} {es : List Ed} {w : List Int} {b : Bool} {s2 : Int} {es2 : List Ed} {x : Int} (h : ExtIs r s es w b s2 es2 x) (hk : (rdA es 0 w).2 < w.length) (hp : ¬ (s < 40 ∧ PathOk r (s + 1) es (rdA es 0 w).1 (w.drop (rdA es 0 w).2) s)) :
    b = false ∧ s2 = 0 ∧ es2 = [] ∧ x = 0 := by
  rcases h with ⟨-, h1, -⟩ | ⟨-, -, h1, h2, -⟩ | ⟨h1, -, -, h2⟩
  · omega
  · exact absurd ⟨h1, h2⟩ hp
  · exact ⟨h1, h2⟩

set_option maxHeartbeats 3200000 in
set_option maxRecDepth 20000 in
theorem impl_extend (r n : Nat) (A : Option Addr) (es : List Ed) (c : Nat) (Aw : Option Addr) (wd : List Int) (cw : Nat) (w : World) (lo hi lo' hi' : Nat) (hr : RG w lo hi A es) (hw : RV w lo' hi' Aw (ints wd)) (hcl : es.length ≤ c) (hcw : wd.length ≤ cw) (hg : IsGr r n es) (hwl : wd.length ≤ 1048576) (hok : OkI wd)
    (b : Bool) (s2 : Int) (es2 : List Ed) (x : Int) (hres : ExtIs r n es wd b s2 es2 x) :
    Calls Tryz.prog 66 #[graV r n A es.length c, .slice Aw wd.length cw] w fun e w' => ∃ (A1 : Option Addr) (c1 : Nat) (rr : Int), e = .returned (.tuple #[graV rr s2 A1 es2.length c1, .int .i64 x, .bool b]) ∧ rr = (if b = true then (r : Int) else 0) ∧ RG w' 0 w'.heap.size A1 es2 ∧ es2.length ≤ c1 ∧ Mid 0 0 w w' := by
  have hm0 : Mid 0 0 w ((w.alloc (.cells #[.int .i64 r, .int .i64 n, .slice A es.length c] 29)).alloc (.cells #[.int .i64 0, .int .i64 0, .slice none 0 0] 29)) := (Mid.alloc _ _).trans (Mid.alloc _ _)
  have b0 := (Box.new w #[.int .i64 r, .int .i64 n, .slice A es.length c] 29).mid (Mid.alloc _ (.cells #[.int .i64 0, .int .i64 0, .slice none 0 0] 29)) (Or.inr (Nat.zero_le _))
  have b2 := Box.new (w.alloc (.cells #[.int .i64 r, .int .i64 n, .slice A es.length c] 29)) #[.int .i64 0, .int .i64 0, .slice none 0 0] 29
  simp only [World.size_alloc] at b2
  have hl := hg.len
  have hn40 : 1 ≤ n ∧ n ≤ 40 := by have := hg.size; omega
  have HG := Lib.hid hg
  have HOK := Lib.hid hok
  have HR := Lib.hid hres
  clear hg hok hres
  go_enter Tryz.func66, Tryz.ntmps66
  go_wp2_with fail
  generalize ((w.alloc (.cells #[.int .i64 r, .int .i64 n, .slice A es.length c] 29)).alloc (.cells #[.int .i64 0, .int .i64 0, .slice none 0 0] 29)) = w1 at hm0 b0 b2 ⊢
  have hs1 : w.heap.size + 1 < w1.heap.size := b2.1
  with_reducible refine (impl_read r n A es c 0 Aw wd cw w1 _ _ _ _ (hr.mid hm0 (Or.inl (Nat.zero_le _))) (hw.mid hm0 (Or.inl (Nat.zero_le _))) HG.out hwl HOK.out).mono ?_
  rintro en w2 ⟨u, k, rfl, hk, hgo, hend, hm2⟩
  have hrd : rdA es 0 wd = (u, k) := rdA_is hgo hk hend
  have hk2 : (rdA es 0 wd).2 = k := by rw [hrd]
  have hk1 : (rdA es 0 wd).1 = u := by rw [hrd]
  have hu := rdA_in HG.out.all wd (v := 0) (by omega)
  rw [hk1] at hu
  have HK1 := Lib.hid hk1
  have HK2 := Lib.hid hk2
  clear hgo hend hrd hk1 hk2
  replace b0 := b0.mid hm2 (Or.inr (Nat.zero_le _))
  replace b2 := b2.mid hm2 (Or.inr (Nat.zero_le _))
  replace hm0 := hm0.trans hm2
  have hs2 := hm2.size
  clear hm2
  rcases Nat.lt_or_ge k wd.length with hlt | hge
  · have dk : ((k : Int) == (wd.length : Int)) = false := by simp only [beq_eq_false_iff_ne]; omega
    have hdl : (wd.drop k).length = wd.length - k := List.length_drop
    have hcase : Hid ((n < 40 ∧ PathOk r ((n : Int) + 1) es u (wd.drop k) n) ∨ ¬ (n < 40 ∧ PathOk r ((n : Int) + 1) es u (wd.drop k) n)) := Lib.hid (Classical.em _)
    have p0 := b0.cell 0 rfl
    have p1 := b0.cell 1 rfl
    have p2 := b0.cell 2 rfl
    go_wp2_with fail
    by_cases h40 : n < 40
    · have hav : AvIs r n es ((n : Int) + 1) true := .inl ⟨rfl, ⟨HG.out, by omega⟩, rfl⟩
      with_reducible refine (impl_AddVertex r n A es c w2 _ _ (hr.mid hm0 (Or.inl (Nat.zero_le _))) (by omega) ((n : Int) + 1) true hav).mono ?_
      rintro en w4 ⟨A4, c4, rfl, ho4, hm4⟩
      have hs4 := hm4.size
      have ha4 := Mid.alloc w4 (.cells #[.int .i64 r, .int .i64 ((n : Int) + 1), .slice A4 es.length c4] 29)
      have Y4 := Box.new w4 #[.int .i64 r, .int .i64 ((n : Int) + 1), .slice A4 es.length c4] 29
      replace b0 := b0.mid hm4 (Or.inr (Nat.zero_le _))
      replace b2 := b2.mid hm4 (Or.inr (Nat.zero_le _))
      replace hm0 := hm0.trans hm4
      have hb4 : w.heap.size + 1 < w4.heap.size := b2.1
      replace b0 := b0.mid ha4 (Or.inr (Nat.zero_le _))
      replace b2 := b2.mid ha4 (Or.inr (Nat.zero_le _))
      replace ho4 := ho4.mid ha4 (Or.inl (Nat.zero_le _))
      replace hm0 := hm0.trans ha4
      have hsa := ha4.size
      clear p0 p1 p2 ha4 hav
      have p0 := b0.cell 0 rfl
      have p1 := b0.cell 1 rfl
      have p2 := b0.cell 2 rfl
      go_wp2_with fail
      generalize w4.alloc (.cells #[.int .i64 r, .int .i64 ((n : Int) + 1), .slice A4 es.length c4] 29) = w5 at b0 b2 Y4 ho4 hm0 hsa p0 p1 p2 ⊢
      have hG5 : w4.heap.size < w5.heap.size := Y4.1
      obtain ⟨rs2, res2, bb, hPI⟩ := PathIs_ex (r : Int) ((n : Int) + 1) es u (wd.drop k) n
      have HPI := Lib.hid hPI
      clear hPI
      obtain ⟨Bw, ow, rfl⟩ : ∃ Bw ow, Aw = some ⟨Bw, ow, none⟩ := by
        obtain ⟨B, off, y, h1, -⟩ := hw.at hlt
        exact ⟨B, off, h1⟩
      have hmd := Mid.drew1 w5
      have hsd := hmd.size
      replace b0 := b0.mid hmd (Or.inr (Nat.zero_le _))
      replace b2 := b2.mid hmd (Or.inr (Nat.zero_le _))
      replace Y4 := Y4.mid hmd (Or.inr (Nat.zero_le _))
      replace ho4 := ho4.mid hmd (Or.inl (Nat.zero_le _))
      replace hm0 := hm0.trans hmd
      clear p0 p1 p2
      have y0 := Y4.cell 0 rfl
      have y1 := Y4.cell 1 rfl
      have y2 := Y4.cell 2 rfl
      have hdo : OkI (wd.drop k) := fun q hq => HOK.out q (List.mem_of_mem_drop hq)
      have hkc : k ≤ cw := by omega
      have hck : ¬ cw = k := by omega
      have hP := fun W (h1 : RG W w2.heap.size w4.heap.size A4 es) (h2 : RV W lo' hi' (some ⟨Bw, ow + k, none⟩) (ints (wd.drop k))) => impl_AddPath r ((n : Int) + 1) A4 es c4 u (some ⟨Bw, ow + k, none⟩) (wd.drop k) (cw - k) n W _ _ _ _ h1 h2 (by omega) (by omega) hdo rs2 res2 bb HPI.out
      rw [hdl] at hP
      have HP := Lib.hid hP
      have HDO := Lib.hid hdo
      have HDL := Lib.hid hdl
      clear hP hdo hdl
      refine wp_region_Z (S := (fun w' => w'.cell? ⟨w4.heap.size, 0, none⟩ = some (.int .i64 r) ∧ w'.cell? ⟨w4.heap.size, 1, none⟩ = some (.int .i64 ((n : Int) + 1)) ∧ w'.cell? ⟨w4.heap.size, 2, none⟩ = some (.slice A4 es.length c4))) [9, 10, 11] (by kernel_rfl) ⟨y0, y1, y2⟩ ?_
      generalize World.drew w5 = wz at b0 b2 Y4 ho4 hm0 y0 y1 y2 hsd ⊢
      have hS : wz.cell? ⟨w4.heap.size, 0, none⟩ = some (.int .i64 r) ∧ wz.cell? ⟨w4.heap.size, 1, none⟩ = some (.int .i64 ((n : Int) + 1)) ∧ wz.cell? ⟨w4.heap.size, 2, none⟩ = some (.slice A4 es.length c4) := ⟨y0, y1, y2⟩
      refine wpAnyZ_takeC [6, 7, 8, 9, 10, 11] (i := 0) (v := ?_) rfl (by kernel_rfl) (by kernel_rfl) (by kernel_rfl) (by kernel_rfl) (fun _ _ _ h => h) (Or.inl ⟨by rfl, ?_⟩) hS ?_
      rotate_left
      focus (intro w hSw; (try dsimp only at hSw); go_simp; try with_reducible rfl)
      try simp only [Act.put, List.setIfInBounds_toArray, List.set_cons_zero, List.set_cons_succ, List.getElem_toArray, List.getElem_cons_zero, List.getElem_cons_succ]
      refine wpAnyZ_takeC [6, 7, 8, 9, 10, 11] (i := 1) (v := ?_) rfl (by kernel_rfl) (by kernel_rfl) (by kernel_rfl) (by kernel_rfl) (fun _ _ _ h => h) (Or.inl ⟨by rfl, ?_⟩) hS ?_
      rotate_left
      focus (intro w hSw; (try dsimp only at hSw); go_simp; try with_reducible rfl)
      try simp only [Act.put, List.setIfInBounds_toArray, List.set_cons_zero, List.set_cons_succ, List.getElem_toArray, List.getElem_cons_zero, List.getElem_cons_succ]
      refine wpAnyZ_takeC [4, 6, 7, 8, 9, 10, 11] (i := 2) (v := ?_) rfl (by kernel_rfl) (by kernel_rfl) (by kernel_rfl) (by kernel_rfl) (fun _ _ _ h => h) (Or.inl ⟨by rfl, ?_⟩) hS ?_
      rotate_left
      focus (intro w hSw; (try dsimp only at hSw); go_simp; try with_reducible rfl)
      try simp only [Act.put, List.setIfInBounds_toArray, List.set_cons_zero, List.set_cons_succ, List.getElem_toArray, List.getElem_cons_zero, List.getElem_cons_succ]
      refine wpAnyZ_takeC [4, 6, 7, 8, 9, 10, 11] (i := 3) (v := ?_) rfl (by kernel_rfl) (by kernel_rfl) (by kernel_rfl) (by kernel_rfl) (fun _ _ _ h => h) (Or.inl ⟨by rfl, ?_⟩) hS ?_
      rotate_left
      focus (intro w hSw; (try dsimp only at hSw); go_simp; try with_reducible rfl)
      try simp only [Act.put, List.setIfInBounds_toArray, List.set_cons_zero, List.set_cons_succ, List.getElem_toArray, List.getElem_cons_zero, List.getElem_cons_succ]
      refine wpAnyZ_takeC [6, 7, 8, 9, 10, 11] (i := 4) (v := ?_) rfl (by kernel_rfl) (by kernel_rfl) (by kernel_rfl) (by kernel_rfl) (fun _ _ _ h => h) (Or.inl ⟨by rfl, ?_⟩) hS ?_
      rotate_left
      focus (intro w hSw; (try dsimp only at hSw); go_simp; try with_reducible rfl)
      try simp only [Act.put, List.setIfInBounds_toArray, List.set_cons_zero, List.set_cons_succ, List.getElem_toArray, List.getElem_cons_zero, List.getElem_cons_succ]
      refine wpAnyZ_takeC [6, 7, 8, 9, 10, 11] (i := 5) (v := ?_) rfl (by kernel_rfl) (by kernel_rfl) (by kernel_rfl) (by kernel_rfl) (fun _ _ _ h => h) (Or.inl ⟨by rfl, ?_⟩) hS ?_
      rotate_left
      focus (intro w hSw; (try dsimp only at hSw); go_simp; try with_reducible rfl)
      try simp only [Act.put, List.setIfInBounds_toArray, List.set_cons_zero, List.set_cons_succ, List.getElem_toArray, List.getElem_cons_zero, List.getElem_cons_succ]
      refine wpAnyZ_ready (rs := [6]) (by kernel_rfl) (by simp) (AllReadyZ.cons rfl (fun K hK => ?_) AllReadyZ.nil)
      (go_simp; (with_reducible refine (HP.out _ ho4.rg ((hw.mid hm0 (Or.inl (Nat.zero_le _))).dropI k)).mono ?_); rintro en w6 ⟨A6, c6, rfl, ho6, hm6⟩; have Y6 := Y4.mid hm6 (Or.inr (Nat.zero_le _)); go_wp2_with fail)
      refine hK.out _ _ (Or.inr ⟨Y6.cell 0 rfl, Y6.cell 1 rfl, Y6.cell 2 rfl⟩) (fun _ => ?_)
      clear hK K
      try simp only [Act.put, List.setIfInBounds_toArray, List.set_cons_zero, List.set_cons_succ, List.getElem_toArray, List.getElem_cons_zero, List.getElem_cons_succ]
      replace b0 := b0.mid hm6 (Or.inr (Nat.zero_le _))
      replace b2 := b2.mid hm6 (Or.inr (Nat.zero_le _))
      replace hm0 := hm0.trans hm6
      have hs6 := hm6.size
      have hS6 := And.intro (Y6.cell 0 rfl) (And.intro (Y6.cell 1 rfl) (Y6.cell 2 rfl))
      clear Y4 hS y0 y1 y2 ho4 hm6 HP
      have yf := Y6.2.2
      have y0 := Y6.cell 0 rfl
      have y1 := Y6.cell 1 rfl
      have y2 := Y6.cell 2 rfl
      refine wpAnyZ_takeC [8, 9, 10, 11] (i := 7) (v := ?_) rfl (by kernel_rfl) (by kernel_rfl) (by kernel_rfl) (by kernel_rfl) (fun _ _ _ h => h) (Or.inl ⟨by rfl, ?_⟩) hS6 ?_
      rotate_left
      focus (intro w hSw; (try dsimp only at hSw); go_simp; try with_reducible rfl)
      try simp only [Act.put, List.setIfInBounds_toArray, List.set_cons_zero, List.set_cons_succ, List.getElem_toArray, List.getElem_cons_zero, List.getElem_cons_succ]
      refine wpAnyZ_ready (rs := [8,9]) (by kernel_rfl) (by simp) (AllReadyZ.cons rfl (fun K hK => ?_) (AllReadyZ.cons rfl (fun K hK => ?_) AllReadyZ.nil))
      · go_simp
        refine hK.out _ _ (Or.inr hS6) (fun _ => ?_)
        clear hK K
        try simp only [Act.put, List.setIfInBounds_toArray, List.set_cons_zero, List.set_cons_succ, List.getElem_toArray, List.getElem_cons_zero, List.getElem_cons_succ]
        refine wpAnyZ_ready (rs := [9,10]) (by kernel_rfl) (by simp) (AllReadyZ.cons rfl (fun K hK => ?_) (AllReadyZ.cons rfl (fun K hK => ?_) AllReadyZ.nil))
        · go_simp
          refine hK.out _ _ (Or.inl (by simp)) (fun _ => ?_)
          clear hK K
          try simp only [Act.put, List.setIfInBounds_toArray, List.set_cons_zero, List.set_cons_succ, List.getElem_toArray, List.getElem_cons_zero, List.getElem_cons_succ]
          refine wpAnyZ_ready (rs := [10]) (by kernel_rfl) (by simp) (AllReadyZ.cons rfl (fun K hK => ?_) AllReadyZ.nil)
          go_simp
          refine hK.out _ _ (Or.inl (by simp)) (fun _ => ?_)
          clear hK K
          try simp only [Act.put, List.setIfInBounds_toArray, List.set_cons_zero, List.set_cons_succ, List.getElem_toArray, List.getElem_cons_zero, List.getElem_cons_succ]
          refine wpAnyZ_ready (rs := [11]) (by kernel_rfl) (by simp) (AllReadyZ.cons rfl (fun K hK => ?_) AllReadyZ.nil)
          go_simp
          refine hK.out _ _ (Or.inl (by simp)) (fun _ => ?_)
          clear hK K
          try simp only [Act.put, List.setIfInBounds_toArray, List.set_cons_zero, List.set_cons_succ, List.getElem_toArray, List.getElem_cons_zero, List.getElem_cons_succ]
          refine wpAnyZ_done (by kernel_rfl) ?_ _
          have hst := ((Mid.setCell w6 (lo := w4.heap.size) (hi := w4.heap.size + 1) (p := ⟨w4.heap.size, 0, none⟩) (.int .i64 r) (Nat.le_refl _) (Nat.lt_succ_self _)).trans (Mid.setCell _ (lo := w4.heap.size) (hi := w4.heap.size + 1) (p := ⟨w4.heap.size, 1, none⟩) (.int .i64 rs2) (Nat.le_refl _) (Nat.lt_succ_self _))).trans (Mid.setCell _ (lo := w4.heap.size) (hi := w4.heap.size + 1) (p := ⟨w4.heap.size, 2, none⟩) (.slice A6 res2.length c6) (Nat.le_refl _) (Nat.lt_succ_self _))
          have V2 := b2.mid hst (Or.inl (by omega))
          have Y7 := ((Y6.set 0 (.int .i64 r) (by simp) rfl).set 1 (.int .i64 rs2) (by simp) rfl).set 2 (.slice A6 res2.length c6) (by simp) rfl
          simp only [List.set_cons_succ, List.set_cons_zero] at Y7
          have ho7 := ho6.mid hst (Or.inl (by omega))
          have hm7 := ((hm0.storeNew (p := ⟨w4.heap.size, 0, none⟩) (by show w.heap.size ≤ w4.heap.size; omega) (.int .i64 r)).storeNew (p := ⟨w4.heap.size, 1, none⟩) (by show w.heap.size ≤ w4.heap.size; omega) (.int .i64 rs2)).storeNew (p := ⟨w4.heap.size, 2, none⟩) (by show w.heap.size ≤ w4.heap.size; omega) (.slice A6 res2.length c6)
          have hc6 := ho6.cnt.1
          clear Y6 yf y0 y1 y2 hS6 b0 b2 hm0 ho6 hst
          generalize ((w6.setCell ⟨w4.heap.size, 0, none⟩ (.int .i64 r)).setCell ⟨w4.heap.size, 1, none⟩ (.int .i64 rs2)).setCell ⟨w4.heap.size, 2, none⟩ (.slice A6 res2.length c6) = w7 at V2 Y7 ho7 hm7 ⊢
          have z0 := V2.cell 0 rfl
          have z1 := V2.cell 1 rfl
          have z2 := V2.cell 2 rfl
          have zf := V2.2.2
          have hpi := HPI.out
          cases bb with
          | true =>
            rcases hpi with ⟨-, hok, hrs, hre⟩ | ⟨h, -⟩
            · obtain ⟨rfl, h2, h3, rfl⟩ := HR.out.more (by rw [HK2.out]; exact hlt) (by rw [HK1.out, HK2.out]; exact ⟨by omega, hok⟩)
              rw [HK2.out] at h2
              rw [HK1.out, HK2.out] at h3
              have hse : s2 = rs2 := h2.trans hrs.symm
              have hee : es2 = res2 := h3.trans hre.symm
              clear h2 h3 hrs hre hok HR HPI
              subst hse
              subst res2
              have y0 := Y7.cell 0 rfl
              have y1 := Y7.cell 1 rfl
              have y2 := Y7.cell 2 rfl
              go_wp2_with fail
              have hcl : (w.heap.size + 1 == w4.heap.size) = false := by simp; omega
              refine bodyPost_ret (v := .tuple #[.agg #[.int .i64 r, .int .i64 s2, .slice A6 es2.length c6], .int .i64 n, .bool true]) (by simp [results, Tryz.results66, go_sem, z0, z1, z2, zf, y0, y1, y2]) rfl ⟨A6, c6, r, rfl, rfl, ?_, hc6, ?_⟩
              · refine RG.wide (RG.mid ho7.rg (a := w.heap.size) (b := w.heap.size + 2) ?_ (Or.inl (by omega))) (Nat.zero_le _) (by have := ho7.size; simp at this ⊢; omega) (Nat.le_refl _)
                repeat (first | exact Mid.refl _ _ _ | refine Mid.stored ?_ _ (by simp; try omega) (by simp; try omega))
              · repeat (first | exact hm7 | refine Mid.storeNew ?_ (by simp; try omega) _)
            · cases h
          | false =>
            rcases hpi with ⟨h, -⟩ | ⟨-, hno, -, -⟩
            · cases h
            · obtain ⟨rfl, rfl, rfl, rfl⟩ := HR.out.not (by rw [HK2.out]; exact hlt) (by rw [HK1.out, HK2.out]; exact fun h => hno h.2)
              clear hno HR HPI
              go_wp2_with fail
              refine bodyPost_ret (v := .tuple #[.agg #[.int .i64 0, .int .i64 0, .slice none 0 0], .int .i64 0, .bool false]) (by simp [results, Tryz.results66, go_sem, z0, z1, z2, zf]) rfl ⟨none, 0, 0, rfl, rfl, RG_nil, ?_⟩
              repeat (first | exact hm7 | refine Mid.trans ?_ (Mid.alloc _ _) | refine Mid.storeNew ?_ (by simp; try omega) _)
        · go_simp
          refine hK.out _ _ (Or.inl (by simp)) (fun _ => ?_)
          clear hK K
          try simp only [Act.put, List.setIfInBounds_toArray, List.set_cons_zero, List.set_cons_succ, List.getElem_toArray, List.getElem_cons_zero, List.getElem_cons_succ]
          refine wpAnyZ_ready (rs := [9]) (by kernel_rfl) (by simp) (AllReadyZ.cons rfl (fun K hK => ?_) AllReadyZ.nil)
          go_simp
          refine hK.out _ _ (Or.inl (by simp)) (fun _ => ?_)
          clear hK K
          try simp only [Act.put, List.setIfInBounds_toArray, List.set_cons_zero, List.set_cons_succ, List.getElem_toArray, List.getElem_cons_zero, List.getElem_cons_succ]
          refine wpAnyZ_ready (rs := [11]) (by kernel_rfl) (by simp) (AllReadyZ.cons rfl (fun K hK => ?_) AllReadyZ.nil)
          go_simp
          refine hK.out _ _ (Or.inl (by simp)) (fun _ => ?_)
          clear hK K
          try simp only [Act.put, List.setIfInBounds_toArray, List.set_cons_zero, List.set_cons_succ, List.getElem_toArray, List.getElem_cons_zero, List.getElem_cons_succ]
          refine wpAnyZ_done (by kernel_rfl) ?_ _
          have hst := ((Mid.setCell w6 (lo := w4.heap.size) (hi := w4.heap.size + 1) (p := ⟨w4.heap.size, 0, none⟩) (.int .i64 r) (Nat.le_refl _) (Nat.lt_succ_self _)).trans (Mid.setCell _ (lo := w4.heap.size) (hi := w4.heap.size + 1) (p := ⟨w4.heap.size, 1, none⟩) (.int .i64 rs2) (Nat.le_refl _) (Nat.lt_succ_self _))).trans (Mid.setCell _ (lo := w4.heap.size) (hi := w4.heap.size + 1) (p := ⟨w4.heap.size, 2, none⟩) (.slice A6 res2.length c6) (Nat.le_refl _) (Nat.lt_succ_self _))
          have V2 := b2.mid hst (Or.inl (by omega))
          have Y7 := ((Y6.set 0 (.int .i64 r) (by simp) rfl).set 1 (.int .i64 rs2) (by simp) rfl).set 2 (.slice A6 res2.length c6) (by simp) rfl
          simp only [List.set_cons_succ, List.set_cons_zero] at Y7
          have ho7 := ho6.mid hst (Or.inl (by omega))
          have hm7 := ((hm0.storeNew (p := ⟨w4.heap.size, 0, none⟩) (by show w.heap.size ≤ w4.heap.size; omega) (.int .i64 r)).storeNew (p := ⟨w4.heap.size, 1, none⟩) (by show w.heap.size ≤ w4.heap.size; omega) (.int .i64 rs2)).storeNew (p := ⟨w4.heap.size, 2, none⟩) (by show w.heap.size ≤ w4.heap.size; omega) (.slice A6 res2.length c6)
          have hc6 := ho6.cnt.1
          clear Y6 yf y0 y1 y2 hS6 b0 b2 hm0 ho6 hst
          generalize ((w6.setCell ⟨w4.heap.size, 0, none⟩ (.int .i64 r)).setCell ⟨w4.heap.size, 1, none⟩ (.int .i64 rs2)).setCell ⟨w4.heap.size, 2, none⟩ (.slice A6 res2.length c6) = w7 at V2 Y7 ho7 hm7 ⊢
          have z0 := V2.cell 0 rfl
          have z1 := V2.cell 1 rfl
          have z2 := V2.cell 2 rfl
          have zf := V2.2.2
          have hpi := HPI.out
          cases bb with
          | true =>
            rcases hpi with ⟨-, hok, hrs, hre⟩ | ⟨h, -⟩
            · obtain ⟨rfl, h2, h3, rfl⟩ := HR.out.more (by rw [HK2.out]; exact hlt) (by rw [HK1.out, HK2.out]; exact ⟨by omega, hok⟩)
              rw [HK2.out] at h2
              rw [HK1.out, HK2.out] at h3
              have hse : s2 = rs2 := h2.trans hrs.symm
              have hee : es2 = res2 := h3.trans hre.symm
              clear h2 h3 hrs hre hok HR HPI
              subst hse
              subst res2
              have y0 := Y7.cell 0 rfl
              have y1 := Y7.cell 1 rfl
              have y2 := Y7.cell 2 rfl
              go_wp2_with fail
              have hcl : (w.heap.size + 1 == w4.heap.size) = false := by simp; omega
              refine bodyPost_ret (v := .tuple #[.agg #[.int .i64 r, .int .i64 s2, .slice A6 es2.length c6], .int .i64 n, .bool true]) (by simp [results, Tryz.results66, go_sem, z0, z1, z2, zf, y0, y1, y2]) rfl ⟨A6, c6, r, rfl, rfl, ?_, hc6, ?_⟩
              · refine RG.wide (RG.mid ho7.rg (a := w.heap.size) (b := w.heap.size + 2) ?_ (Or.inl (by omega))) (Nat.zero_le _) (by have := ho7.size; simp at this ⊢; omega) (Nat.le_refl _)
                repeat (first | exact Mid.refl _ _ _ | refine Mid.stored ?_ _ (by simp; try omega) (by simp; try omega))
              · repeat (first | exact hm7 | refine Mid.storeNew ?_ (by simp; try omega) _)
            · cases h
          | false =>
            rcases hpi with ⟨h, -⟩ | ⟨-, hno, -, -⟩
            · cases h
            · obtain ⟨rfl, rfl, rfl, rfl⟩ := HR.out.not (by rw [HK2.out]; exact hlt) (by rw [HK1.out, HK2.out]; exact fun h => hno h.2)
              clear hno HR HPI
              go_wp2_with fail
              refine bodyPost_ret (v := .tuple #[.agg #[.int .i64 0, .int .i64 0, .slice none 0 0], .int .i64 0, .bool false]) (by simp [results, Tryz.results66, go_sem, z0, z1, z2, zf]) rfl ⟨none, 0, 0, rfl, rfl, RG_nil, ?_⟩
              repeat (first | exact hm7 | refine Mid.trans ?_ (Mid.alloc _ _) | refine Mid.storeNew ?_ (by simp; try omega) _)
      · go_simp
        refine hK.out _ _ (Or.inl (by simp)) (fun _ => ?_)
        clear hK K
        try simp only [Act.put, List.setIfInBounds_toArray, List.set_cons_zero, List.set_cons_succ, List.getElem_toArray, List.getElem_cons_zero, List.getElem_cons_succ]
        refine wpAnyZ_ready (rs := [8]) (by kernel_rfl) (by simp) (AllReadyZ.cons rfl (fun K hK => ?_) AllReadyZ.nil)
        go_simp
        refine hK.out _ _ (Or.inr hS6) (fun _ => ?_)
        clear hK K
        try simp only [Act.put, List.setIfInBounds_toArray, List.set_cons_zero, List.set_cons_succ, List.getElem_toArray, List.getElem_cons_zero, List.getElem_cons_succ]
        refine wpAnyZ_ready (rs := [10]) (by kernel_rfl) (by simp) (AllReadyZ.cons rfl (fun K hK => ?_) AllReadyZ.nil)
        go_simp
        refine hK.out _ _ (Or.inl (by simp)) (fun _ => ?_)
        clear hK K
        try simp only [Act.put, List.setIfInBounds_toArray, List.set_cons_zero, List.set_cons_succ, List.getElem_toArray, List.getElem_cons_zero, List.getElem_cons_succ]
        refine wpAnyZ_ready (rs := [11]) (by kernel_rfl) (by simp) (AllReadyZ.cons rfl (fun K hK => ?_) AllReadyZ.nil)
        go_simp
        refine hK.out _ _ (Or.inl (by simp)) (fun _ => ?_)
        clear hK K
        try simp only [Act.put, List.setIfInBounds_toArray, List.set_cons_zero, List.set_cons_succ, List.getElem_toArray, List.getElem_cons_zero, List.getElem_cons_succ]
        refine wpAnyZ_done (by kernel_rfl) ?_ _
        have hst := ((Mid.setCell w6 (lo := w4.heap.size) (hi := w4.heap.size + 1) (p := ⟨w4.heap.size, 0, none⟩) (.int .i64 r) (Nat.le_refl _) (Nat.lt_succ_self _)).trans (Mid.setCell _ (lo := w4.heap.size) (hi := w4.heap.size + 1) (p := ⟨w4.heap.size, 1, none⟩) (.int .i64 rs2) (Nat.le_refl _) (Nat.lt_succ_self _))).trans (Mid.setCell _ (lo := w4.heap.size) (hi := w4.heap.size + 1) (p := ⟨w4.heap.size, 2, none⟩) (.slice A6 res2.length c6) (Nat.le_refl _) (Nat.lt_succ_self _))
        have V2 := b2.mid hst (Or.inl (by omega))
        have Y7 := ((Y6.set 0 (.int .i64 r) (by simp) rfl).set 1 (.int .i64 rs2) (by simp) rfl).set 2 (.slice A6 res2.length c6) (by simp) rfl
        simp only [List.set_cons_succ, List.set_cons_zero] at Y7
        have ho7 := ho6.mid hst (Or.inl (by omega))
        have hm7 := ((hm0.storeNew (p := ⟨w4.heap.size, 0, none⟩) (by show w.heap.size ≤ w4.heap.size; omega) (.int .i64 r)).storeNew (p := ⟨w4.heap.size, 1, none⟩) (by show w.heap.size ≤ w4.heap.size; omega) (.int .i64 rs2)).storeNew (p := ⟨w4.heap.size, 2, none⟩) (by show w.heap.size ≤ w4.heap.size; omega) (.slice A6 res2.length c6)
        have hc6 := ho6.cnt.1
        clear Y6 yf y0 y1 y2 hS6 b0 b2 hm0 ho6 hst
        generalize ((w6.setCell ⟨w4.heap.size, 0, none⟩ (.int .i64 r)).setCell ⟨w4.heap.size, 1, none⟩ (.int .i64 rs2)).setCell ⟨w4.heap.size, 2, none⟩ (.slice A6 res2.length c6) = w7 at V2 Y7 ho7 hm7 ⊢
        have z0 := V2.cell 0 rfl
        have z1 := V2.cell 1 rfl
        have z2 := V2.cell 2 rfl
        have zf := V2.2.2
        have hpi := HPI.out
        cases bb with
        | true =>
          rcases hpi with ⟨-, hok, hrs, hre⟩ | ⟨h, -⟩
          · obtain ⟨rfl, h2, h3, rfl⟩ := HR.out.more (by rw [HK2.out]; exact hlt) (by rw [HK1.out, HK2.out]; exact ⟨by omega, hok⟩)
            rw [HK2.out] at h2
            rw [HK1.out, HK2.out] at h3
            have hse : s2 = rs2 := h2.trans hrs.symm
            have hee : es2 = res2 := h3.trans hre.symm
            clear h2 h3 hrs hre hok HR HPI
            subst hse
            subst res2
            have y0 := Y7.cell 0 rfl
            have y1 := Y7.cell 1 rfl
            have y2 := Y7.cell 2 rfl
            go_wp2_with fail
            have hcl : (w.heap.size + 1 == w4.heap.size) = false := by simp; omega
            refine bodyPost_ret (v := .tuple #[.agg #[.int .i64 r, .int .i64 s2, .slice A6 es2.length c6], .int .i64 n, .bool true]) (by simp [results, Tryz.results66, go_sem, z0, z1, z2, zf, y0, y1, y2]) rfl ⟨A6, c6, r, rfl, rfl, ?_, hc6, ?_⟩
            · refine RG.wide (RG.mid ho7.rg (a := w.heap.size) (b := w.heap.size + 2) ?_ (Or.inl (by omega))) (Nat.zero_le _) (by have := ho7.size; simp at this ⊢; omega) (Nat.le_refl _)
              repeat (first | exact Mid.refl _ _ _ | refine Mid.stored ?_ _ (by simp; try omega) (by simp; try omega))
            · repeat (first | exact hm7 | refine Mid.storeNew ?_ (by simp; try omega) _)
          · cases h
        | false =>
          rcases hpi with ⟨h, -⟩ | ⟨-, hno, -, -⟩
          · cases h
          · obtain ⟨rfl, rfl, rfl, rfl⟩ := HR.out.not (by rw [HK2.out]; exact hlt) (by rw [HK1.out, HK2.out]; exact fun h => hno h.2)
            clear hno HR HPI
            go_wp2_with fail
            refine bodyPost_ret (v := .tuple #[.agg #[.int .i64 0, .int .i64 0, .slice none 0 0], .int .i64 0, .bool false]) (by simp [results, Tryz.results66, go_sem, z0, z1, z2, zf]) rfl ⟨none, 0, 0, rfl, rfl, RG_nil, ?_⟩
            repeat (first | exact hm7 | refine Mid.trans ?_ (Mid.alloc _ _) | refine Mid.storeNew ?_ (by simp; try omega) _)
    · obtain rfl : n = 40 := by omega
      have hav : AvIs r ((40 : Nat) : Int) es ((40 : Nat) : Int) false := .inr ⟨rfl, fun h => by have := h.2; omega, rfl⟩
      obtain ⟨rfl, rfl, rfl, rfl⟩ := HR.out.not (by rw [HK2.out]; exact hlt) (fun h => by have := h.1; omega)
      with_reducible refine (impl_AddVertex r ((40 : Nat) : Int) A es c w2 _ _ (hr.mid hm0 (Or.inl (Nat.zero_le _))) (by omega) ((40 : Nat) : Int) false hav).mono ?_
      rintro en w4 ⟨A4, c4, rfl, ho4, hm4⟩
      replace b2 := b2.mid hm4 (Or.inr (Nat.zero_le _))
      replace hm0 := hm0.trans hm4
      have hb23 : w.heap.size + 1 < w4.heap.size := b2.1
      have hb22 : w.heap.size < w4.heap.size := by omega
      have z0 := b2.cell 0 rfl
      have z1 := b2.cell 1 rfl
      have z2 := b2.cell 2 rfl
      have zf := b2.2.2
      clear p0 p1 p2 hav HR
      go_wp2_with fail
      refine bodyPost_ret (v := .tuple #[.agg #[.int .i64 0, .int .i64 0, .slice none 0 0], .int .i64 0, .bool false]) (by simp [results, Tryz.results66, go_sem, z0, z1, z2, zf, hb22, hb23, World.cell?_alloc_lt]) rfl ⟨none, 0, 0, rfl, rfl, RG_nil, ?_⟩
      repeat (first | exact hm0 | refine Mid.trans ?_ (Mid.alloc _ _) | refine Mid.storeNew ?_ (by simp; try omega) _)
  · obtain rfl : k = wd.length := by omega
    obtain ⟨rfl, rfl, rfl, hxu⟩ := HR.out.full HK2.out
    rw [HK1.out] at hxu
    subst hxu
    have hr2 := hr.mid hm0 (Or.inl (Nat.zero_le _))
    have p0 := b0.cell 0 rfl
    have p1 := b0.cell 1 rfl
    have p2 := b0.cell 2 rfl
    have z0 := b2.cell 0 rfl
    have z1 := b2.cell 1 rfl
    have z2 := b2.cell 2 rfl
    have zf := b2.2.2
    clear HR
    go_wp2_with fail
    refine bodyPost_ret (v := .tuple #[.agg #[.int .i64 r, .int .i64 n, .slice A es2.length c], .int .i64 x, .bool true]) (by simp [results, Tryz.results66, go_sem, z0, z1, z2, zf, p0, p1, p2]) rfl ⟨A, c, r, rfl, rfl, ?_, hcl, ?_⟩
    · refine RG.wide (RG.mid hr2 (a := w.heap.size + 1) (b := w.heap.size + 2) ?_ (Or.inr (by have := hr.size; omega))) (Nat.zero_le _) (by have := hr2.size; simp at this ⊢; omega) (Nat.le_refl _)
      repeat (first | exact Mid.refl _ _ _ | refine Mid.stored ?_ _ (by simp; try omega) (by simp; try omega))
    · repeat (first | exact hm0 | refine Mid.storeNew ?_ (by simp; try omega) _)
end Go.Proofs.YtgpljoplnecioaaGreat

/- ConjugateSubgroup, the program. -/
namespace Go.Proofs.YtgpljoplnecioaaGreat
set_option linter.unusedVariables false
set_option linter.unusedSimpArgs false
open Go.RowKit

/-- What ConjugateSubgroup gives. -/
def CjIs (r s : Int) (es : List Ed) (wd : List Int) (rr rs : Int) (res : List Ed) (b : Bool) : Prop :=
  (¬ (IsCor r s es ∧ IsW r wd) ∧ b = false ∧ rr = 0 ∧ rs = 0 ∧ res = []) ∨
  ((IsCor r s es ∧ IsW r wd) ∧ ∃ b1 s2 es2 x, ExtIs r s es wd b1 s2 es2 x ∧ ((b1 = false ∧ b = false ∧ rr = 0 ∧ rs = 0 ∧ res = []) ∨ (b1 = true ∧ rr = r ∧ MoveIs r s2 es2 x rs res b)))
theorem CjIs_ex (r s : Int) (es : List Ed) (wd : List Int) : ∃ rr rs res b, CjIs r s es wd rr rs res b := by
  by_cases h : IsCor r s es ∧ IsW r wd
  · obtain ⟨b1, s2, es2, x, he⟩ := ext_ex r s es wd
    cases b1 with
    | false => exact ⟨_, _, _, _, .inr ⟨h, _, _, _, _, he, .inl ⟨rfl, rfl, rfl, rfl, rfl⟩⟩⟩
    | true =>
      obtain ⟨rs, res, b, hm⟩ := MoveIs_ex r s2 es2 x
      exact ⟨_, _, _, _, .inr ⟨h, _, _, _, _, he, .inr ⟨rfl, rfl, hm⟩⟩⟩
  · exact ⟨_, _, _, _, .inl ⟨h, rfl, rfl, rfl, rfl⟩⟩
theorem CjIs.lens {r s : Int} {es : List Ed} {wd : List Int} {rr rs : Int} {res : List Ed} {b : Bool} (h : CjIs r s es wd rr rs res b) : res.length ≤ 120 := by
  rcases h with ⟨-, -, -, -, rfl⟩ | ⟨hc, b1, s2, es2, x, he, ⟨-, -, -, -, rfl⟩ | ⟨rfl, -, hm⟩⟩
  · simp
  · simp
  · have hg := he.gr hc.1.gr
    rcases hm with ⟨-, hf, -, rfl⟩ | ⟨-, -, -, rfl⟩
    · exact (moveA_gr hg.1 hg.2).len
    · exact hg.1.len
theorem CjIs.no {r s : Int} {es : List Ed} {wd : List Int} {rr rs : Int} {res : List Ed} {b : Bool} (h : CjIs r s es wd rr rs res b) (hn : ¬ (IsCor r s es ∧ IsW r wd)) : b = false ∧ rr = 0 ∧ rs = 0 ∧ res = [] := by
  rcases h with ⟨-, h⟩ | ⟨h, -⟩
  · exact h
  · exact absurd h hn
theorem CjIs.yes {r s : Int} {es : List Ed} {wd : List Int} {rr rs : Int} {res : List Ed} {b : Bool} (h : CjIs r s es wd rr rs res b) (hn : IsCor r s es ∧ IsW r wd) :
    ∃ b1 s2 es2 x, ExtIs r s es wd b1 s2 es2 x ∧ ((b1 = false ∧ b = false ∧ rr = 0 ∧ rs = 0 ∧ res = []) ∨ (b1 = true ∧ rr = r ∧ MoveIs r s2 es2 x rs res b)) := by
  rcases h with ⟨h, -⟩ | ⟨-, h⟩
  · exact absurd hn h
  · exact h

set_option maxHeartbeats 3200000 in
set_option maxRecDepth 20000 in
theorem impl_ConjugateSubgroup (r s : Int) (A : Option Addr) (es : List Ed) (c : Nat) (Aw : Option Addr) (wd : List Int) (cw : Nat) (w : World) (lo hi lo' hi' : Nat) (hr : RG w lo hi A es) (hw : RV w lo' hi' Aw (ints wd)) (hl : es.length ≤ 1048576) (hcl : es.length ≤ c) (hcw : wd.length ≤ cw) (hwl : wd.length ≤ 1048576) (hok : OkI wd) (rr rs : Int) (res : List Ed) (b : Bool) (hres : CjIs r s es wd rr rs res b) :
    Calls Tryz.prog 32 #[graV r s A es.length c, .slice Aw wd.length cw] w fun e w' => ∃ A1 c1, e = .returned (.tuple #[graV rr rs A1 res.length c1, .bool b]) ∧ OG w' w.heap.size w'.heap.size A1 c1 res ∧ Mid 0 0 w w' := by
  have hm0 : Mid 0 0 w ((w.alloc (.cells #[.int .i64 r, .int .i64 s, .slice A es.length c] 29)).alloc (.cells #[.int .i64 0, .int .i64 0, .slice none 0 0] 29)) := (Mid.alloc _ _).trans (Mid.alloc _ _)
  have b0 := (Box.new w #[.int .i64 r, .int .i64 s, .slice A es.length c] 29).mid (Mid.alloc _ (.cells #[.int .i64 0, .int .i64 0, .slice none 0 0] 29)) (Or.inr (Nat.zero_le _))
  have b2 := Box.new (w.alloc (.cells #[.int .i64 r, .int .i64 s, .slice A es.length c] 29)) #[.int .i64 0, .int .i64 0, .slice none 0 0] 29
  simp only [World.size_alloc] at b2
  have HR := Lib.hid hres
  have HOK := Lib.hid hok
  clear hres hok
  by_cases hc : IsCor r s es ∧ IsW r wd
  · obtain ⟨r, n, rfl, rfl⟩ := hc.1.gr.nat
    obtain ⟨b1, s2, es2, x, he, hcase⟩ := HR.out.yes hc
    have HC := Lib.hid hc.1
    have HW := Lib.hid hc.2
    have HE := Lib.hid he
    have HCASE := Lib.hid hcase
    have hsz := hc.1.gr.size
    clear hc he hcase HR
    go_enter Tryz.func32, Tryz.ntmps32
    go_wp2_with fail
    generalize ((w.alloc (.cells #[.int .i64 r, .int .i64 n, .slice A es.length c] 29)).alloc (.cells #[.int .i64 0, .int .i64 0, .slice none 0 0] 29)) = w1 at hm0 b0 b2 ⊢
    have hs1 : w.heap.size + 1 < w1.heap.size := b2.1
    with_reducible refine (impl_IsCore r n A es c _ _ _ (hr.mid hm0 (Or.inl (Nat.zero_le _))) hl hcl true (iff_of_true rfl HC.out)).mono ?_
    rintro en w2 ⟨rfl, hm2⟩
    replace b0 := b0.mid hm2 (Or.inr (Nat.zero_le _))
    replace b2 := b2.mid hm2 (Or.inr (Nat.zero_le _))
    replace hm0 := hm0.trans hm2
    have hs2 := hm2.size
    have p0 := b0.cell 0 rfl
    have p1 := b0.cell 1 rfl
    have p2 := b0.cell 2 rfl
    go_wp2_with fail
    with_reducible refine (impl_IsWord r Aw wd cw _ _ ((hw.mid hm0 (Or.inl (Nat.zero_le _))).rs) HOK.out (by omega) true (iff_of_true rfl HW.out)).mono ?_
    rintro en w3 ⟨rfl, rfl⟩
    go_wp2_with fail
    with_reducible refine (impl_extend r n A es c Aw wd cw _ _ _ _ _ (hr.mid hm0 (Or.inl (Nat.zero_le _))) (hw.mid hm0 (Or.inl (Nat.zero_le _))) hcl hcw HC.out.gr hwl HOK.out b1 s2 es2 x HE.out).mono ?_
    rintro en w4 ⟨A4, c4, r4, rfl, hr4, hrg4, hc4, hm4⟩
    have hs4 := hm4.size
    replace b2 := b2.mid hm4 (Or.inr (Nat.zero_le _))
    replace hm0 := hm0.trans hm4
    have hb23 : w.heap.size + 1 < w4.heap.size := b2.1
    have hb22 : w.heap.size < w4.heap.size := by omega
    clear p0 p1 p2
    cases b1 with
    | false =>
      rcases HCASE.out with ⟨-, rfl, rfl, rfl, rfl⟩ | ⟨h, -⟩
      · have z0 := b2.cell 0 rfl
        have z1 := b2.cell 1 rfl
        have z2 := b2.cell 2 rfl
        have zf := b2.2.2
        clear HCASE
        go_wp2_with fail
        refine bodyPost_ret (v := .tuple #[.agg #[.int .i64 0, .int .i64 0, .slice none 0 0], .bool false]) (by simp [results, Tryz.results32, go_sem, z0, z1, z2, zf, hb22, hb23, World.cell?_alloc_lt]) rfl ⟨none, 0, rfl, ?_, ?_⟩
        · exact ⟨Nat.le_refl _, ⟨rfl, .inl ⟨rfl, rfl⟩⟩, fun g hg => by simp [Value.ownBlock] at hg⟩
        · repeat (first | exact hm0 | refine Mid.trans ?_ (Mid.alloc _ _) | refine Mid.storeNew ?_ (by simp; try omega) _)
      · cases h
    | true =>
      rcases HCASE.out with ⟨h, -⟩ | ⟨-, rfl, hmv⟩
      · cases h
      · obtain rfl : r4 = (r : Int) := hr4
        have hgx := HE.out.gr HC.out.gr
        have HMV := Lib.hid hmv
        have HGX := Lib.hid hgx
        have hlen2 := hgx.1.len
        have hxx := hgx.1.size
        have hx2 := hgx.2
        have ha4 := Mid.alloc w4 (.cells #[.int .i64 r, .int .i64 s2, .slice A4 es2.length c4] 29)
        have Y4 := Box.new w4 #[.int .i64 r, .int .i64 s2, .slice A4 es2.length c4] 29
        have hrg5 := hrg4.mid ha4 (Or.inl (Nat.zero_le _))
        replace b2 := b2.mid ha4 (Or.inr (Nat.zero_le _))
        replace hm0 := hm0.trans ha4
        have y0 := Y4.cell 0 rfl
        have y1 := Y4.cell 1 rfl
        have y2 := Y4.cell 2 rfl
        clear HCASE hmv hgx
        go_wp2_with fail
        with_reducible refine (impl_MoveBase r s2 A4 es2 c4 x _ _ _ hrg5 (by omega) hc4 (by omega) rs res b HMV.out).mono ?_
        rintro en w6 ⟨A6, c6, rfl, ho6, hm6⟩
        replace b2 := b2.mid hm6 (Or.inr (Nat.zero_le _))
        replace hm0 := hm0.trans hm6
        have hb6 := b2.1
        have z0 := b2.cell 0 rfl
        have z1 := b2.cell 1 rfl
        have z2 := b2.cell 2 rfl
        have zf := b2.2.2
        clear y0 y1 y2
        go_wp2_with fail
        refine bodyPost_ret (v := .tuple #[.agg #[.int .i64 r, .int .i64 rs, .slice A6 res.length c6], .bool b]) (by simp [results, Tryz.results32, go_sem, z0, z1, z2, zf]) rfl ⟨A6, c6, rfl, ?_, ?_⟩
        · refine OG.wide (OG.mid ho6 (a := w.heap.size + 1) (b := w.heap.size + 2) ?_ (Or.inl (by simp; omega))) (by simp; omega) (by simp) (Nat.le_refl _)
          repeat (first | exact Mid.refl _ _ _ | refine Mid.stored ?_ _ (by simp; try omega) (by simp; try omega))
        · repeat (first | exact hm0 | refine Mid.storeNew ?_ (by simp; try omega) _)
  · obtain ⟨rfl, rfl, rfl, rfl⟩ := HR.out.no hc
    have hcase : ¬ IsCor r s es ∨ (IsCor r s es ∧ ¬ IsW r wd) := by
      by_cases h : IsCor r s es
      · exact .inr ⟨h, fun h2 => hc ⟨h, h2⟩⟩
      · exact .inl h
    have HCASE := Lib.hid hcase
    clear hc hcase HR
    go_enter Tryz.func32, Tryz.ntmps32
    go_wp2_with fail
    generalize ((w.alloc (.cells #[.int .i64 r, .int .i64 s, .slice A es.length c] 29)).alloc (.cells #[.int .i64 0, .int .i64 0, .slice none 0 0] 29)) = w1 at hm0 b0 b2 ⊢
    rcases HCASE.out with hc | ⟨hc, hwd⟩
    · have HC := Lib.hid hc
      clear hc HCASE
      with_reducible refine (impl_IsCore r s A es c _ _ _ (hr.mid hm0 (Or.inl (Nat.zero_le _))) hl hcl false (iff_of_false Bool.false_ne_true HC.out)).mono ?_
      rintro en w2 ⟨rfl, hm2⟩
      replace b2 := b2.mid hm2 (Or.inr (Nat.zero_le _))
      replace hm0 := hm0.trans hm2
      have z0 := b2.cell 0 rfl
      have z1 := b2.cell 1 rfl
      have z2 := b2.cell 2 rfl
      have zf := b2.2.2
      go_wp2_with fail
      refine bodyPost_ret (v := .tuple #[.agg #[.int .i64 0, .int .i64 0, .slice none 0 0], .bool false]) (by simp [results, Tryz.results32, go_sem, z0, z1, z2, zf]) rfl ⟨none, 0, rfl, ?_, ?_⟩
      · exact ⟨Nat.le_refl _, ⟨rfl, .inl ⟨rfl, rfl⟩⟩, fun g hg => by simp [Value.ownBlock] at hg⟩
      · repeat (first | exact hm0 | refine Mid.trans ?_ (Mid.alloc _ _) | refine Mid.storeNew ?_ (by simp; try omega) _)
    · have HC := Lib.hid hc
      have HW := Lib.hid hwd
      clear hc hwd HCASE
      with_reducible refine (impl_IsCore r s A es c _ _ _ (hr.mid hm0 (Or.inl (Nat.zero_le _))) hl hcl true (iff_of_true rfl HC.out)).mono ?_
      rintro en w2 ⟨rfl, hm2⟩
      replace b0 := b0.mid hm2 (Or.inr (Nat.zero_le _))
      replace b2 := b2.mid hm2 (Or.inr (Nat.zero_le _))
      replace hm0 := hm0.trans hm2
      have p0 := b0.cell 0 rfl
      have p1 := b0.cell 1 rfl
      have p2 := b0.cell 2 rfl
      go_wp2_with fail
      with_reducible refine (impl_IsWord r Aw wd cw _ _ ((hw.mid hm0 (Or.inl (Nat.zero_le _))).rs) HOK.out (by omega) false (iff_of_false Bool.false_ne_true HW.out)).mono ?_
      rintro en w3 ⟨rfl, rfl⟩
      have z0 := b2.cell 0 rfl
      have z1 := b2.cell 1 rfl
      have z2 := b2.cell 2 rfl
      have zf := b2.2.2
      clear p0 p1 p2
      go_wp2_with fail
      refine bodyPost_ret (v := .tuple #[.agg #[.int .i64 0, .int .i64 0, .slice none 0 0], .bool false]) (by simp [results, Tryz.results32, go_sem, z0, z1, z2, zf]) rfl ⟨none, 0, rfl, ?_, ?_⟩
      · exact ⟨Nat.le_refl _, ⟨rfl, .inl ⟨rfl, rfl⟩⟩, fun g hg => by simp [Value.ownBlock] at hg⟩
      · repeat (first | exact hm0 | refine Mid.trans ?_ (Mid.alloc _ _) | refine Mid.storeNew ?_ (by simp; try omega) _)
end Go.Proofs.YtgpljoplnecioaaGreat

/- ConjugateSubgroup, the reference. -/
namespace Go.Proofs.YtgpljoplnecioaaGreat
set_option linter.unusedVariables false
set_option linter.unusedSimpArgs false
open Go.RowKit

theorem RV.takeI {w : World} {lo hi : Nat} {A : Option Addr} {xs : List Int} (h : RV w lo hi A (ints xs)) (k : Nat) : RV w lo hi A (ints (xs.take k)) := by
  refine ⟨h.1, fun hn => ?_⟩
  obtain ⟨b, off, hA, h1, h2, h3⟩ := h.2 (by intro h0; apply hn; simp [ints] at h0 ⊢; right; exact h0)
  refine ⟨b, off, hA, h1, h2, fun j u hu => h3 j u ?_⟩
  simp only [ints, List.getElem?_map, List.getElem?_take] at hu ⊢
  split at hu
  · exact hu
  · cases hu

set_option maxHeartbeats 3200000 in
set_option maxRecDepth 20000 in
theorem spec_ConjugateSubgroup (r s : Int) (A : Option Addr) (es : List Ed) (c : Nat) (Aw : Option Addr) (wd : List Int) (cw : Nat) (w : World) (lo hi lo' hi' : Nat) (hr : RG w lo hi A es) (hw : RV w lo' hi' Aw (ints wd)) (hl : es.length ≤ 1048576) (hcl : es.length ≤ c) (hcw : wd.length ≤ cw) (hwl : wd.length ≤ 1048576) (hok : OkI wd) (rr rs : Int) (res : List Ed) (b : Bool) (hres : CjIs r s es wd rr rs res b) :
    Calls Tryz.prog 31 #[graV r s A es.length c, .slice Aw wd.length cw] w fun e w' => ∃ A1 c1, e = .returned (.tuple #[graV rr rs A1 res.length c1, .bool b]) ∧ OG w' w.heap.size w'.heap.size A1 c1 res ∧ Mid 0 0 w w' := by
  have hm0 : Mid 0 0 w ((w.alloc (.cells #[.int .i64 r, .int .i64 s, .slice A es.length c] 29)).alloc (.cells #[.int .i64 0, .int .i64 0, .slice none 0 0] 29)) := (Mid.alloc _ _).trans (Mid.alloc _ _)
  have b0 := (Box.new w #[.int .i64 r, .int .i64 s, .slice A es.length c] 29).mid (Mid.alloc _ (.cells #[.int .i64 0, .int .i64 0, .slice none 0 0] 29)) (Or.inr (Nat.zero_le _))
  have b2 := Box.new (w.alloc (.cells #[.int .i64 r, .int .i64 s, .slice A es.length c] 29)) #[.int .i64 0, .int .i64 0, .slice none 0 0] 29
  simp only [World.size_alloc] at b2
  have HR := Lib.hid hres
  have HOK := Lib.hid hok
  clear hres hok
  by_cases hc : IsCor r s es ∧ IsW r wd
  · obtain ⟨r, n, rfl, rfl⟩ := hc.1.gr.nat
    obtain ⟨b1, s2, es2, x, he, hcase⟩ := HR.out.yes hc
    have HC := Lib.hid hc.1
    have HW := Lib.hid hc.2
    have HE := Lib.hid he
    have HCASE := Lib.hid hcase
    have hsz := hc.1.gr.size
    clear hc he hcase HR
    go_enter Tryz.func31, Tryz.ntmps31
    go_wp2_with fail
    generalize ((w.alloc (.cells #[.int .i64 r, .int .i64 n, .slice A es.length c] 29)).alloc (.cells #[.int .i64 0, .int .i64 0, .slice none 0 0] 29)) = w1 at hm0 b0 b2 ⊢
    have hs1 : w.heap.size + 1 < w1.heap.size := b2.1
    with_reducible refine (spec_IsSubgroup r n A es c _ _ _ (hr.mid hm0 (Or.inl (Nat.zero_le _))) hl true (iff_of_true rfl HC.out)).mono ?_
    rintro en w2 ⟨rfl, hm2⟩
    replace b0 := b0.mid hm2 (Or.inr (Nat.zero_le _))
    replace b2 := b2.mid hm2 (Or.inr (Nat.zero_le _))
    replace hm0 := hm0.trans hm2
    have hs2 := hm2.size
    have p0 := b0.cell 0 rfl
    have p1 := b0.cell 1 rfl
    have p2 := b0.cell 2 rfl
    go_wp2_with fail
    with_reducible refine (spec_IsWord r Aw wd cw _ _ ((hw.mid hm0 (Or.inl (Nat.zero_le _))).rs) HOK.out (by omega) true (iff_of_true rfl HW.out)).mono ?_
    rintro en w3 ⟨rfl, nd, hw3⟩
    have hm3 : Mid 0 0 w2 w3 := by rw [hw3]; exact (Mid.refl 0 0 w2).drewN nd
    replace b0 := b0.mid hm3 (Or.inr (Nat.zero_le _))
    replace b2 := b2.mid hm3 (Or.inr (Nat.zero_le _))
    replace hm0 := hm0.trans hm3
    have hs3 := hm3.size
    clear p0 p1 p2 hw3 hm3
    have p0 := b0.cell 0 rfl
    have p1 := b0.cell 1 rfl
    have p2 := b0.cell 2 rfl
    go_wp2_with fail
    have hn1 : 1 ≤ n ∧ n ≤ 40 := by omega
    have hz0 : ((0 : Nat) : Int) = 0 := rfl
    have hRL := fun W h1 h2 => spec_ReadLength r n 0 A es c Aw wd cw W lo hi lo' hi' h1 h2 HC.out.fol (by omega) hwl HOK.out
    simp only [hz0] at hRL
    obtain ⟨u, k, hrd⟩ : ∃ u k, rdA es 0 wd = (u, k) := ⟨_, _, rfl⟩
    have hk2 : (rdA es 0 wd).2 = k := by rw [hrd]
    have hk1 : (rdA es 0 wd).1 = u := by rw [hrd]
    have hgo := goV_rdA (es := es) wd 0
    have hkl := rdA_le es wd 0
    have hu := rdA_in HC.out.gr.all wd (v := 0) (by omega)
    rw [hk2, hk1] at hgo
    rw [hk2] at hkl
    rw [hk1] at hu
    simp only [hk2] at hRL
    have HK1 := Lib.hid hk1
    have HK2 := Lib.hid hk2
    have HRL := Lib.hid hRL
    have htl : (wd.take k).length = k := by rw [List.length_take]; omega
    have hWW : ∀ W, RG W lo hi A es → RV W lo' hi' Aw (ints wd) → Calls Tryz.prog 62 #[graV r n A es.length c, .int .i64 0, .slice Aw k cw] W fun e w' => e = .returned (.tuple #[.int .i64 u, .bool true]) ∧ Mid 0 0 W w' := by
      intro W h1 h2
      have h3 := spec_WalkWord r n 0 A es c Aw (wd.take k) cw W lo hi lo' hi' h1 (h2.takeI k) HC.out.fol (by omega) (by omega) (fun q hq => HOK.out q (List.mem_of_mem_take hq))
      rw [htl] at h3
      refine h3.mono ?_
      rintro e w' ⟨u', b', rfl, h4, h5, h6⟩
      have hz : goV es ((0 : Nat) : Int) (wd.take k) = some u := hgo
      cases b' with
      | true =>
        have := h4 rfl
        rw [hz] at this
        injection this with this
        subst this
        exact ⟨rfl, h6⟩
      | false =>
        have := h5 rfl
        rw [hz] at this
        cases this
    have HWW := Lib.hid hWW
    clear hrd hk2 hk1 hgo hz0 hRL htl hWW
    with_reducible refine (HRL.out _ (hr.mid hm0 (Or.inl (Nat.zero_le _))) (hw.mid hm0 (Or.inl (Nat.zero_le _)))).mono ?_
    rintro en w4 ⟨rfl, hm4⟩
    replace b0 := b0.mid hm4 (Or.inr (Nat.zero_le _))
    replace b2 := b2.mid hm4 (Or.inr (Nat.zero_le _))
    replace hm0 := hm0.trans hm4
    have hs4 := hm4.size
    clear hm4 HRL p0 p1 p2
    have hkc : k ≤ cw := by omega
    have hkw : (k : Int) ≤ (wd.length : Int) := by omega
    have v0 := wg_cell b0.1 (b0.cell 0 rfl)
    have v1 := wg_cell b0.1 (b0.cell 1 rfl)
    have v2 := wg_cell b0.1 (b0.cell 2 rfl)
    have hA : ∀ (m : Nat) (os : Array Obj), Calls Tryz.prog 62 #[graV r n A es.length c, .int .i64 0, .slice Aw k cw] (wg w4 m os) fun e w'' => e = .returned (.tuple #[.int .i64 u, .bool true]) ∧ ∃ q : GB, w'' = wg w4 q.n q.os := fun m os =>
      Calls.wg_of (HWW.out (wg w4 m os) (hr.mid (hm0.trans (Mid.ofWg w4 m os)) (Or.inl (Nat.zero_le _))) (hw.mid (hm0.trans (Mid.ofWg w4 m os)) (Or.inl (Nat.zero_le _))))
    go_wp2_with fail
    refine wp_region_quiet_wg (by kernel_rfl) (by kernel_rfl) ?_
    repeat
      (with_reducible refine wpQuiet_step (fun K hK => ?_))
      go_simp
      first
        | ((with_reducible refine hK _ ?_); clear hK K)
        | (rw [if_neg (by decide)]; (with_reducible refine hK _ ?_); clear hK K)
        | (apply Exists.intro; refine ⟨fun _ => ?_, hK _ ?_⟩; ((go_at_call 62; with_reducible exact hA _ _)); clear hK K)
    with_reducible refine wpQuiet_nil ?_
    intro _ hw'
    obtain ⟨⟨nq, osq⟩, hw''⟩ := hw'
    subst hw''
    have hwg := Mid.ofWg w4 nq osq
    have hs5 := hwg.size
    generalize wg w4 nq osq = w5 at hwg hs5 ⊢
    replace b0 := b0.mid hwg (Or.inr (Nat.zero_le _))
    replace b2 := b2.mid hwg (Or.inr (Nat.zero_le _))
    replace hm0 := hm0.trans hwg
    clear v0 v1 v2 hA HWW hwg
    have p0 := b0.cell 0 rfl
    have p1 := b0.cell 1 rfl
    have p2 := b0.cell 2 rfl
    go_wp2_with fail
    with_reducible refine (spec_l4Copy r n A es c _ _ _ (hr.mid hm0 (Or.inl (Nat.zero_le _))) (by omega)).mono ?_
    rintro en w6 ⟨A6, c6, rfl, ho6, hm6⟩
    have hs6 := hm6.size
    have ha6 := Mid.alloc w6 (.cells #[.int .i64 r, .int .i64 n, .slice A6 es.length c6] 29)
    have Y6 := Box.new w6 #[.int .i64 r, .int .i64 n, .slice A6 es.length c6] 29
    replace b0 := b0.mid hm6 (Or.inr (Nat.zero_le _))
    replace b2 := b2.mid hm6 (Or.inr (Nat.zero_le _))
    replace hm0 := hm0.trans hm6
    replace b0 := b0.mid ha6 (Or.inr (Nat.zero_le _))
    replace b2 := b2.mid ha6 (Or.inr (Nat.zero_le _))
    replace ho6 := ho6.mid ha6 (Or.inl (Nat.zero_le _))
    replace hm0 := hm0.trans ha6
    have hsa := ha6.size
    clear p0 p1 p2 ha6 hm6
    have p0 := b0.cell 0 rfl
    have p1 := b0.cell 1 rfl
    have p2 := b0.cell 2 rfl
    rcases Nat.lt_or_ge k wd.length with hlt | hge
    · have dk : decide ((k : Int) < (wd.length : Int)) = true := by simp; omega
      have hdl : (wd.drop k).length = wd.length - k := List.length_drop
      go_wp2_with fail
      generalize w6.alloc (.cells #[.int .i64 r, .int .i64 n, .slice A6 es.length c6] 29) = w7 at b0 b2 Y6 ho6 hm0 hsa p0 p1 p2 ⊢
      have hb6 : w6.heap.size < w7.heap.size := Y6.1
      by_cases h40 : n < 40
      · have hav : AvIs r n es ((n : Int) + 1) true := .inl ⟨rfl, ⟨HC.out.gr, by omega⟩, rfl⟩
        with_reducible refine (spec_AddVertex r n A es c w7 _ _ (hr.mid hm0 (Or.inl (Nat.zero_le _))) (by omega) ((n : Int) + 1) true hav).mono ?_
        rintro en w8 ⟨A8, c8, rfl, ho8, hm8⟩
        have hs8 := hm8.size
        have ha8 := Mid.alloc w8 (.cells #[.int .i64 r, .int .i64 ((n : Int) + 1), .slice A8 es.length c8] 29)
        have Y8 := Box.new w8 #[.int .i64 r, .int .i64 ((n : Int) + 1), .slice A8 es.length c8] 29
        replace b0 := b0.mid hm8 (Or.inr (Nat.zero_le _))
        replace b2 := b2.mid hm8 (Or.inr (Nat.zero_le _))
        replace Y6 := Y6.mid hm8 (Or.inr (Nat.zero_le _))
        replace hm0 := hm0.trans hm8
        replace b0 := b0.mid ha8 (Or.inr (Nat.zero_le _))
        replace b2 := b2.mid ha8 (Or.inr (Nat.zero_le _))
        replace Y6 := Y6.mid ha8 (Or.inr (Nat.zero_le _))
        replace ho8 := ho8.mid ha8 (Or.inl (Nat.zero_le _))
        replace hm0 := hm0.trans ha8
        have hsb := ha8.size
        clear p0 p1 p2 ha8 hm8 hav ho6
        have p0 := b0.cell 0 rfl
        have p1 := b0.cell 1 rfl
        have p2 := b0.cell 2 rfl
        go_wp2_with fail
        generalize w8.alloc (.cells #[.int .i64 r, .int .i64 ((n : Int) + 1), .slice A8 es.length c8] 29) = w9 at b0 b2 Y6 Y8 ho8 hm0 hsb p0 p1 p2 ⊢
        have hb8 : w8.heap.size < w9.heap.size := Y8.1
        obtain ⟨rs2, res2, bb, hPI⟩ := PathIs_ex (r : Int) ((n : Int) + 1) es u (wd.drop k) n
        have HPI := Lib.hid hPI
        clear hPI
        obtain ⟨Bw, ow, rfl⟩ : ∃ Bw ow, Aw = some ⟨Bw, ow, none⟩ := by
          obtain ⟨B, off, y, h1, -⟩ := hw.at hlt
          exact ⟨B, off, h1⟩
        have hmd := Mid.drew1 w9
        have hsd := hmd.size
        replace b0 := b0.mid hmd (Or.inr (Nat.zero_le _))
        replace b2 := b2.mid hmd (Or.inr (Nat.zero_le _))
        replace Y6 := Y6.mid hmd (Or.inr (Nat.zero_le _))
        replace Y8 := Y8.mid hmd (Or.inr (Nat.zero_le _))
        replace ho8 := ho8.mid hmd (Or.inl (Nat.zero_le _))
        replace hm0 := hm0.trans hmd
        clear p0 p1 p2
        have p0 := b0.cell 0 rfl
        have p1 := b0.cell 1 rfl
        have p2 := b0.cell 2 rfl
        have y0 := Y8.cell 0 rfl
        have y1 := Y8.cell 1 rfl
        have y2 := Y8.cell 2 rfl
        have hdo : OkI (wd.drop k) := fun q hq => HOK.out q (List.mem_of_mem_drop hq)
        have hck : ¬ cw = k := by omega
        have hP := fun W (h1 : RG W w7.heap.size w8.heap.size A8 es) (h2 : RV W lo' hi' (some ⟨Bw, ow + k, none⟩) (ints (wd.drop k))) => spec_AddPath r ((n : Int) + 1) A8 es c8 u (some ⟨Bw, ow + k, none⟩) (wd.drop k) (cw - k) n W _ _ _ _ h1 h2 (by omega) (by omega) hdo rs2 res2 bb HPI.out
        rw [hdl] at hP
        have HP := Lib.hid hP
        clear hP hdo hdl
        refine wp_region_Z (S := (fun w' => (w'.cell? ⟨w8.heap.size, 0, none⟩ = some (.int .i64 r) ∧ w'.cell? ⟨w8.heap.size, 1, none⟩ = some (.int .i64 ((n : Int) + 1)) ∧ w'.cell? ⟨w8.heap.size, 2, none⟩ = some (.slice A8 es.length c8)) ∧ w'.cell? ⟨w.heap.size, 1, none⟩ = some (.int .i64 n))) [] (by kernel_rfl) ⟨⟨y0, y1, y2⟩, p1⟩ ?_
        generalize World.drew w9 = wz at b0 b2 Y6 Y8 ho8 hm0 p0 p1 p2 y0 y1 y2 hsd ⊢
        have hS : (wz.cell? ⟨w8.heap.size, 0, none⟩ = some (.int .i64 r) ∧ wz.cell? ⟨w8.heap.size, 1, none⟩ = some (.int .i64 ((n : Int) + 1)) ∧ wz.cell? ⟨w8.heap.size, 2, none⟩ = some (.slice A8 es.length c8)) ∧ wz.cell? ⟨w.heap.size, 1, none⟩ = some (.int .i64 n) := ⟨⟨y0, y1, y2⟩, p1⟩
        refine wpAnyZ_takeC [] (i := 0) (v := ?_) rfl (by kernel_rfl) (by kernel_rfl) (by kernel_rfl) (by kernel_rfl) (fun _ _ _ h => h) (Or.inl ⟨by rfl, ?_⟩) hS ?_
        rotate_left
        focus (intro w hSw; (try dsimp only at hSw); go_simp; try with_reducible rfl)
        try simp only [Act.put, List.setIfInBounds_toArray, List.set_cons_zero, List.set_cons_succ, List.getElem_toArray, List.getElem_cons_zero, List.getElem_cons_succ]
        refine wpAnyZ_takeC [] (i := 1) (v := ?_) rfl (by kernel_rfl) (by kernel_rfl) (by kernel_rfl) (by kernel_rfl) (fun _ _ _ h => h) (Or.inl ⟨by rfl, ?_⟩) hS ?_
        rotate_left
        focus (intro w hSw; (try dsimp only at hSw); go_simp; try with_reducible rfl)
        try simp only [Act.put, List.setIfInBounds_toArray, List.set_cons_zero, List.set_cons_succ, List.getElem_toArray, List.getElem_cons_zero, List.getElem_cons_succ]
        refine wpAnyZ_takeC [] (i := 2) (v := ?_) rfl (by kernel_rfl) (by kernel_rfl) (by kernel_rfl) (by kernel_rfl) (fun _ _ _ h => h) (Or.inl ⟨by rfl, ?_⟩) hS ?_
        rotate_left
        focus (intro w hSw; (try dsimp only at hSw); go_simp; try with_reducible rfl)
        try simp only [Act.put, List.setIfInBounds_toArray, List.set_cons_zero, List.set_cons_succ, List.getElem_toArray, List.getElem_cons_zero, List.getElem_cons_succ]
        refine wpAnyZ_takeC [] (i := 3) (v := ?_) rfl (by kernel_rfl) (by kernel_rfl) (by kernel_rfl) (by kernel_rfl) (fun _ _ _ h => h) (Or.inl ⟨by rfl, ?_⟩) hS ?_
        rotate_left
        focus (intro w hSw; (try dsimp only at hSw); go_simp; try with_reducible rfl)
        try simp only [Act.put, List.setIfInBounds_toArray, List.set_cons_zero, List.set_cons_succ, List.getElem_toArray, List.getElem_cons_zero, List.getElem_cons_succ]
        refine wpAnyZ_takeC [] (i := 4) (v := ?_) rfl (by kernel_rfl) (by kernel_rfl) (by kernel_rfl) (by kernel_rfl) (fun _ _ _ h => h) (Or.inl ⟨by rfl, ?_⟩) hS ?_
        rotate_left
        focus (intro w hSw; (try dsimp only at hSw); go_simp; try with_reducible rfl)
        try simp only [Act.put, List.setIfInBounds_toArray, List.set_cons_zero, List.set_cons_succ, List.getElem_toArray, List.getElem_cons_zero, List.getElem_cons_succ]
        refine wpAnyZ_takeC [] (i := 5) (v := ?_) rfl (by kernel_rfl) (by kernel_rfl) (by kernel_rfl) (by kernel_rfl) (fun _ _ _ h => h) (Or.inl ⟨by rfl, ?_⟩) hS ?_
        rotate_left
        focus (intro w hSw; (try dsimp only at hSw); go_simp; try with_reducible rfl)
        try simp only [Act.put, List.setIfInBounds_toArray, List.set_cons_zero, List.set_cons_succ, List.getElem_toArray, List.getElem_cons_zero, List.getElem_cons_succ]
        refine wpAnyZ_takeC [] (i := 6) (v := ?_) rfl (by kernel_rfl) (by kernel_rfl) (by kernel_rfl) (by kernel_rfl) (fun _ _ _ h => h) (Or.inl ⟨by rfl, ?_⟩) hS ?_
        rotate_left
        focus (intro w hSw; (try dsimp only at hSw); go_simp; try with_reducible rfl)
        try simp only [Act.put, List.setIfInBounds_toArray, List.set_cons_zero, List.set_cons_succ, List.getElem_toArray, List.getElem_cons_zero, List.getElem_cons_succ]
        refine wpAnyZ_ready (rs := [7,11]) (by kernel_rfl) (by simp) (AllReadyZ.cons rfl (fun K hK => ?_) (AllReadyZ.cons rfl (fun K hK => ?_) AllReadyZ.nil))
        · (go_simp; (with_reducible refine (HP.out _ ho8.rg ((hw.mid hm0 (Or.inl (Nat.zero_le _))).dropI k)).mono ?_); rintro en w10 ⟨A10, c10, rfl, ho10, hm10⟩; have Y80 := Y8.mid hm10 (Or.inr (Nat.zero_le _)); have b00 := b0.mid hm10 (Or.inr (Nat.zero_le _)); go_wp2_with fail)
          refine hK.out _ _ (Or.inr ⟨⟨Y80.cell 0 rfl, Y80.cell 1 rfl, Y80.cell 2 rfl⟩, b00.cell 1 rfl⟩) (fun _ => ?_)
          clear hK K
          try simp only [Act.put, List.setIfInBounds_toArray, List.set_cons_zero, List.set_cons_succ, List.getElem_toArray, List.getElem_cons_zero, List.getElem_cons_succ]
          replace b2 := b2.mid hm10 (Or.inr (Nat.zero_le _))
          replace Y6 := Y6.mid hm10 (Or.inr (Nat.zero_le _))
          replace hm0 := hm0.trans hm10
          have hs10 := hm10.size
          have hS10 := And.intro (And.intro (Y80.cell 0 rfl) (And.intro (Y80.cell 1 rfl) (Y80.cell 2 rfl))) (b00.cell 1 rfl)
          clear Y8 hS y0 y1 y2 p0 p1 p2 ho8 b0 HP
          refine wpAnyZ_takeC [] (i := 8) (v := ?_) rfl (by kernel_rfl) (by kernel_rfl) (by kernel_rfl) (by kernel_rfl) (fun _ _ _ h => h) (Or.inl ⟨by rfl, ?_⟩) hS10 ?_
          rotate_left
          focus (intro w hSw; (try dsimp only at hSw); go_simp; try with_reducible rfl)
          try simp only [Act.put, List.setIfInBounds_toArray, List.set_cons_zero, List.set_cons_succ, List.getElem_toArray, List.getElem_cons_zero, List.getElem_cons_succ]
          refine wpAnyZ_takeC [] (i := 9) (v := ?_) rfl (by kernel_rfl) (by kernel_rfl) (by kernel_rfl) (by kernel_rfl) (fun _ _ _ h => h) (Or.inl ⟨by rfl, ?_⟩) hS10 ?_
          rotate_left
          focus (intro w hSw; (try dsimp only at hSw); go_simp; try with_reducible rfl)
          try simp only [Act.put, List.setIfInBounds_toArray, List.set_cons_zero, List.set_cons_succ, List.getElem_toArray, List.getElem_cons_zero, List.getElem_cons_succ]
          refine wpAnyZ_takeC [] (i := 10) (v := ?_) rfl (by kernel_rfl) (by kernel_rfl) (by kernel_rfl) (by kernel_rfl) (fun _ _ _ h => h) (Or.inl ⟨by rfl, ?_⟩) hS10 ?_
          rotate_left
          focus (intro w hSw; (try dsimp only at hSw); go_simp; try with_reducible rfl)
          try simp only [Act.put, List.setIfInBounds_toArray, List.set_cons_zero, List.set_cons_succ, List.getElem_toArray, List.getElem_cons_zero, List.getElem_cons_succ]
          have hal := Mid.alloc w10 (.cells #[.int .i64 0, .int .i64 0, .slice none 0 0] 29)
          have Y81 := Y80.mid hal (Or.inr (Nat.zero_le _))
          have b01 := b00.mid hal (Or.inr (Nat.zero_le _))
          refine wpAnyZ_ready (rs := [11]) (by kernel_rfl) (by simp) (AllReadyZ.cons rfl (fun K hK => ?_) AllReadyZ.nil)
          go_simp
          refine hK.out _ _ (Or.inr ⟨⟨Y81.cell 0 rfl, Y81.cell 1 rfl, Y81.cell 2 rfl⟩, b01.cell 1 rfl⟩) (fun _ => ?_)
          clear hK K
          try simp only [Act.put, List.setIfInBounds_toArray, List.set_cons_zero, List.set_cons_succ, List.getElem_toArray, List.getElem_cons_zero, List.getElem_cons_succ]
          clear hal Y81 b01
          have hal := Mid.alloc w10 (.cells #[.int .i64 r, .int .i64 rs2, .slice A10 res2.length c10] 29)
          have Y81 := Y80.mid hal (Or.inr (Nat.zero_le _))
          have b01 := b00.mid hal (Or.inr (Nat.zero_le _))
          refine wpAnyZ_ready (rs := [12]) (by kernel_rfl) (by simp) (AllReadyZ.cons rfl (fun K hK => ?_) AllReadyZ.nil)
          go_simp
          refine hK.out _ _ (Or.inr ⟨⟨Y81.cell 0 rfl, Y81.cell 1 rfl, Y81.cell 2 rfl⟩, b01.cell 1 rfl⟩) (fun _ => ?_)
          clear hK K
          try simp only [Act.put, List.setIfInBounds_toArray, List.set_cons_zero, List.set_cons_succ, List.getElem_toArray, List.getElem_cons_zero, List.getElem_cons_succ]
          refine wpAnyZ_ready (rs := [13]) (by kernel_rfl) (by simp) (AllReadyZ.cons rfl (fun K hK => ?_) AllReadyZ.nil)
          go_simp
          refine hK.out _ _ (Or.inr ⟨⟨Y81.cell 0 rfl, Y81.cell 1 rfl, Y81.cell 2 rfl⟩, b01.cell 1 rfl⟩) (fun _ => ?_)
          clear hK K
          try simp only [Act.put, List.setIfInBounds_toArray, List.set_cons_zero, List.set_cons_succ, List.getElem_toArray, List.getElem_cons_zero, List.getElem_cons_succ]
          refine wpAnyZ_done (by kernel_rfl) ?_ _
          have Zb := Box.new w10 #[.int .i64 r, .int .i64 rs2, .slice A10 res2.length c10] 29
          have ho11 := ho10.mid hal (Or.inl (Nat.zero_le _))
          replace b2 := b2.mid hal (Or.inr (Nat.zero_le _))
          replace Y6 := Y6.mid hal (Or.inr (Nat.zero_le _))
          replace hm0 := hm0.trans hal
          have hlo11 : w6.heap.size + 1 ≤ wz.heap.size := by omega
          have hgz : w6.heap.size + 1 ≤ w10.heap.size := by omega
          have hc10 := ho10.cnt.1
          clear Y80 Y81 b00 hS10 hal ho10 hm10
          generalize w10.alloc (.cells #[.int .i64 r, .int .i64 rs2, .slice A10 res2.length c10] 29) = w11 at b2 Y6 Zb ho11 hm0 b01 ⊢
          generalize w10.heap.size = Gz at Zb hgz ho11 ⊢
          have hpi := HPI.out
          cases bb with
          | false =>
            rcases hpi with ⟨h, -⟩ | ⟨-, hno, -, -⟩
            · cases h
            · obtain ⟨rfl, -, -, -⟩ := HE.out.not (by rw [HK2.out]; exact hlt) (by rw [HK1.out, HK2.out]; exact fun h => hno h.2)
              rcases HCASE.out with ⟨-, rfl, rfl, rfl, rfl⟩ | ⟨h, -⟩
              · have hb11 := b2.1
                have z0 := b2.cell 0 rfl
                have z1 := b2.cell 1 rfl
                have z2 := b2.cell 2 rfl
                have zf := b2.2.2
                clear hno HPI HCASE HE
                go_wp2_with fail
                refine bodyPost_ret (v := .tuple #[.agg #[.int .i64 0, .int .i64 0, .slice none 0 0], .bool false]) (by simp [results, Tryz.results31, go_sem, z0, z1, z2, zf]) rfl ⟨none, 0, rfl, ?_, ?_⟩
                · exact ⟨Nat.le_refl _, ⟨rfl, .inl ⟨rfl, rfl⟩⟩, fun g hg => by simp [Value.ownBlock] at hg⟩
                · repeat (first | exact hm0 | refine Mid.trans ?_ (Mid.alloc _ _) | refine Mid.storeNew ?_ (by simp; try omega) _)
              · cases h
          | true =>
            rcases hpi with ⟨-, hok, hrs, hre⟩ | ⟨h, -⟩
            · obtain ⟨rfl, h2, h3, hxn⟩ := HE.out.more (by rw [HK2.out]; exact hlt) (by rw [HK1.out, HK2.out]; exact ⟨by omega, hok⟩)
              rw [HK2.out] at h2
              rw [HK1.out, HK2.out] at h3
              have hse : s2 = rs2 := h2.trans hrs.symm
              have hee : es2 = res2 := h3.trans hre.symm
              rcases HCASE.out with ⟨h, -⟩ | ⟨-, rfl, hmv⟩
              · cases h
              · rw [hse, hee, hxn] at hmv
                have HMV := Lib.hid hmv
                have hgx := HE.out.gr HC.out.gr
                rw [hse, hee] at hgx
                have hlen2 := hgx.1.len
                have hb11 := b2.1
                have hy6 := Y6.1
                clear h2 h3 hrs hre hok HPI HCASE HE hmv hse hee hxn
                have q0 := Zb.cell 0 rfl
                have q1 := Zb.cell 1 rfl
                have q2 := Zb.cell 2 rfl
                have yf := Y6.2.2
                have y0 := Y6.cell 0 rfl
                have y1 := Y6.cell 1 rfl
                have y2 := Y6.cell 2 rfl
                have p1 := b01.cell 1 rfl
                have hst := ((Mid.setCell w11 (lo := w6.heap.size) (hi := w6.heap.size + 1) (p := ⟨w6.heap.size, 0, none⟩) (.int .i64 r) (Nat.le_refl _) (Nat.lt_succ_self _)).trans (Mid.setCell _ (lo := w6.heap.size) (hi := w6.heap.size + 1) (p := ⟨w6.heap.size, 1, none⟩) (.int .i64 rs2) (Nat.le_refl _) (Nat.lt_succ_self _))).trans (Mid.setCell _ (lo := w6.heap.size) (hi := w6.heap.size + 1) (p := ⟨w6.heap.size, 2, none⟩) (.slice A10 res2.length c10) (Nat.le_refl _) (Nat.lt_succ_self _))
                have ho12 := ho11.mid hst (Or.inl (by omega))
                have b22 := b2.mid hst (Or.inl (by omega))
                have hm12 := ((hm0.storeNew (p := ⟨w6.heap.size, 0, none⟩) (by show w.heap.size ≤ w6.heap.size; omega) (.int .i64 r)).storeNew (p := ⟨w6.heap.size, 1, none⟩) (by show w.heap.size ≤ w6.heap.size; omega) (.int .i64 rs2)).storeNew (p := ⟨w6.heap.size, 2, none⟩) (by show w.heap.size ≤ w6.heap.size; omega) (.slice A10 res2.length c10)
                have hne6 : (w.heap.size == w6.heap.size) = false := by simp; omega
                go_wp2_with fail
                generalize ((w11.setCell ⟨w6.heap.size, 0, none⟩ (.int .i64 r)).setCell ⟨w6.heap.size, 1, none⟩ (.int .i64 rs2)).setCell ⟨w6.heap.size, 2, none⟩ (.slice A10 res2.length c10) = w12 at ho12 b22 hm12 ⊢
                with_reducible refine (spec_MoveBase r rs2 A10 res2 c10 n w12 _ _ ho12.rg (by omega) (by omega) rs res b HMV.out).mono ?_
                rintro en w20 ⟨A20, c20, rfl, ho20, hm20⟩
                have hs20 := hm20.size
                have hb12 := b22.1
                replace b22 := b22.mid hm20 (Or.inr (Nat.zero_le _))
                replace hm12 := hm12.trans hm20
                have hb20 : w.heap.size + 1 < w20.heap.size := b22.1
                have hb21 : w.heap.size < w20.heap.size := by omega
                have Y20 := Box.new w20 #[.int .i64 r, .int .i64 rs, .slice A20 res.length c20] 29
                clear y0 y1 y2 q0 q1 q2 p1 yf
                have z0 := b22.cell 0 rfl
                have z1 := b22.cell 1 rfl
                have z2 := b22.cell 2 rfl
                have q0 := Y20.cell 0 rfl
                have q1 := Y20.cell 1 rfl
                have q2 := Y20.cell 2 rfl
                have zf := b22.2.2
                go_wp2_with fail
                refine bodyPost_ret (v := .tuple #[.agg #[.int .i64 r, .int .i64 rs, .slice A20 res.length c20], .bool b]) (by simp [results, Tryz.results31, go_sem, z0, z1, z2, zf, q0, q1, q2, hb20, hb21, World.cell?_alloc_lt]) rfl ⟨A20, c20, rfl, ?_, ?_⟩
                · refine OG.wide (OG.mid ho20 (a := w.heap.size + 1) (b := w.heap.size + 2) ?_ (Or.inl (by omega))) (by omega) (by simp; try omega) (Nat.le_refl _)
                  repeat (first | exact Mid.refl _ _ _ | refine Mid.trans ?_ (Mid.zero (Mid.alloc _ _)) | refine Mid.stored ?_ _ (by simp; try omega) (by simp; try omega))
                · repeat (first | exact hm12 | refine Mid.trans ?_ (Mid.alloc _ _) | refine Mid.storeNew ?_ (by simp; try omega) _)
            · cases h
        · have hal := Mid.alloc wz (.cells #[.int .i64 0, .int .i64 0, .slice none 0 0] 29)
          have Y81 := Y8.mid hal (Or.inr (Nat.zero_le _))
          have b01 := b0.mid hal (Or.inr (Nat.zero_le _))
          have Zb := Box.new wz #[.int .i64 0, .int .i64 0, .slice none 0 0] 29
          have ho81 := ho8.mid hal (Or.inl (Nat.zero_le _))
          have hsl := hal.size
          go_simp
          refine hK.out _ _ (Or.inr ⟨⟨Y81.cell 0 rfl, Y81.cell 1 rfl, Y81.cell 2 rfl⟩, b01.cell 1 rfl⟩) (fun _ => ?_)
          clear hK K
          try simp only [Act.put, List.setIfInBounds_toArray, List.set_cons_zero, List.set_cons_succ, List.getElem_toArray, List.getElem_cons_zero, List.getElem_cons_succ]
          replace b2 := b2.mid hal (Or.inr (Nat.zero_le _))
          replace Y6 := Y6.mid hal (Or.inr (Nat.zero_le _))
          replace hm0 := hm0.trans hal
          clear Y8 hS y0 y1 y2 p0 p1 p2 ho8 b0 hal
          have hzb : wz.heap.size < (wz.alloc (.cells #[.int .i64 0, .int .i64 0, .slice none 0 0] 29)).heap.size := Zb.1
          generalize wz.alloc (.cells #[.int .i64 0, .int .i64 0, .slice none 0 0] 29) = wy at Y81 b01 Zb ho81 b2 Y6 hm0 hsl hzb ⊢
          refine wpAnyZ_ready (rs := [7]) (by kernel_rfl) (by simp) (AllReadyZ.cons rfl (fun K hK => ?_) AllReadyZ.nil)
          (go_simp; (with_reducible refine (HP.out _ ho81.rg ((hw.mid hm0 (Or.inl (Nat.zero_le _))).dropI k)).mono ?_); rintro en w10 ⟨A10, c10, rfl, ho10, hm10⟩; have Y80 := Y81.mid hm10 (Or.inr (Nat.zero_le _)); have b00 := b01.mid hm10 (Or.inr (Nat.zero_le _)); go_wp2_with fail)
          refine hK.out _ _ (Or.inr ⟨⟨Y80.cell 0 rfl, Y80.cell 1 rfl, Y80.cell 2 rfl⟩, b00.cell 1 rfl⟩) (fun _ => ?_)
          clear hK K
          try simp only [Act.put, List.setIfInBounds_toArray, List.set_cons_zero, List.set_cons_succ, List.getElem_toArray, List.getElem_cons_zero, List.getElem_cons_succ]
          replace b2 := b2.mid hm10 (Or.inr (Nat.zero_le _))
          replace Y6 := Y6.mid hm10 (Or.inr (Nat.zero_le _))
          replace Zb := Zb.mid hm10 (Or.inr (Nat.zero_le _))
          replace hm0 := hm0.trans hm10
          have hs10 := hm10.size
          have hS10 := And.intro (And.intro (Y80.cell 0 rfl) (And.intro (Y80.cell 1 rfl) (Y80.cell 2 rfl))) (b00.cell 1 rfl)
          clear Y81 b01 ho81 HP
          refine wpAnyZ_takeC [] (i := 8) (v := ?_) rfl (by kernel_rfl) (by kernel_rfl) (by kernel_rfl) (by kernel_rfl) (fun _ _ _ h => h) (Or.inl ⟨by rfl, ?_⟩) hS10 ?_
          rotate_left
          focus (intro w hSw; (try dsimp only at hSw); go_simp; try with_reducible rfl)
          try simp only [Act.put, List.setIfInBounds_toArray, List.set_cons_zero, List.set_cons_succ, List.getElem_toArray, List.getElem_cons_zero, List.getElem_cons_succ]
          refine wpAnyZ_takeC [] (i := 9) (v := ?_) rfl (by kernel_rfl) (by kernel_rfl) (by kernel_rfl) (by kernel_rfl) (fun _ _ _ h => h) (Or.inl ⟨by rfl, ?_⟩) hS10 ?_
          rotate_left
          focus (intro w hSw; (try dsimp only at hSw); go_simp; try with_reducible rfl)
          try simp only [Act.put, List.setIfInBounds_toArray, List.set_cons_zero, List.set_cons_succ, List.getElem_toArray, List.getElem_cons_zero, List.getElem_cons_succ]
          refine wpAnyZ_takeC [] (i := 10) (v := ?_) rfl (by kernel_rfl) (by kernel_rfl) (by kernel_rfl) (by kernel_rfl) (fun _ _ _ h => h) (Or.inl ⟨by rfl, ?_⟩) hS10 ?_
          rotate_left
          focus (intro w hSw; (try dsimp only at hSw); go_simp; try with_reducible rfl)
          try simp only [Act.put, List.setIfInBounds_toArray, List.set_cons_zero, List.set_cons_succ, List.getElem_toArray, List.getElem_cons_zero, List.getElem_cons_succ]
          have zzf := Zb.2.2
          have zz0 := Zb.cell 0 rfl
          have zz1 := Zb.cell 1 rfl
          have zz2 := Zb.cell 2 rfl
          have hst := ((Mid.setCell w10 (lo := wz.heap.size) (hi := wz.heap.size + 1) (p := ⟨wz.heap.size, 0, none⟩) (.int .i64 r) (Nat.le_refl _) (Nat.lt_succ_self _)).trans (Mid.setCell _ (lo := wz.heap.size) (hi := wz.heap.size + 1) (p := ⟨wz.heap.size, 1, none⟩) (.int .i64 rs2) (Nat.le_refl _) (Nat.lt_succ_self _))).trans (Mid.setCell _ (lo := wz.heap.size) (hi := wz.heap.size + 1) (p := ⟨wz.heap.size, 2, none⟩) (.slice A10 res2.length c10) (Nat.le_refl _) (Nat.lt_succ_self _))
          have Y82 := Y80.mid hst (Or.inl (by omega))
          have b02 := b00.mid hst (Or.inl (by omega))
          refine wpAnyZ_ready (rs := [12]) (by kernel_rfl) (by simp) (AllReadyZ.cons rfl (fun K hK => ?_) AllReadyZ.nil)
          go_simp
          refine hK.out _ _ (Or.inr ⟨⟨Y82.cell 0 rfl, Y82.cell 1 rfl, Y82.cell 2 rfl⟩, b02.cell 1 rfl⟩) (fun _ => ?_)
          clear hK K
          try simp only [Act.put, List.setIfInBounds_toArray, List.set_cons_zero, List.set_cons_succ, List.getElem_toArray, List.getElem_cons_zero, List.getElem_cons_succ]
          refine wpAnyZ_ready (rs := [13]) (by kernel_rfl) (by simp) (AllReadyZ.cons rfl (fun K hK => ?_) AllReadyZ.nil)
          go_simp
          refine hK.out _ _ (Or.inr ⟨⟨Y82.cell 0 rfl, Y82.cell 1 rfl, Y82.cell 2 rfl⟩, b02.cell 1 rfl⟩) (fun _ => ?_)
          clear hK K
          try simp only [Act.put, List.setIfInBounds_toArray, List.set_cons_zero, List.set_cons_succ, List.getElem_toArray, List.getElem_cons_zero, List.getElem_cons_succ]
          refine wpAnyZ_done (by kernel_rfl) ?_ _
          have ho11 := ho10.mid hst (Or.inl (by omega))
          replace b2 := b2.mid hst (Or.inl (by omega))
          replace Y6 := Y6.mid hst (Or.inl (by omega))
          replace Zb := ((Zb.set 0 (.int .i64 r) (by simp) rfl).set 1 (.int .i64 rs2) (by simp) rfl).set 2 (.slice A10 res2.length c10) (by simp) rfl
          simp only [List.set_cons_succ, List.set_cons_zero] at Zb
          replace hm0 := ((hm0.storeNew (p := ⟨wz.heap.size, 0, none⟩) (by show w.heap.size ≤ wz.heap.size; omega) (.int .i64 r)).storeNew (p := ⟨wz.heap.size, 1, none⟩) (by show w.heap.size ≤ wz.heap.size; omega) (.int .i64 rs2)).storeNew (p := ⟨wz.heap.size, 2, none⟩) (by show w.heap.size ≤ wz.heap.size; omega) (.slice A10 res2.length c10)
          have hlo11 : w6.heap.size + 1 ≤ wy.heap.size := by omega
          have hgz : w6.heap.size + 1 ≤ wz.heap.size := by omega
          have hc10 := ho10.cnt.1
          have b01 := b02
          clear Y80 Y82 b00 b02 hS10 hst ho10 hm10 zz0 zz1 zz2 zzf
          generalize ((w10.setCell ⟨wz.heap.size, 0, none⟩ (.int .i64 r)).setCell ⟨wz.heap.size, 1, none⟩ (.int .i64 rs2)).setCell ⟨wz.heap.size, 2, none⟩ (.slice A10 res2.length c10) = w11 at b2 Y6 Zb ho11 hm0 b01 ⊢
          generalize wz.heap.size = Gz at Zb hgz ⊢
          have hpi := HPI.out
          cases bb with
          | false =>
            rcases hpi with ⟨h, -⟩ | ⟨-, hno, -, -⟩
            · cases h
            · obtain ⟨rfl, -, -, -⟩ := HE.out.not (by rw [HK2.out]; exact hlt) (by rw [HK1.out, HK2.out]; exact fun h => hno h.2)
              rcases HCASE.out with ⟨-, rfl, rfl, rfl, rfl⟩ | ⟨h, -⟩
              · have hb11 := b2.1
                have z0 := b2.cell 0 rfl
                have z1 := b2.cell 1 rfl
                have z2 := b2.cell 2 rfl
                have zf := b2.2.2
                clear hno HPI HCASE HE
                go_wp2_with fail
                refine bodyPost_ret (v := .tuple #[.agg #[.int .i64 0, .int .i64 0, .slice none 0 0], .bool false]) (by simp [results, Tryz.results31, go_sem, z0, z1, z2, zf]) rfl ⟨none, 0, rfl, ?_, ?_⟩
                · exact ⟨Nat.le_refl _, ⟨rfl, .inl ⟨rfl, rfl⟩⟩, fun g hg => by simp [Value.ownBlock] at hg⟩
                · repeat (first | exact hm0 | refine Mid.trans ?_ (Mid.alloc _ _) | refine Mid.storeNew ?_ (by simp; try omega) _)
              · cases h
          | true =>
            rcases hpi with ⟨-, hok, hrs, hre⟩ | ⟨h, -⟩
            · obtain ⟨rfl, h2, h3, hxn⟩ := HE.out.more (by rw [HK2.out]; exact hlt) (by rw [HK1.out, HK2.out]; exact ⟨by omega, hok⟩)
              rw [HK2.out] at h2
              rw [HK1.out, HK2.out] at h3
              have hse : s2 = rs2 := h2.trans hrs.symm
              have hee : es2 = res2 := h3.trans hre.symm
              rcases HCASE.out with ⟨h, -⟩ | ⟨-, rfl, hmv⟩
              · cases h
              · rw [hse, hee, hxn] at hmv
                have HMV := Lib.hid hmv
                have hgx := HE.out.gr HC.out.gr
                rw [hse, hee] at hgx
                have hlen2 := hgx.1.len
                have hb11 := b2.1
                have hy6 := Y6.1
                clear h2 h3 hrs hre hok HPI HCASE HE hmv hse hee hxn
                have q0 := Zb.cell 0 rfl
                have q1 := Zb.cell 1 rfl
                have q2 := Zb.cell 2 rfl
                have yf := Y6.2.2
                have y0 := Y6.cell 0 rfl
                have y1 := Y6.cell 1 rfl
                have y2 := Y6.cell 2 rfl
                have p1 := b01.cell 1 rfl
                have hst := ((Mid.setCell w11 (lo := w6.heap.size) (hi := w6.heap.size + 1) (p := ⟨w6.heap.size, 0, none⟩) (.int .i64 r) (Nat.le_refl _) (Nat.lt_succ_self _)).trans (Mid.setCell _ (lo := w6.heap.size) (hi := w6.heap.size + 1) (p := ⟨w6.heap.size, 1, none⟩) (.int .i64 rs2) (Nat.le_refl _) (Nat.lt_succ_self _))).trans (Mid.setCell _ (lo := w6.heap.size) (hi := w6.heap.size + 1) (p := ⟨w6.heap.size, 2, none⟩) (.slice A10 res2.length c10) (Nat.le_refl _) (Nat.lt_succ_self _))
                have ho12 := ho11.mid hst (Or.inl (by omega))
                have b22 := b2.mid hst (Or.inl (by omega))
                have hm12 := ((hm0.storeNew (p := ⟨w6.heap.size, 0, none⟩) (by show w.heap.size ≤ w6.heap.size; omega) (.int .i64 r)).storeNew (p := ⟨w6.heap.size, 1, none⟩) (by show w.heap.size ≤ w6.heap.size; omega) (.int .i64 rs2)).storeNew (p := ⟨w6.heap.size, 2, none⟩) (by show w.heap.size ≤ w6.heap.size; omega) (.slice A10 res2.length c10)
                have hne6 : (w.heap.size == w6.heap.size) = false := by simp; omega
                go_wp2_with fail
                generalize ((w11.setCell ⟨w6.heap.size, 0, none⟩ (.int .i64 r)).setCell ⟨w6.heap.size, 1, none⟩ (.int .i64 rs2)).setCell ⟨w6.heap.size, 2, none⟩ (.slice A10 res2.length c10) = w12 at ho12 b22 hm12 ⊢
                with_reducible refine (spec_MoveBase r rs2 A10 res2 c10 n w12 _ _ ho12.rg (by omega) (by omega) rs res b HMV.out).mono ?_
                rintro en w20 ⟨A20, c20, rfl, ho20, hm20⟩
                have hs20 := hm20.size
                have hb12 := b22.1
                replace b22 := b22.mid hm20 (Or.inr (Nat.zero_le _))
                replace hm12 := hm12.trans hm20
                have hb20 : w.heap.size + 1 < w20.heap.size := b22.1
                have hb21 : w.heap.size < w20.heap.size := by omega
                have Y20 := Box.new w20 #[.int .i64 r, .int .i64 rs, .slice A20 res.length c20] 29
                clear y0 y1 y2 q0 q1 q2 p1 yf
                have z0 := b22.cell 0 rfl
                have z1 := b22.cell 1 rfl
                have z2 := b22.cell 2 rfl
                have q0 := Y20.cell 0 rfl
                have q1 := Y20.cell 1 rfl
                have q2 := Y20.cell 2 rfl
                have zf := b22.2.2
                go_wp2_with fail
                refine bodyPost_ret (v := .tuple #[.agg #[.int .i64 r, .int .i64 rs, .slice A20 res.length c20], .bool b]) (by simp [results, Tryz.results31, go_sem, z0, z1, z2, zf, q0, q1, q2, hb20, hb21, World.cell?_alloc_lt]) rfl ⟨A20, c20, rfl, ?_, ?_⟩
                · refine OG.wide (OG.mid ho20 (a := w.heap.size + 1) (b := w.heap.size + 2) ?_ (Or.inl (by omega))) (by omega) (by simp; try omega) (Nat.le_refl _)
                  repeat (first | exact Mid.refl _ _ _ | refine Mid.trans ?_ (Mid.zero (Mid.alloc _ _)) | refine Mid.stored ?_ _ (by simp; try omega) (by simp; try omega))
                · repeat (first | exact hm12 | refine Mid.trans ?_ (Mid.alloc _ _) | refine Mid.storeNew ?_ (by simp; try omega) _)
            · cases h
      · obtain rfl : n = 40 := by omega
        have hav : AvIs r ((40 : Nat) : Int) es ((40 : Nat) : Int) false := .inr ⟨rfl, fun h => by have := h.2; omega, rfl⟩
        obtain ⟨rfl, -, -, -⟩ := HE.out.not (by rw [HK2.out]; exact hlt) (fun h => by have := h.1; omega)
        rcases HCASE.out with ⟨-, rfl, rfl, rfl, rfl⟩ | ⟨h, -⟩
        · with_reducible refine (spec_AddVertex r ((40 : Nat) : Int) A es c w7 _ _ (hr.mid hm0 (Or.inl (Nat.zero_le _))) (by omega) ((40 : Nat) : Int) false hav).mono ?_
          rintro en w8 ⟨A8, c8, rfl, ho8, hm8⟩
          replace b2 := b2.mid hm8 (Or.inr (Nat.zero_le _))
          replace hm0 := hm0.trans hm8
          have hb23 : w.heap.size + 1 < w8.heap.size := b2.1
          have hb22 : w.heap.size < w8.heap.size := by omega
          have z0 := b2.cell 0 rfl
          have z1 := b2.cell 1 rfl
          have z2 := b2.cell 2 rfl
          have zf := b2.2.2
          clear p0 p1 p2 hav HCASE HE
          go_wp2_with fail
          refine bodyPost_ret (v := .tuple #[.agg #[.int .i64 0, .int .i64 0, .slice none 0 0], .bool false]) (by simp [results, Tryz.results31, go_sem, z0, z1, z2, zf, hb22, hb23, World.cell?_alloc_lt]) rfl ⟨none, 0, rfl, ?_, ?_⟩
          · exact ⟨Nat.le_refl _, ⟨rfl, .inl ⟨rfl, rfl⟩⟩, fun g hg => by simp [Value.ownBlock] at hg⟩
          · repeat (first | exact hm0 | refine Mid.trans ?_ (Mid.alloc _ _) | refine Mid.storeNew ?_ (by simp; try omega) _)
        · cases h
    · obtain rfl : k = wd.length := by omega
      obtain ⟨rfl, rfl, rfl, hxu⟩ := HE.out.full HK2.out
      rw [HK1.out] at hxu
      subst hxu
      rcases HCASE.out with ⟨h, -⟩ | ⟨-, rfl, hmv⟩
      · cases h
      · have HMV := Lib.hid hmv
        have hrg6 := ho6.rg
        obtain ⟨A9, hA9⟩ : ∃ A9, A6 = A9 := ⟨_, rfl⟩
        subst hA9
        obtain ⟨c9, hc9⟩ : ∃ c9, c6 = c9 := ⟨_, rfl⟩
        subst hc9
        have y0 := Y6.cell 0 rfl
        have y1 := Y6.cell 1 rfl
        have y2 := Y6.cell 2 rfl
        clear hmv HCASE HE
        go_wp2_with fail
        with_reducible refine (spec_MoveBase r n A6 es2 c6 x _ _ _ hrg6 (by omega) (by omega) rs res b HMV.out).mono ?_
        rintro en w20 ⟨A20, c20, rfl, ho20, hm20⟩
        have hs20 := hm20.size
        replace b2 := b2.mid hm20 (Or.inr (Nat.zero_le _))
        replace hm0 := hm0.trans hm20
        have hb20 : w.heap.size + 1 < w20.heap.size := b2.1
        have hb21 : w.heap.size < w20.heap.size := by omega
        have Y20 := Box.new w20 #[.int .i64 r, .int .i64 rs, .slice A20 res.length c20] 29
        clear y0 y1 y2
        have z0 := b2.cell 0 rfl
        have z1 := b2.cell 1 rfl
        have z2 := b2.cell 2 rfl
        have q0 := Y20.cell 0 rfl
        have q1 := Y20.cell 1 rfl
        have q2 := Y20.cell 2 rfl
        have zf := b2.2.2
        clear p0 p1 p2
        go_wp2_with fail
        refine bodyPost_ret (v := .tuple #[.agg #[.int .i64 r, .int .i64 rs, .slice A20 res.length c20], .bool b]) (by simp [results, Tryz.results31, go_sem, z0, z1, z2, zf, q0, q1, q2, hb20, hb21, World.cell?_alloc_lt]) rfl ⟨A20, c20, rfl, ?_, ?_⟩
        · refine OG.wide (OG.mid ho20 (a := w.heap.size + 1) (b := w.heap.size + 2) ?_ (Or.inl (by simp; omega))) (by simp; omega) (by simp; try omega) (Nat.le_refl _)
          repeat (first | exact Mid.refl _ _ _ | refine Mid.trans ?_ (Mid.zero (Mid.alloc _ _)) | refine Mid.stored ?_ _ (by simp; try omega) (by simp; try omega))
        · repeat (first | exact hm0 | refine Mid.trans ?_ (Mid.alloc _ _) | refine Mid.storeNew ?_ (by simp; try omega) _)
  · obtain ⟨rfl, rfl, rfl, rfl⟩ := HR.out.no hc
    have hcase : ¬ IsCor r s es ∨ (IsCor r s es ∧ ¬ IsW r wd) := by
      by_cases h : IsCor r s es
      · exact .inr ⟨h, fun h2 => hc ⟨h, h2⟩⟩
      · exact .inl h
    have HCASE := Lib.hid hcase
    clear hc hcase HR
    go_enter Tryz.func31, Tryz.ntmps31
    go_wp2_with fail
    generalize ((w.alloc (.cells #[.int .i64 r, .int .i64 s, .slice A es.length c] 29)).alloc (.cells #[.int .i64 0, .int .i64 0, .slice none 0 0] 29)) = w1 at hm0 b0 b2 ⊢
    rcases HCASE.out with hc | ⟨hc, hwd⟩
    · have HC := Lib.hid hc
      clear hc HCASE
      with_reducible refine (spec_IsSubgroup r s A es c _ _ _ (hr.mid hm0 (Or.inl (Nat.zero_le _))) hl false (iff_of_false Bool.false_ne_true HC.out)).mono ?_
      rintro en w2 ⟨rfl, hm2⟩
      replace b2 := b2.mid hm2 (Or.inr (Nat.zero_le _))
      replace hm0 := hm0.trans hm2
      have z0 := b2.cell 0 rfl
      have z1 := b2.cell 1 rfl
      have z2 := b2.cell 2 rfl
      have zf := b2.2.2
      go_wp2_with fail
      refine bodyPost_ret (v := .tuple #[.agg #[.int .i64 0, .int .i64 0, .slice none 0 0], .bool false]) (by simp [results, Tryz.results31, go_sem, z0, z1, z2, zf]) rfl ⟨none, 0, rfl, ?_, ?_⟩
      · exact ⟨Nat.le_refl _, ⟨rfl, .inl ⟨rfl, rfl⟩⟩, fun g hg => by simp [Value.ownBlock] at hg⟩
      · repeat (first | exact hm0 | refine Mid.trans ?_ (Mid.alloc _ _) | refine Mid.storeNew ?_ (by simp; try omega) _)
    · have HC := Lib.hid hc
      have HW := Lib.hid hwd
      clear hc hwd HCASE
      with_reducible refine (spec_IsSubgroup r s A es c _ _ _ (hr.mid hm0 (Or.inl (Nat.zero_le _))) hl true (iff_of_true rfl HC.out)).mono ?_
      rintro en w2 ⟨rfl, hm2⟩
      replace b0 := b0.mid hm2 (Or.inr (Nat.zero_le _))
      replace b2 := b2.mid hm2 (Or.inr (Nat.zero_le _))
      replace hm0 := hm0.trans hm2
      have p0 := b0.cell 0 rfl
      have p1 := b0.cell 1 rfl
      have p2 := b0.cell 2 rfl
      go_wp2_with fail
      with_reducible refine (spec_IsWord r Aw wd cw _ _ ((hw.mid hm0 (Or.inl (Nat.zero_le _))).rs) HOK.out (by omega) false (iff_of_false Bool.false_ne_true HW.out)).mono ?_
      rintro en w3 ⟨rfl, nd, hw3⟩
      have hm3 : Mid 0 0 w2 w3 := by rw [hw3]; exact (Mid.refl 0 0 w2).drewN nd
      replace b0 := b0.mid hm3 (Or.inr (Nat.zero_le _))
      replace b2 := b2.mid hm3 (Or.inr (Nat.zero_le _))
      replace hm0 := hm0.trans hm3
      have hs3 := hm3.size
      clear p0 p1 p2 hw3 hm3
      have p0 := b0.cell 0 rfl
      have p1 := b0.cell 1 rfl
      have p2 := b0.cell 2 rfl
      have z0 := b2.cell 0 rfl
      have z1 := b2.cell 1 rfl
      have z2 := b2.cell 2 rfl
      have zf := b2.2.2
      clear p0 p1 p2
      go_wp2_with fail
      refine bodyPost_ret (v := .tuple #[.agg #[.int .i64 0, .int .i64 0, .slice none 0 0], .bool false]) (by simp [results, Tryz.results31, go_sem, z0, z1, z2, zf]) rfl ⟨none, 0, rfl, ?_, ?_⟩
      · exact ⟨Nat.le_refl _, ⟨rfl, .inl ⟨rfl, rfl⟩⟩, fun g hg => by simp [Value.ownBlock] at hg⟩
      · repeat (first | exact hm0 | refine Mid.trans ?_ (Mid.alloc _ _) | refine Mid.storeNew ?_ (by simp; try omega) _)
end Go.Proofs.YtgpljoplnecioaaGreat

/- The law on ConjugateSubgroup: its data. -/
namespace Go.Proofs.YtgpljoplnecioaaGreat
set_option linter.unusedVariables false
open Go.RowKit
theorem OI.capC {w : World} {lo hi : Nat} {A : Option Addr} {c : Nat} {xs : List Int} (h : OI w lo hi A c xs) : xs.length ≤ c := by
  obtain ⟨A', c', he, hn, -⟩ := owns_shape h.2.1
  injection he with _ _ hc
  omega
def ConjugateSubgroupIs (r0 s0 : Int) (d0 : List Ed) (d1 : List Int) (rr0 rs0 : Int) (res0 : List Ed) (res1 : Bool) : Prop := CjIs r0 s0 d0 d1 rr0 rs0 res0 res1
theorem ConjugateSubgroupIs_ex (r0 s0 : Int) (d0 : List Ed) (d1 : List Int) (hl0 : d0.length ≤ 1048576) (_ : OkI d1) (hl1 : d1.length ≤ 1048576) : ∃ rr0 rs0 res0 res1, ConjugateSubgroupIs r0 s0 d0 d1 rr0 rs0 res0 res1 := CjIs_ex r0 s0 d0 d1
theorem ConjugateSubgroupIs_len {r0 s0 : Int} {d0 : List Ed} {d1 : List Int} {rr0 rs0 : Int} {res0 : List Ed} {res1 : Bool} (h : ConjugateSubgroupIs r0 s0 d0 d1 rr0 rs0 res0 res1) (hl0 : d0.length ≤ 1048576) (_ : OkI d1) (hl1 : d1.length ≤ 1048576) : res0.length ≤ 1048576 := by
  have := CjIs.lens h
  omega
theorem sspec_ConjugateSubgroup (r0 s0 : Int) (A0 : Option Addr) (d0 : List Ed) (c0 : Nat) (A1 : Option Addr) (d1 : List Int) (c1 : Nat) (w : World) (lo0 hi0 : Nat) (h0 : OG w lo0 hi0 A0 c0 d0) (hl0 : d0.length ≤ 1048576) (lo1 hi1 : Nat) (h1 : OI w lo1 hi1 A1 c1 d1) (o1 : OkI d1) (hl1 : d1.length ≤ 1048576) (rr0 rs0 : Int) (res0 : List Ed) (res1 : Bool) (h : ConjugateSubgroupIs r0 s0 d0 d1 rr0 rs0 res0 res1) :
    Calls Tryz.prog 31 #[.agg #[.int .i64 r0, .int .i64 s0, .slice A0 d0.length c0], .slice A1 d1.length c1] w fun e w' => ∃ (A : Option Addr) (c : Nat), e = .returned (.tuple #[.agg #[.int .i64 rr0, .int .i64 rs0, .slice A res0.length c], .bool res1]) ∧ OG w' w.heap.size w'.heap.size A c res0 ∧ Mid 0 0 w w' :=
  spec_ConjugateSubgroup r0 s0 A0 d0 c0 A1 d1 c1 w lo0 hi0 lo1 hi1 h0.rg h1.ri hl0 h0.cnt.1 h1.capC hl1 o1 rr0 rs0 res0 res1 h
theorem simpl_ConjugateSubgroup (r0 s0 : Int) (A0 : Option Addr) (d0 : List Ed) (c0 : Nat) (A1 : Option Addr) (d1 : List Int) (c1 : Nat) (w : World) (lo0 hi0 : Nat) (h0 : OG w lo0 hi0 A0 c0 d0) (hl0 : d0.length ≤ 1048576) (lo1 hi1 : Nat) (h1 : OI w lo1 hi1 A1 c1 d1) (o1 : OkI d1) (hl1 : d1.length ≤ 1048576) (rr0 rs0 : Int) (res0 : List Ed) (res1 : Bool) (h : ConjugateSubgroupIs r0 s0 d0 d1 rr0 rs0 res0 res1) :
    Calls Tryz.prog 32 #[.agg #[.int .i64 r0, .int .i64 s0, .slice A0 d0.length c0], .slice A1 d1.length c1] w fun e w' => ∃ (A : Option Addr) (c : Nat), e = .returned (.tuple #[.agg #[.int .i64 rr0, .int .i64 rs0, .slice A res0.length c], .bool res1]) ∧ OG w' w.heap.size w'.heap.size A c res0 ∧ Mid 0 0 w w' :=
  impl_ConjugateSubgroup r0 s0 A0 d0 c0 A1 d1 c1 w lo0 hi0 lo1 hi1 h0.rg h1.ri hl0 h0.cnt.1 h1.capC hl1 o1 rr0 rs0 res0 res1 h
end Go.Proofs.YtgpljoplnecioaaGreat
