/- Contracts and lemmas of this seat, many texts in one: see the words ahead of each. No condition beyond those typed in each lemma. -/
import Derived.Test.YtkaofcakelpnpaaGreatIm2
import Derived.Deep.Slices
import Derived.Deep.Fields
import Derived.ChangeSame

namespace Go.Proofs.YtkaofcakelpnpaaGreat
set_option linter.unusedVariables false
set_option linter.unusedSimpArgs false
open Go.ChangeShapes Go.WideShapes Go.ChangeAt Go.RowKit
open Go.Joins Go.Deep
abbrev tEL : TypeId := 67
theorem cellsEL : Tryz.prog.cellsOf 67 = 3 := by kernel_rfl
theorem undSEL : Tryz.prog.underlying 25 = some (.slice 67) := by kernel_rfl
theorem fields3 {H : Type} {enc : TypeId × Value → H} {P : Program} {w : World} {base : Nat} {spare : Nat → Bool} {held : Bool} {t : TypeId} {fs : Array Field} {fuel : Nat} {cs : List Value} {x : DataW H × List MemPlace}
    (ht : P.underlying t = some (.struct fs)) (hone : oneCellFields P fs = true) (h : DataW.trod enc P w base spare held fuel t cs = some x) (hl : cs.length = fs.size) :
    ∃ n, ∀ (j : Nat) (f : Field), fs[j]? = some f → ∃ v y, cs[j]? = some v ∧ DataW.trod enc P w base spare held n f.type [v] = some y := by
  obtain ⟨ys, n', hn', hy, hlen, hyl, hf⟩ := DataW.trod_struct ht h
  refine ⟨n', fun j f hj => ?_⟩
  obtain ⟨ho, hk⟩ := hone_of hone j f hj
  have hjl : j < fs.size := (Array.getElem?_eq_some_iff.1 hj).1
  have h1 := hf j f hj
  rw [ho, hk] at h1
  have h2 : (cs.drop j).take 1 = [cs[j]] := by
    rw [List.drop_eq_getElem_cons (by omega)]
    rfl
  rw [h2] at h1
  exact ⟨cs[j], ys[j], List.getElem?_eq_getElem (by omega), h1.trans (List.getElem?_eq_getElem (by omega))⟩
set_option maxRecDepth 100000 in
theorem edge_cells {H : Type} {enc : TypeId × Value → H} {W : World} {a : Addr} {n : Nat} {cs : List Value} {x : DataW H × List MemPlace}
    (hc : W.cells? 0 a 3 = some cs) (h : DataW.trod enc Tryz.prog W 0 (fun _ => true) true n 67 cs = some x) :
    ∃ e : Ed, W.cell? a = some (.int .i64 e.a) ∧ W.cell? (a.add 1) = some (.int .i64 e.l) ∧ W.cell? (a.add 2) = some (.int .i64 e.b) ∧ OkI (edI [e]) := by
  obtain ⟨_, hcl, hat⟩ := World.cells?_some hc
  obtain ⟨n', hf⟩ := fields3 Tryz.underlying67 (by kernel_rfl) h (by rw [hcl]; rfl)
  have h0 := hf 0 _ rfl
  have h1 := hf 1 _ rfl
  have h2 := hf 2 _ rfl
  obtain ⟨v0, y0, g0, t0⟩ := h0
  obtain ⟨v1, y1, g1, t1⟩ := h1
  obtain ⟨v2, y2, g2, t2⟩ := h2
  obtain ⟨m0, hm0, -, w0⟩ := DataW.trod_int undI t0
  obtain ⟨m1, hm1, -, w1⟩ := DataW.trod_int undI t1
  obtain ⟨m2, hm2, -, w2⟩ := DataW.trod_int undI t2
  simp at hm0 hm1 hm2
  subst hm0 hm1 hm2
  refine ⟨⟨m0, m1, m2⟩, ?_, ?_, ?_, ?_⟩
  · have := hat 0 (by omega)
    rw [show a.add 0 = a by simp [Addr.add]] at this
    rw [this, g0]
  · rw [hat 1 (by omega), g1]
  · rw [hat 2 (by omega), g2]
  · rw [edI_one]
    intro x hx
    simp at hx
    rcases hx with rfl | rfl | rfl
    · exact wf_bounds w0
    · exact wf_bounds w1
    · exact wf_bounds w2
theorem okI_edI {es : List Ed} (h : ∀ e ∈ es, OkI (edI [e])) : OkI (edI es) := by
  induction es with
  | nil => intro x hx; simp [edI] at hx
  | cons e t ih =>
    intro x hx
    rw [show e :: t = [e] ++ t from rfl, edI_append] at hx
    rcases List.mem_append.1 hx with hx | hx
    · exact h e (by simp) x hx
    · exact ih (fun f hf => h f (by simp [hf])) x hx
theorem edges_of_cells {H : Type} {enc : TypeId × Value → H} {W : World} {fuel : Nat} {A : Option Addr} {len c : Nat} {x : DataW H × List MemPlace}
    (h : DataW.trod enc Tryz.prog W 0 (fun _ => true) true fuel 25 [.slice A len c] = some x) : ∃ es : List Ed, len = es.length ∧ RG W 0 W.heap.size A es ∧ OkI (edI es) ∧ es.length ≤ 9223372036854775807 := by
  rcases open_slice undSEL h with ⟨hcs, _⟩ | ⟨a, len', cap, m, n, D, Pl, hcs, _, hl, hm, hmm, -, hi⟩
  · simp at hcs
    obtain ⟨rfl, rfl, rfl⟩ := hcs
    exact ⟨[], rfl, ⟨Nat.le_refl _, fun hn => absurd rfl hn⟩, fun x hx => by simp [edI] at hx, by simp⟩
  · simp at hcs
    obtain ⟨rfl, rfl, rfl⟩ := hcs
    simp at hmm
    subst hmm
    have hx : ∀ i, ∃ e : Ed, i < len → (W.cell? (a.add (i * 3)) = some (.int .i64 e.a) ∧ W.cell? ((a.add (i * 3)).add 1) = some (.int .i64 e.l) ∧ W.cell? ((a.add (i * 3)).add 2) = some (.int .i64 e.b) ∧ OkI (edI [e])) := by
      intro i
      by_cases hil : i < len
      · obtain ⟨cs', hc, ht'⟩ := hi i (by omega)
        rw [cellsEL] at hc
        obtain ⟨e, he⟩ := edge_cells hc ht'
        exact ⟨e, fun _ => he⟩
      · exact ⟨⟨0, 0, 0⟩, fun h => absurd h hil⟩
    obtain ⟨f, hf⟩ := Classical.axiomOfChoice hx
    refine ⟨(List.range len).map f, by simp, ⟨Nat.le_refl _, fun hne => ?_⟩, ?_, by unfold maxLen at hm; simp; omega⟩
    · have hp : 0 < len := by
        rcases Nat.eq_zero_or_pos len with h0 | h0
        · subst h0
          simp [ints, edI] at hne
        · exact h0
      have h0 := (hf 0 hp).1
      obtain ⟨b, off, spot⟩ := a
      have hspot : spot = none := by simpa [Addr.add] using World.cell?_spot h0
      subst hspot
      refine ⟨b, off, rfl, Nat.zero_le _, ?_, fun j u hu => ?_⟩
      · have := World.block_lt_of_cell? _ _ h0
        simpa [Addr.add] using this
      · have hj : j < len * 3 := by
          have := (List.getElem?_eq_some_iff.1 hu).1
          rw [ints_len, edI_len] at this
          simpa using this
        obtain ⟨k, r, hr, rfl⟩ : ∃ k r, r < 3 ∧ j = k * 3 + r := ⟨j / 3, j % 3, by omega, by omega⟩
        obtain ⟨c0, c1, c2, -⟩ := hf k (by omega)
        have hg : ((List.range len).map f)[k]? = some (f k) := by
          rw [List.getElem?_map, List.getElem?_range (by omega)]
          rfl
        obtain ⟨g0, g1, g2⟩ := edI_at hg
        rw [Addr.add_lit] at c0
        rw [Addr.add_lit, Addr.add_lit] at c1 c2
        rw [ints_get] at hu
        rcases r with _ | _ | _ | r
        · rw [Nat.add_zero, g0] at hu
          rw [Nat.add_zero, c0]
          simpa using hu
        · rw [g1] at hu
          rw [← Nat.add_assoc, c1]
          simpa using hu
        · rw [g2] at hu
          rw [← Nat.add_assoc, c2]
          simpa using hu
        · omega
    · refine okI_edI fun e he => ?_
      obtain ⟨i, hi', rfl⟩ := List.mem_map.1 he
      exact (hf i (by simpa using hi')).2.2.2
set_option maxRecDepth 100000 in
theorem open_graph {H : Type} {enc : TypeId × Value → H} {W : World} {r : Reach} {base : Nat} {v : Value} {d : DataW H} {ps : List MemPlace}
    (hok : Value.okWide Tryz.prog W r base 27 v) (h : DataW.Trod enc Tryz.prog W 0 (fun _ => true) true 27 v d ps) :
    ∃ m s A es c, v = .agg #[.int .i64 m, .int .i64 s, .slice A (List.length es) c] ∧ (Lit.int .i64 m).wf = true ∧ (Lit.int .i64 s).wf = true ∧ RG W 0 W.heap.size A es ∧ OkI (edI es) ∧ es.length ≤ 9223372036854775807 := by
  obtain ⟨v0, v1, v2, y0, y1, y2, n, rfl, -, -, h0, h1, h2⟩ := open_agg3 Tryz.underlying27 (by kernel_rfl) (by kernel_rfl) hok h
  have h0' : DataW.trod enc Tryz.prog W 0 (fun _ => true) true n 3 [v0] = some y0 := h0
  have h1' : DataW.trod enc Tryz.prog W 0 (fun _ => true) true n 3 [v1] = some y1 := h1
  have h2' : DataW.trod enc Tryz.prog W 0 (fun _ => true) true n 25 [v2] = some y2 := h2
  clear h0 h1 h2
  obtain ⟨m, hm, -, hw⟩ := DataW.trod_int undI h0'
  obtain ⟨s, hs, -, hw'⟩ := DataW.trod_int undI h1'
  obtain ⟨A, l, c, hsl⟩ := slice_form undSEL h2'
  simp at hm hs hsl
  subst hm hs hsl
  obtain ⟨es, rfl, ha, hb, hc⟩ := edges_of_cells h2'
  exact ⟨m, s, A, es, c, rfl, hw, hw', ha, hb, hc⟩
end Go.Proofs.YtkaofcakelpnpaaGreat
