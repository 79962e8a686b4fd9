/- Contracts and lemmas of this seat, many texts in one: see the words ahead of each. No condition beyond those typed in each lemma. -/
import Derived.Test.YtimmnnncgnnkgaaFw1
import Derived.Deep.RegionHeld3
import Derived.Laws.StructEq
import Derived.Lib.OwnBridge
import Derived.BigQuiet
import Derived.Deep.DrawnRows
import Derived.StillTail

/- The laws' helpers on slices of Edges. -/
namespace Go.Proofs.Ytimmnnncgnnkgaa
set_option linter.unusedVariables false
set_option linter.unusedSimpArgs false
open Go.RowKit

end Go.Proofs.Ytimmnnncgnnkgaa

/- The laws' helpers on graphs; graphs with the blocks they lie in. -/
namespace Go.Proofs.Ytimmnnncgnnkgaa
set_option linter.unusedVariables false
set_option linter.unusedSimpArgs false
open Go.RowKit

theorem infoE : (Try.prog.info? 70).map (fun i => (i.zero, i.size, i.bytes)) = some (some (.agg #[.int .i64 0, .int .i64 0, .int .i64 0]), 3, 24) := by kernel_rfl
theorem undSE : Try.prog.underlying 26 = some (.slice 70) := by kernel_rfl
/-- The edges at A, and the same in a row of the call's own. -/
def RG (w : World) (lo hi : Nat) (A : Option Addr) (es : List Ed) : Prop := RV w lo hi A (ints (edI es))
def OG (w : World) (lo hi : Nat) (A : Option Addr) (c : Nat) (es : List Ed) : Prop := OV w lo hi 70 3 A c es.length (ints (edI es))
section
variable {w w' : World} {lo hi a b : Nat} {A : Option Addr} {c : Nat} {es : List Ed}
theorem RG.rv (h : RG w lo hi A es) : RV w lo hi A (ints (edI es)) := h
theorem RV.rg (h : RV w lo hi A (ints (edI es))) : RG w lo hi A es := h
theorem OG.ov (h : OG w lo hi A c es) : OV w lo hi 70 3 A c es.length (ints (edI es)) := h
theorem RG.mid (h : RG w lo hi A es) (m : Mid a b w w') (hd : b ≤ lo ∨ hi ≤ a) : RG w' lo hi A es := RV.mid h m hd
theorem OG.mid (h : OG w lo hi A c es) (m : Mid a b w w') (hd : b ≤ lo ∨ hi ≤ a) : OG w' lo hi A c es := OV.mid h m hd
theorem OG.rg (h : OG w lo hi A c es) : RG w lo hi A es := OV.rv h
theorem RG.size (h : RG w lo hi A es) : hi ≤ w.heap.size := h.1
theorem OG.size (h : OG w lo hi A c es) : hi ≤ w.heap.size := h.1
theorem OG.wide {lo' hi' : Nat} (h : OG w lo hi A c es) (h1 : lo' ≤ lo) (h2 : hi ≤ hi') (h3 : hi' ≤ w.heap.size) : OG w lo' hi' A c es := OV.wide h h1 h2 h3
theorem RG.wide {lo' hi' : Nat} (h : RG w lo hi A es) (h1 : lo' ≤ lo) (h2 : hi ≤ hi') (h3 : hi' ≤ w.heap.size) : RG w lo' hi' A es := RV.wide h h1 h2 h3
theorem RG.ed {k : Nat} (h : RG w lo hi A es) (hk : k < es.length) :
    ∃ b off e, A = some ⟨b, off, none⟩ ∧ lo ≤ b ∧ b < hi ∧ es[k]? = some e ∧ w.cell? ⟨b, off + k * 3, none⟩ = some (.int .i64 e.a) ∧ w.cell? ⟨b, off + k * 3 + 1, none⟩ = some (.int .i64 e.l) ∧ w.cell? ⟨b, off + k * 3 + 2, none⟩ = some (.int .i64 e.b) := RV.ed h hk
theorem OG.nil : OG w lo w.heap.size none 0 [] := ⟨Nat.le_refl _, ⟨rfl, .inl ⟨rfl, rfl⟩⟩, fun g hg => by simp [Value.ownBlock] at hg⟩
theorem OG.mk' {v : Value} {n base : Nat} (h : w.ownsRow base 70 3 v n (ints (edI es))) : ∃ A c, v = .slice A es.length c ∧ n = es.length ∧ OG w base w.heap.size A c es := by
  obtain ⟨A, c, rfl, -, -⟩ := owns_shape h
  have hn : n = es.length := by have := h.1; rw [ints_len, edI_len] at this; omega
  subst hn
  exact ⟨A, c, rfl, rfl, Nat.le_refl _, h, fun g hg => (h.lt g hg).2⟩
end
theorem oneInts (xs : List Int) : ∀ u ∈ ints xs, u.oneCell' = true := by
  intro u hu
  obtain ⟨x, -, rfl⟩ := List.mem_map.1 hu
  rfl

end Go.Proofs.Ytimmnnncgnnkgaa

/- The library's SortFunc, Contains and Equal at slices of edges. -/
namespace Go.Proofs.Ytimmnnncgnnkgaa
set_option linter.unusedVariables false
set_option linter.unusedSimpArgs false
open Go.RowKit Go.Shelf Go.Lib Go.Sort

instance : Inhabited Ed := ⟨⟨0, 0, 0⟩⟩
/-- An edge's cells. -/
def encE (e : Ed) : List Value := [.int .i64 e.a, .int .i64 e.l, .int .i64 e.b]
/-! ### SortFunc -/
end Go.Proofs.Ytimmnnncgnnkgaa

/- Plain: a list of edges without runs of equals. -/
namespace Go.Proofs.Ytimmnnncgnnkgaa
set_option linter.unusedVariables false
set_option linter.unusedSimpArgs false

def compStep (out : List Ed) (e : Ed) : List Ed := if out.getLast? = some e then out else out ++ [e]
def compE (es : List Ed) : List Ed := es.foldl compStep []
theorem compE_snoc (xs : List Ed) (e : Ed) : compE (xs ++ [e]) = compStep (compE xs) e := by simp [compE]
theorem compStep_last (out : List Ed) (e : Ed) : (compStep out e).getLast? = some e := by
  unfold compStep
  split
  · assumption
  · simp
theorem take_snoc {es : List Ed} {k : Nat} {e : Ed} (h : es[k]? = some e) : es.take (k + 1) = es.take k ++ [e] := by
  obtain ⟨hk, h'⟩ := List.getElem?_eq_some_iff.1 h
  rw [List.take_succ_eq_append_getElem hk, h']
theorem compE_take {es : List Ed} {k : Nat} {e : Ed} (h : es[k]? = some e) : compE (es.take (k + 1)) = compStep (compE (es.take k)) e := by rw [take_snoc h, compE_snoc]
theorem compE_last {es : List Ed} {k : Nat} {e : Ed} (h : es[k]? = some e) : (compE (es.take (k + 1))).getLast? = some e := by rw [compE_take h]; exact compStep_last _ _
/-- The row at work: what stands ahead of kk is what is kept of the first j; from kk on nothing has turned. -/
structure CompAt (es : List Ed) (j kk : Nat) (ys : List Ed) : Prop where
  len : ys.length = es.length
  lt : kk < j
  cnt : kk = (compE (es.take j)).length
  low : ys.take kk = compE (es.take j)
  high : ∀ i, kk ≤ i → ys[i]? = es[i]?
theorem CompAt.start {es : List Ed} {k : Nat} {e : Ed} (h : compE (es.take k) = es.take k) (h0 : 0 < k) (hk : es[k]? = some e) (hp : es[k - 1]? = some e) : CompAt es (k + 1) k es := by
  have hkl := (List.getElem?_eq_some_iff.1 hk).1
  have hl : (compE (es.take k)).getLast? = some e := by
    have := compE_last hp
    rwa [Nat.sub_add_cancel h0] at this
  have hc : compE (es.take (k + 1)) = es.take k := by
    rw [compE_take hk, compStep, if_pos hl, h]
  exact ⟨rfl, by omega, by rw [hc, List.length_take]; omega, hc.symm, fun _ _ => rfl⟩
theorem CompAt.skip {es ys : List Ed} {j kk : Nat} {e : Ed} (h : CompAt es j kk ys) (hj : es[j]? = some e) (hp : es[j - 1]? = some e) : CompAt es (j + 1) kk ys := by
  have h0 := h.lt
  have hl : (compE (es.take j)).getLast? = some e := by
    have := compE_last hp
    rwa [Nat.sub_add_cancel (by omega)] at this
  have hc : compE (es.take (j + 1)) = compE (es.take j) := by rw [compE_take hj, compStep, if_pos hl]
  exact ⟨h.len, by omega, by rw [hc]; exact h.cnt, by rw [hc]; exact h.low, h.high⟩
theorem CompAt.keep {es ys : List Ed} {j kk : Nat} {e f : Ed} (h : CompAt es j kk ys) (hj : es[j]? = some e) (hp : es[j - 1]? = some f) (hne : e ≠ f) : CompAt es (j + 1) (kk + 1) (ys.set kk e) := by
  have h0 := h.lt
  have hjl := (List.getElem?_eq_some_iff.1 hj).1
  have hl : (compE (es.take j)).getLast? = some f := by
    have := compE_last hp
    rwa [Nat.sub_add_cancel (by omega)] at this
  have hc : compE (es.take (j + 1)) = compE (es.take j) ++ [e] := by
    rw [compE_take hj, compStep, if_neg]
    rw [hl]
    intro h
    injection h with h
    exact hne h.symm
  have hkl : kk < ys.length := by rw [h.len]; omega
  refine ⟨by simpa using h.len, by omega, by rw [hc, List.length_append, ← h.cnt]; rfl, ?_, fun i hi => ?_⟩
  · rw [hc, ← h.low, List.take_succ_eq_append_getElem (by simpa using hkl), List.getElem_set_self, List.take_set_of_le (Nat.le_refl _)]
  · rw [List.getElem?_set_ne (by omega)]
    exact h.high i (by omega)
theorem CompAt.done {es ys : List Ed} {kk : Nat} (h : CompAt es es.length kk ys) : kk = (compE es).length ∧ ys.take kk = compE es := by
  have h1 := h.cnt
  have h2 := h.low
  rw [List.take_length] at h1 h2
  exact ⟨h1, h2⟩
end Go.Proofs.Ytimmnnncgnnkgaa

/- Reduction, in plain Lean; a row cut at its end. -/
namespace Go.Proofs.Ytimmnnncgnnkgaa
set_option linter.unusedVariables false
open Go.RowKit

theorem owns_cut {w : World} {base : Nat} {e : TypeId} {size g n cap : Nat} {xs : List Value} (h : w.ownsRow base e size (.slice (some ⟨g, 0, none⟩) n cap) n xs) {m : Nat} (hm : m ≤ n) :
    w.ownsRow base e size (.slice (some ⟨g, 0, none⟩) m cap) m (xs.take (m * size)) := by
  have hle : m * size ≤ n * size := Nat.mul_le_mul_right _ hm
  refine ⟨?_, ?_⟩
  · rw [List.length_take, h.1]
    omega
  · rcases h.2 with ⟨hv, _⟩ | ⟨g', cap', cur, hv, hbg, hgg, hnc, hcm, hcs, htake⟩
    · cases hv
    · refine .inr ⟨g', cap', cur, ?_, hbg, hgg, by omega, hcm, hcs, ?_⟩
      · injection hv with h1 _ h3
        rw [h1, h3]
      · rw [← htake, List.take_take, Nat.min_eq_left hle]
theorem redStep_mem {out : List Int} {x y : Int} (h : y ∈ redStep out x) : y ∈ out ∨ y = x := by
  unfold redStep at h
  split at h
  · split at h
    · exact .inl ((List.dropLast_sublist _).subset h)
    · simpa using h
  · simp at h
    exact .inr h
theorem red_mem {out w : List Int} {y : Int} (h : y ∈ red out w) : y ∈ out ∨ y ∈ w := by
  induction w generalizing out with
  | nil => exact .inl h
  | cons x t ih =>
    rw [red_cons] at h
    rcases ih h with h1 | h1
    · rcases redStep_mem h1 with h2 | rfl
      · exact .inl h2
      · exact .inr (List.mem_cons_self)
    · exact .inr (List.mem_cons_of_mem _ h1)
theorem red_ok {w : List Int} (h : OkI w) : OkI (red [] w) := fun x hx => by
  rcases red_mem hx with h1 | h1
  · simp at h1
  · exact h x h1
theorem red_step (w : List Int) {k : Nat} {x : Int} (h : w[k]? = some x) (out : List Int) : red out (w.take (k + 1)) = redStep (red out (w.take k)) x := by
  rw [take_succ_of w h, red_append]
  rfl
theorem red_nil_len (w : List Int) : (red [] w).length ≤ w.length := by
  have := red_len [] w
  simpa using this
theorem sumL_flatten (d : List (List Int)) : d.flatten.length = sumL d := by
  simp [sumL, List.length_flatten]
theorem red_flatten_step (d : List (List Int)) {k : Nat} {xs : List Int} (h : d[k]? = some xs) : red [] (d.take (k + 1)).flatten = red (red [] (d.take k).flatten) xs := by
  rw [take_succ_of d h, List.flatten_append, red_append]
  simp
theorem okI_flatten {d : List (List Int)} (h : ∀ xs ∈ d, OkI xs) : OkI d.flatten := fun x hx => by
  obtain ⟨xs, h1, h2⟩ := List.mem_flatten.1 hx
  exact h xs h1 x h2
theorem eq_concat {α : Type} (l : List α) (h : 0 < l.length) : ∃ ys a, l = ys ++ [a] := by
  rcases List.eq_nil_or_concat l with rfl | ⟨ys, a, e⟩
  · simp at h
  · exact ⟨ys, a, by rw [e]; simp⟩
end Go.Proofs.Ytimmnnncgnnkgaa

/- The library's Compact at a row of edges of the call's own. -/
namespace Go.Proofs.Ytimmnnncgnnkgaa
set_option linter.unusedVariables false
set_option linter.unusedSimpArgs false
open Go.RowKit

abbrev tE : TypeId := 70
end Go.Proofs.Ytimmnnncgnnkgaa

/- IsSubgraph, both sides. -/
namespace Go.Proofs.Ytimmnnncgnnkgaa
set_option linter.unusedVariables false
set_option linter.unusedSimpArgs false
open Go.RowKit

theorem bool_of (p : Prop) : ∃ b : Bool, b = true ↔ p := by
  by_cases h : p
  · exact ⟨true, iff_of_true rfl h⟩
  · exact ⟨false, iff_of_false Bool.false_ne_true h⟩
theorem bool_no {b : Bool} {p : Prop} (h : b = true ↔ p) (hn : ¬ p) : b = false := by
  cases b with
  | false => rfl
  | true => exact absurd (h.1 rfl) hn
/-- One graph is a part of another one. -/
structure IsSub (r s : Int) (es : List Ed) (r' s' : Int) (es' : List Ed) : Prop where
  g1 : IsGr r s es
  g2 : IsGr r' s' es'
  rk : r = r'
  sz : s ≤ s'
  all : ∀ e ∈ es, e ∈ es'

end Go.Proofs.Ytimmnnncgnnkgaa

/- sorted, copyGraph, l4Copy. -/
namespace Go.Proofs.Ytimmnnncgnnkgaa
set_option linter.unusedVariables false
set_option linter.unusedSimpArgs false
open Go.RowKit

end Go.Proofs.Ytimmnnncgnnkgaa

/- The laws' helpers on graphs: copies, sizes, comparisons, marks. -/
namespace Go.Proofs.Ytimmnnncgnnkgaa
set_option linter.unusedVariables false
set_option linter.unusedSimpArgs false
open Go.RowKit

/-- Edges of consecutive numbers. -/
def markE (q : Int) (n : Nat) : List Ed := (List.range n).map fun (i : Nat) => ⟨q + 3 * (i : Int), q + 3 * (i : Int) + 1, q + 3 * (i : Int) + 2⟩
theorem OG.cnt {w : World} {lo hi : Nat} {A : Option Addr} {c : Nat} {es : List Ed} (h : OG w lo hi A c es) : es.length ≤ c ∧ c ≤ maxLen := by
  rcases h.2.1.2 with ⟨hv, hn⟩ | ⟨g, cap, cur, hv, -, -, hnc, hcm, -⟩
  · injection hv with _ h1 h2
    subst h2
    omega
  · injection hv with _ _ h2
    subst h2
    exact ⟨hnc, hcm⟩

end Go.Proofs.Ytimmnnncgnnkgaa

/- copyGraph, l4Copy. -/
namespace Go.Proofs.Ytimmnnncgnnkgaa
set_option linter.unusedVariables false
set_option linter.unusedSimpArgs false
open Go.RowKit

theorem owns_blk {w : World} {base : Nat} {e : TypeId} {size n : Nat} {v u : Value} {xs : List Value} {k : Nat} (h : w.ownsRow base e size v n xs) (hb : v.ownBlock = u.ownBlock ∨ v.ownBlock = some k) (hu : u.ownBlock ≠ none) :
    ∃ g c, v = .slice (some ⟨g, 0, none⟩) n c ∧ base ≤ g ∧ n ≤ c ∧ c ≤ maxLen := by
  rcases h.2 with ⟨rfl, -⟩ | ⟨g, cap, cur, rfl, hbg, -, h1, h2, -⟩
  · rcases hb with hb | hb
    · exact absurd hb.symm hu
    · cases hb
  · exact ⟨g, cap, rfl, hbg, h1, h2⟩

set_option maxHeartbeats 1600000 in
theorem spec_l4Copy (r s : Int) (A : Option Addr) (es : List Ed) (c : Nat) (w : World) (lo hi : Nat) (hr : RG w lo hi A es) (hl : es.length ≤ 1048576) :
    Calls Try.prog 127 #[graV r s A es.length c] w fun e w' => ∃ A' c', e = .returned (graV r s A' es.length c') ∧ OG w' w.heap.size w'.heap.size A' c' es ∧ Mid 0 0 w w' := by
  have hm0 : Mid 0 0 w ((w.alloc (.cells #[.int .i64 r, .int .i64 s, .slice A es.length c] 28)).alloc (.cells #[.int .i64 0, .int .i64 0, .slice none 0 0] 28)) := (Mid.alloc _ _).trans (Mid.alloc _ _)
  have B0 := (Box.new w #[.int .i64 r, .int .i64 s, .slice A es.length c] 28).mid (Mid.alloc _ (.cells #[.int .i64 0, .int .i64 0, .slice none 0 0] 28)) (Or.inr (Nat.zero_le _))
  have B1 := Box.new (w.alloc (.cells #[.int .i64 r, .int .i64 s, .slice A es.length c] 28)) #[.int .i64 0, .int .i64 0, .slice none 0 0] 28
  rw [World.size_alloc] at B1
  go_enter Try.func127, Try.ntmps127
  go_wp2_with fail
  generalize hw1 : ((w.alloc (.cells #[.int .i64 r, .int .i64 s, .slice A es.length c] 28)).alloc (.cells #[.int .i64 0, .int .i64 0, .slice none 0 0] 28)) = w1 at hm0 B0 B1 ⊢
  have hs1 : w1.heap.size = w.heap.size + 1 + 1 := by rw [← hw1]; simp
  have HS := Lib.hid hs1
  clear hw1 hs1
  have hmd := Mid.drew1 w1
  have hal : Mid 0 0 w1.drew (w1.drew.alloc (.cells #[] 70)) := Mid.alloc _ _
  have D0 := B0.mid hmd (Or.inr (Nat.zero_le _))
  have D1 := B1.mid hmd (Or.inr (Nat.zero_le _))
  have E0 := D0.mid hal (Or.inr (Nat.zero_le _))
  have E1 := D1.mid hal (Or.inr (Nat.zero_le _))
  have hoe := owns_empty w1.drew 70 3
  have hrs := ((hr.mid hm0 (Or.inl (Nat.zero_le _))).mid (hmd.trans hal) (Or.inl (Nat.zero_le _))).rv.rs
  have d0 := D0.cell 0 rfl
  have d1 := D0.cell 1 rfl
  have d2 := D0.cell 2 rfl
  have e0 := E0.cell 0 rfl
  have e1 := E0.cell 1 rfl
  have e2 := E0.cell 2 rfl
  have hmx : 0 + es.length ≤ maxLen := by unfold maxLen; omega
  have hby : (0 + es.length) * 24 ≤ 140737488355328 := by omega
  have hba : w1.drew.heap.size ≤ (w1.drew.alloc (.cells #[] 70)).heap.size := by simp
  have hln : (ints (edI es)).length = es.length * 3 := by rw [ints_len, edI_len]
  have HL := Lib.hid hln
  have HO := Lib.hid (oneInts (edI es))
  have hz1 : w.heap.size + 1 < w1.drew.heap.size := B1.1
  have hz0 : w.heap.size < w1.drew.heap.size := B0.1
  clear hln
  have hnn : (Value.slice (some ⟨w1.drew.heap.size, 0, none⟩) 0 0).ownBlock ≠ none := by simp [Value.ownBlock]
  have HNN := Lib.hid hnn
  clear hnn
  go_region_held3 (fun w' => w'.cell? ⟨w.heap.size, 0, none⟩ = some (.int .i64 r) ∧ w'.cell? ⟨w.heap.size, 1, none⟩ = some (.int .i64 s) ∧ w'.cell? ⟨w.heap.size, 2, none⟩ = some (.slice A es.length c)) (first | exact ⟨d0, d1, d2⟩ | exact ⟨e0, e1, e2⟩ | exact ⟨f0, f1, f2⟩ | exact ⟨x0, x1, x2⟩) ((refine step_cat (by rfl) (.tmp 7) (.tmp 9) 26 (by rfl) _ 70 (.agg #[.int .i64 0, .int .i64 0, .int .i64 0]) 3 24 undSE infoE rfl (by decide) (.slice (some ⟨w1.drew.heap.size, 0, none⟩) 0 0) 0 [] (by rfl) hoe A es.length c _ (ints (edI es)) (by rfl) hrs HL.out HO.out hmx hby hba ?_; intro v2 w2 ho2 hgr2 hat2; obtain ⟨g, c2, rfl, hg1, -, -⟩ := owns_blk ho2 hat2 HNN.out; have hm2 := Mid.of_grownRow hoe hgr2; have F0 := E0.mid hm2 (Or.inl hz0); have F1 := E1.mid hm2 (Or.inl hz1); have f0 := F0.cell 0 rfl; have f1 := F0.cell 1 rfl; have f2 := F0.cell 2 rfl; have p0 := F1.cell 0 rfl; have p1 := F1.cell 1 rfl; have p2 := F1.cell 2 rfl; have pf := F1.2.2; have ms0 := Mid.setCell w2 (lo := w.heap.size + 1) (hi := w.heap.size + 2) (p := ⟨w.heap.size + 1, 0, none⟩) (.int .i64 r) (Nat.le_refl _) (Nat.lt_succ_self _); have ms1 := ms0.trans (Mid.setCell _ (lo := w.heap.size + 1) (hi := w.heap.size + 2) (p := ⟨w.heap.size + 1, 1, none⟩) (.int .i64 s) (Nat.le_refl _) (Nat.lt_succ_self _)); have ms2 := ms1.trans (Mid.setCell _ (lo := w.heap.size + 1) (hi := w.heap.size + 2) (p := ⟨w.heap.size + 1, 2, none⟩) (.slice (some ⟨g, 0, none⟩) es.length c2) (Nat.le_refl _) (Nat.lt_succ_self _)); have X0 := F0.mid ms2 (Or.inl (Nat.lt_succ_self _)); have x0 := X0.cell 0 rfl; have x1 := X0.cell 1 rfl; have x2 := X0.cell 2 rfl))
  go_wp2_with fail
  simp only [Nat.zero_add, List.nil_append] at ho2
  have hmm : Mid 0 0 w w2 := ((hm0.trans hmd).trans hal).transNew hm2 (Or.inl (by have := hm0.size; exact this))
  refine bodyPost_ret (v := .agg #[.int .i64 r, .int .i64 s, .slice (some ⟨g, 0, none⟩) es.length c2]) (by simp [results, Try.results127, go_sem, p0, p1, p2, pf]) rfl ⟨_, c2, rfl, ?_, ?_⟩
  · have h0 : OG w2 w1.drew.heap.size w2.heap.size (some ⟨g, 0, none⟩) c2 es := ⟨Nat.le_refl _, ho2, fun g hg => (ho2.lt g hg).2⟩
    refine OG.wide (OG.mid h0 ms2 (Or.inl (by have := HS.out; show w.heap.size + 2 ≤ w1.heap.size; omega))) (by have := hm0.size; exact this) ?_ (Nat.le_refl _)
    exact ms2.size
  · exact hmm.transNew ms2 (Or.inl (Nat.le_succ _))
end Go.Proofs.Ytimmnnncgnnkgaa

/- append of one edge; l4Put. -/
namespace Go.Proofs.Ytimmnnncgnnkgaa
set_option linter.unusedVariables false
set_option linter.unusedSimpArgs false
open Go.RowKit

section
variable {W : World} {ops : Array Oper} {rest : List Oper} {o : Oper} {a : Act} {Q : Exit → Act → World → Prop}
theorem wpList_pushE (hgd : o.guard = none) (s x : Operand)
    (ho : o.op = .call { callee := .builtin .append, args := #[s, x], argTypes := #[26, 26] }) (lo : Nat) (A : Option Addr) (n c : Nat) (es : List Ed) (hs : a.eval s = .slice A n c)
    (hown : W.ownsRow lo 70 3 (.slice A n c) n (ints (edI es))) (e : Ed) (hx : a.eval x = .slice (some ⟨W.heap.size, 0, none⟩) 1 1) (hn : n ≤ 1048576) (hb : lo ≤ W.heap.size)
    (h : ∀ A' c' w', w'.ownsRow lo 70 3 (.slice A' (n + 1) c') (n + 1) (ints (edI (es ++ [e]))) → Mid lo W.heap.size W w' → wpList Try.prog ops Q rest (a.put o.dst (.slice A' (n + 1) c')) w') :
    wpList Try.prog ops Q (o :: rest) a (W.alloc (.cells #[.int .i64 e.a, .int .i64 e.l, .int .i64 e.b] 70)) := by
  refine wpList_push (news := [.int .i64 e.a, .int .i64 e.l, .int .i64 e.b]) hgd s x 26 ho lo 70 (.agg #[.int .i64 0, .int .i64 0, .int .i64 0]) 3 24 undSE infoE rfl (by decide) (.slice A n c) n (ints (edI es)) hs hown 1 hx rfl ?_ (by unfold maxLen; omega) (by omega) hb ?_
  · intro u hu
    simp at hu
    rcases hu with rfl | rfl | rfl <;> rfl
  · intro v' w' h1 h2 _
    obtain ⟨A', c', rfl, -, -⟩ := owns_shape h1
    refine h A' c' w' ?_ (Mid.of_grownRow hown h2)
    rw [edI_append, ints_append, edI_one]
    exact h1
end

theorem putE_all {e : Ed} {xs : List Ed} (h : ∀ g ∈ xs, LtE g e) : putE e xs = xs ++ [e] := by
  induction xs with
  | nil => rfl
  | cons g t ih =>
    have hg := h g (by simp)
    have h1 : ¬ cmpE e g < 0 := fun h => (cmpE_neg.1 h).asymm hg
    have h2 : ¬ cmpE e g = 0 := fun h => by have := cmpE_zero.1 h; subst this; exact LtE.irrefl _ hg
    rw [putE, if_neg h1, if_neg h2, ih fun f hf => h f (by simp [hf])]
    rfl
theorem putE_same {e f : Ed} {xs : List Ed} (h : ∀ g ∈ xs, LtE g e) (hf : cmpE e f = 0) : putE e (xs ++ [f]) = xs ++ [f] := by
  induction xs with
  | nil => simp [putE, hf]
  | cons g t ih =>
    have hg := h g (by simp)
    have h1 : ¬ cmpE e g < 0 := fun h => (cmpE_neg.1 h).asymm hg
    have h2 : ¬ cmpE e g = 0 := fun h => by have := cmpE_zero.1 h; subst this; exact LtE.irrefl _ hg
    rw [List.cons_append, putE, if_neg h1, if_neg h2, ih fun f hf => h f (by simp [hf])]
theorem putE_ahead {e f : Ed} {xs : List Ed} (h : ∀ g ∈ xs, LtE g e) (hf : cmpE e f < 0) : putE e (xs ++ [f]) = xs ++ [e] ++ [f] := by
  induction xs with
  | nil => simp [putE, hf]
  | cons g t ih =>
    have hg := h g (by simp)
    have h1 : ¬ cmpE e g < 0 := fun h => (cmpE_neg.1 h).asymm hg
    have h2 : ¬ cmpE e g = 0 := fun h => by have := cmpE_zero.1 h; subst this; exact LtE.irrefl _ hg
    rw [List.cons_append, putE, if_neg h1, if_neg h2, ih fun f hf => h f (by simp [hf])]
    simp
theorem putE_done {e f : Ed} {xs : List Ed} (h : ∃ g ∈ xs, ¬ LtE g e) : putE e (xs ++ [f]) = putE e xs ++ [f] := by
  induction xs with
  | nil => obtain ⟨g, hg, -⟩ := h; simp at hg
  | cons g t ih =>
    rw [List.cons_append, putE, putE]
    split
    · simp
    · split
      · simp
      · rename_i h1 h2
        rw [ih]
        · simp
        · obtain ⟨g', hg', hn⟩ := h
          rcases List.mem_cons.1 hg' with rfl | hg'
          · exfalso
            rcases LtE.tri e g' with h3 | rfl | h3
            · exact h1 (cmpE_neg.2 h3)
            · exact h2 (cmpE_zero.2 rfl)
            · exact hn h3
          · exact ⟨g', hg', hn⟩
/-- The loop's state behind the first i. -/
def PutAt (e : Ed) (es : List Ed) (i : Nat) (p : Bool) (xs : List Ed) : Prop :=
  if p = true then xs = putE e (es.take i) ∧ ∃ g ∈ es.take i, ¬ LtE g e else xs = es.take i ∧ ∀ g ∈ es.take i, LtE g e
theorem PutAt.zero (e : Ed) (es : List Ed) : PutAt e es 0 false [] := ⟨by simp, by simp⟩
theorem PutAt.on {e f : Ed} {es xs : List Ed} {i : Nat} (h : PutAt e es i true xs) (hf : es[i]? = some f) : PutAt e es (i + 1) true (xs ++ [f]) := by
  obtain ⟨h1, h2⟩ := h
  refine ⟨by rw [take_snoc hf, putE_done h2, h1], ?_⟩
  obtain ⟨g, hg, hn⟩ := h2
  exact ⟨g, by rw [take_snoc hf]; simp [hg], hn⟩
theorem PutAt.eq {e f : Ed} {es xs : List Ed} {i : Nat} (h : PutAt e es i false xs) (hf : es[i]? = some f) (hc : cmpE e f = 0) : PutAt e es (i + 1) true (xs ++ [f]) := by
  obtain ⟨h1, h2⟩ := h
  refine ⟨by rw [take_snoc hf, putE_same h2 hc, h1], f, by rw [take_snoc hf]; simp, ?_⟩
  have := cmpE_zero.1 hc
  subst this
  exact LtE.irrefl _
theorem PutAt.lt {e f : Ed} {es xs : List Ed} {i : Nat} (h : PutAt e es i false xs) (hf : es[i]? = some f) (hc : cmpE e f < 0) : PutAt e es (i + 1) true (xs ++ [e] ++ [f]) := by
  obtain ⟨h1, h2⟩ := h
  exact ⟨by rw [take_snoc hf, putE_ahead h2 hc, h1], f, by rw [take_snoc hf]; simp, (cmpE_neg.1 hc).asymm⟩
theorem PutAt.gt {e f : Ed} {es xs : List Ed} {i : Nat} (h : PutAt e es i false xs) (hf : es[i]? = some f) (hc : 0 < cmpE e f) : PutAt e es (i + 1) false (xs ++ [f]) := by
  obtain ⟨h1, h2⟩ := h
  have hfe : LtE f e := by
    rcases LtE.tri f e with h3 | rfl | h3
    · exact h3
    · have := cmpE_zero.2 (rfl : f = f); omega
    · have := cmpE_neg.2 h3; omega
  refine ⟨by rw [take_snoc hf, h1], fun g hg => ?_⟩
  rw [take_snoc hf] at hg
  rcases List.mem_append.1 hg with hg | hg
  · exact h2 g hg
  · simp at hg; subst hg; exact hfe
theorem PutAt.len {e : Ed} {es xs : List Ed} {i : Nat} {p : Bool} (h : PutAt e es i p xs) : xs.length ≤ es.length + 1 := by
  have h3 : (es.take i).length ≤ es.length := by simp; omega
  cases p with
  | false => have h1 : xs = es.take i := h.1; rw [h1]; omega
  | true => have h1 : xs = putE e (es.take i) := h.1; have := putE_len e (es.take i); rw [h1]; omega
theorem PutAt.fin {e : Ed} {es xs : List Ed} (h : PutAt e es es.length true xs) : xs = putE e es := by
  have h1 : xs = putE e (es.take es.length) := h.1
  rwa [List.take_length] at h1
theorem PutAt.fin' {e : Ed} {es xs : List Ed} (h : PutAt e es es.length false xs) : xs ++ [e] = putE e es := by
  have h1 : xs = es.take es.length := h.1
  have h2 : ∀ g ∈ es.take es.length, LtE g e := h.2
  rw [List.take_length] at h1 h2
  rw [h1, putE_all h2]

set_option maxHeartbeats 4000000 in
theorem spec_l4Put (A : Option Addr) (es : List Ed) (c : Nat) (e : Ed) (w : World) (lo hi : Nat) (hr : RG w lo hi A es) (hl : es.length ≤ 1000000) :
    Calls Try.prog 45 #[.slice A es.length c, e.v] w fun en w' => ∃ A' c', en = .returned (.slice A' (putE e es).length c') ∧ OG w' w.heap.size w'.heap.size A' c' (putE e es) ∧ Mid 0 0 w w' := by
  have hm0 : Mid 0 0 w ((w.alloc (.cells #[.int .i64 e.a, .int .i64 e.l, .int .i64 e.b] 70)).alloc (.cells #[] 70)) := (Mid.alloc _ _).trans (Mid.alloc _ _)
  have B0 := (Box.new w #[.int .i64 e.a, .int .i64 e.l, .int .i64 e.b] 70).mid (Mid.alloc _ (.cells #[] 70)) (Or.inr (Nat.zero_le _))
  have O0 := owns_empty (w.alloc (.cells #[.int .i64 e.a, .int .i64 e.l, .int .i64 e.b] 70)) 70 3
  rw [World.size_alloc] at O0
  go_enter Try.func45, Try.ntmps45
  go_wp2_with fail
  go_loopw [5, 6, 7, 8] (fun out pl i _ wr => ∃ (k : Nat) (p : Bool) (A1 : Option Addr) (c1 n1 : Nat) (xs : List Ed), k ≤ es.length ∧ i = .int .i64 k ∧ pl = .bool p ∧ out = .slice A1 n1 c1 ∧ Hid (PutAt e es k p xs) ∧ Hid (xs.length = n1) ∧
      wr.ownsRow (w.heap.size + 1) 70 3 (.slice A1 n1 c1) n1 (ints (edI xs)) ∧ Box wr w.heap.size [.int .i64 e.a, .int .i64 e.l, .int .i64 e.b] ∧ Mid 0 0 w wr ∧ w.heap.size + 1 ≤ wr.heap.size) (fun _ _ i _ _ => es.length - (intOf i).toNat)
  case atStart => exact ⟨0, false, _, 0, 0, [], Nat.zero_le _, rfl, rfl, rfl, Lib.hid (PutAt.zero e es), Lib.hid rfl, O0, B0, hm0, by simp⟩
  case round =>
    obtain ⟨k, p, A1, c1, n1, xs, hk, rfl, rfl, rfl, HP, HN, hown, bx, hm, hsz⟩ := hrel
    have hn1 : n1 ≤ 1000001 := by have := HP.out.len; have := HN.out; omega
    have E0 := bx.cell 0 rfl
    have E1 := bx.cell 1 rfl
    have E2 := bx.cell 2 rfl
    by_cases hlt : k < es.length
    · have hrm := hr.mid hm (Or.inl (Nat.zero_le _))
      obtain ⟨B, off, f, rfl, -, hbh, he, c0, cc1, c2⟩ := hrm.ed hlt
      have zb : B < wr.heap.size := Nat.lt_of_lt_of_le hbh hrm.1
      have e0 := wg_cell bx.1 E0
      have e1 := wg_cell bx.1 E1
      have e2 := wg_cell bx.1 E2
      have f0 := wg_cell zb c0
      have f1 := wg_cell zb cc1
      have f2 := wg_cell zb c2
      have hk0 : (0 : Int) ≤ (k : Int) := by omega
      have hkn : (k : Int) < (es.length : Int) := by omega
      obtain ⟨v, hv⟩ : ∃ v, cmpE e f = v := ⟨_, rfl⟩
      have hQ := fun W => spec_CompareEdges e f W
      rw [hv] at hQ
      have HV := Lib.hid hv
      have HE := Lib.hid he
      have HB : Hid (B < wr.heap.size ∧ B < w.heap.size + 1) := Lib.hid ⟨zb, by have := hr.1; omega⟩
      have C0 := Lib.hid c0
      have C1 := Lib.hid cc1
      have C2 := Lib.hid c2
      clear hv he c0 cc1 c2 E0 E1 E2
      go_wp2_with fail
      refine wp_region_quiet_wg (by kernel_rfl) (by kernel_rfl) ?_
      repeat
        (with_reducible refine wpQuiet_step (fun K hK => ?_))
        go_simp
        first
          | ((with_reducible refine hK _ ?_); clear hK K)
          | (rw [if_neg (by decide)]; (with_reducible refine hK _ ?_); clear hK K)
          | (apply Exists.intro; refine ⟨fun _ => ?_, hK _ ?_⟩; ((go_at_call 83; exact Calls.wg_of (hQ _))); clear hK K)
      with_reducible refine wpQuiet_nil ?_
      intro _ hw'
      obtain ⟨⟨nq, osq⟩, hw''⟩ := hw'
      subst hw''
      have hw := Mid.ofWg wr nq osq
      have hw2 := wg_size wr nq osq
      have hmw := hm.trans hw
      have bxw := bx.mid hw (Or.inr (Nat.zero_le _))
      have hownw := owns_mid hown hw (Or.inl (Nat.zero_le _))
      have hszw : w.heap.size + 1 ≤ (wg wr nq osq).heap.size := by omega
      have g0 := cell_keep hw zb (Or.inr (Nat.zero_le _)) C0.out
      have g1 := cell_keep hw zb (Or.inr (Nat.zero_le _)) C1.out
      have g2 := cell_keep hw zb (Or.inr (Nat.zero_le _)) C2.out
      clear hw2 e0 e1 e2 f0 f1 f2 hQ hrm hown bx hm zb hw C0 C1 C2
      have HB := Lib.hid (show B < (wg wr nq osq).heap.size ∧ B < w.heap.size + 1 from ⟨by have := HB.out.1; have := wg_size wr nq osq; omega, HB.out.2⟩)
      generalize wg wr nq osq = wx at hmw bxw hownw hszw g0 g1 g2 HB ⊢
      have e0 := bxw.cell 0 rfl
      have e1 := bxw.cell 1 rfl
      have e2 := bxw.cell 2 rfl
      cases p with
      | true =>
        have HW := Lib.hid hownw
        clear hownw
        rcases (by omega : v = 0 ∨ v < 0 ∨ 0 < v) with hv | hv | hv
        · subst hv
          go_wp2_with (at_builtin; refine wpList_pushE rfl _ _ rfl (w.heap.size + 1) A1 n1 c1 xs rfl HW.out f rfl (by omega) hszw ?_; intro A2 c2 w2 hown2 hm2)
          go_roundw
          case rel => exact ⟨k + 1, true, A2, c2, n1 + 1, xs ++ [f], by omega, by go_num, rfl, rfl, Lib.hid (HP.out.on HE.out), Lib.hid (by rw [List.length_append, HN.out]; rfl), hown2, bxw.mid hm2 (Or.inl (Nat.lt_succ_self _)), hmw.transNew hm2 (Or.inl (Nat.le_succ _)), Nat.le_trans hszw hm2.size⟩
          case measure => simp [intOf]; omega
        · have hv1 : (v == 0) = false := by simp only [beq_eq_false_iff_ne]; omega
          go_wp2_with (at_builtin; refine wpList_pushE rfl _ _ rfl (w.heap.size + 1) A1 n1 c1 xs rfl HW.out f rfl (by omega) hszw ?_; intro A2 c2 w2 hown2 hm2)
          go_roundw
          case rel => exact ⟨k + 1, true, A2, c2, n1 + 1, xs ++ [f], by omega, by go_num, rfl, rfl, Lib.hid (HP.out.on HE.out), Lib.hid (by rw [List.length_append, HN.out]; rfl), hown2, bxw.mid hm2 (Or.inl (Nat.lt_succ_self _)), hmw.transNew hm2 (Or.inl (Nat.le_succ _)), Nat.le_trans hszw hm2.size⟩
          case measure => simp [intOf]; omega
        · have hv1 : (v == 0) = false := by simp only [beq_eq_false_iff_ne]; omega
          go_wp2_with (at_builtin; refine wpList_pushE rfl _ _ rfl (w.heap.size + 1) A1 n1 c1 xs rfl HW.out f rfl (by omega) hszw ?_; intro A2 c2 w2 hown2 hm2)
          go_roundw
          case rel => exact ⟨k + 1, true, A2, c2, n1 + 1, xs ++ [f], by omega, by go_num, rfl, rfl, Lib.hid (HP.out.on HE.out), Lib.hid (by rw [List.length_append, HN.out]; rfl), hown2, bxw.mid hm2 (Or.inl (Nat.lt_succ_self _)), hmw.transNew hm2 (Or.inl (Nat.le_succ _)), Nat.le_trans hszw hm2.size⟩
          case measure => simp [intOf]; omega
      | false =>
        have HW := Lib.hid hownw
        clear hownw
        rcases (by omega : v = 0 ∨ v < 0 ∨ 0 < v) with hv | hv | hv
        · subst hv
          go_wp2_with (at_builtin; refine wpList_pushE rfl _ _ rfl (w.heap.size + 1) A1 n1 c1 xs rfl HW.out f rfl (by omega) hszw ?_; intro A2 c2 w2 hown2 hm2)
          go_roundw
          case rel => exact ⟨k + 1, true, A2, c2, n1 + 1, xs ++ [f], by omega, by go_num, rfl, rfl, Lib.hid (HP.out.eq HE.out HV.out), Lib.hid (by rw [List.length_append, HN.out]; rfl), hown2, bxw.mid hm2 (Or.inl (Nat.lt_succ_self _)), hmw.transNew hm2 (Or.inl (Nat.le_succ _)), Nat.le_trans hszw hm2.size⟩
          case measure => simp [intOf]; omega
        · have hv1 : (v == 0) = false := by simp only [beq_eq_false_iff_ne]; omega
          have hvl : decide (v < 0) = true := by simpa using hv
          go_wp2_with (first | (at_builtin; refine wpList_pushE rfl _ _ rfl (w.heap.size + 1) A1 n1 c1 xs rfl HW.out e rfl (by omega) hszw ?_; intro A2 c2 w2 hown2 hm2; have g0' := cell_keep hm2 HB.out.1 (Or.inl HB.out.2) g0; have g1' := cell_keep hm2 HB.out.1 (Or.inl HB.out.2) g1; have g2' := cell_keep hm2 HB.out.1 (Or.inl HB.out.2) g2; have hsz2 := Nat.le_trans hszw hm2.size; have HW2 := Lib.hid hown2; clear hown2) | (at_builtin; refine wpList_pushE rfl _ _ rfl (w.heap.size + 1) A2 (n1 + 1) c2 (xs ++ [e]) rfl HW2.out f rfl (by omega) hsz2 ?_; intro A3 c3 w3 hown3 hm3))
          go_roundw
          case rel => exact ⟨k + 1, true, A3, c3, n1 + 1 + 1, xs ++ [e] ++ [f], by omega, by go_num, rfl, rfl, Lib.hid (HP.out.lt HE.out (by rw [HV.out]; exact hv)), Lib.hid (by rw [List.length_append, List.length_append, HN.out]; rfl), hown3, (bxw.mid hm2 (Or.inl (Nat.lt_succ_self _))).mid hm3 (Or.inl (Nat.lt_succ_self _)), (hmw.transNew hm2 (Or.inl (Nat.le_succ _))).transNew hm3 (Or.inl (Nat.le_succ _)), Nat.le_trans hsz2 hm3.size⟩
          case measure => simp [intOf]; omega
        · have hv1 : (v == 0) = false := by simp only [beq_eq_false_iff_ne]; omega
          have hvl : decide (v < 0) = false := by simp; omega
          go_wp2_with (at_builtin; refine wpList_pushE rfl _ _ rfl (w.heap.size + 1) A1 n1 c1 xs rfl HW.out f rfl (by omega) hszw ?_; intro A2 c2 w2 hown2 hm2)
          go_roundw
          case rel => exact ⟨k + 1, false, A2, c2, n1 + 1, xs ++ [f], by omega, by go_num, rfl, rfl, Lib.hid (HP.out.gt HE.out (by rw [HV.out]; exact hv)), Lib.hid (by rw [List.length_append, HN.out]; rfl), hown2, bxw.mid hm2 (Or.inl (Nat.lt_succ_self _)), hmw.transNew hm2 (Or.inl (Nat.le_succ _)), Nat.le_trans hszw hm2.size⟩
          case measure => simp [intOf]; omega
    · obtain rfl : k = es.length := by omega
      cases p with
      | true =>
        go_wp2_with fail
        go_ret
        have hx := HP.out.fin
        obtain ⟨A2, c2, hv, hn, ho⟩ := OG.mk' hown
        injection hv with hv1 hv2 hv3
        subst hv1 hv3
        rw [hx] at ho hn
        exact ⟨_, _, (by rw [hn]; rfl), ho.wide (by omega) (Nat.le_refl _) (Nat.le_refl _), hm⟩
      | false =>
        have HW := Lib.hid hown
        go_wp2_with (at_builtin; refine wpList_pushE rfl _ _ rfl (w.heap.size + 1) A1 n1 c1 xs rfl HW.out e rfl (by omega) hsz ?_; intro A2 c2 w2 hown2 hm2)
        have hx := HP.out.fin'
        go_wp2_with fail
        go_ret
        obtain ⟨A3, c3, hv, hn, ho⟩ := OG.mk' hown2
        injection hv with hv1 hv2 hv3
        subst hv1 hv3
        rw [hx] at ho hn
        exact ⟨_, _, (by rw [hn]; rfl), ho.wide (by omega) (Nat.le_refl _) (Nat.le_refl _), hm.transNew hm2 (Or.inl (by omega))⟩
end Go.Proofs.Ytimmnnncgnnkgaa

/- Regions that draw their order, with cells that every operation but the last one leaves as they are. -/
namespace Go.Proofs.Ytimmnnncgnnkgaa
set_option linter.unusedVariables false
set_option linter.unusedSimpArgs false
open Go.RowKit

section
variable {P : Program} {ops : Array Oper} {Q : Exit → Act → World → Prop} {md : Region.Mode} {S : World → Prop} {z : Nat}

/-- Whatever order is picked from here on; S holds behind every operation but number z. -/
def wpAnyT (P : Program) (md : Region.Mode) (ops : Array Oper) (Q : Exit → Act → World → Prop) (S : World → Prop) (z : Nat) : Nat → Array Bool → Act → World → Prop
  | 0, listed, a, w => Region.ready md ops listed = [] ∧ Q .normal a w
  | fuel + 1, listed, a, w =>
    (Region.ready md ops listed = [] → Q .normal a w) ∧
    ∀ i ∈ Region.ready md ops listed, wpOp P ops Q i (fun a' w' => (i = z ∨ S w') ∧ wpAnyT P md ops Q S z fuel (listed.setIfInBounds i true) a' w') a w
def AllReadyT (P : Program) (md : Region.Mode) (ops : Array Oper) (Q : Exit → Act → World → Prop) (S : World → Prop) (z fuel : Nat) (listed : Array Bool) (a : Act) (w : World) (rs : List Nat) : Prop :=
  ∀ i ∈ rs, wpOp P ops Q i (fun a' w' => (i = z ∨ S w') ∧ wpAnyT P md ops Q S z fuel (listed.setIfInBounds i true) a' w') a w
theorem AllReadyT.nil {fuel : Nat} {listed : Array Bool} {a : Act} {w : World} : AllReadyT P md ops Q S z fuel listed a w [] := fun _ h => by cases h
theorem AllReadyT.cons {fuel : Nat} {listed : Array Bool} {a : Act} {w : World} {i : Nat} {o : Oper} {rs : List Nat} (ho : ops[i]? = some o)
    (h : ∀ K' : Act → World → Prop, Shut (∀ a w, (i = z ∨ S w) → ((i = z ∨ S w) → wpAnyT P md ops Q S z fuel (listed.setIfInBounds i true) a w) → K' a w) → if Region.wanted o (yielded ops a.tmps) = true then Oper.wp P o a w K' Q else K' (a.put o.dst undef) w)
    (hs : AllReadyT P md ops Q S z fuel listed a w rs) : AllReadyT P md ops Q S z fuel listed a w (i :: rs) := fun j hj => by
  rcases List.mem_cons.1 hj with rfl | hj
  · exact wpOp_step ho (fun K' hK => h K' (fun a w hS hW => hK a w ⟨hS, hW hS⟩))
  · exact hs j hj
end
end Go.Proofs.Ytimmnnncgnnkgaa

/- GlueAtBase, the program. -/
namespace Go.Proofs.Ytimmnnncgnnkgaa
set_option linter.unusedVariables false
set_option linter.unusedSimpArgs false
open Go.RowKit
attribute [local go_sem ↓] Go.wp_at_zero Go.wp_at_succ

/-- A vertex's place behind the glueing. -/
def glueV (s v : Int) : Int := if v = 0 then 0 else s + v - 1
def glueF (s : Int) (e : Ed) : Ed := ⟨glueV s e.a, e.l, glueV s e.b⟩
def glueE (s : Int) (es : List Ed) : List Ed := es.map (glueF s)
structure GlueOk (r s : Int) (es : List Ed) (r' s' : Int) (es' : List Ed) : Prop where
  g1 : IsGr r s es
  g2 : IsGr r' s' es'
  rk : r = r'
  sz : s + s' - 1 ≤ 40
  ln : es.length + es'.length ≤ 120
/-- What GlueAtBase gives. -/
def GlueAtBaseIs (r s : Int) (es : List Ed) (r' s' : Int) (es' : List Ed) (rr rs : Int) (res : List Ed) (b : Bool) : Prop :=
  (b = true ∧ GlueOk r s es r' s' es' ∧ rr = r ∧ rs = s + s' - 1 ∧ res = canon (es ++ glueE s es')) ∨ (b = false ∧ ¬ GlueOk r s es r' s' es' ∧ rr = 0 ∧ rs = 0 ∧ res = [])
theorem GlueAtBaseIs.no {r s : Int} {es : List Ed} {r' s' : Int} {es' : List Ed} {rr rs : Int} {res : List Ed} {b : Bool} (h : GlueAtBaseIs r s es r' s' es' rr rs res b) (hn : ¬ GlueOk r s es r' s' es') : b = false ∧ rr = 0 ∧ rs = 0 ∧ res = [] := by
  rcases h with ⟨-, h, -⟩ | ⟨h1, -, h2⟩
  · exact absurd h hn
  · exact ⟨h1, h2⟩
theorem GlueAtBaseIs.yes {r s : Int} {es : List Ed} {r' s' : Int} {es' : List Ed} {rr rs : Int} {res : List Ed} {b : Bool} (h : GlueAtBaseIs r s es r' s' es' rr rs res b) (hn : GlueOk r s es r' s' es') : b = true ∧ rr = r ∧ rs = s + s' - 1 ∧ res = canon (es ++ glueE s es') := by
  rcases h with ⟨h1, -, h2⟩ | ⟨-, h, -⟩
  · exact ⟨h1, h2⟩
  · exact absurd hn h
/-- A row of the call's own, where another block has turned. -/
theorem owns_other {w w' : World} {base : Nat} {e : TypeId} {size : Nat} {v : Value} {n : Nat} {xs : List Value} {k : Nat} (h : w.ownsRow base e size v n xs) (hg : w.grownBy w' (some k)) (hk : v.ownBlock ≠ some k) : w'.ownsRow base e size v n xs :=
  h.kept hg (by
    cases hv : v.ownBlock with
    | none => exact .inl rfl
    | some j => exact .inr fun e => hk (by rw [hv, e]))
theorem Box.grown {w w' : World} {b : Nat} {cs : List Value} {row : Option Nat} (h : Box w b cs) (hg : w.grownBy w' row) (hb : row ≠ some b) : Box w' b cs :=
  ⟨Nat.lt_of_lt_of_le h.1 hg.size, fun i u hu => (World.cell?_of_block (hg.block b h.1 (fun e => hb e.symm))).trans (h.2.1 i u hu), fun i => (World.frozen?_of_block (hg.block b h.1 (fun e => hb e.symm))).trans (h.2.2 i)⟩
end Go.Proofs.Ytimmnnncgnnkgaa

/- StepsFrom and NextVertex, the program. -/
namespace Go.Proofs.Ytimmnnncgnnkgaa
set_option linter.unusedVariables false
set_option linter.unusedSimpArgs false
open Go.RowKit Go.Sort

section
variable {W : World} {ops : Array Oper} {rest : List Oper} {o : Oper} {a : Act} {Q : Exit → Act → World → Prop}
theorem wpList_pushI (hgd : o.guard = none) (s x : Operand)
    (ho : o.op = .call { callee := .builtin .append, args := #[s, x], argTypes := #[37, 37] }) (lo : Nat) (A : Option Addr) (n c : Nat) (xs : List Int) (hs : a.eval s = .slice A n c)
    (hown : W.ownsRow lo 3 1 (.slice A n c) n (ints xs)) (y : Int) (hx : a.eval x = .slice (some ⟨W.heap.size, 0, none⟩) 1 1) (hn : n ≤ 1048576) (hb : lo ≤ W.heap.size)
    (h : ∀ A' c' w', w'.ownsRow lo 3 1 (.slice A' (n + 1) c') (n + 1) (ints (xs ++ [y])) → Mid lo W.heap.size W w' → wpList Try.prog ops Q rest (a.put o.dst (.slice A' (n + 1) c')) w') :
    wpList Try.prog ops Q (o :: rest) a (W.alloc (.cells #[.int .i64 y] 3)) := by
  refine wpList_push (news := [.int .i64 y]) hgd s x 37 ho lo 3 (.int .i64 0) 1 8 undSI infoI rfl (by decide) (.slice A n c) n (ints xs) hs hown 1 hx rfl ?_ (by unfold maxLen; omega) (by omega) hb ?_
  · intro u hu
    simp at hu
    subst hu
    rfl
  · intro v' w' h1 h2 _
    obtain ⟨A', c', rfl, -, -⟩ := owns_shape h1
    refine h A' c' w' ?_ (Mid.of_grownRow hown h2)
    rw [ints_append]
    exact h1
end
theorem ends_take {es : List Ed} {k : Nat} {e : Ed} (h : es[k]? = some e) (v x : Int) : ends (es.take (k + 1)) v x = ends (es.take k) v x ++ (endOf v x e).toList := by
  rw [take_snoc h, ends, List.filterMap_append]
  cases hd : endOf v x e <;> simp [ends, hd]
theorem endOf_cases (v x : Int) (e : Ed) : (endOf v x e = some e.b ∧ (0 < x ∧ e.l = x ∧ e.a = v)) ∨ (endOf v x e = some e.a ∧ ¬ (0 < x ∧ e.l = x ∧ e.a = v) ∧ (x < 0 ∧ e.l = -x ∧ e.b = v)) ∨ (endOf v x e = none ∧ ¬ (0 < x ∧ e.l = x ∧ e.a = v) ∧ ¬ (x < 0 ∧ e.l = -x ∧ e.b = v)) := by
  unfold endOf
  split
  · rename_i h1
    exact Or.inl ⟨rfl, h1⟩
  · rename_i h1
    split
    · rename_i h2
      exact Or.inr (Or.inl ⟨rfl, h1, h2⟩)
    · rename_i h2
      exact Or.inr (Or.inr ⟨rfl, h1, h2⟩)
/-- The ends in order, each once: what is asked of them. -/
def StepsIs (es : List Ed) (v x : Int) (zs : List Int) : Prop := (ends es v x = [] → zs = []) ∧ (ends es v x ≠ [] → ∃ t, zs = nextV es v x :: t) ∧ zs.length ≤ es.length
end Go.Proofs.Ytimmnnncgnnkgaa

/- l4Add, StepsFrom and NextVertex, the reference. -/
namespace Go.Proofs.Ytimmnnncgnnkgaa
set_option linter.unusedVariables false
set_option linter.unusedSimpArgs false
open Go.RowKit

/-- A number put into an ascending list, once. -/
def putI (x : Int) : List Int → List Int
  | [] => [x]
  | y :: t => if x < y then x :: y :: t else if x = y then y :: t else y :: putI x t
theorem mem_putI {x y : Int} {l : List Int} : y ∈ putI x l ↔ y = x ∨ y ∈ l := by
  induction l with
  | nil => simp [putI]
  | cons z t ih =>
    rw [putI]
    split
    · simp
    · split
      · rename_i h
        subst h
        simp
      · rw [List.mem_cons, ih, List.mem_cons]
        constructor
        · rintro (h | h | h)
          · exact .inr (.inl h)
          · exact .inl h
          · exact .inr (.inr h)
        · rintro (h | h | h)
          · exact .inr (.inl h)
          · exact .inl h
          · exact .inr (.inr h)
theorem putI_sorted {x : Int} {l : List Int} (h : l.Pairwise (· < ·)) : (putI x l).Pairwise (· < ·) := by
  induction l with
  | nil => simp [putI]
  | cons z t ih =>
    obtain ⟨h1, h2⟩ := List.pairwise_cons.1 h
    rw [putI]
    split
    · rename_i hlt
      refine List.pairwise_cons.2 ⟨fun y hy => ?_, h⟩
      rcases List.mem_cons.1 hy with rfl | hy
      · exact hlt
      · have := h1 y hy
        omega
    · split
      · exact h
      · refine List.pairwise_cons.2 ⟨fun y hy => ?_, ih h2⟩
        rcases mem_putI.1 hy with rfl | hy
        · omega
        · exact h1 y hy
theorem putI_len (x : Int) (l : List Int) : (putI x l).length ≤ l.length + 1 := by
  induction l with
  | nil => simp [putI]
  | cons z t ih =>
    rw [putI]
    split
    · simp
    · split
      · simp
      · simp; omega
theorem putI_all {x : Int} {xs : List Int} (h : ∀ y ∈ xs, y < x) : putI x xs = xs ++ [x] := by
  induction xs with
  | nil => rfl
  | cons y t ih =>
    have hy := h y (by simp)
    rw [putI, if_neg (by omega), if_neg (by omega), ih fun f hf => h f (by simp [hf])]
    rfl
theorem putI_same {x : Int} {xs : List Int} (h : ∀ y ∈ xs, y < x) : putI x (xs ++ [x]) = xs ++ [x] := by
  induction xs with
  | nil => simp [putI]
  | cons y t ih =>
    have hy := h y (by simp)
    rw [List.cons_append, putI, if_neg (by omega), if_neg (by omega), ih fun f hf => h f (by simp [hf])]
theorem putI_ahead {x f : Int} {xs : List Int} (h : ∀ y ∈ xs, y < x) (hf : x < f) : putI x (xs ++ [f]) = xs ++ [x] ++ [f] := by
  induction xs with
  | nil => simp [putI, hf]
  | cons y t ih =>
    have hy := h y (by simp)
    rw [List.cons_append, putI, if_neg (by omega), if_neg (by omega), ih fun f hf => h f (by simp [hf])]
    simp
theorem putI_done {x f : Int} {xs : List Int} (h : ∃ y ∈ xs, ¬ y < x) : putI x (xs ++ [f]) = putI x xs ++ [f] := by
  induction xs with
  | nil => obtain ⟨g, hg, -⟩ := h; simp at hg
  | cons y t ih =>
    rw [List.cons_append, putI, putI]
    split
    · simp
    · split
      · simp
      · rename_i h1 h2
        rw [ih]
        · simp
        · obtain ⟨g', hg', hn⟩ := h
          rcases List.mem_cons.1 hg' with rfl | hg'
          · omega
          · exact ⟨g', hg', hn⟩
theorem take_snocI {l : List Int} {k : Nat} {x : Int} (h : l[k]? = some x) : l.take (k + 1) = l.take k ++ [x] := by
  obtain ⟨hk, h'⟩ := List.getElem?_eq_some_iff.1 h
  rw [List.take_succ_eq_append_getElem hk, h']
/-- The loop's state behind the first i. -/
def AddAt (x : Int) (l : List Int) (i : Nat) (p : Bool) (xs : List Int) : Prop :=
  if p = true then xs = putI x (l.take i) ∧ ∃ y ∈ l.take i, ¬ y < x else xs = l.take i ∧ ∀ y ∈ l.take i, y < x
section
variable {x f : Int} {l xs : List Int} {i : Nat}
theorem AddAt.zero (x : Int) (l : List Int) : AddAt x l 0 false [] := ⟨by simp, by simp⟩
theorem AddAt.on (h : AddAt x l i true xs) (hf : l[i]? = some f) : AddAt x l (i + 1) true (xs ++ [f]) := by
  obtain ⟨h1, h2⟩ := h
  refine ⟨by rw [take_snocI hf, putI_done h2, h1], ?_⟩
  obtain ⟨g, hg, hn⟩ := h2
  exact ⟨g, by rw [take_snocI hf]; simp [hg], hn⟩
theorem AddAt.eq (h : AddAt x l i false xs) (hf : l[i]? = some f) (hc : f = x) : AddAt x l (i + 1) true (xs ++ [f]) := by
  obtain ⟨h1, h2⟩ := h
  subst hc
  exact ⟨by rw [take_snocI hf, putI_same h2, h1], f, by rw [take_snocI hf]; simp, by omega⟩
theorem AddAt.lt (h : AddAt x l i false xs) (hf : l[i]? = some f) (hc : x < f) : AddAt x l (i + 1) true (xs ++ [x] ++ [f]) := by
  obtain ⟨h1, h2⟩ := h
  exact ⟨by rw [take_snocI hf, putI_ahead h2 hc, h1], f, by rw [take_snocI hf]; simp, by omega⟩
theorem AddAt.gt (h : AddAt x l i false xs) (hf : l[i]? = some f) (hc : f < x) : AddAt x l (i + 1) false (xs ++ [f]) := by
  obtain ⟨h1, h2⟩ := h
  refine ⟨by rw [take_snocI hf, h1], fun g hg => ?_⟩
  rw [take_snocI hf] at hg
  rcases List.mem_append.1 hg with hg | hg
  · exact h2 g hg
  · simp at hg; subst hg; exact hc
theorem AddAt.len {p : Bool} (h : AddAt x l i p xs) : xs.length ≤ l.length + 1 := by
  have h3 : (l.take i).length ≤ l.length := by simp; omega
  cases p with
  | false => have h1 : xs = l.take i := h.1; rw [h1]; omega
  | true => have h1 : xs = putI x (l.take i) := h.1; have := putI_len x (l.take i); rw [h1]; omega
theorem AddAt.fin (h : AddAt x l l.length true xs) : xs = putI x l := by
  have h1 : xs = putI x (l.take l.length) := h.1
  rwa [List.take_length] at h1
theorem AddAt.fin' (h : AddAt x l l.length false xs) : xs ++ [x] = putI x l := by
  have h1 : xs = l.take l.length := h.1
  have h2 : ∀ g ∈ l.take l.length, g < x := h.2
  rw [List.take_length] at h1 h2
  rw [h1, putI_all h2]
end
theorem RV.at {w : World} {lo hi : Nat} {A : Option Addr} {l : List Int} {k : Nat} (h : RV w lo hi A (ints l)) (hk : k < l.length) :
    ∃ b off f, A = some ⟨b, off, none⟩ ∧ b < hi ∧ l[k]? = some f ∧ w.cell? ⟨b, off + k, none⟩ = some (.int .i64 f) := by
  obtain ⟨b, off, rfl, -, hb, hc⟩ := h.2 (by intro h; simp [ints] at h; subst h; simp at hk)
  exact ⟨b, off, l[k], rfl, hb, List.getElem?_eq_getElem hk, hc k _ (by simp [ints, hk])⟩
theorem owns_rv {w : World} {lo n c : Nat} {A : Option Addr} {e : TypeId} {size : Nat} {cs : List Value} (h : w.ownsRow lo e size (.slice A n c) n cs) : RV w lo w.heap.size A cs :=
  OV.rv (c := c) (n := n) (e := e) (size := size) ⟨Nat.le_refl _, h, fun g hg => (h.lt g hg).2⟩

set_option maxHeartbeats 4000000 in
theorem spec_l4Add (A : Option Addr) (l : List Int) (c : Nat) (x : Int) (w : World) (lo hi : Nat) (hr : RV w lo hi A (ints l)) (hl : l.length ≤ 1000000) :
    Calls Try.prog 110 #[.slice A l.length c, .int .i64 x] w fun en w' => ∃ A' c', en = .returned (.slice A' (putI x l).length c') ∧ RV w' 0 w'.heap.size A' (ints (putI x l)) ∧ Mid 0 0 w w' := by
  have hm0 : Mid 0 0 w (w.alloc (.cells #[] 3)) := Mid.alloc _ _
  have O0 := owns_empty w 3 1
  go_enter Try.func110, Try.ntmps110
  go_wp2_with fail
  go_loopw [5, 6, 7] (fun out pl i wr => ∃ (k : Nat) (p : Bool) (A1 : Option Addr) (c1 n1 : Nat) (xs : List Int), k ≤ l.length ∧ i = .int .i64 k ∧ pl = .bool p ∧ out = .slice A1 n1 c1 ∧ Hid (AddAt x l k p xs) ∧ Hid (xs.length = n1) ∧
      wr.ownsRow w.heap.size 3 1 (.slice A1 n1 c1) n1 (ints xs) ∧ Mid 0 0 w wr ∧ w.heap.size ≤ wr.heap.size) (fun _ _ i _ => l.length - (intOf i).toNat)
  case atStart => exact ⟨0, false, _, 0, 0, [], Nat.zero_le _, rfl, rfl, rfl, Lib.hid (AddAt.zero x l), Lib.hid rfl, O0, hm0, hm0.size⟩
  case round =>
    obtain ⟨k, p, A1, c1, n1, xs, hk, rfl, rfl, rfl, HP, HN, hown, hm, hsz⟩ := hrel
    have hn1 : n1 ≤ 1000001 := by have := HP.out.len; have := HN.out; omega
    by_cases hlt : k < l.length
    · obtain ⟨B, off, f, rfl, hbh, he, c0⟩ := (hr.mid hm (Or.inl (Nat.zero_le _))).at hlt
      have hk0 : (0 : Int) ≤ (k : Int) := by omega
      have hkn : (k : Int) < (l.length : Int) := by omega
      have HE := Lib.hid he
      have HB : B < wr.heap.size ∧ B < w.heap.size := by have := hr.1; omega
      have HW := Lib.hid hown
      clear he hown
      cases p with
      | true =>
        rcases (by omega : f = x ∨ f < x ∨ x < f) with hv | hv | hv
        · have b1 : (f == x) = true := by simpa using hv
          have b2 : decide (x < f) = false := by simp; omega
          clear hv
          go_wp2_with (at_builtin; refine wpList_pushI rfl _ _ rfl w.heap.size A1 n1 c1 xs rfl HW.out f rfl (by omega) hsz ?_; intro A2 c2 w2 hown2 hm2)
          go_roundw
          case rel => exact ⟨k + 1, true, A2, c2, n1 + 1, xs ++ [f], by omega, by go_num, rfl, rfl, Lib.hid (HP.out.on HE.out), Lib.hid (by rw [List.length_append, HN.out]; rfl), hown2, hm.transNew hm2 (Or.inl (Nat.le_refl _)), Nat.le_trans hsz hm2.size⟩
          case measure => simp [intOf]; omega
        · have b1 : (f == x) = false := by simp only [beq_eq_false_iff_ne]; omega
          have b2 : decide (x < f) = false := by simp; omega
          clear hv
          go_wp2_with (at_builtin; refine wpList_pushI rfl _ _ rfl w.heap.size A1 n1 c1 xs rfl HW.out f rfl (by omega) hsz ?_; intro A2 c2 w2 hown2 hm2)
          go_roundw
          case rel => exact ⟨k + 1, true, A2, c2, n1 + 1, xs ++ [f], by omega, by go_num, rfl, rfl, Lib.hid (HP.out.on HE.out), Lib.hid (by rw [List.length_append, HN.out]; rfl), hown2, hm.transNew hm2 (Or.inl (Nat.le_refl _)), Nat.le_trans hsz hm2.size⟩
          case measure => simp [intOf]; omega
        · have b1 : (f == x) = false := by simp only [beq_eq_false_iff_ne]; omega
          have b2 : decide (x < f) = true := by simpa using hv
          clear hv
          go_wp2_with (at_builtin; refine wpList_pushI rfl _ _ rfl w.heap.size A1 n1 c1 xs rfl HW.out f rfl (by omega) hsz ?_; intro A2 c2 w2 hown2 hm2)
          go_roundw
          case rel => exact ⟨k + 1, true, A2, c2, n1 + 1, xs ++ [f], by omega, by go_num, rfl, rfl, Lib.hid (HP.out.on HE.out), Lib.hid (by rw [List.length_append, HN.out]; rfl), hown2, hm.transNew hm2 (Or.inl (Nat.le_refl _)), Nat.le_trans hsz hm2.size⟩
          case measure => simp [intOf]; omega
      | false =>
        rcases (by omega : f = x ∨ f < x ∨ x < f) with hv | hv | hv
        · subst hv
          go_wp2_with (at_builtin; refine wpList_pushI rfl _ _ rfl w.heap.size A1 n1 c1 xs rfl HW.out f rfl (by omega) hsz ?_; intro A2 c2 w2 hown2 hm2)
          go_roundw
          case rel => exact ⟨k + 1, true, A2, c2, n1 + 1, xs ++ [f], by omega, by go_num, rfl, rfl, Lib.hid (HP.out.eq HE.out rfl), Lib.hid (by rw [List.length_append, HN.out]; rfl), hown2, hm.transNew hm2 (Or.inl (Nat.le_refl _)), Nat.le_trans hsz hm2.size⟩
          case measure => simp [intOf]; omega
        · have b1 : (f == x) = false := by simp only [beq_eq_false_iff_ne]; omega
          have b2 : decide (x < f) = false := by simp; omega
          go_wp2_with (at_builtin; refine wpList_pushI rfl _ _ rfl w.heap.size A1 n1 c1 xs rfl HW.out f rfl (by omega) hsz ?_; intro A2 c2 w2 hown2 hm2)
          go_roundw
          case rel => exact ⟨k + 1, false, A2, c2, n1 + 1, xs ++ [f], by omega, by go_num, rfl, rfl, Lib.hid (HP.out.gt HE.out hv), Lib.hid (by rw [List.length_append, HN.out]; rfl), hown2, hm.transNew hm2 (Or.inl (Nat.le_refl _)), Nat.le_trans hsz hm2.size⟩
          case measure => simp [intOf]; omega
        · have b1 : (f == x) = false := by simp only [beq_eq_false_iff_ne]; omega
          have b2 : decide (x < f) = true := by simpa using hv
          go_wp2_with (first | (at_builtin; refine wpList_pushI rfl _ _ rfl w.heap.size A1 n1 c1 xs rfl HW.out x rfl (by omega) hsz ?_; intro A2 c2 w2 hown2 hm2; have c0' := cell_keep hm2 HB.1 (Or.inl HB.2) c0; have hsz2 := Nat.le_trans hsz hm2.size; have HW2 := Lib.hid hown2; clear hown2) | (at_builtin; refine wpList_pushI rfl _ _ rfl w.heap.size A2 (n1 + 1) c2 (xs ++ [x]) rfl HW2.out f rfl (by omega) hsz2 ?_; intro A3 c3 w3 hown3 hm3))
          go_roundw
          case rel => exact ⟨k + 1, true, A3, c3, n1 + 1 + 1, xs ++ [x] ++ [f], by omega, by go_num, rfl, rfl, Lib.hid (HP.out.lt HE.out hv), Lib.hid (by rw [List.length_append, List.length_append, HN.out]; rfl), hown3, (hm.transNew hm2 (Or.inl (Nat.le_refl _))).transNew hm3 (Or.inl (Nat.le_refl _)), Nat.le_trans hsz2 hm3.size⟩
          case measure => simp [intOf]; omega
    · obtain rfl : k = l.length := by omega
      have hsz' := hm.size
      cases p with
      | true =>
        have hx := HP.out.fin
        have hn := HN.out
        rw [hx] at hn hown
        go_wp2_with fail
        go_ret
        exact ⟨_, _, (by rw [hn]; rfl), (owns_rv hown).wide (Nat.zero_le _) (Nat.le_refl _) (Nat.le_refl _), hm⟩
      | false =>
        have HW := Lib.hid hown
        go_wp2_with (at_builtin; refine wpList_pushI rfl _ _ rfl w.heap.size A1 n1 c1 xs rfl HW.out x rfl (by omega) hsz ?_; intro A2 c2 w2 hown2 hm2)
        have hx := HP.out.fin'
        have hn : (putI x l).length = n1 + 1 := by rw [← hx, List.length_append, HN.out]; rfl
        rw [hx] at hown2
        rw [← hn] at hown2
        go_wp2_with fail
        go_ret
        exact ⟨_, _, (by rw [hn]; rfl), (owns_rv hown2).wide (Nat.zero_le _) (Nat.le_refl _) (Nat.le_refl _), hm.transNew hm2 (Or.inl (Nat.le_refl _))⟩
/-- The ends put in one by one. -/
def putEnds (es : List Ed) (v x : Int) : List Int := (ends es v x).foldl (fun l y => putI y l) []
theorem foldI_mem {y : Int} : ∀ (zs l : List Int), y ∈ zs.foldl (fun l y => putI y l) l ↔ y ∈ zs ∨ y ∈ l
  | [], l => by simp
  | z :: zs, l => by
    rw [List.foldl_cons, foldI_mem zs, mem_putI, List.mem_cons]
    constructor
    · rintro (h | h | h)
      · exact .inl (.inr h)
      · exact .inl (.inl h)
      · exact .inr h
    · rintro ((h | h) | h)
      · exact .inr (.inl h)
      · exact .inl h
      · exact .inr (.inr h)
theorem foldI_sorted : ∀ (zs l : List Int), l.Pairwise (· < ·) → (zs.foldl (fun l y => putI y l) l).Pairwise (· < ·)
  | [], l, h => h
  | z :: zs, l, h => foldI_sorted zs _ (putI_sorted h)
theorem foldI_len : ∀ (zs l : List Int), (zs.foldl (fun l y => putI y l) l).length ≤ zs.length + l.length
  | [], l => by simp
  | z :: zs, l => by
    have h1 := foldI_len zs (putI z l)
    have h2 := putI_len z l
    rw [List.foldl_cons, List.length_cons]
    omega
theorem stepsIs_put (es : List Ed) (v x : Int) : StepsIs es v x (putEnds es v x) := by
  refine ⟨fun h => by rw [putEnds, h]; rfl, fun h => ?_, ?_⟩
  · have hs := foldI_sorted (ends es v x) [] List.Pairwise.nil
    have hm := fun y => foldI_mem (y := y) (ends es v x) []
    change ∃ t, (ends es v x).foldl (fun l y => putI y l) [] = _
    cases hz : (ends es v x).foldl (fun l y => putI y l) [] with
    | nil =>
      rw [hz] at hm
      obtain ⟨y, t, ht⟩ := List.exists_cons_of_ne_nil h
      have := (hm y).2 (.inl (by rw [ht]; simp))
      simp at this
    | cons z t =>
      rw [hz] at hm hs
      refine ⟨t, ?_⟩
      obtain ⟨h1, -⟩ := List.pairwise_cons.1 hs
      have hzm : z ∈ ends es v x := by simpa using (hm z).1 (by simp)
      have : nextV es v x = leastI (ends es v x) := rfl
      rw [this, leastI_eq hzm fun y hy => ?_]
      rcases List.mem_cons.1 ((hm y).2 (.inl hy)) with rfl | h'
      · exact Int.le_refl _
      · have := h1 y h'
        omega
  · have h1 := foldI_len (ends es v x) []
    have h2 := ends_len es v x
    rw [List.length_nil] at h1
    exact Nat.le_trans (by simpa [putEnds] using h1) h2

set_option maxHeartbeats 4000000 in
theorem spec_StepsFrom (r s : Int) (A : Option Addr) (es : List Ed) (c : Nat) (v x : Int) (w : World) (lo hi : Nat) (hr : RG w lo hi A es) (hl : es.length ≤ 1000000) (hg : ∀ e ∈ es, 1 ≤ e.l ∧ e.l ≤ 3) (hx1 : -9223372036854775808 ≤ x) (hx2 : x ≤ 9223372036854775807) :
    Calls Try.prog 82 #[.agg #[.int .i64 r, .int .i64 s, .slice A es.length c], .int .i64 v, .int .i64 x] w fun e w' => ∃ A' c' zs, e = .returned (.slice A' zs.length c') ∧ RV w' 0 w'.heap.size A' (ints zs) ∧ StepsIs es v x zs ∧ Mid 0 0 w w' := by
  have hm0 : Mid 0 0 w ((w.alloc (.cells #[.int .i64 r, .int .i64 s, .slice A es.length c] 28)).alloc (.cells #[] 3)) := (Mid.alloc _ _).trans (Mid.alloc _ _)
  have B0 := (Box.new w #[.int .i64 r, .int .i64 s, .slice A es.length c] 28).mid (Mid.alloc _ (.cells #[] 3)) (Or.inr (Nat.zero_le _))
  go_enter Try.func82, Try.ntmps82
  go_wp2_with fail
  go_loopw [7, 8] (fun out i wr => ∃ (k : Nat) (A1 : Option Addr) (c1 : Nat) (xs : List Int), k ≤ es.length ∧ i = .int .i64 k ∧ out = .slice A1 xs.length c1 ∧ Hid (xs = (ends (es.take k) v x).foldl (fun l y => putI y l) []) ∧
      RV wr 0 wr.heap.size A1 (ints xs) ∧ Box wr w.heap.size [.int .i64 r, .int .i64 s, .slice A es.length c] ∧ Mid 0 0 w wr) (fun _ i _ => es.length - (intOf i).toNat)
  case atStart => exact ⟨0, _, 0, [], Nat.zero_le _, rfl, rfl, Lib.hid (by simp [ends]), ⟨Nat.le_refl _, fun h => absurd rfl h⟩, B0, hm0⟩
  case round =>
    obtain ⟨k, A1, c1, xs, hk, rfl, rfl, HX, hrv, bx, hm⟩ := hrel
    have hn1 : xs.length ≤ 1000000 := by
      have h1 := ends_len (es.take k) v x
      have h2 := foldI_len (ends (es.take k) v x) []
      rw [HX.out]
      simp at h1 h2 ⊢
      omega
    have p0 := bx.cell 0 rfl
    have p1 := bx.cell 1 rfl
    have p2 := bx.cell 2 rfl
    by_cases hlt : k < es.length
    · obtain ⟨B, off, e, rfl, -, hbh, he, e0, e1, e2⟩ := (hr.mid hm (Or.inl (Nat.zero_le _))).ed hlt
      obtain ⟨l1, l3⟩ := hg e (List.mem_of_getElem? he)
      have HET := Lib.hid (ends_take he v x)
      have hal := Mid.alloc wr (.cells #[.int .i64 e.a, .int .i64 e.l, .int .i64 e.b] 70)
      have hm1 := hm.trans hal
      have hrv1 := (hrv.mid hal (Or.inl (Nat.zero_le _))).wide (Nat.le_refl _) hal.size (Nat.le_refl _)
      have B1 := bx.mid hal (Or.inr (Nat.zero_le _))
      have E1 := Box.new wr #[.int .i64 e.a, .int .i64 e.l, .int .i64 e.b] 70
      have hkn : (k : Int) < (es.length : Int) := by omega
      clear he
      rcases endOf_cases v x e with ⟨hv, h1⟩ | ⟨hv, h1, h2⟩ | ⟨hv, h1, h2⟩
      · obtain ⟨p1, p2, p3⟩ := h1
        have b1 : decide (0 < x) = true := by simpa using p1
        have b0 : decide (x < 0) = false := by simp; omega
        have b2 : (e.l == x) = true := by simpa using p2
        have b3 : (e.a == v) = true := by simpa using p3
        clear p1 p2 p3
        go_wp2_with fail
        with_reducible refine (spec_l4Add A1 xs c1 e.b _ _ _ hrv1 hn1).mono ?_
        rintro en w2 ⟨A2, c2, rfl, hrv2, hm2⟩
        go_wp2_with fail
        go_roundw
        case rel => exact ⟨k + 1, A2, c2, _, by omega, by go_num, rfl, Lib.hid (by rw [HET.out, hv, HX.out, List.foldl_append]; rfl), hrv2, B1.mid hm2 (Or.inr (Nat.zero_le _)), hm1.trans hm2⟩
        case measure => simp [intOf]; omega
      · obtain ⟨p1, p2, p3⟩ := h2
        have b1 : decide (0 < x) = false := by simp; omega
        have b0 : decide (x < 0) = true := by simpa using p1
        have b4 : wrap64 (-x) = -x := by unfold wrap64; omega
        have b5 : (e.l == -x) = true := by simpa using p2
        have b3 : (e.b == v) = true := by simpa using p3
        clear h1 p1 p2 p3
        go_wp2_with fail
        with_reducible refine (spec_l4Add A1 xs c1 e.a _ _ _ hrv1 hn1).mono ?_
        rintro en w2 ⟨A2, c2, rfl, hrv2, hm2⟩
        go_wp2_with fail
        go_roundw
        case rel => exact ⟨k + 1, A2, c2, _, by omega, by go_num, rfl, Lib.hid (by rw [HET.out, hv, HX.out, List.foldl_append]; rfl), hrv2, B1.mid hm2 (Or.inr (Nat.zero_le _)), hm1.trans hm2⟩
        case measure => simp [intOf]; omega
      · rcases (by omega : 0 < x ∨ x < 0 ∨ x = 0) with p1 | p1 | p1
        · have b1 : decide (0 < x) = true := by simpa using p1
          have b0 : decide (x < 0) = false := by simp; omega
          by_cases p2 : e.l = x
          · have b2 : (e.l == x) = true := by simpa using p2
            have b3 : (e.a == v) = false := by simp only [beq_eq_false_iff_ne]; exact fun h => h1 ⟨p1, p2, h⟩
            clear h1 h2 p1 p2
            go_wp2_with fail
            go_roundw
            case rel => exact ⟨k + 1, A1, c1, _, by omega, by go_num, rfl, Lib.hid (by rw [HET.out, hv, HX.out]; simp), hrv1, B1, hm1⟩
            case measure => simp [intOf]; omega
          · have b2 : (e.l == x) = false := by simpa only [beq_eq_false_iff_ne] using p2
            clear h1 h2 p1 p2
            go_wp2_with fail
            go_roundw
            case rel => exact ⟨k + 1, A1, c1, _, by omega, by go_num, rfl, Lib.hid (by rw [HET.out, hv, HX.out]; simp), hrv1, B1, hm1⟩
            case measure => simp [intOf]; omega
        · have b1 : decide (0 < x) = false := by simp; omega
          have b0 : decide (x < 0) = true := by simpa using p1
          by_cases p2 : e.l = wrap64 (-x)
          · have b5 : (e.l == wrap64 (-x)) = true := by simpa using p2
            have b3 : (e.b == v) = false := by simp only [beq_eq_false_iff_ne]; exact fun h => h2 ⟨p1, by unfold wrap64 at p2; omega, h⟩
            clear h1 h2 p1 p2
            go_wp2_with fail
            go_roundw
            case rel => exact ⟨k + 1, A1, c1, _, by omega, by go_num, rfl, Lib.hid (by rw [HET.out, hv, HX.out]; simp), hrv1, B1, hm1⟩
            case measure => simp [intOf]; omega
          · have b5 : (e.l == wrap64 (-x)) = false := by simpa only [beq_eq_false_iff_ne] using p2
            clear h1 h2 p1 p2
            go_wp2_with fail
            go_roundw
            case rel => exact ⟨k + 1, A1, c1, _, by omega, by go_num, rfl, Lib.hid (by rw [HET.out, hv, HX.out]; simp), hrv1, B1, hm1⟩
            case measure => simp [intOf]; omega
        · subst p1
          clear h1 h2
          go_wp2_with fail
          go_roundw
          case rel => exact ⟨k + 1, A1, c1, _, by omega, by go_num, rfl, Lib.hid (by rw [HET.out, hv, HX.out]; simp), hrv1, B1, hm1⟩
          case measure => simp [intOf]; omega
    · obtain rfl : k = es.length := by omega
      have hst := stepsIs_put es v x
      have hx := HX.out
      rw [List.take_length] at hx
      rw [putEnds, ← hx] at hst
      go_wp2_with fail
      go_ret
      exact ⟨_, _, xs, rfl, hrv, hst, hm⟩

set_option maxHeartbeats 1600000 in
theorem spec_NextVertex (r s : Int) (A : Option Addr) (es : List Ed) (c : Nat) (v x : Int) (w : World) (lo hi : Nat) (hr : RG w lo hi A es) (hl : es.length ≤ 1000000) (hg : ∀ e ∈ es, 1 ≤ e.l ∧ e.l ≤ 3) (hx1 : -9223372036854775808 ≤ x) (hx2 : x ≤ 9223372036854775807) :
    Calls Try.prog 44 #[.agg #[.int .i64 r, .int .i64 s, .slice A es.length c], .int .i64 v, .int .i64 x] w fun e w' => e = .returned (.int .i64 (nextV es v x)) ∧ Mid 0 0 w w' := by
  go_enter Try.func44, Try.ntmps44
  have hal := Mid.alloc w (.cells #[.int .i64 r, .int .i64 s, .slice A es.length c] 28)
  go_wp2_with fail
  with_reducible refine (spec_StepsFrom r s A es c v x _ lo hi (hr.mid hal (Or.inl (Nat.zero_le _))) hl hg hx1 hx2).mono ?_
  rintro en w2 ⟨A2, c2, zs, rfl, hrv, ⟨h1, h2, h3⟩, hm⟩
  have hm := hal.trans hm
  generalize hn : zs.length = n
  by_cases h0 : ends es v x = []
  · obtain rfl : n = 0 := by rw [← hn, h1 h0]; rfl
    go_wp2_with fail
    go_ret
    exact ⟨by rw [nextV_none h0]; rfl, hm⟩
  · obtain ⟨t, ht⟩ := h2 h0
    obtain ⟨g, off, rfl, -, -, hc⟩ := hrv.2 (by rw [ht]; simp [ints])
    have c0 := hc 0 (.int .i64 (nextV es v x)) (by rw [ht]; simp [ints])
    rw [Nat.add_zero] at c0
    have hn0 : 0 < n := by rw [← hn, ht]; simp
    have hz : ((n : Int) == 0) = false := by simp only [beq_eq_false_iff_ne]; omega
    have hp : (0 : Int) < (n : Int) := by omega
    clear hn ht hc h1 h2 h3 hrv
    go_wp2_with fail
    go_ret
    exact ⟨rfl, hm⟩
end Go.Proofs.Ytimmnnncgnnkgaa

/- IsFolded and DegreeOf. -/
namespace Go.Proofs.Ytimmnnncgnnkgaa
set_option linter.unusedVariables false
set_option linter.unusedSimpArgs false
open Go.RowKit

theorem RG.drop {w : World} {lo hi : Nat} {b off : Nat} {es : List Ed} (h : RG w lo hi (some ⟨b, off, none⟩) es) {k : Nat} : RG w lo hi (some ⟨b, off + k * 3, none⟩) (es.drop k) := by
  refine ⟨h.1, fun hn => ?_⟩
  obtain ⟨b', off', hA, h1, h2, hc⟩ := h.2 (fun he => hn (by
    rw [ints, List.map_eq_nil_iff] at he ⊢
    rw [edI_drop, he]
    exact List.drop_nil))
  injection hA with hA
  injection hA with hA1 hA2
  subst hA1 hA2
  refine ⟨b, off + k * 3, rfl, h1, h2, fun j u hu => ?_⟩
  have := hc (k * 3 + j) u (by
    rw [ints, edI_drop, List.map_drop, List.getElem?_drop] at hu
    rw [ints]
    exact hu)
  rw [show off + k * 3 + j = off + (k * 3 + j) by omega]
  exact this

theorem pw_of_get {es : List Ed} (h : ∀ (i j : Nat) (e f : Ed), j < i → es[i]? = some e → es[j]? = some f → ¬ Clash e f) : es.Pairwise fun e f => ¬ Clash e f := by
  rw [List.pairwise_iff_getElem]
  intro i j hi hj hij hc
  exact h j i _ _ hij (List.getElem?_eq_getElem hj) (List.getElem?_eq_getElem hi) hc.symm
theorem get_of_pw {es : List Ed} (h : es.Pairwise fun e f => ¬ Clash e f) {i j : Nat} {e f : Ed} (hij : j < i) (he : es[i]? = some e) (hf : es[j]? = some f) : ¬ Clash e f := by
  rw [List.pairwise_iff_getElem] at h
  obtain ⟨hi, rfl⟩ := List.getElem?_eq_some_iff.1 he
  obtain ⟨hj, rfl⟩ := List.getElem?_eq_some_iff.1 hf
  exact fun hc => h j i hj hi hij hc.symm

set_option maxHeartbeats 3200000 in
theorem spec_IsFolded (r s : Int) (A : Option Addr) (es : List Ed) (c : Nat) (w : World) (lo hi : Nat) (hr : RG w lo hi A es) (hl : es.length ≤ 1048576) (b : Bool) (hb : b = true ↔ IsFol r s es) :
    Calls Try.prog 40 #[graV r s A es.length c] w fun e w' => e = .returned (.bool b) ∧ Mid 0 0 w w' := by
  have HB := Lib.hid hb
  clear hb
  have hm0 : Mid 0 0 w (w.alloc (.cells #[.int .i64 r, .int .i64 s, .slice A es.length c] 28)) := Mid.alloc _ _
  have B1 := (Box.new w #[.int .i64 r, .int .i64 s, .slice A es.length c] 28)
  obtain ⟨b1, hb1⟩ := bool_of (IsGr r s es)
  have H1 := Lib.hid hb1
  clear hb1
  go_enter Try.func40, Try.ntmps40
  go_wp2_with fail
  go_loopw [3] (fun i wr => ∃ k : Nat, k ≤ es.length ∧ i = .int .i64 k ∧ Box wr w.heap.size [.int .i64 r, .int .i64 s, .slice A es.length c] ∧ (∀ (i j : Nat) (e f : Ed), j < i → i < k → es[i]? = some e → es[j]? = some f → ¬ Clash e f) ∧ Mid 0 0 w wr) (fun i _ => es.length - (intOf i).toNat)
  case atStart => exact ⟨0, Nat.zero_le _, rfl, B1, fun i j e f h1 h2 => absurd h2 (Nat.not_lt_zero _), hm0⟩
  case round =>
    obtain ⟨wo, hwo⟩ : ∃ wo, wo = wr := ⟨_, rfl⟩
    subst hwo
    obtain ⟨k, hk, rfl, bx, hall, hmr⟩ := hrel
    have p0 := bx.cell 0 rfl
    have p1 := bx.cell 1 rfl
    have p2 := bx.cell 2 rfl
    have HA := Lib.hid hall
    clear hall
    by_cases hlt : k < es.length
    · have hkn : (k : Int) < (es.length : Int) := by omega
      go_wp2_with fail
      with_reducible refine (spec_IsGraph r s A es c _ _ _ (hr.mid hmr (Or.inl (Nat.zero_le _))).rv hl b1 H1.out).mono ?_
      rintro en w1 ⟨rfl, hm1⟩
      have hmo := hmr.trans hm1
      have bx1 := bx.mid hm1 (Or.inr (Nat.zero_le _))
      have q0 := bx1.cell 0 rfl
      have q1 := bx1.cell 1 rfl
      have q2 := bx1.cell 2 rfl
      cases b1 with
      | false =>
        obtain rfl : b = false := bool_no HB.out fun h => by have := H1.out.2 h.gr; cases this
        go_wp2_with fail
        with_reducible refine (spec_IsGraph r s A es c _ _ _ (hr.mid hmo (Or.inl (Nat.zero_le _))).rv hl false H1.out).mono ?_
        rintro en w2 ⟨rfl, hm2⟩
        go_wp2_with fail
        go_ret
        exact ⟨rfl, hmo.trans hm2⟩
      | true =>
        have G1 := Lib.hid (H1.out.1 rfl)
        go_wp2_with fail
        go_loopw [4] (fun i wr => ∃ j : Nat, j ≤ k ∧ i = .int .i64 j ∧ Box wr w.heap.size [.int .i64 r, .int .i64 s, .slice A es.length c] ∧ (∀ (i : Nat) (e f : Ed), i < j → es[k]? = some e → es[i]? = some f → ¬ Clash e f) ∧ Mid 0 0 w wr) (fun i _ => k - (intOf i).toNat)
        case atStart => exact ⟨0, Nat.zero_le _, rfl, bx1, fun i e f h => absurd h (Nat.not_lt_zero _), hmo⟩
        case round =>
          obtain ⟨j, hj, rfl, bx2, hin, hmx⟩ := hrel
          have u0 := bx2.cell 0 rfl
          have u1 := bx2.cell 1 rfl
          have u2 := bx2.cell 2 rfl
          have HI := Lib.hid hin
          clear hin
          by_cases hlt2 : j < k
          · obtain ⟨B, off, e, rfl, -, hbh, he, e0, e1, e2⟩ := (hr.mid hmx (Or.inl (Nat.zero_le _))).ed hlt
            obtain ⟨B', off', f, hA, -, hbh2, hf, f0, f1, f2⟩ := (hr.mid hmx (Or.inl (Nat.zero_le _))).ed (k := j) (by omega)
            injection hA with hA
            injection hA with hA1 hA2
            subst hA1 hA2
            have hbs : B < wr.heap.size := by have := hr.1; have := hmx.size; omega
            have hala := Mid.alloc wr (.cells #[.int .i64 e.a, .int .i64 e.l, .int .i64 e.b] 70)
            have halb := Mid.alloc (wr.alloc (.cells #[.int .i64 e.a, .int .i64 e.l, .int .i64 e.b] 70)) (.cells #[.int .i64 f.a, .int .i64 f.l, .int .i64 f.b] 70)
            have hal2 := hala.trans halb
            have E1 := (Box.new wr #[.int .i64 e.a, .int .i64 e.l, .int .i64 e.b] 70).mid halb (Or.inr (Nat.zero_le _))
            have E2 := Box.new (wr.alloc (.cells #[.int .i64 e.a, .int .i64 e.l, .int .i64 e.b] 70)) #[.int .i64 f.a, .int .i64 f.l, .int .i64 f.b] 70
            rw [World.size_alloc] at E2
            have bxa := bx2.mid hala (Or.inr (Nat.zero_le _))
            have bx3 := bx2.mid hal2 (Or.inr (Nat.zero_le _))
            have va0 := bxa.cell 0 rfl
            have va1 := bxa.cell 1 rfl
            have va2 := bxa.cell 2 rfl
            have g0 := E1.cell 0 rfl
            have g1 := E1.cell 1 rfl
            have g2 := E1.cell 2 rfl
            have h0 := E2.cell 0 rfl
            have h1 := E2.cell 1 rfl
            have h2 := E2.cell 2 rfl
            have g0' := cell_keep hala hbs (Or.inr (Nat.zero_le _)) f0
            have g1' := cell_keep hala hbs (Or.inr (Nat.zero_le _)) f1
            have g2' := cell_keep hala hbs (Or.inr (Nat.zero_le _)) f2
            have hjn : (j : Int) < (k : Int) := by omega
            have hjn2 : (j : Int) < (es.length : Int) := by omega
            have HE := Lib.hid he
            have HF := Lib.hid hf
            clear he hf
            by_cases hc : Clash e f
            · have hb : b = false := bool_no HB.out fun h => get_of_pw h.fol hlt2 HE.out HF.out hc
              subst hb
              obtain ⟨c1, c2⟩ := hc
              have d1 : (e.l == f.l) = true := by simpa using c1
              by_cases c3 : e.a = f.a
              · have d2 : (e.a == f.a) = true := by simpa using c3
                clear c1 c2 c3
                go_wp2_with fail
                go_ret
                exact ⟨rfl, hmx.trans hal2⟩
              · have d2 : (e.a == f.a) = false := by simpa only [beq_eq_false_iff_ne] using c3
                have d3 : (e.b == f.b) = true := by simpa using (c2.resolve_left c3)
                clear c1 c2 c3
                go_wp2_with fail
                go_ret
                exact ⟨rfl, hmx.trans hal2⟩
            · have HN : Hid (∀ (i : Nat) (e f : Ed), i < j + 1 → es[k]? = some e → es[i]? = some f → ¬ Clash e f) := Lib.hid (by
                intro i e' f' hi he' hf'
                by_cases h : i < j
                · exact HI.out i e' f' h he' hf'
                · obtain rfl : i = j := by omega
                  rw [HE.out] at he'
                  rw [HF.out] at hf'
                  injection he' with he'
                  injection hf' with hf'
                  subst he' hf'
                  exact hc)
              by_cases c1 : e.l = f.l
              · have d1 : (e.l == f.l) = true := by simpa using c1
                have d2 : (e.a == f.a) = false := by simp only [beq_eq_false_iff_ne]; exact fun h => hc ⟨c1, .inl h⟩
                have d3 : (e.b == f.b) = false := by simp only [beq_eq_false_iff_ne]; exact fun h => hc ⟨c1, .inr h⟩
                clear c1 hc
                go_wp2_with fail
                go_roundw
                case rel => exact ⟨j + 1, by omega, by go_num, bx3, HN.out, hmx.trans hal2⟩
                case measure => simp [intOf]; omega
              · have d1 : (e.l == f.l) = false := by simpa only [beq_eq_false_iff_ne] using c1
                clear c1 hc
                go_wp2_with fail
                go_roundw
                case rel => exact ⟨j + 1, by omega, by go_num, bx3, HN.out, hmx.trans hal2⟩
                case measure => simp [intOf]; omega
          · obtain rfl : j = k := by omega
            have HN : Hid (∀ (i j' : Nat) (e f : Ed), j' < i → i < j + 1 → es[i]? = some e → es[j']? = some f → ¬ Clash e f) := Lib.hid (by
              intro i j' e' f' h1 h2 he' hf'
              by_cases h : i < j
              · exact HA.out i j' e' f' h1 h he' hf'
              · obtain rfl : i = j := by omega
                exact HI.out j' e' f' h1 he' hf')
            go_wp2_with fail
            go_roundw
            case rel => exact ⟨j + 1, by omega, by go_num, bx2, HN.out, hmx⟩
            case measure => simp [intOf]; omega
    · obtain rfl : k = es.length := by omega
      obtain rfl : b = b1 := by
        cases b1 with
        | false => exact bool_no HB.out fun h => by have := H1.out.2 h.gr; cases this
        | true => exact HB.out.2 ⟨H1.out.1 rfl, pw_of_get fun i j e f h1 he hf => HA.out i j e f h1 (List.getElem?_eq_some_iff.1 he).1 he hf⟩
      go_wp2_with fail
      with_reducible refine (spec_IsGraph r s A es c _ _ _ (hr.mid hmr (Or.inl (Nat.zero_le _))).rv hl b H1.out).mono ?_
      rintro en w2 ⟨rfl, hm2⟩
      go_wp2_with fail
      go_ret
      exact ⟨rfl, hmr.trans hm2⟩
end Go.Proofs.Ytimmnnncgnnkgaa

/- DegreeOf. -/
namespace Go.Proofs.Ytimmnnncgnnkgaa
set_option linter.unusedVariables false
set_option linter.unusedSimpArgs false
open Go.RowKit

end Go.Proofs.Ytimmnnncgnnkgaa

/- Plain: what CompleteGraph adds. -/
namespace Go.Proofs.Ytimmnnncgnnkgaa
set_option linter.unusedVariables false
set_option linter.unusedSimpArgs false

/-- The vertices below n at which no edge of the letter x goes on. -/
noncomputable def freeV (es : List Ed) (x : Int) (n : Nat) : List Int := ((List.range n).filter fun (v : Nat) => decide (nextV es (v : Int) x < 0)).map fun (v : Nat) => (v : Int)
/-- The edges that are added for a letter, the first n of them; for all letters up to n. -/
noncomputable def addL (s : Int) (es : List Ed) (x : Int) : List Ed := List.zipWith (fun a b => (⟨a, x, b⟩ : Ed)) (freeV es x s.toNat) (freeV es (-x) s.toNat)
noncomputable def addLs (s : Int) (es : List Ed) (n : Nat) : List Ed := (List.range n).flatMap fun (i : Nat) => addL s es ((i : Int) + 1)
end Go.Proofs.Ytimmnnncgnnkgaa

/- CompleteGraph, the program. -/
namespace Go.Proofs.Ytimmnnncgnnkgaa
set_option linter.unusedVariables false
set_option linter.unusedSimpArgs false
open Go.RowKit

/-- Two rows of numbers of the call's own, in two blocks. -/
structure TwoI (w : World) (lo : Nat) (F T : Value) (n m : Nat) (xs ys : List Int) : Prop where
  f : w.ownsRow lo 3 1 F n (ints xs)
  t : w.ownsRow lo 3 1 T m (ints ys)
  ne : F.ownBlock ≠ T.ownBlock
theorem TwoI.push {w w' : World} {lo : Nat} {F T F' : Value} {n m n' : Nat} {xs ys xs' : List Int} (h : TwoI w lo F T n m xs ys) (ho : w'.ownsRow lo 3 1 F' n' (ints xs')) (hg : w.grownBy w' F.ownBlock) (hb : F'.ownBlock = F.ownBlock ∨ F'.ownBlock = some (w.heap.size + 1)) : TwoI w' lo F' T n' m xs' ys := by
  refine ⟨ho, h.t.kept hg ?_, fun e => ?_⟩
  · cases hT : T.ownBlock with
    | none => exact .inl rfl
    | some j => exact .inr fun e => h.ne (by rw [hT]; exact e.symm)
  · rcases hb with hb | hb
    · exact h.ne (hb.symm.trans e)
    · have := (h.t.lt (w.heap.size + 1) (by rw [← e, hb])).2
      omega
theorem TwoI.mid {w w' : World} {lo a b : Nat} {F T : Value} {n m : Nat} {xs ys : List Int} (h : TwoI w lo F T n m xs ys) (hm : Mid a b w w') (hd : b ≤ lo) : TwoI w' lo F T n m xs ys := ⟨owns_mid h.f hm (Or.inl hd), owns_mid h.t hm (Or.inl hd), h.ne⟩
section
variable {W : World} {ops : Array Oper} {rest : List Oper} {o : Oper} {a : Act} {Q : Exit → Act → World → Prop}
end

/-- What CompleteGraph gives. -/
def CompleteIs (r s : Int) (es : List Ed) (rr rs : Int) (res : List Ed) (b : Bool) : Prop :=
  (b = true ∧ IsFol r s es ∧ rr = r ∧ rs = s ∧ res = canon (es ++ addLs s es r.toNat)) ∨ (b = false ∧ ¬ IsFol r s es ∧ rr = 0 ∧ rs = 0 ∧ res = [])
theorem CompleteIs.no {r s : Int} {es : List Ed} {rr rs : Int} {res : List Ed} {b : Bool} (h : CompleteIs r s es rr rs res b) (hn : ¬ IsFol r s es) : b = false ∧ rr = 0 ∧ rs = 0 ∧ res = [] := by
  rcases h with ⟨-, h, -⟩ | ⟨h1, -, h2⟩
  · exact absurd h hn
  · exact ⟨h1, h2⟩
theorem CompleteIs.yes {r s : Int} {es : List Ed} {rr rs : Int} {res : List Ed} {b : Bool} (h : CompleteIs r s es rr rs res b) (hn : IsFol r s es) : b = true ∧ rr = r ∧ rs = s ∧ res = canon (es ++ addLs s es r.toNat) := by
  rcases h with ⟨h1, -, h2⟩ | ⟨-, h, -⟩
  · exact ⟨h1, h2⟩
  · exact absurd hn h

end Go.Proofs.Ytimmnnncgnnkgaa

/- letters, l5Letters, copyInts (never nil). -/
namespace Go.Proofs.Ytimmnnncgnnkgaa
set_option linter.unusedVariables false
set_option linter.unusedSimpArgs false
open Go.RowKit

end Go.Proofs.Ytimmnnncgnnkgaa

/- Plain: what joined and ReachedFrom find. -/
namespace Go.Proofs.Ytimmnnncgnnkgaa
set_option linter.unusedVariables false
set_option linter.unusedSimpArgs false

/-- The vertices found so far. -/
structure JAt (s : Int) (es : List Ed) (v : Int) (vis : List Int) : Prop where
  here : v ∈ vis
  rng : ∀ u ∈ vis, 0 ≤ u ∧ u < s
  nd : vis.Nodup
  conn : ∀ u ∈ vis, Conn es v u
theorem JAt.le {s : Int} {es : List Ed} {v : Int} {vis : List Int} (h : JAt s es v vis) : vis.length ≤ s.toNat := by
  refine nodup_le s.toNat vis h.nd fun u hu => ?_
  have := h.rng u hu
  omega
theorem JAt.start {s : Int} (es : List Ed) {v : Int} (h0 : 0 ≤ v) (h1 : v < s) : JAt s es v [v] := by
  refine ⟨by simp, ?_, by simp, ?_⟩
  · intro u hu; simp at hu; subst hu; exact ⟨h0, h1⟩
  · intro u hu; simp at hu; subst hu; exact .here
theorem JAt.push {s : Int} {es : List Ed} {v u : Int} {vis : List Int} (h : JAt s es v vis) (hr : 0 ≤ u ∧ u < s) (hn : u ∉ vis) (hc : Conn es v u) : JAt s es v (vis ++ [u]) := by
  refine ⟨by simp [h.here], ?_, ?_, ?_⟩
  · intro x hx
    rcases List.mem_append.1 hx with hx | hx
    · exact h.rng x hx
    · simp at hx; subst hx; exact hr
  · rw [List.nodup_append]
    refine ⟨h.nd, by simp, ?_⟩
    intro a ha b hb
    simp at hb
    subst hb
    intro e
    subst e
    exact hn ha
  · intro x hx
    rcases List.mem_append.1 hx with hx | hx
    · exact h.conn x hx
    · simp at hx; subst hx; exact hc
/-- Closed under the first k edges. -/
def Shut' (es : List Ed) (k : Nat) (vis : List Int) : Prop := ∀ (j : Nat) (e : Ed), j < k → es[j]? = some e → (e.a ∈ vis ↔ e.b ∈ vis)
theorem Shut'.zero (es : List Ed) (vis : List Int) : Shut' es 0 vis := fun j e h => absurd h (Nat.not_lt_zero _)
theorem Shut'.succ {es : List Ed} {k : Nat} {vis : List Int} (h : Shut' es k vis) {e : Ed} (he : es[k]? = some e) (hc : e.a ∈ vis ↔ e.b ∈ vis) : Shut' es (k + 1) vis := fun j f hj hf => by
  by_cases h1 : j < k
  · exact h j f h1 hf
  · obtain rfl : j = k := by omega
    rw [he] at hf
    injection hf with hf
    subst hf
    exact hc
theorem JAt.done {s : Int} {es : List Ed} {v : Int} {vis : List Int} (h : JAt s es v vis) (hc : Shut' es es.length vis) (u : Int) : u ∈ vis ↔ Conn es v u := by
  refine conn_iff (P := fun u => u ∈ vis) h.here (fun e he => ?_) h.conn u
  obtain ⟨j, hj, rfl⟩ := List.mem_iff_getElem.1 he
  exact hc j _ hj (List.getElem?_eq_getElem hj)
/-- One edge of a pass. -/
theorem JAt.edge {s r : Int} {es : List Ed} {v : Int} {vis : List Int} (h : JAt s es v vis) {e : Ed} (he : e ∈ es) (hi : InG r s e) (hd : ¬ (e.a ∈ vis ↔ e.b ∈ vis)) :
    ∃ u, JAt s es v (vis ++ [u]) ∧ ∀ x, x ∈ vis ++ [e.a] ++ [e.b] ↔ x ∈ vis ++ [u] := by
  unfold InG at hi
  by_cases ha : e.a ∈ vis
  · have hb : e.b ∉ vis := fun hb => hd ⟨fun _ => hb, fun _ => ha⟩
    refine ⟨e.b, h.push (by omega) hb (.out he (h.conn _ ha)), fun x => ?_⟩
    simp only [List.mem_append, List.mem_singleton]
    constructor
    · rintro ((h | rfl) | h)
      · exact .inl h
      · exact .inl ha
      · exact .inr h
    · rintro (h | h)
      · exact .inl (.inl h)
      · exact .inr h
  · have hb : e.b ∈ vis := Classical.byContradiction fun hb => hd ⟨fun h => absurd h ha, fun h => absurd h hb⟩
    refine ⟨e.a, h.push (by omega) ha (.inn he (h.conn _ hb)), fun x => ?_⟩
    simp only [List.mem_append, List.mem_singleton]
    constructor
    · rintro ((h | rfl) | rfl)
      · exact .inl h
      · exact .inr rfl
      · exact .inl hb
    · rintro (h | h)
      · exact .inl (.inl h)
      · exact .inl (.inr h)
end Go.Proofs.Ytimmnnncgnnkgaa

/- joined, the program. -/
namespace Go.Proofs.Ytimmnnncgnnkgaa
set_option linter.unusedVariables false
set_option linter.unusedSimpArgs false
open Go.RowKit

def boolOf : Value → Bool | .bool b => b | _ => false
/-- How many cells of a row of marks are not set. -/
def cntF (w : World) (g n : Nat) : Nat := ((List.range n).filter fun j => match w.cell? ⟨g, j, none⟩ with | some (.bool false) => true | _ => false).length
end Go.Proofs.Ytimmnnncgnnkgaa
