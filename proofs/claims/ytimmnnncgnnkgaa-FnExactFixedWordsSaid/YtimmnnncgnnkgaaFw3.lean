/- Contracts and lemmas of this seat, many texts in one: see the words ahead of each. No condition beyond those typed in each lemma. -/
import Derived.Test.YtimmnnncgnnkgaaFw2
import Derived.Test.YtimmnnncgnnkgaaFw1
import Derived.Lib.SliceRun

/- tree, the program: the search by breadth, with the words. -/
namespace Go.Proofs.Ytimmnnncgnnkgaa
set_option linter.unusedVariables false
set_option linter.unusedSimpArgs false
open Go.RowKit

/-- The row of words, as far as the search has come: vals are its cells; g is its block, oB the order's. -/
structure TreeSt (w : World) (g : Nat) (oB : Option Nat) (n : Nat) (vals : List Value) (st : BS) : Prop where
  len : vals.length = n
  on : ∀ p ∈ st, ∃ b c, vals[p.1.toNat]? = some (.slice (some ⟨b, 0, none⟩) p.2.length c) ∧ (∀ j u, (ints p.2)[j]? = some u → w.cell? ⟨b, j, none⟩ = some u) ∧ b ≠ g ∧ oB ≠ some b ∧ b < w.heap.size
  off : ∀ u : Nat, u < n → (u : Int) ∉ st.map Prod.fst → vals[u]? = some (.slice none 0 0)
section
variable {w w' : World} {g n : Nat} {oB oB' : Option Nat} {vals : List Value} {st : BS}
theorem TreeSt.mid {a b : Nat} (h : TreeSt w g oB n vals st) (m : Mid 0 0 w w') : TreeSt w' g oB n vals st :=
  ⟨h.len, fun p hp => by
    obtain ⟨b, c, h1, h2, h3, h4, h5⟩ := h.on p hp
    exact ⟨b, c, h1, fun j u hu => (World.cell?_of_block (m.block b h5 (by omega))).trans (h2 j u hu), h3, h4, Nat.lt_of_lt_of_le h5 m.size⟩, h.off⟩
/-- A word is laid down at a vertex that was not found. -/
theorem TreeSt.set {t b c : Nat} {wd : List Int} (h : TreeSt w g oB n vals st) (ht : t < n) (hn : (t : Int) ∉ st.map Prod.fst) (hst : ∀ p ∈ st, 0 ≤ p.1)
    (hc : ∀ j u, (ints wd)[j]? = some u → w.cell? ⟨b, j, none⟩ = some u) (hb : b ≠ g) (ho : oB ≠ some b) (hs : b < w.heap.size) :
    TreeSt (w.setCell ⟨g, t, none⟩ (.slice (some ⟨b, 0, none⟩) wd.length c)) g oB n (vals.set t (.slice (some ⟨b, 0, none⟩) wd.length c)) (st ++ [((t : Int), wd)]) := by
  have key : ∀ (b' j : Nat) (u v : Value), b' ≠ g → w.cell? ⟨b', j, none⟩ = some u → (w.setCell ⟨g, t, none⟩ v).cell? ⟨b', j, none⟩ = some u := fun b' j u v hbg hc =>
    (World.cell?_setCell_other w _ _ v (by intro e; injection e with e; exact hbg e.symm)).trans hc
  refine ⟨by rw [List.length_set]; exact h.len, fun p hp => ?_, fun u hu hnu => ?_⟩
  · rcases List.mem_append.1 hp with hp | hp
    · obtain ⟨b', c', h1, h2, h3, h4, h5⟩ := h.on p hp
      have hne : t ≠ p.1.toNat := by
        intro e
        apply hn
        have := hst p hp
        rw [show (t : Int) = p.1 by omega]
        exact List.mem_map_of_mem hp
      refine ⟨b', c', by rw [List.getElem?_set_ne hne]; exact h1, fun j u hu => key b' j u _ h3 (h2 j u hu), h3, h4, by simpa using h5⟩
    · simp at hp
      subst hp
      refine ⟨b, c, ?_, fun j u hu => key b j u _ hb (hc j u hu), hb, ho, by simpa using hs⟩
      simp only [Int.toNat_natCast]
      rw [List.getElem?_set_self (by rw [h.len]; exact ht)]
  · rw [List.map_append, List.mem_append] at hnu
    have hne : t ≠ u := by
      intro e
      subst e
      exact hnu (.inr (by simp))
    rw [List.getElem?_set_ne hne]
    exact h.off u hu fun hm => hnu (.inl hm)
theorem TreeSt.word {p : Int × List Int} (h : TreeSt w g oB n vals st) (hp : p ∈ st) : ∃ b c, vals[p.1.toNat]? = some (.slice (some ⟨b, 0, none⟩) p.2.length c) ∧ RV w 0 w.heap.size (some ⟨b, 0, none⟩) (ints p.2) := by
  obtain ⟨b, c, h1, h2, h3, h4, h5⟩ := h.on p hp
  exact ⟨b, c, h1, Nat.le_refl _, fun _ => ⟨b, 0, rfl, Nat.zero_le _, h5, fun j u hu => by rw [Nat.zero_add]; exact h2 j u hu⟩⟩
end
section
variable {W : World} {ops : Array Oper} {rest : List Oper} {o : Oper} {a : Act} {Q : Exit → Act → World → Prop}
theorem wpList_pushI2 (hgd : o.guard = none) (s x : Operand)
    (ho : o.op = .call { callee := .builtin .append, args := #[s, x], argTypes := #[37, 37] }) (lo : Nat) (A : Option Addr) (n c : Nat) (xs : List Int) (hs : a.eval s = .slice A n c)
    (hown : W.ownsRow lo 3 1 (.slice A n c) n (ints xs)) (y : Int) (hx : a.eval x = .slice (some ⟨W.heap.size, 0, none⟩) 1 1) (hn : n ≤ 1048576) (hb : lo ≤ W.heap.size)
    (h : ∀ A' c' w', w'.ownsRow lo 3 1 (.slice A' (n + 1) c') (n + 1) (ints (xs ++ [y])) → W.grownBy w' (Value.ownBlock (.slice A n c)) → (Value.ownBlock (.slice A' (n + 1) c') = Value.ownBlock (.slice A n c) ∨ Value.ownBlock (.slice A' (n + 1) c') = some (W.heap.size + 1)) → wpList Try.prog ops Q rest (a.put o.dst (.slice A' (n + 1) c')) w') :
    wpList Try.prog ops Q (o :: rest) a (W.alloc (.cells #[.int .i64 y] 3)) := by
  refine wpList_push (news := [.int .i64 y]) hgd s x 37 ho lo 3 (.int .i64 0) 1 8 undSI infoI rfl (by decide) (.slice A n c) n (ints xs) hs hown 1 hx rfl ?_ (by unfold maxLen; omega) (by omega) hb ?_
  · intro u hu
    simp at hu
    subst hu
    rfl
  · intro v' w' h1 h2 h3
    obtain ⟨A', c', rfl, -, -⟩ := owns_shape h1
    refine h A' c' w' ?_ h2 h3
    rw [ints_append]
    exact h1
end
theorem RV.grown {w w' : World} {lo hi : Nat} {A : Option Addr} {cs : List Value} {row : Option Nat} (h : RV w lo hi A cs) (hg : w.grownBy w' row) (hd : ∀ g, row = some g → g < lo ∨ hi ≤ g) : RV w' lo hi A cs :=
  ⟨Nat.le_trans h.1 hg.size, fun hn => by
    obtain ⟨g, off, e, h1, h2, hc⟩ := h.2 hn
    have hs := h.1
    exact ⟨g, off, e, h1, h2, fun j u hu => (World.cell?_of_block (hg.block g (by omega) (fun e => by have := hd g e.symm; omega))).trans (hc j u hu)⟩⟩
end Go.Proofs.Ytimmnnncgnnkgaa

/- part, the program. -/
namespace Go.Proofs.Ytimmnnncgnnkgaa
set_option linter.unusedVariables false
set_option linter.unusedSimpArgs false
open Go.RowKit

end Go.Proofs.Ytimmnnncgnnkgaa

/- Plain: the reference's rounds that find what is joined. -/
namespace Go.Proofs.Ytimmnnncgnnkgaa
set_option linter.unusedVariables false
set_option linter.unusedSimpArgs false

theorem srt_ext {xs ys : List Int} (hx : xs.Pairwise (· < ·)) (hy : ys.Pairwise (· < ·)) (h : ∀ u, u ∈ xs ↔ u ∈ ys) : xs = ys := by
  have n1 : xs.Nodup := hx.imp fun h => by omega
  have n2 : ys.Nodup := hy.imp fun h => by omega
  exact List.Perm.eq_of_pairwise (le := fun x y : Int => x < y) (fun a b _ _ h1 h2 => by omega) hx hy ((List.perm_ext_iff_of_nodup n1 n2).2 h)
theorem putI_mem {x : Int} {l : List Int} (h : l.Pairwise (· < ·)) (hx : x ∈ l) : putI x l = l :=
  srt_ext (putI_sorted h) h fun u => by
    rw [mem_putI]
    constructor
    · rintro (rfl | h)
      · exact hx
      · exact h
    · exact .inr
theorem putI_new {x : Int} {l : List Int} (h : l.Pairwise (· < ·)) (hx : x ∉ l) : (putI x l).length = l.length + 1 := by
  have n1 : (putI x l).Nodup := (putI_sorted h).imp fun h => by omega
  have n2 : (x :: l).Nodup := List.nodup_cons.2 ⟨hx, h.imp fun h => by omega⟩
  have := ((List.perm_ext_iff_of_nodup n1 n2).2 fun u => by rw [mem_putI, List.mem_cons]).length_eq
  simpa using this
/-- The ascending list found so far. -/
structure RAt (s : Int) (es : List Ed) (v : Int) (zs : List Int) : Prop where
  here : v ∈ zs
  rng : ∀ u ∈ zs, 0 ≤ u ∧ u < s
  srt : zs.Pairwise (· < ·)
  conn : ∀ u ∈ zs, Conn es v u
  cnt : zs.length ≤ 1 + (es.filter fun e => decide (e.a ∈ zs ∧ e.b ∈ zs)).length
theorem RAt.start {s : Int} (es : List Ed) {v : Int} (h0 : 0 ≤ v) (h1 : v < s) : RAt s es v [v] := by
  refine ⟨by simp, ?_, by simp, ?_, by simp⟩
  · intro u hu; simp at hu; subst hu; exact ⟨h0, h1⟩
  · intro u hu; simp at hu; subst hu; exact .here
theorem filter_len_mono {p q : Ed → Bool} (h : ∀ e, p e = true → q e = true) : ∀ l : List Ed, (l.filter p).length ≤ (l.filter q).length
  | [] => Nat.le_refl _
  | e :: t => by
    have := filter_len_mono h t
    cases hp : p e with
    | true => rw [List.filter_cons_of_pos hp, List.filter_cons_of_pos (h e hp)]; simpa using this
    | false =>
      rw [List.filter_cons_of_neg (by simp [hp])]
      cases hq : q e with
      | true => rw [List.filter_cons_of_pos hq]; simp; omega
      | false => rw [List.filter_cons_of_neg (by simp [hq])]; exact this
theorem filter_len_lt {p q : Ed → Bool} (h : ∀ e, p e = true → q e = true) {f : Ed} (hp : p f = false) (hq : q f = true) : ∀ {l : List Ed}, f ∈ l → (l.filter p).length < (l.filter q).length
  | e :: t, hm => by
    rcases List.mem_cons.1 hm with rfl | hm
    · rw [List.filter_cons_of_neg (by simp [hp]), List.filter_cons_of_pos hq]
      have := filter_len_mono h t
      simp
      omega
    · have := filter_len_lt h hp hq hm
      cases hp' : p e with
      | true => rw [List.filter_cons_of_pos hp', List.filter_cons_of_pos (h e hp')]; simpa using this
      | false =>
        rw [List.filter_cons_of_neg (by simp [hp'])]
        cases hq' : q e with
        | true => rw [List.filter_cons_of_pos hq']; simp; omega
        | false => rw [List.filter_cons_of_neg (by simp [hq'])]; exact this
theorem RAt.push {s : Int} {es : List Ed} {v u : Int} {zs : List Int} (h : RAt s es v zs) {e : Ed} (he : e ∈ es) (hr : 0 ≤ u ∧ u < s) (hc : Conn es v u) (hu : u ∉ zs) (hue : u = e.a ∨ u = e.b) (h2 : e.a = u ∨ e.a ∈ zs) (h3 : e.b = u ∨ e.b ∈ zs) : RAt s es v (putI u zs) := by
  refine ⟨mem_putI.2 (.inr h.here), ?_, putI_sorted h.srt, ?_, ?_⟩
  · intro x hx
    rcases mem_putI.1 hx with rfl | hx
    · exact hr
    · exact h.rng x hx
  · intro x hx
    rcases mem_putI.1 hx with rfl | hx
    · exact hc
    · exact h.conn x hx
  · have h4 := h.cnt
    have h5 := putI_new h.srt hu
    have h6 := filter_len_lt (p := fun e => decide (e.a ∈ zs ∧ e.b ∈ zs)) (q := fun e => decide (e.a ∈ putI u zs ∧ e.b ∈ putI u zs)) (f := e) (l := es) (by
      intro f hf
      simp only [decide_eq_true_eq, mem_putI] at hf ⊢
      exact ⟨.inr hf.1, .inr hf.2⟩) (by
      simp only [decide_eq_false_iff_not]
      rintro ⟨h6, h7⟩
      rcases hue with rfl | rfl
      · exact hu h6
      · exact hu h7) (by
      simp only [decide_eq_true_eq, mem_putI]
      exact ⟨h2, h3⟩) he
    omega
/-- One edge of a round: what stands behind its two tests. -/
def reachE (e : Ed) (zs : List Int) : List Int := if e.b ∈ (if e.a ∈ zs then putI e.b zs else zs) then putI e.a (if e.a ∈ zs then putI e.b zs else zs) else (if e.a ∈ zs then putI e.b zs else zs)
theorem RAt.edge {r s : Int} {es : List Ed} {v : Int} {zs : List Int} (h : RAt s es v zs) {e : Ed} (he : e ∈ es) (hi : InG r s e) :
    RAt s es v (reachE e zs) ∧ ((reachE e zs = zs ∧ (e.a ∈ zs ↔ e.b ∈ zs)) ∨ (zs.length < (reachE e zs).length ∧ ¬ (e.a ∈ zs ↔ e.b ∈ zs))) := by
  unfold InG at hi
  unfold reachE
  by_cases ha : e.a ∈ zs
  · rw [if_pos ha, if_pos (mem_putI.2 (.inl rfl))]
    rw [putI_mem (putI_sorted h.srt) (mem_putI.2 (.inr ha))]
    by_cases hb : e.b ∈ zs
    · rw [putI_mem h.srt hb]
      exact ⟨h, .inl ⟨rfl, ⟨fun _ => hb, fun _ => ha⟩⟩⟩
    · refine ⟨h.push he (by omega) (.out he (h.conn _ ha)) hb (.inr rfl) (.inr ha) (.inl rfl), .inr ⟨?_, fun hh => hb (hh.1 ha)⟩⟩
      rw [putI_new h.srt hb]
      omega
  · rw [if_neg ha]
    by_cases hb : e.b ∈ zs
    · rw [if_pos hb]
      refine ⟨h.push he (by omega) (.inn he (h.conn _ hb)) ha (.inl rfl) (.inl rfl) (.inr hb), .inr ⟨?_, fun hh => ha (hh.2 hb)⟩⟩
      rw [putI_new h.srt ha]
      omega
    · rw [if_neg hb]
      exact ⟨h, .inl ⟨rfl, ⟨fun h => absurd h ha, fun h => absurd h hb⟩⟩⟩
/-- The state within round k, behind the first i edges. -/
structure RIn (s : Int) (es : List Ed) (v : Int) (k i : Nat) (zs : List Int) : Prop where
  at' : RAt s es v zs
  or' : Shut' es es.length zs ∨ (k + 1 < zs.length) ∨ (k + 1 ≤ zs.length ∧ Shut' es i zs)
structure ROut (s : Int) (es : List Ed) (v : Int) (k : Nat) (zs : List Int) : Prop where
  at' : RAt s es v zs
  or' : Shut' es es.length zs ∨ k + 1 ≤ zs.length
theorem ROut.start {s : Int} (es : List Ed) {v : Int} (h0 : 0 ≤ v) (h1 : v < s) : ROut s es v 0 [v] := ⟨RAt.start es h0 h1, .inr (by simp)⟩
theorem ROut.into {s : Int} {es : List Ed} {v : Int} {k : Nat} {zs : List Int} (h : ROut s es v k zs) : RIn s es v k 0 zs := ⟨h.at', h.or'.imp id fun h => .inr ⟨h, Shut'.zero es zs⟩⟩
theorem RIn.out {s : Int} {es : List Ed} {v : Int} {k : Nat} {zs : List Int} (h : RIn s es v k es.length zs) : ROut s es v (k + 1) zs := ⟨h.at', by
  rcases h.or' with h1 | h1 | ⟨h1, h2⟩
  · exact .inl h1
  · exact .inr (by omega)
  · exact .inl h2⟩
theorem RIn.step {r s : Int} {es : List Ed} {v : Int} {k i : Nat} {zs : List Int} (h : RIn s es v k i zs) {e : Ed} (he : es[i]? = some e) (hi : InG r s e) : RIn s es v k (i + 1) (reachE e zs) := by
  obtain ⟨h1, h2⟩ := h.at'.edge (List.mem_of_getElem? he) hi
  have hil := (List.getElem?_eq_some_iff.1 he).1
  refine ⟨h1, ?_⟩
  rcases h2 with ⟨h2, h3⟩ | ⟨h2, h3⟩
  · rw [h2]
    rcases h.or' with h4 | h4 | ⟨h4, h5⟩
    · exact .inl h4
    · exact .inr (.inl h4)
    · exact .inr (.inr ⟨h4, h5.succ he h3⟩)
  · right
    left
    rcases h.or' with h4 | h4 | ⟨h4, h5⟩
    · exact absurd (h4 i e hil he) h3
    · omega
    · omega
theorem ROut.done {s : Int} {es : List Ed} {v : Int} {zs : List Int} (h : ROut s es v (es.length + 1) zs) (u : Int) : u ∈ zs ↔ Conn es v u := by
  have hc : Shut' es es.length zs := by
    rcases h.or' with h1 | h1
    · exact h1
    · have h2 := h.at'.cnt
      have h3 := List.length_filter_le (fun e => decide (e.a ∈ zs ∧ e.b ∈ zs)) es
      omega
  refine conn_iff (P := fun u => u ∈ zs) h.at'.here (fun e he => ?_) h.at'.conn u
  obtain ⟨j, hj, rfl⟩ := List.mem_iff_getElem.1 he
  exact hc j _ hj (List.getElem?_eq_getElem hj)
theorem RAt.le {s : Int} {es : List Ed} {v : Int} {zs : List Int} (h : RAt s es v zs) : zs.length ≤ s.toNat := by
  refine nodup_le s.toNat zs (h.srt.imp fun h => by omega) fun u hu => ?_
  have := h.rng u hu
  omega
end Go.Proofs.Ytimmnnncgnnkgaa

/- l4Has, ReachedFrom, l8Leaf, the reference. -/
namespace Go.Proofs.Ytimmnnncgnnkgaa
set_option linter.unusedVariables false
set_option linter.unusedSimpArgs false
open Go.RowKit

noncomputable def leafI (s : Int) (es : List Ed) : Int := match leaf s es with | some v => (v : Int) | none => -1
end Go.Proofs.Ytimmnnncgnnkgaa

/- CanonicalOrder, the reference. -/
namespace Go.Proofs.Ytimmnnncgnnkgaa
set_option linter.unusedVariables false
set_option linter.unusedSimpArgs false
open Go.RowKit

end Go.Proofs.Ytimmnnncgnnkgaa

/- RenumberGraph, the reference, at an order that is one. -/
namespace Go.Proofs.Ytimmnnncgnnkgaa
set_option linter.unusedVariables false
set_option linter.unusedSimpArgs false
open Go.RowKit

end Go.Proofs.Ytimmnnncgnnkgaa

/- EqualGraphs, of both. -/
namespace Go.Proofs.Ytimmnnncgnnkgaa
set_option linter.unusedVariables false
set_option linter.unusedSimpArgs false
open Go.RowKit

end Go.Proofs.Ytimmnnncgnnkgaa

/- CanonicalOrder of the program, CanonicalGraph of both. -/
namespace Go.Proofs.Ytimmnnncgnnkgaa
set_option linter.unusedVariables false
set_option linter.unusedSimpArgs false
open Go.RowKit

end Go.Proofs.Ytimmnnncgnnkgaa

/- TrimGraph, the program. -/
namespace Go.Proofs.Ytimmnnncgnnkgaa
set_option linter.unusedVariables false
set_option linter.unusedSimpArgs false
open Go.RowKit

/-- The size that a graph's box holds. -/
def sizeAt (w : World) (G : Nat) : Nat := match w.cell? ⟨G, 1, none⟩ with | some (.int _ s) => s.toNat | _ => 0
end Go.Proofs.Ytimmnnncgnnkgaa
