/- Contracts and lemmas of this seat, many texts in one: see the words ahead of each. No condition beyond those typed in each lemma. -/
import Derived.Test.YtimmnnncgnnkgaaGreatMc2
import Derived.Test.YtimmnnncgnnkgaaGreatMc1
import Derived.Lib.SliceRun
import Derived.Maps.OwnSet
import Derived.DeepKeys4

/- Contracts: IsPermutation of the program and of the reference. -/
namespace Go.Proofs.YtimmnnncgnnkgaaGreat
set_option linter.unusedVariables false
set_option linter.unusedSimpArgs false
open Go.RowKit

/-- seen: which of the first n numbers stand among l -/
def seenOf (n : Nat) (l : List Int) : List Value := (List.range n).map (fun (j : Nat) => Value.bool (decide ((j : Int) ∈ l)))
theorem seenOf_nil (n : Nat) : seenOf n [] = List.replicate n (.bool false) := by
  unfold seenOf
  apply List.ext_getElem <;> simp
theorem seenOf_get {n j : Nat} {l : List Int} (h : j < n) : (seenOf n l)[j]? = some (.bool (decide ((j : Int) ∈ l))) := by simp [seenOf, h]
theorem seenOf_set {n m : Nat} {l : List Int} (_h : m < n) : (seenOf n l).set m (.bool true) = seenOf n (l ++ [(m : Int)]) := by
  unfold seenOf
  apply List.ext_getElem
  · simp
  · intro i h1 h2
    rw [List.getElem_set]
    by_cases e : m = i
    · subst e
      simp
    · simp [e]
      intro e'
      omega

end Go.Proofs.YtimmnnncgnnkgaaGreat

/- Plain: what joined and ReachedFrom find. -/
namespace Go.Proofs.YtimmnnncgnnkgaaGreat
set_option linter.unusedVariables false
set_option linter.unusedSimpArgs false

/-- The vertices found so far. -/
structure JAt (s : Int) (es : List Ed) (v : Int) (vis : List Int) : Prop where
  here : v ∈ vis
  rng : ∀ u ∈ vis, 0 ≤ u ∧ u < s
  nd : vis.Nodup
  conn : ∀ u ∈ vis, Conn es v u
theorem JAt.le {s : Int} {es : List Ed} {v : Int} {vis : List Int} (h : JAt s es v vis) : vis.length ≤ s.toNat := by
  refine nodup_le s.toNat vis h.nd fun u hu => ?_
  have := h.rng u hu
  omega
theorem JAt.start {s : Int} (es : List Ed) {v : Int} (h0 : 0 ≤ v) (h1 : v < s) : JAt s es v [v] := by
  refine ⟨by simp, ?_, by simp, ?_⟩
  · intro u hu; simp at hu; subst hu; exact ⟨h0, h1⟩
  · intro u hu; simp at hu; subst hu; exact .here
theorem JAt.push {s : Int} {es : List Ed} {v u : Int} {vis : List Int} (h : JAt s es v vis) (hr : 0 ≤ u ∧ u < s) (hn : u ∉ vis) (hc : Conn es v u) : JAt s es v (vis ++ [u]) := by
  refine ⟨by simp [h.here], ?_, ?_, ?_⟩
  · intro x hx
    rcases List.mem_append.1 hx with hx | hx
    · exact h.rng x hx
    · simp at hx; subst hx; exact hr
  · rw [List.nodup_append]
    refine ⟨h.nd, by simp, ?_⟩
    intro a ha b hb
    simp at hb
    subst hb
    intro e
    subst e
    exact hn ha
  · intro x hx
    rcases List.mem_append.1 hx with hx | hx
    · exact h.conn x hx
    · simp at hx; subst hx; exact hc
/-- Closed under the first k edges. -/
def Shut' (es : List Ed) (k : Nat) (vis : List Int) : Prop := ∀ (j : Nat) (e : Ed), j < k → es[j]? = some e → (e.a ∈ vis ↔ e.b ∈ vis)
theorem Shut'.zero (es : List Ed) (vis : List Int) : Shut' es 0 vis := fun j e h => absurd h (Nat.not_lt_zero _)
theorem Shut'.succ {es : List Ed} {k : Nat} {vis : List Int} (h : Shut' es k vis) {e : Ed} (he : es[k]? = some e) (hc : e.a ∈ vis ↔ e.b ∈ vis) : Shut' es (k + 1) vis := fun j f hj hf => by
  by_cases h1 : j < k
  · exact h j f h1 hf
  · obtain rfl : j = k := by omega
    rw [he] at hf
    injection hf with hf
    subst hf
    exact hc
theorem JAt.done {s : Int} {es : List Ed} {v : Int} {vis : List Int} (h : JAt s es v vis) (hc : Shut' es es.length vis) (u : Int) : u ∈ vis ↔ Conn es v u := by
  refine conn_iff (P := fun u => u ∈ vis) h.here (fun e he => ?_) h.conn u
  obtain ⟨j, hj, rfl⟩ := List.mem_iff_getElem.1 he
  exact hc j _ hj (List.getElem?_eq_getElem hj)
/-- One edge of a pass. -/
theorem JAt.edge {s r : Int} {es : List Ed} {v : Int} {vis : List Int} (h : JAt s es v vis) {e : Ed} (he : e ∈ es) (hi : InG r s e) (hd : ¬ (e.a ∈ vis ↔ e.b ∈ vis)) :
    ∃ u, JAt s es v (vis ++ [u]) ∧ ∀ x, x ∈ vis ++ [e.a] ++ [e.b] ↔ x ∈ vis ++ [u] := by
  unfold InG at hi
  by_cases ha : e.a ∈ vis
  · have hb : e.b ∉ vis := fun hb => hd ⟨fun _ => hb, fun _ => ha⟩
    refine ⟨e.b, h.push (by omega) hb (.out he (h.conn _ ha)), fun x => ?_⟩
    simp only [List.mem_append, List.mem_singleton]
    constructor
    · rintro ((h | rfl) | h)
      · exact .inl h
      · exact .inl ha
      · exact .inr h
    · rintro (h | h)
      · exact .inl (.inl h)
      · exact .inr h
  · have hb : e.b ∈ vis := Classical.byContradiction fun hb => hd ⟨fun h => absurd h ha, fun h => absurd h hb⟩
    refine ⟨e.a, h.push (by omega) ha (.inn he (h.conn _ hb)), fun x => ?_⟩
    simp only [List.mem_append, List.mem_singleton]
    constructor
    · rintro ((h | rfl) | rfl)
      · exact .inl h
      · exact .inr rfl
      · exact .inl hb
    · rintro (h | h)
      · exact .inl (.inl h)
      · exact .inl (.inr h)
theorem filter_split' (p : Nat → Bool) : ∀ l : List Nat, (l.filter p).length + (l.filter fun v => !p v).length = l.length
  | [] => rfl
  | a :: t => by
    have := filter_split' p t
    cases h : p a <;> simp [h] <;> omega
/-- How many below n are not found yet. -/
theorem unseen_len {n : Nat} {es : List Ed} {v : Int} {vis : List Int} (h : JAt n es v vis) : ((List.range n).filter fun (j : Nat) => !decide ((j : Int) ∈ vis)).length + vis.length = n := by
  have h1 : vis.Perm (((List.range n).filter fun (j : Nat) => decide ((j : Int) ∈ vis)).map fun (j : Nat) => (j : Int)) := by
    refine (List.perm_ext_iff_of_nodup h.nd ?_).2 fun u => ?_
    · exact List.pairwise_map.2 ((List.nodup_range.filter _).imp fun h he => h (by omega))
    · rw [List.mem_map]
      constructor
      · intro hu
        have := h.rng u hu
        refine ⟨u.toNat, List.mem_filter.2 ⟨List.mem_range.2 (by omega), ?_⟩, by omega⟩
        rw [show ((u.toNat : Nat) : Int) = u by omega]
        simpa using hu
      · rintro ⟨k, hk, rfl⟩
        simpa using (List.mem_filter.1 hk).2
  have h2 := filter_split' (fun j : Nat => decide ((j : Int) ∈ vis)) (List.range n)
  have h3 := h1.length_eq
  rw [List.length_map] at h3
  rw [List.length_range] at h2
  omega
end Go.Proofs.YtimmnnncgnnkgaaGreat

/- joined, the program. -/
namespace Go.Proofs.YtimmnnncgnnkgaaGreat
set_option linter.unusedVariables false
set_option linter.unusedSimpArgs false
open Go.RowKit

theorem seenOf_congr (n : Nat) {xs ys : List Int} (h : ∀ u, u ∈ xs ↔ u ∈ ys) : seenOf n xs = seenOf n ys := by
  unfold seenOf
  exact List.map_congr_left fun j _ => by rw [decide_eq_decide.2 (h j)]
theorem Mid.setAt (w : World) (b i : Nat) (u : Value) : Mid b (b + 1) w (w.setCell ⟨b, i, none⟩ u) := Mid.setCell w u (Nat.le_refl _) (Nat.lt_succ_self _)
def boolOf : Value → Bool | .bool b => b | _ => false
/-- How many cells of a row of marks are not set. -/
def cntF (w : World) (g n : Nat) : Nat := ((List.range n).filter fun j => match w.cell? ⟨g, j, none⟩ with | some (.bool false) => true | _ => false).length
theorem cntF_seen {w : World} {base g n c : Nat} {vis : List Int} {es : List Ed} {v : Int} (h : w.ownsRow base 4 1 (.slice (some ⟨g, 0, none⟩) n c) n (seenOf n vis)) (hj : JAt n es v vis) : cntF w g n + vis.length = n := by
  have h0 := unseen_len hj
  suffices hs : cntF w g n = ((List.range n).filter fun (j : Nat) => !decide ((j : Int) ∈ vis)).length by omega
  unfold cntF
  congr 1
  refine List.filter_congr fun j hj => ?_
  have hj := List.mem_range.1 hj
  rw [(h.cellAt j (by omega)).trans (seenOf_get hj)]
  by_cases hm : (j : Int) ∈ vis <;> simp [hm]

set_option maxHeartbeats 3200000 in
set_option maxRecDepth 20000 in
theorem impl_joined (r : Int) (n m : Nat) (A : Option Addr) (es : List Ed) (c : Nat) (w : World) (lo hi : Nat) (hr : RG w lo hi A es) (hg : IsGr r n es) (hv : m < n) :
    Calls Tryz.prog 139 #[graV r n A es.length c, .int .i64 m] w fun e w' => e = .returned (.slice (some ⟨w.heap.size + 1, 0, none⟩) n n) ∧ ∃ vis, w'.ownsRow (w.heap.size + 1) 4 1 (.slice (some ⟨w.heap.size + 1, 0, none⟩) n n) n (seenOf n vis) ∧ (∀ u, u ∈ vis ↔ Conn es m u) ∧ Mid 0 0 w w' := by
  have hn40 : n ≤ 40 := by have := hg.size; omega
  have hl := hg.len
  have hmx : n ≤ maxLen := by unfold maxLen; omega
  have hm0 : Mid 0 0 w (w.alloc (.cells #[.int .i64 r, .int .i64 n, .slice A es.length c] 29)) := Mid.alloc _ _
  have B0 := Box.new w #[.int .i64 r, .int .i64 n, .slice A es.length c] 29
  have HG := Lib.hid hg
  have hv3 : (m : Int) < (n : Int) := by omega
  have hv0 : (0 : Int) ≤ (m : Int) := by omega
  have hj0 := JAt.start (s := n) es hv0 hv3
  have HJ0 := Lib.hid hj0
  clear hg hj0
  go_enter Tryz.func139, Tryz.ntmps139
  go_wp2_with (at_make; refine wpList_mk rfl _ _ 113 rfl 4 (.bool false) 1 undSB infoB rfl .i64 .i64 _ _ n rfl rfl rfl rfl (by omega) hmx ?_; intro w2 hown2 hgr2 hsz2; have hfz := hown2.frozenAt m; obtain ⟨u, -, hcs⟩ := owns_cell hown2 hv; rw [World.size_alloc] at hfz hcs)
  have hm2 := hm0.trans (Mid.of_grown hgr2 (by intro g h; cases h))
  rw [World.size_alloc] at hown2
  have B2 := B0.mid (Mid.of_grown (lo := 0) (hi := 0) hgr2 (by intro g h; cases h)) (Or.inr (Nat.zero_le _))
  have hset := owns_set (ys := seenOf n [(m : Int)]) hown2 m (.bool true) (by rw [← seenOf_nil, seenOf_set hv]; rfl)
  have hms := Mid.storeNew hm2 (p := ⟨w.heap.size + 1, m, none⟩) (Nat.le_succ _) (.bool true)
  have hst : Mid (w.heap.size + 1) (w.heap.size + 2) w2 (w2.setCell ⟨w.heap.size + 1, m, none⟩ (.bool true)) := Mid.setCell _ _ (Nat.le_refl _) (Nat.lt_succ_self _)
  have B3 := B2.mid hst (Or.inl (Nat.lt_succ_self _))
  clear hown2 hgr2 hm2 B2 hcs hfz B0 hm0 hsz2 hst
  go_loopw [6] (fun a wr => ∃ (ag : Bool) (vis : List Int), a = .bool ag ∧ JAt n es m vis ∧ Hid (ag = false → Shut' es es.length vis) ∧ Box wr w.heap.size [.int .i64 r, .int .i64 n, .slice A es.length c] ∧
      wr.ownsRow (w.heap.size + 1) 4 1 (.slice (some ⟨w.heap.size + 1, 0, none⟩) n n) n (seenOf n vis) ∧ Mid 0 0 w wr) (fun a wr => 2 * cntF wr (w.heap.size + 1) n + if boolOf a then 1 else 0)
  case atStart => exact ⟨true, [(m : Int)], rfl, HJ0.out, Lib.hid (fun h => nomatch h), B3, hset, hms⟩
  case round =>
    clear B3 hset hms
    obtain ⟨wo, hwo⟩ : ∃ wo, wo = wr := ⟨_, rfl⟩
    subst hwo
    obtain ⟨ag0, vis0, rfl, hj, HA, bx, hown, hm⟩ := hrel
    cases ag0 with
    | false =>
      go_wp2_with fail
      go_ret
      exact ⟨rfl, vis0, hown, fun u => hj.done (HA.out trivial) u, hm⟩
    | true =>
      have HJ := Lib.hid hj
      have HC := Lib.hid (cntF_seen hown hj)
      clear hj HA
      have p0 := bx.cell 0 rfl
      have p1 := bx.cell 1 rfl
      have p2 := bx.cell 2 rfl
      go_wp2_with fail
      go_loopw [6, 19] (fun a i wr => ∃ (k : Nat) (ag : Bool) (vis : List Int), k ≤ es.length ∧ i = .int .i64 k ∧ a = .bool ag ∧ JAt n es m vis ∧ Hid (ag = false → vis.length = vis0.length ∧ Shut' es k vis) ∧ Hid (ag = true → vis0.length < vis.length) ∧ Hid (vis0.length ≤ vis.length) ∧
        Box wr w.heap.size [.int .i64 r, .int .i64 n, .slice A es.length c] ∧ wr.ownsRow (w.heap.size + 1) 4 1 (.slice (some ⟨w.heap.size + 1, 0, none⟩) n n) n (seenOf n vis) ∧ Mid 0 0 w wr) (fun _ i _ => es.length - (intOf i).toNat)
      case atStart => exact ⟨0, false, vis0, Nat.zero_le _, rfl, rfl, HJ.out, Lib.hid (fun _ => ⟨rfl, Shut'.zero es vis0⟩), Lib.hid (fun h => nomatch h), Lib.hid (Nat.le_refl _), bx, hown, hm⟩
      case round =>
        clear bx hown hm p0 p1 p2
        obtain ⟨k, ag, vis, hk, rfl, rfl, hj, HF, HT, HL, bx, hown, hm⟩ := hrel
        have p0 := bx.cell 0 rfl
        have p1 := bx.cell 1 rfl
        have p2 := bx.cell 2 rfl
        by_cases hlt : k < es.length
        · obtain ⟨B, off, e, rfl, -, hbh, he, e0, e1, e2⟩ := (hr.mid hm (Or.inl (Nat.zero_le _))).ed hlt
          have hin := HG.out.all e (List.mem_of_getElem? he)
          obtain ⟨i1, i2, i3, i4, i5, i6⟩ := hin
          have HE := Lib.hid he
          have hkn : (k : Int) < (es.length : Int) := by omega
          obtain ⟨x, l, y⟩ := e
          simp only at i1 i2 i3 i4 i5 i6 e0 e1 e2
          obtain ⟨ia, rfl⟩ : ∃ ia : Nat, x = ia := ⟨x.toNat, by omega⟩
          obtain ⟨ib, rfl⟩ : ∃ ib : Nat, y = ib := ⟨y.toNat, by omega⟩
          have hia : ia < n := by omega
          have hib : ib < n := by omega
          have hin : InG r n ⟨(ia : Int), l, (ib : Int)⟩ := ⟨i1, i2, i3, i4, i5, i6⟩
          have HIN := Lib.hid hin
          have hal := Mid.alloc wr (.cells #[.int .i64 ia, .int .i64 l, .int .i64 ib] 78)
          have ZE := Box.new wr #[.int .i64 ia, .int .i64 l, .int .i64 ib] 78
          have bx1 := bx.mid hal (Or.inr (Nat.zero_le _))
          have hown1 := hown.alloc (.cells #[.int .i64 ia, .int .i64 l, .int .i64 ib] 78)
          have hm1 := hm.trans hal
          have hca := (hown1.cellAt ia (by omega)).trans (seenOf_get hia)
          have hcb := (hown1.cellAt ib (by omega)).trans (seenOf_get hib)
          have hfz := fun i => hown1.frozenAt i
          have hgs : w.heap.size + 1 < wr.heap.size := (hown.lt _ rfl).2
          obtain ⟨ba, hba⟩ : ∃ b : Bool, decide ((ia : Int) ∈ vis) = b := ⟨_, rfl⟩
          obtain ⟨bb, hbb⟩ : ∃ b : Bool, decide ((ib : Int) ∈ vis) = b := ⟨_, rfl⟩
          rw [hba] at hca
          rw [hbb] at hcb
          clear he hin
          cases ba with
          | false =>
            cases bb with
            | false =>
              have HD : Hid ((ia : Int) ∈ vis ↔ (ib : Int) ∈ vis) := Lib.hid (by rw [← decide_eq_decide, hba, hbb])
              go_wp2_with fail
              go_quiet (fail)
              go_wp2_with fail
              go_roundw
              case rel => exact ⟨k + 1, ag, vis, by omega, by go_num, rfl, hj, Lib.hid (fun h => ⟨(HF.out h).1, (HF.out h).2.succ HE.out (HD.out)⟩), HT, HL, bx1.drewN _, owns_drewN hown1 _, hm1.drewN _⟩
              case measure => simp [intOf]; omega
            | true =>
              have hne1 : ¬ ia = ib := fun h => by rw [h, hbb] at hba; cases hba
              have hne2 : ¬ ib = ia := fun h => hne1 h.symm
              obtain ⟨u, hju, hmem⟩ := hj.edge (List.mem_of_getElem? HE.out) HIN.out (by simp only []; rw [← decide_eq_decide, hba, hbb]; simp)
              have hset := fun q => owns_set (owns_set (owns_drewN hown1 q) ia (.bool true) (seenOf_set hia)) ib (.bool true) ((seenOf_set hib).trans (seenOf_congr _ hmem))
              have hms := fun q => (Mid.storeNew (hm1.drewN q) (p := ⟨w.heap.size + 1, ia, none⟩) (Nat.le_succ _) (.bool true)).storeNew (p := ⟨w.heap.size + 1, ib, none⟩) (Nat.le_succ _) (.bool true)
              have hst : ∀ q, Mid (w.heap.size + 1) (w.heap.size + 2) ((wr.alloc (.cells #[.int .i64 ia, .int .i64 l, .int .i64 ib] 78)).drewN q) ((((wr.alloc (.cells #[.int .i64 ia, .int .i64 l, .int .i64 ib] 78)).drewN q).setCell ⟨w.heap.size + 1, ia, none⟩ (.bool true)).setCell ⟨w.heap.size + 1, ib, none⟩ (.bool true)) := fun q => (Mid.setAt _ _ _ _).trans (Mid.setAt _ _ _ _)
              have bx2 := fun q => (bx1.drewN q).mid (hst q) (Or.inl (Nat.lt_succ_self _))
              have HSET := Lib.hid hset
              clear hset
              go_wp2_with fail
              go_quiet (fail)
              go_wp2_with fail
              go_roundw
              case rel =>
                refine ⟨k + 1, true, vis ++ [u], by omega, by go_num, rfl, hju, Lib.hid (fun h => nomatch h), Lib.hid (fun _ => ?_), Lib.hid ?_, bx2 _, HSET.out _, hms _⟩
                · have := HL.out; simp; omega
                · have := HL.out; simp; omega
              case measure => simp [intOf]; omega
          | true =>
            cases bb with
            | false =>
              have hne1 : ¬ ia = ib := fun h => by rw [h, hbb] at hba; cases hba
              have hne2 : ¬ ib = ia := fun h => hne1 h.symm
              obtain ⟨u, hju, hmem⟩ := hj.edge (List.mem_of_getElem? HE.out) HIN.out (by simp only []; rw [← decide_eq_decide, hba, hbb]; simp)
              have hset := fun q => owns_set (owns_set (owns_drewN hown1 q) ia (.bool true) (seenOf_set hia)) ib (.bool true) ((seenOf_set hib).trans (seenOf_congr _ hmem))
              have hms := fun q => (Mid.storeNew (hm1.drewN q) (p := ⟨w.heap.size + 1, ia, none⟩) (Nat.le_succ _) (.bool true)).storeNew (p := ⟨w.heap.size + 1, ib, none⟩) (Nat.le_succ _) (.bool true)
              have hst : ∀ q, Mid (w.heap.size + 1) (w.heap.size + 2) ((wr.alloc (.cells #[.int .i64 ia, .int .i64 l, .int .i64 ib] 78)).drewN q) ((((wr.alloc (.cells #[.int .i64 ia, .int .i64 l, .int .i64 ib] 78)).drewN q).setCell ⟨w.heap.size + 1, ia, none⟩ (.bool true)).setCell ⟨w.heap.size + 1, ib, none⟩ (.bool true)) := fun q => (Mid.setAt _ _ _ _).trans (Mid.setAt _ _ _ _)
              have bx2 := fun q => (bx1.drewN q).mid (hst q) (Or.inl (Nat.lt_succ_self _))
              have HSET := Lib.hid hset
              clear hset
              go_wp2_with fail
              go_quiet (fail)
              go_wp2_with fail
              go_roundw
              case rel =>
                refine ⟨k + 1, true, vis ++ [u], by omega, by go_num, rfl, hju, Lib.hid (fun h => nomatch h), Lib.hid (fun _ => ?_), Lib.hid ?_, bx2 _, HSET.out _, hms _⟩
                · have := HL.out; simp; omega
                · have := HL.out; simp; omega
              case measure => simp [intOf]; omega
            | true =>
              have HD : Hid ((ia : Int) ∈ vis ↔ (ib : Int) ∈ vis) := Lib.hid (by rw [← decide_eq_decide, hba, hbb])
              go_wp2_with fail
              go_quiet (fail)
              go_wp2_with fail
              go_roundw
              case rel => exact ⟨k + 1, ag, vis, by omega, by go_num, rfl, hj, Lib.hid (fun h => ⟨(HF.out h).1, (HF.out h).2.succ HE.out (HD.out)⟩), HT, HL, bx1.drewN _, owns_drewN hown1 _, hm1.drewN _⟩
              case measure => simp [intOf]; omega
        · obtain rfl : k = es.length := by omega
          go_wp2_with fail
          go_roundw
          case rel => exact ⟨ag, vis, rfl, hj, Lib.hid (fun h => (HF.out h).2), bx, hown, hm⟩
          case measure =>
            have h1 := HC.out
            have h2 := cntF_seen hown hj
            have h3 := HL.out
            have h4 := HT.out
            have h5 := HJ.out.le
            simp [boolOf]
            cases ag with
            | false => simp; omega
            | true => have := h4 rfl; simp; omega
end Go.Proofs.YtimmnnncgnnkgaaGreat

/- tree, the program: the search by breadth, with the words. -/
namespace Go.Proofs.YtimmnnncgnnkgaaGreat
set_option linter.unusedVariables false
set_option linter.unusedSimpArgs false
open Go.RowKit

/-- The row of words, as far as the search has come: vals are its cells; g is its block, oB the order's. -/
structure TreeSt (w : World) (g : Nat) (oB : Option Nat) (n : Nat) (vals : List Value) (st : BS) : Prop where
  len : vals.length = n
  on : ∀ p ∈ st, ∃ b c, vals[p.1.toNat]? = some (.slice (some ⟨b, 0, none⟩) p.2.length c) ∧ (∀ j u, (ints p.2)[j]? = some u → w.cell? ⟨b, j, none⟩ = some u) ∧ b ≠ g ∧ oB ≠ some b ∧ b < w.heap.size
  off : ∀ u : Nat, u < n → (u : Int) ∉ st.map Prod.fst → vals[u]? = some (.slice none 0 0)
section
variable {w w' : World} {g n : Nat} {oB oB' : Option Nat} {vals : List Value} {st : BS}
theorem TreeSt.mid {a b : Nat} (h : TreeSt w g oB n vals st) (m : Mid 0 0 w w') : TreeSt w' g oB n vals st :=
  ⟨h.len, fun p hp => by
    obtain ⟨b, c, h1, h2, h3, h4, h5⟩ := h.on p hp
    exact ⟨b, c, h1, fun j u hu => (World.cell?_of_block (m.block b h5 (by omega))).trans (h2 j u hu), h3, h4, Nat.lt_of_lt_of_le h5 m.size⟩, h.off⟩
theorem TreeSt.grow (h : TreeSt w g oB n vals st) (hg : w.grownBy w' oB) (hb : oB' = oB ∨ ∃ k, oB' = some k ∧ w.heap.size ≤ k) : TreeSt w' g oB' n vals st :=
  ⟨h.len, fun p hp => by
    obtain ⟨b, c, h1, h2, h3, h4, h5⟩ := h.on p hp
    refine ⟨b, c, h1, fun j u hu => (World.cell?_of_block (hg.block b h5 (fun e => h4 e.symm))).trans (h2 j u hu), h3, ?_, Nat.lt_of_lt_of_le h5 hg.size⟩
    rcases hb with rfl | ⟨k, rfl, hk⟩
    · exact h4
    · intro e
      injection e with e
      omega, h.off⟩
/-- A word is laid down at a vertex that was not found. -/
theorem TreeSt.set {t b c : Nat} {wd : List Int} (h : TreeSt w g oB n vals st) (ht : t < n) (hn : (t : Int) ∉ st.map Prod.fst) (hst : ∀ p ∈ st, 0 ≤ p.1)
    (hc : ∀ j u, (ints wd)[j]? = some u → w.cell? ⟨b, j, none⟩ = some u) (hb : b ≠ g) (ho : oB ≠ some b) (hs : b < w.heap.size) :
    TreeSt (w.setCell ⟨g, t, none⟩ (.slice (some ⟨b, 0, none⟩) wd.length c)) g oB n (vals.set t (.slice (some ⟨b, 0, none⟩) wd.length c)) (st ++ [((t : Int), wd)]) := by
  have key : ∀ (b' j : Nat) (u v : Value), b' ≠ g → w.cell? ⟨b', j, none⟩ = some u → (w.setCell ⟨g, t, none⟩ v).cell? ⟨b', j, none⟩ = some u := fun b' j u v hbg hc =>
    (World.cell?_setCell_other w _ _ v (by intro e; injection e with e; exact hbg e.symm)).trans hc
  refine ⟨by rw [List.length_set]; exact h.len, fun p hp => ?_, fun u hu hnu => ?_⟩
  · rcases List.mem_append.1 hp with hp | hp
    · obtain ⟨b', c', h1, h2, h3, h4, h5⟩ := h.on p hp
      have hne : t ≠ p.1.toNat := by
        intro e
        apply hn
        have := hst p hp
        rw [show (t : Int) = p.1 by omega]
        exact List.mem_map_of_mem hp
      refine ⟨b', c', by rw [List.getElem?_set_ne hne]; exact h1, fun j u hu => key b' j u _ h3 (h2 j u hu), h3, h4, by simpa using h5⟩
    · simp at hp
      subst hp
      refine ⟨b, c, ?_, fun j u hu => key b j u _ hb (hc j u hu), hb, ho, by simpa using hs⟩
      simp only [Int.toNat_natCast]
      rw [List.getElem?_set_self (by rw [h.len]; exact ht)]
  · rw [List.map_append, List.mem_append] at hnu
    have hne : t ≠ u := by
      intro e
      subst e
      exact hnu (.inr (by simp))
    rw [List.getElem?_set_ne hne]
    exact h.off u hu fun hm => hnu (.inl hm)
theorem TreeSt.word {p : Int × List Int} (h : TreeSt w g oB n vals st) (hp : p ∈ st) : ∃ b c, vals[p.1.toNat]? = some (.slice (some ⟨b, 0, none⟩) p.2.length c) ∧ RV w 0 w.heap.size (some ⟨b, 0, none⟩) (ints p.2) := by
  obtain ⟨b, c, h1, h2, h3, h4, h5⟩ := h.on p hp
  exact ⟨b, c, h1, Nat.le_refl _, fun _ => ⟨b, 0, rfl, Nat.zero_le _, h5, fun j u hu => by rw [Nat.zero_add]; exact h2 j u hu⟩⟩
end
section
variable {W : World} {ops : Array Oper} {rest : List Oper} {o : Oper} {a : Act} {Q : Exit → Act → World → Prop}
theorem wpList_pushI2 (hgd : o.guard = none) (s x : Operand)
    (ho : o.op = .call { callee := .builtin .append, args := #[s, x], argTypes := #[25, 25] }) (lo : Nat) (A : Option Addr) (n c : Nat) (xs : List Int) (hs : a.eval s = .slice A n c)
    (hown : W.ownsRow lo 3 1 (.slice A n c) n (ints xs)) (y : Int) (hx : a.eval x = .slice (some ⟨W.heap.size, 0, none⟩) 1 1) (hn : n ≤ 1048576) (hb : lo ≤ W.heap.size)
    (h : ∀ A' c' w', w'.ownsRow lo 3 1 (.slice A' (n + 1) c') (n + 1) (ints (xs ++ [y])) → W.grownBy w' (Value.ownBlock (.slice A n c)) → (Value.ownBlock (.slice A' (n + 1) c') = Value.ownBlock (.slice A n c) ∨ Value.ownBlock (.slice A' (n + 1) c') = some (W.heap.size + 1)) → wpList Tryz.prog ops Q rest (a.put o.dst (.slice A' (n + 1) c')) w') :
    wpList Tryz.prog ops Q (o :: rest) a (W.alloc (.cells #[.int .i64 y] 3)) := by
  refine wpList_push (news := [.int .i64 y]) hgd s x 25 ho lo 3 (.int .i64 0) 1 8 undSI infoI rfl (by decide) (.slice A n c) n (ints xs) hs hown 1 hx rfl ?_ (by unfold maxLen; omega) (by omega) hb ?_
  · intro u hu
    simp at hu
    subst hu
    rfl
  · intro v' w' h1 h2 h3
    obtain ⟨A', c', rfl, -, -⟩ := owns_shape h1
    refine h A' c' w' ?_ h2 h3
    rw [ints_append]
    exact h1
end
theorem RV.grown {w w' : World} {lo hi : Nat} {A : Option Addr} {cs : List Value} {row : Option Nat} (h : RV w lo hi A cs) (hg : w.grownBy w' row) (hd : ∀ g, row = some g → g < lo ∨ hi ≤ g) : RV w' lo hi A cs :=
  ⟨Nat.le_trans h.1 hg.size, fun hn => by
    obtain ⟨g, off, e, h1, h2, hc⟩ := h.2 hn
    have hs := h.1
    exact ⟨g, off, e, h1, h2, fun j u hu => (World.cell?_of_block (hg.block g (by omega) (fun e => by have := hd g e.symm; omega))).trans (hc j u hu)⟩⟩
theorem nilS_some (a : Addr) (n c : Nat) (W : World) : (binOp .eql 25 (.slice (some a) n c) (.slice none 0 0)).run Tryz.prog W = .ok (.bool false) W := Lib.run_eql_slice_nil W 25 3 (some a) n c 0 0 undSI
theorem nilS_none (W : World) : (binOp .eql 25 (.slice none 0 0) (.slice none 0 0)).run Tryz.prog W = .ok (.bool true) W := Lib.run_eql_slice_nil W 25 3 none 0 0 0 0 undSI
theorem bfsRow_take {es : List Ed} {L : List Int} {p : Int × List Int} {st : BS} {j : Nat} {x : Int} (h : L[j]? = some x) : bfsRow es (L.take (j + 1)) p st = bfsStep es p.1 p.2 (bfsRow es (L.take j) p st) x := by
  unfold bfsRow
  rw [take_snocI h, List.foldl_append]
  rfl
theorem bfsSt_next {es : List Ed} {L : List Int} {v : Int} {i : Nat} {p : Int × List Int} (h : (bfsSt es L v i)[i]? = some p) : bfsSt es L v (i + 1) = bfsRow es L p (bfsSt es L v i) := by
  show (match (bfsSt es L v i)[i]? with | none => bfsSt es L v i | some p => bfsRow es L p (bfsSt es L v i)) = _
  rw [h]

set_option maxHeartbeats 6400000 in
set_option maxRecDepth 100000 in
theorem impl_tree (r n v : Nat) (A : Option Addr) (es : List Ed) (c : Nat) (w : World) (lo hi : Nat) (hr : RG w lo hi A es) (hg : IsGr r n es) (hv : v < n) :
    Calls Tryz.prog 116 #[graV r n A es.length c, .int .i64 v] w fun e w' => ∃ A1 c1, e = .returned (.tuple #[.slice A1 (ordE r es v).length c1, .slice (some ⟨w.heap.size + 1, 0, none⟩) n n]) ∧ Mid 0 0 w w' ∧
      w'.ownsRow (w.heap.size + 2) 3 1 (.slice A1 (ordE r es v).length c1) (ordE r es v).length (ints (ordE r es v)) ∧
      ∃ vals, w'.ownsRow (w.heap.size + 1) 25 1 (.slice (some ⟨w.heap.size + 1, 0, none⟩) n n) n vals ∧ TreeSt w' (w.heap.size + 1) (Value.ownBlock (.slice A1 (ordE r es v).length c1)) n vals (bfs es (lets r) v) := by
  have hn40 : n ≤ 40 := by have := hg.size; omega
  have hr3 : r ≤ 3 := by have := hg.rank; omega
  have hl := hg.len
  have hmx : n ≤ maxLen := by unfold maxLen; omega
  have hgl : ∀ e ∈ es, 1 ≤ e.l ∧ e.l ≤ 3 := fun e he => by have := hg.all e he; unfold InG at this; omega
  have hm0 : Mid 0 0 w (w.alloc (.cells #[.int .i64 r, .int .i64 n, .slice A es.length c] 29)) := Mid.alloc _ _
  have B0 := Box.new w #[.int .i64 r, .int .i64 n, .slice A es.length c] 29
  have HG := Lib.hid hg
  have HGL := Lib.hid hgl
  have hv3 : (v : Int) < (n : Int) := by omega
  have hv0 : (0 : Int) ≤ (v : Int) := by omega
  clear hg hgl
  go_enter Tryz.func116, Tryz.ntmps116
  go_wp2_with (at_make; refine wpList_mk rfl _ _ 39 rfl 25 (.slice none 0 0) 24 undSSI infoSI rfl .i64 .i64 _ _ n rfl rfl rfl rfl (by omega) hmx ?_; intro w2 hown2 hgr2 hsz2; rw [World.size_alloc] at hown2 hsz2; have hfz := hown2.frozenAt v; obtain ⟨u0, -, hcs⟩ := owns_cell hown2 hv)
  have hm2 := hm0.trans (Mid.of_grown hgr2 (by intro g h; cases h))
  have B2 := B0.mid (Mid.of_grown (lo := 0) (hi := 0) hgr2 (by intro g h; cases h)) (Or.inr (Nat.zero_le _))
  have hal := Mid.alloc w2 (.cells #[] 3)
  replace B2 := B2.mid hal (Or.inr (Nat.zero_le _))
  replace hm2 := hm2.trans hal
  have hown3 := hown2.alloc (.cells #[] 3)
  have T0 : TreeSt (w2.alloc (.cells #[] 3)) (w.heap.size + 1) (some (w2.heap.size + 1)) n (List.replicate n (.slice none 0 0)) [] := ⟨by simp, by simp, fun u hu _ => by simp [hu]⟩
  have T1 := T0.set (t := v) (b := w2.heap.size) (c := 0) (wd := []) hv (by simp) (by simp) (by simp [ints]) (by omega) (by intro e; injection e with e; omega) (by simp)
  have O1 := owns_set hown3 v (.slice (some ⟨w2.heap.size, 0, none⟩) 0 0) rfl
  have hst := Mid.setAt (w2.alloc (.cells #[] 3)) (w.heap.size + 1) v (.slice (some ⟨w2.heap.size, 0, none⟩) 0 0)
  have B3 := B2.mid hst (Or.inl (Nat.lt_succ_self _))
  have hm3 := hm2.storeNew (p := ⟨w.heap.size + 1, v, none⟩) (Nat.le_succ _) (.slice (some ⟨w2.heap.size, 0, none⟩) 0 0)
  have heq : (w2.alloc (.cells #[] 3)).setCell ⟨w.heap.size + 1, v, none⟩ (.slice (some ⟨w2.heap.size, 0, none⟩) 0 0) = (w2.setCell ⟨w.heap.size + 1, v, none⟩ (.slice (some ⟨w2.heap.size, 0, none⟩) 0 0)).alloc (.cells #[] 3) := by go_simp
  rw [heq] at O1 B3 hm3
  simp only [List.length_nil] at T1
  rw [heq] at T1
  generalize hw3 : (w2.setCell ⟨w.heap.size + 1, v, none⟩ (.slice (some ⟨w2.heap.size, 0, none⟩) 0 0)).alloc (.cells #[] 3) = w3 at T1 O1 B3 hm3 ⊢
  have hs3 : w3.heap.size = w2.heap.size + 1 := by rw [← hw3]; simp
  have hal3 := Mid.alloc w3 (.cells #[.int .i64 v] 3)
  have O2 : (w3.alloc (.cells #[.int .i64 v] 3)).ownsRow (w.heap.size + 2) 3 1 (.slice (some ⟨w2.heap.size + 1, 0, none⟩) 1 1) 1 (ints [(v : Int)]) := by rw [← hs3]; exact owns_base (World.ownsRow_lit (size := 1) w3 #[.int .i64 v] 1 (Nat.le_refl _) (by simp [maxLen]) (by simp)) (by omega)
  have T2 := T1.mid (a := 0) (b := 0) hal3
  have O3 := O1.alloc (.cells #[.int .i64 v] 3)
  replace B3 := B3.mid hal3 (Or.inr (Nat.zero_le _))
  replace hm3 := hm3.trans hal3
  have HT := Lib.hid T2
  clear hw3 T0 T1 T2 O1 hst hown2 hown3 hm2 B2 B0 hm0 hal hal3 hgr2 hcs hfz
  go_loopw [7, 8] (fun ord iv wr => ∃ (i n1 : Nat) (A1 : Option Addr) (c1 : Nat) (vals : List Value), i ≤ n1 ∧ iv = .int .i64 i ∧ ord = .slice A1 n1 c1 ∧ Hid ((bfsSt es (lets r) v i).length = n1) ∧
      wr.ownsRow (w.heap.size + 2) 3 1 (.slice A1 n1 c1) n1 (ints ((bfsSt es (lets r) v i).map Prod.fst)) ∧ wr.ownsRow (w.heap.size + 1) 25 1 (.slice (some ⟨w.heap.size + 1, 0, none⟩) n n) n vals ∧
      Hid (TreeSt wr (w.heap.size + 1) (Value.ownBlock (.slice A1 n1 c1)) n vals (bfsSt es (lets r) v i)) ∧ Box wr w.heap.size [.int .i64 r, .int .i64 n, .slice A es.length c] ∧ Mid 0 0 w wr) (fun _ i _ => (41 - intOf i).toNat)
  case atStart => exact ⟨0, 1, _, 1, _, Nat.zero_le _, rfl, rfl, Lib.hid rfl, O2, O3, HT, B3, hm3⟩
  case round =>
    clear O2 O3 HT B3 hm3 hs3
    obtain ⟨wo, hwo⟩ : ∃ wo, wo = wr := ⟨_, rfl⟩
    subst hwo
    obtain ⟨i, n1, A1, c1, vals, hin, rfl, rfl, HN, hord, hwor, HT, bx, hm⟩ := hrel
    have hok := bfsSt_ok (L := lets r) HG.out.all hv0 hv3 i
    have hn1 : n1 ≤ 40 := by have h1 := hok.len (by omega); have h2 := HN.out; omega
    have HOK := Lib.hid hok
    clear hok
    by_cases hlt : i < n1
    · obtain ⟨p, hp⟩ := get_of_lt (bfsSt es (lets r) v i) (show i < (bfsSt es (lets r) v i).length by rw [HN.out]; exact hlt)
      have hrng := HOK.out.rng p (List.mem_of_getElem? hp)
      obtain ⟨pu, wd⟩ := p
      simp only at hrng
      obtain ⟨u, rfl⟩ : ∃ u : Nat, pu = u := ⟨pu.toNat, by omega⟩
      have hun : u < n := by omega
      have hwl := HOK.out.wl i _ hp
      simp only at hwl
      have HP := Lib.hid hp
      have hNX := Lib.hid (bfsSt_next hp)
      obtain ⟨g1, rfl, hg1, hg1s⟩ := owns_addr hord (show 0 < n1 by omega)
      have hcu : wo.cell? ⟨g1, i, none⟩ = some (.int .i64 u) := (hord.cellAt i (by omega)).trans (by rw [ints_get, List.getElem?_map, hp]; rfl)
      have hi0 : (0 : Int) ≤ (i : Int) := by omega
      have hi1 : (i : Int) < (n1 : Int) := by omega
      have p0 := bx.cell 0 rfl
      have p1 := bx.cell 1 rfl
      have p2 := bx.cell 2 rfl
      clear hp
      go_wp2_with fail
      with_reducible refine (impl_letters r _ (by omega)).mono ?_
      rintro en w4 ⟨A4, c4, rfl, hL4, hm4⟩
      have hdo := fun g hg => (hord.lt g hg).2
      have hwo2 : w.heap.size + 1 < wo.heap.size := (hwor.lt _ rfl).2
      replace bx := bx.mid hm4 (Or.inr (Nat.zero_le _))
      replace hord := owns_mid hord hm4 (Or.inl (Nat.zero_le _))
      replace hwor := owns_mid hwor hm4 (Or.inl (Nat.zero_le _))
      replace hm := hm.trans hm4
      replace HT := Lib.hid (HT.out.mid (a := 0) (b := 0) hm4)
      clear p0 p1 p2 hcu
      have HLL := Lib.hid (lets_len r)
      obtain ⟨LL, hLL⟩ : ∃ LL, (lets r).length = LL := ⟨_, rfl⟩
      have hLL6 : LL ≤ 6 := by have := HLL.out; omega
      rw [hLL]
      have HLn := Lib.hid hLL
      clear hLL
      go_wp2_with fail
      go_loopw [7, 36] (fun ord jv wr => ∃ (j n1 : Nat) (A1 : Option Addr) (c1 : Nat) (vals : List Value), j ≤ LL ∧ jv = .int .i64 j ∧ ord = .slice A1 n1 c1 ∧ Hid ((bfsRow es ((lets r).take j) ((u : Int), wd) (bfsSt es (lets r) v i)).length = n1) ∧
          wr.ownsRow (w.heap.size + 2) 3 1 (.slice A1 n1 c1) n1 (ints ((bfsRow es ((lets r).take j) ((u : Int), wd) (bfsSt es (lets r) v i)).map Prod.fst)) ∧ wr.ownsRow (w.heap.size + 1) 25 1 (.slice (some ⟨w.heap.size + 1, 0, none⟩) n n) n vals ∧
          Hid (TreeSt wr (w.heap.size + 1) (Value.ownBlock (.slice A1 n1 c1)) n vals (bfsRow es ((lets r).take j) ((u : Int), wd) (bfsSt es (lets r) v i))) ∧ Hid (RV wr wo.heap.size w4.heap.size A4 (ints (lets r))) ∧ Hid (∀ g, Value.ownBlock (.slice A1 n1 c1) = some g → g < wo.heap.size ∨ w4.heap.size ≤ g) ∧ Box wr w.heap.size [.int .i64 r, .int .i64 n, .slice A es.length c] ∧ Mid 0 0 w wr) (fun _ j _ => LL - (intOf j).toNat)
      case atStart => exact ⟨0, n1, _, c1, vals, Nat.zero_le _, rfl, rfl, by rw [List.take_zero]; exact HN, hord, hwor, by rw [List.take_zero]; exact HT, Lib.hid hL4, Lib.hid (fun g hg => .inl (hdo g hg)), bx, hm⟩
      case round =>
        clear hord hwor HT hL4 bx hm hdo hm4
        obtain ⟨j, n1, A1, c1, vals, hj, rfl, rfl, HN, hord, hwor, HT, HL4, HD, bx, hm⟩ := hrel
        obtain ⟨stj, hstj⟩ : ∃ st, bfsRow es ((lets r).take j) ((u : Int), wd) (bfsSt es (lets r) v i) = st := ⟨_, rfl⟩
        have hokj : BfsOk n (lets r) stj := by rw [← hstj]; exact BfsOk.row HG.out.all _ (fun x hx => List.mem_of_mem_take hx) HOK.out HP.out
        have hpj : stj[i]? = some ((u : Int), wd) := by rw [← hstj]; exact prefix_get (bfsRow_pre _ _ _ _) HP.out
        rw [hstj] at HN hord HT
        have hn1b : n1 ≤ 40 := by have h1 := hokj.len (by omega); have h2 := HN.out; omega
        have HOJ := Lib.hid hokj
        have p0 := bx.cell 0 rfl
        have p1 := bx.cell 1 rfl
        have p2 := bx.cell 2 rfl
        by_cases hlt2 : j < LL
        · obtain ⟨B4, o4, x, rfl, hB4, hx, hcx⟩ := HL4.out.at (k := j) (by rw [HLn.out]; exact hlt2)
          have hxm := lets_le (List.mem_of_getElem? hx)
          have hnx := bfsRow_take (es := es) (p := ((u : Int), wd)) (st := bfsSt es (lets r) v i) hx
          rw [hstj] at hnx
          simp only at hnx
          have hj0 : (0 : Int) ≤ (j : Int) := by omega
          have hj1 : (j : Int) < (LL : Int) := by omega
          obtain ⟨bw, cw, hvw, hrvw⟩ := HT.out.word (List.mem_of_getElem? hpj)
          have hcs := nextV_cases HG.out.all (u : Int) x
          have HVW := Lib.hid hvw
          have HPJ := Lib.hid hpj
          have HSJ := Lib.hid hstj
          have hu0 : (0 : Int) ≤ (u : Int) := by omega
          have hu1 : (u : Int) < (n : Int) := by omega
          clear hvw hx hokj hpj hstj
          go_wp2_with fail
          with_reducible refine (impl_NextVertex r n A es c u x _ lo hi (hr.mid hm (Or.inl (Nat.zero_le _))) (by omega) HGL.out (by omega) (by omega)).mono ?_
          rintro en w6 ⟨rfl, hm6⟩
          replace bx := bx.mid hm6 (Or.inr (Nat.zero_le _))
          replace hord := owns_mid hord hm6 (Or.inl (Nat.zero_le _))
          replace hwor := owns_mid hwor hm6 (Or.inl (Nat.zero_le _))
          replace hm := hm.trans hm6
          replace HT := Lib.hid (HT.out.mid (a := 0) (b := 0) hm6)
          replace HL4 := Lib.hid (HL4.out.mid hm6 (Or.inl (Nat.zero_le _)))
          replace hrvw := (hrvw.mid hm6 (Or.inl (Nat.zero_le _))).wide (Nat.le_refl _) hm6.size (Nat.le_refl _)
          generalize htx : nextV es (u : Int) x = t at hnx hcs ⊢
          clear p0 p1 p2 hcx
          by_cases ht0 : t < 0
          · have b1 : decide (0 ≤ t) = false := by simp; omega
            have HNX := Lib.hid (hnx.trans (by rw [bfsStep, htx, if_pos (.inl ht0)] : bfsStep es (u : Int) wd stj x = stj))
            clear hnx hcs ht0 htx
            go_wp2_with fail
            go_roundw
            case rel => exact ⟨j + 1, n1, A1, c1, vals, by omega, by go_num, rfl, by rw [HNX.out]; exact HN, by rw [HNX.out]; exact hord, hwor, by rw [HNX.out]; exact HT, HL4, HD, bx, hm⟩
            case measure => simp [intOf]; omega
          · obtain ⟨tn, rfl⟩ : ∃ tn : Nat, t = tn := ⟨t.toNat, by omega⟩
            have htn : tn < n := by omega
            have ht1 : (tn : Int) < (n : Int) := by omega
            have ht2 : (0 : Int) ≤ (tn : Int) := by omega
            clear hcs ht0
            by_cases hmem : (tn : Int) ∈ stj.map Prod.fst
            · obtain ⟨p', hp', hpt⟩ := List.mem_map.1 hmem
              obtain ⟨b', c', hval, -⟩ := HT.out.word hp'
              have hct : w6.cell? ⟨w.heap.size + 1, tn, none⟩ = some (.slice (some ⟨b', 0, none⟩) p'.2.length c') := (hwor.cellAt tn (by omega)).trans (by rw [← hval, hpt]; rfl)
              have HNX := Lib.hid (hnx.trans (by rw [bfsStep, htx, if_pos (.inr hmem)] : bfsStep es (u : Int) wd stj x = stj))
              have hq := fun W => nilS_some ⟨b', 0, none⟩ p'.2.length c' W
              clear hnx htx hmem hval hp' hpt
              go_wp2_with fail
              go_roundw
              case rel => exact ⟨j + 1, n1, A1, c1, vals, by omega, by go_num, rfl, by rw [HNX.out]; exact HN, by rw [HNX.out]; exact hord, hwor, by rw [HNX.out]; exact HT, HL4, HD, bx, hm⟩
              case measure => simp [intOf]; omega
            · have hval := HT.out.off tn htn hmem
              have hct : w6.cell? ⟨w.heap.size + 1, tn, none⟩ = some (.slice none 0 0) := (hwor.cellAt tn (by omega)).trans hval
              have hcw : w6.cell? ⟨w.heap.size + 1, u, none⟩ = some (.slice (some ⟨bw, 0, none⟩) wd.length cw) := (hwor.cellAt u (by omega)).trans HVW.out
              have HNX := Lib.hid (hnx.trans (by rw [bfsStep, htx, if_neg (fun h => h.elim (fun h => by omega) hmem)] : bfsStep es (u : Int) wd stj x = stj ++ [((tn : Int), wd ++ [x])]))
              have HMEM := Lib.hid hmem
              have HVAL := Lib.hid hval
              have hlt6 := fun g hg => (hord.lt g hg).2
              have hws6 : w.heap.size + 1 < w6.heap.size := (hwor.lt _ rfl).2
              have hq := fun W => nilS_none W
              clear hnx htx hmem hval
              go_wp2_with fail
              with_reducible refine (copyIntsN (some ⟨bw, 0, none⟩) wd cw _ _ _ hrvw (by omega)).mono ?_
              rintro en w7 ⟨g7, c7, rfl, hown7, hm7⟩
              have HW7 := Lib.hid hown7
              have HLT6 := Lib.hid hlt6
              clear hown7 hct hcw hlt6
              go_wp2_with (first | (at_builtin; refine wpList_pushI rfl _ _ rfl w6.heap.size (some ⟨g7, 0, none⟩) wd.length c7 wd rfl HW7.out x rfl (by omega) hm7.size ?_; intro A8 c8 w8 hown8 hm8; obtain ⟨g8, rfl, hg8a, hg8b⟩ := owns_addr hown8 (Nat.succ_pos _); have hm78 := hm7.transNew hm8 (Or.inl (Nat.le_refl _)); have hwor8 := owns_mid hwor hm78 (Or.inl (Nat.zero_le _)); have hord8 := owns_mid hord hm78 (Or.inl (Nat.zero_le _)); have hct8 := (hwor8.cellAt tn (by omega)).trans HVAL.out; have hfz8 := hwor8.frozenAt tn; have hord9 := hord8.kept (grown_of_setCell w8 (w.heap.size + 1) tn (.slice (some ⟨g8, 0, none⟩) (wd.length + 1) c8)) (owns_ne hord8 hwor8 (by decide)); have HO9 := Lib.hid hord9; have hsz9 : w.heap.size + 2 ≤ w8.heap.size := Nat.le_trans hws6 hm78.size; clear hord9 hwor hord) | (at_builtin; refine wpList_pushI2 rfl _ _ rfl (w.heap.size + 2) A1 n1 c1 (stj.map Prod.fst) rfl HO9.out tn (by rw [World.size_setCell]; rfl) (by omega) (by simp; omega) ?_; intro A10 c10 w10 hord10 hgr10 hat10))
              have T8 := HT.out.mid (a := 0) (b := 0) hm78
              have T9 := T8.set (t := tn) (b := g8) (c := c8) (wd := wd ++ [x]) htn HMEM.out (fun p hp => (HOJ.out.rng p hp).1) (fun j u hu => (hown8.cellAt j (by have := (List.getElem?_eq_some_iff.1 hu).1; simp [ints] at this; omega)).trans hu) (by omega) (fun e => by have := HLT6.out g8 e; omega) hg8b
              rw [show (wd ++ [x]).length = wd.length + 1 by simp] at T9
              have T10 := T9.grow hgr10 (hat10.imp id fun h => ⟨_, h, by simp⟩)
              have hwor9 := owns_set hwor8 tn (.slice (some ⟨g8, 0, none⟩) (wd.length + 1) c8) rfl
              have hwor10 := hwor9.kept hgr10 (owns_ne hwor9 HO9.out (by decide))
              have hst := Mid.setAt w8 (w.heap.size + 1) tn (.slice (some ⟨g8, 0, none⟩) (wd.length + 1) c8)
              have hm10 := Mid.of_grownRow HO9.out hgr10
              have bx10 := ((bx.mid hm78 (Or.inr (Nat.zero_le _))).mid hst (Or.inl (Nat.lt_succ_self _))).mid hm10 (Or.inl (by omega))
              have hL10 := ((HL4.out.mid hm78 (Or.inl (Nat.zero_le _))).mid hst (Or.inl (by omega))).grown hgr10 HD.out
              have hmm10 := ((hm.trans hm78).storeNew (p := ⟨w.heap.size + 1, tn, none⟩) (Nat.le_succ _) (.slice (some ⟨g8, 0, none⟩) (wd.length + 1) c8)).transNew hm10 (Or.inl (by omega))
              have hmap : (stj ++ [((tn : Int), wd ++ [x])]).map Prod.fst = stj.map Prod.fst ++ [(tn : Int)] := by simp
              have HMAP := Lib.hid hmap
              have hw46 : w4.heap.size ≤ w8.heap.size := Nat.le_trans HL4.out.1 hm78.size
              have HD10 : Hid (∀ g, Value.ownBlock (.slice A10 (n1 + 1) c10) = some g → g < wo.heap.size ∨ w4.heap.size ≤ g) := Lib.hid (by
                intro g hg
                rcases hat10 with h | h
                · exact HD.out g (h.symm.trans hg)
                · rw [h] at hg
                  injection hg with hg
                  simp at hg
                  omega)
              have HT10 := Lib.hid T10
              have HL10 := Lib.hid hL10
              clear T8 T9 T10 hL10 hmap hat10 hgr10
              go_wp2_with fail
              go_roundw
              case rel => exact ⟨j + 1, n1 + 1, A10, c10, _, by omega, by go_num, rfl, Lib.hid (by rw [HNX.out, List.length_append, HN.out]; rfl), by rw [HNX.out, HMAP.out]; exact hord10, hwor10, by rw [HNX.out]; exact HT10, HL10, HD10, bx10, hmm10⟩
              case measure => simp [intOf]; omega
        · obtain rfl : j = LL := by omega
          have htk : (lets r).take j = lets r := List.take_of_length_le (by rw [HLn.out]; exact Nat.le_refl _)
          rw [htk] at hstj
          have hnx := hNX.out
          rw [hstj] at hnx
          have HNX := Lib.hid hnx
          clear hnx hstj
          have hin1 : i + 1 ≤ n1 := by have h1 := (List.getElem?_eq_some_iff.1 hpj).1; have h2 := HN.out; omega
          go_wp2_with fail
          go_roundw
          case rel => exact ⟨i + 1, n1, A1, c1, vals, hin1, by go_num, rfl, by rw [HNX.out]; exact HN, by rw [HNX.out]; exact hord, hwor, by rw [HNX.out]; exact HT, bx, hm⟩
          case measure => simp [intOf]; omega
    · obtain rfl : i = n1 := by omega
      have hbf := bfs_eq (L := lets r) HG.out.all hv0 hv3 (by omega) HN.out
      have hord' : ordE r es v = (bfsSt es (lets r) v i).map Prod.fst := by rw [ordE, Int.toNat_natCast, hbf]
      have hlen : (ordE r es v).length = i := by rw [hord', List.length_map]; exact HN.out
      have HORD := Lib.hid hord'
      have HLEN := Lib.hid hlen
      have HBF := Lib.hid hbf
      clear hbf hord' hlen
      go_wp2_with fail
      go_ret2
      exact ⟨A1, c1, by rw [HLEN.out]; rfl, hm, by rw [HLEN.out, HORD.out]; exact hord, vals, hwor, by rw [HLEN.out, HBF.out]; exact HT.out⟩
end Go.Proofs.YtimmnnncgnnkgaaGreat

/- Plain: the reference's rounds that find what is joined. -/
namespace Go.Proofs.YtimmnnncgnnkgaaGreat
set_option linter.unusedVariables false
set_option linter.unusedSimpArgs false

theorem srt_ext {xs ys : List Int} (hx : xs.Pairwise (· < ·)) (hy : ys.Pairwise (· < ·)) (h : ∀ u, u ∈ xs ↔ u ∈ ys) : xs = ys := by
  have n1 : xs.Nodup := hx.imp fun h => by omega
  have n2 : ys.Nodup := hy.imp fun h => by omega
  exact List.Perm.eq_of_pairwise (le := fun x y : Int => x < y) (fun a b _ _ h1 h2 => by omega) hx hy ((List.perm_ext_iff_of_nodup n1 n2).2 h)
theorem putI_mem {x : Int} {l : List Int} (h : l.Pairwise (· < ·)) (hx : x ∈ l) : putI x l = l :=
  srt_ext (putI_sorted h) h fun u => by
    rw [mem_putI]
    constructor
    · rintro (rfl | h)
      · exact hx
      · exact h
    · exact .inr
theorem putI_new {x : Int} {l : List Int} (h : l.Pairwise (· < ·)) (hx : x ∉ l) : (putI x l).length = l.length + 1 := by
  have n1 : (putI x l).Nodup := (putI_sorted h).imp fun h => by omega
  have n2 : (x :: l).Nodup := List.nodup_cons.2 ⟨hx, h.imp fun h => by omega⟩
  have := ((List.perm_ext_iff_of_nodup n1 n2).2 fun u => by rw [mem_putI, List.mem_cons]).length_eq
  simpa using this
/-- The ascending list found so far. -/
structure RAt (s : Int) (es : List Ed) (v : Int) (zs : List Int) : Prop where
  here : v ∈ zs
  rng : ∀ u ∈ zs, 0 ≤ u ∧ u < s
  srt : zs.Pairwise (· < ·)
  conn : ∀ u ∈ zs, Conn es v u
  cnt : zs.length ≤ 1 + (es.filter fun e => decide (e.a ∈ zs ∧ e.b ∈ zs)).length
theorem RAt.start {s : Int} (es : List Ed) {v : Int} (h0 : 0 ≤ v) (h1 : v < s) : RAt s es v [v] := by
  refine ⟨by simp, ?_, by simp, ?_, by simp⟩
  · intro u hu; simp at hu; subst hu; exact ⟨h0, h1⟩
  · intro u hu; simp at hu; subst hu; exact .here
theorem filter_len_mono {p q : Ed → Bool} (h : ∀ e, p e = true → q e = true) : ∀ l : List Ed, (l.filter p).length ≤ (l.filter q).length
  | [] => Nat.le_refl _
  | e :: t => by
    have := filter_len_mono h t
    cases hp : p e with
    | true => rw [List.filter_cons_of_pos hp, List.filter_cons_of_pos (h e hp)]; simpa using this
    | false =>
      rw [List.filter_cons_of_neg (by simp [hp])]
      cases hq : q e with
      | true => rw [List.filter_cons_of_pos hq]; simp; omega
      | false => rw [List.filter_cons_of_neg (by simp [hq])]; exact this
theorem filter_len_lt {p q : Ed → Bool} (h : ∀ e, p e = true → q e = true) {f : Ed} (hp : p f = false) (hq : q f = true) : ∀ {l : List Ed}, f ∈ l → (l.filter p).length < (l.filter q).length
  | e :: t, hm => by
    rcases List.mem_cons.1 hm with rfl | hm
    · rw [List.filter_cons_of_neg (by simp [hp]), List.filter_cons_of_pos hq]
      have := filter_len_mono h t
      simp
      omega
    · have := filter_len_lt h hp hq hm
      cases hp' : p e with
      | true => rw [List.filter_cons_of_pos hp', List.filter_cons_of_pos (h e hp')]; simpa using this
      | false =>
        rw [List.filter_cons_of_neg (by simp [hp'])]
        cases hq' : q e with
        | true => rw [List.filter_cons_of_pos hq']; simp; omega
        | false => rw [List.filter_cons_of_neg (by simp [hq'])]; exact this
theorem RAt.push {s : Int} {es : List Ed} {v u : Int} {zs : List Int} (h : RAt s es v zs) {e : Ed} (he : e ∈ es) (hr : 0 ≤ u ∧ u < s) (hc : Conn es v u) (hu : u ∉ zs) (hue : u = e.a ∨ u = e.b) (h2 : e.a = u ∨ e.a ∈ zs) (h3 : e.b = u ∨ e.b ∈ zs) : RAt s es v (putI u zs) := by
  refine ⟨mem_putI.2 (.inr h.here), ?_, putI_sorted h.srt, ?_, ?_⟩
  · intro x hx
    rcases mem_putI.1 hx with rfl | hx
    · exact hr
    · exact h.rng x hx
  · intro x hx
    rcases mem_putI.1 hx with rfl | hx
    · exact hc
    · exact h.conn x hx
  · have h4 := h.cnt
    have h5 := putI_new h.srt hu
    have h6 := filter_len_lt (p := fun e => decide (e.a ∈ zs ∧ e.b ∈ zs)) (q := fun e => decide (e.a ∈ putI u zs ∧ e.b ∈ putI u zs)) (f := e) (l := es) (by
      intro f hf
      simp only [decide_eq_true_eq, mem_putI] at hf ⊢
      exact ⟨.inr hf.1, .inr hf.2⟩) (by
      simp only [decide_eq_false_iff_not]
      rintro ⟨h6, h7⟩
      rcases hue with rfl | rfl
      · exact hu h6
      · exact hu h7) (by
      simp only [decide_eq_true_eq, mem_putI]
      exact ⟨h2, h3⟩) he
    omega
/-- One edge of a round: what stands behind its two tests. -/
def reachE (e : Ed) (zs : List Int) : List Int := if e.b ∈ (if e.a ∈ zs then putI e.b zs else zs) then putI e.a (if e.a ∈ zs then putI e.b zs else zs) else (if e.a ∈ zs then putI e.b zs else zs)
theorem RAt.edge {r s : Int} {es : List Ed} {v : Int} {zs : List Int} (h : RAt s es v zs) {e : Ed} (he : e ∈ es) (hi : InG r s e) :
    RAt s es v (reachE e zs) ∧ ((reachE e zs = zs ∧ (e.a ∈ zs ↔ e.b ∈ zs)) ∨ (zs.length < (reachE e zs).length ∧ ¬ (e.a ∈ zs ↔ e.b ∈ zs))) := by
  unfold InG at hi
  unfold reachE
  by_cases ha : e.a ∈ zs
  · rw [if_pos ha, if_pos (mem_putI.2 (.inl rfl))]
    rw [putI_mem (putI_sorted h.srt) (mem_putI.2 (.inr ha))]
    by_cases hb : e.b ∈ zs
    · rw [putI_mem h.srt hb]
      exact ⟨h, .inl ⟨rfl, ⟨fun _ => hb, fun _ => ha⟩⟩⟩
    · refine ⟨h.push he (by omega) (.out he (h.conn _ ha)) hb (.inr rfl) (.inr ha) (.inl rfl), .inr ⟨?_, fun hh => hb (hh.1 ha)⟩⟩
      rw [putI_new h.srt hb]
      omega
  · rw [if_neg ha]
    by_cases hb : e.b ∈ zs
    · rw [if_pos hb]
      refine ⟨h.push he (by omega) (.inn he (h.conn _ hb)) ha (.inl rfl) (.inl rfl) (.inr hb), .inr ⟨?_, fun hh => ha (hh.2 hb)⟩⟩
      rw [putI_new h.srt ha]
      omega
    · rw [if_neg hb]
      exact ⟨h, .inl ⟨rfl, ⟨fun h => absurd h ha, fun h => absurd h hb⟩⟩⟩
/-- The state within round k, behind the first i edges. -/
structure RIn (s : Int) (es : List Ed) (v : Int) (k i : Nat) (zs : List Int) : Prop where
  at' : RAt s es v zs
  or' : Shut' es es.length zs ∨ (k + 1 < zs.length) ∨ (k + 1 ≤ zs.length ∧ Shut' es i zs)
structure ROut (s : Int) (es : List Ed) (v : Int) (k : Nat) (zs : List Int) : Prop where
  at' : RAt s es v zs
  or' : Shut' es es.length zs ∨ k + 1 ≤ zs.length
theorem ROut.start {s : Int} (es : List Ed) {v : Int} (h0 : 0 ≤ v) (h1 : v < s) : ROut s es v 0 [v] := ⟨RAt.start es h0 h1, .inr (by simp)⟩
theorem ROut.into {s : Int} {es : List Ed} {v : Int} {k : Nat} {zs : List Int} (h : ROut s es v k zs) : RIn s es v k 0 zs := ⟨h.at', h.or'.imp id fun h => .inr ⟨h, Shut'.zero es zs⟩⟩
theorem RIn.out {s : Int} {es : List Ed} {v : Int} {k : Nat} {zs : List Int} (h : RIn s es v k es.length zs) : ROut s es v (k + 1) zs := ⟨h.at', by
  rcases h.or' with h1 | h1 | ⟨h1, h2⟩
  · exact .inl h1
  · exact .inr (by omega)
  · exact .inl h2⟩
theorem RIn.step {r s : Int} {es : List Ed} {v : Int} {k i : Nat} {zs : List Int} (h : RIn s es v k i zs) {e : Ed} (he : es[i]? = some e) (hi : InG r s e) : RIn s es v k (i + 1) (reachE e zs) := by
  obtain ⟨h1, h2⟩ := h.at'.edge (List.mem_of_getElem? he) hi
  have hil := (List.getElem?_eq_some_iff.1 he).1
  refine ⟨h1, ?_⟩
  rcases h2 with ⟨h2, h3⟩ | ⟨h2, h3⟩
  · rw [h2]
    rcases h.or' with h4 | h4 | ⟨h4, h5⟩
    · exact .inl h4
    · exact .inr (.inl h4)
    · exact .inr (.inr ⟨h4, h5.succ he h3⟩)
  · right
    left
    rcases h.or' with h4 | h4 | ⟨h4, h5⟩
    · exact absurd (h4 i e hil he) h3
    · omega
    · omega
theorem ROut.done {s : Int} {es : List Ed} {v : Int} {zs : List Int} (h : ROut s es v (es.length + 1) zs) (u : Int) : u ∈ zs ↔ Conn es v u := by
  have hc : Shut' es es.length zs := by
    rcases h.or' with h1 | h1
    · exact h1
    · have h2 := h.at'.cnt
      have h3 := List.length_filter_le (fun e => decide (e.a ∈ zs ∧ e.b ∈ zs)) es
      omega
  refine conn_iff (P := fun u => u ∈ zs) h.at'.here (fun e he => ?_) h.at'.conn u
  obtain ⟨j, hj, rfl⟩ := List.mem_iff_getElem.1 he
  exact hc j _ hj (List.getElem?_eq_getElem hj)
theorem RAt.le {s : Int} {es : List Ed} {v : Int} {zs : List Int} (h : RAt s es v zs) : zs.length ≤ s.toNat := by
  refine nodup_le s.toNat zs (h.srt.imp fun h => by omega) fun u hu => ?_
  have := h.rng u hu
  omega
end Go.Proofs.YtimmnnncgnnkgaaGreat

/- l4Has, ReachedFrom, l8Leaf, the reference. -/
namespace Go.Proofs.YtimmnnncgnnkgaaGreat
set_option linter.unusedVariables false
set_option linter.unusedSimpArgs false
open Go.RowKit

set_option maxHeartbeats 1600000 in
theorem spec_l4Has (A : Option Addr) (l : List Int) (c : Nat) (x : Int) (w : World) (lo hi : Nat) (hr : RV w lo hi A (ints l)) (hl : l.length ≤ 1000000) (b : Bool) (hb : b = true ↔ x ∈ l) :
    Calls Tryz.prog 158 #[.slice A l.length c, .int .i64 x] w fun en w' => en = .returned (.bool b) ∧ w = w' := by
  have HB := Lib.hid hb
  clear hb
  go_enter Tryz.func158, Tryz.ntmps158
  go_wp2_with fail
  go_loop [5] (fun i => ∃ k : Nat, k ≤ l.length ∧ i = .int .i64 k ∧ x ∉ l.take k) (fun i => l.length - (intOf i).toNat)
  case atStart => exact ⟨0, Nat.zero_le _, rfl, by simp⟩
  case round =>
    obtain ⟨k, hk, rfl, hn⟩ := hrel
    have HN := Lib.hid hn
    clear hn
    by_cases hlt : k < l.length
    · obtain ⟨B, off, f, rfl, hbh, he, c0⟩ := hr.at hlt
      have hkn : (k : Int) < (l.length : Int) := by omega
      have HE := Lib.hid he
      clear he
      by_cases hx : f = x
      · have b1 : (f == x) = true := by simpa using hx
        have hbt : b = true := HB.out.2 (by rw [← hx]; exact List.mem_of_getElem? HE.out)
        subst hbt
        clear hx
        go_wp2_with fail
        go_ret
        exact ⟨rfl, rfl⟩
      · have b1 : (f == x) = false := by simpa only [beq_eq_false_iff_ne] using hx
        have HX := Lib.hid hx
        clear hx
        go_wp2_with fail
        go_round
        case rel =>
          refine ⟨k + 1, by omega, by go_num, ?_⟩
          rw [take_snocI HE.out, List.mem_append, List.mem_singleton]
          rintro (h | h)
          · exact HN.out h
          · exact HX.out h.symm
        case measure => simp [intOf]; omega
    · obtain rfl : k = l.length := by omega
      have hbt : b = false := bool_no HB.out (by have := HN.out; rwa [List.take_length] at this)
      subst hbt
      go_wp2_with fail
      go_ret
      exact ⟨rfl, rfl⟩

noncomputable def leafI (s : Int) (es : List Ed) : Int := match leaf s es with | some v => (v : Int) | none => -1
theorem leafI_some {s : Int} {es : List Ed} {v : Nat} (h : leaf s es = some v) : leafI s es = v := by rw [leafI, h]
theorem leafI_none {s : Int} {es : List Ed} (h : leaf s es = none) : leafI s es = -1 := by rw [leafI, h]
theorem reachE_t {e : Ed} {zs : List Int} (h : e.a ∈ zs) : reachE e zs = putI e.a (putI e.b zs) := by
  unfold reachE
  rw [if_pos h, if_pos (mem_putI.2 (.inl rfl))]
theorem reachE_ft {e : Ed} {zs : List Int} (h : e.a ∉ zs) (h2 : e.b ∈ zs) : reachE e zs = putI e.a zs := by
  unfold reachE
  rw [if_neg h, if_pos h2]
theorem reachE_ff {e : Ed} {zs : List Int} (h : e.a ∉ zs) (h2 : e.b ∉ zs) : reachE e zs = zs := by
  unfold reachE
  rw [if_neg h, if_neg h2]

set_option maxHeartbeats 4000000 in
set_option maxRecDepth 20000 in
theorem spec_ReachedFrom (r : Int) (n m : Nat) (A : Option Addr) (es : List Ed) (c : Nat) (w : World) (lo hi : Nat) (hr : RG w lo hi A es) (hg : IsGr r n es) (hv : m < n) :
    Calls Tryz.prog 156 #[graV r n A es.length c, .int .i64 m] w fun e w' => ∃ A1 c1 zs, e = .returned (.slice A1 zs.length c1) ∧ RV w' 0 w'.heap.size A1 (ints zs) ∧ zs.length ≤ 40 ∧ (∀ u, u ∈ zs ↔ Conn es m u) ∧ Mid 0 0 w w' := by
  have hn40 : n ≤ 40 := by have := hg.size; omega
  have hl := hg.len
  have hm0 : Mid 0 0 w (w.alloc (.cells #[.int .i64 r, .int .i64 n, .slice A es.length c] 29)) := Mid.alloc _ _
  have B0 := Box.new w #[.int .i64 r, .int .i64 n, .slice A es.length c] 29
  have HG := Lib.hid hg
  have hv3 : (m : Int) < (n : Int) := by omega
  have hv0 : (0 : Int) ≤ (m : Int) := by omega
  have HJ0 := Lib.hid (ROut.start (s := n) es hv0 hv3)
  clear hg
  go_enter Tryz.func156, Tryz.ntmps156
  go_wp2_with fail
  with_reducible refine (spec_IsGraph r n A es c _ _ _ (hr.mid hm0 (Or.inl (Nat.zero_le _))).rv (by omega) true (iff_of_true rfl HG.out)).mono ?_
  rintro en w1 ⟨rfl, hm1⟩
  replace B0 := B0.mid hm1 (Or.inr (Nat.zero_le _))
  replace hm0 := hm0.trans hm1
  have p0 := B0.cell 0 rfl
  have p1 := B0.cell 1 rfl
  have p2 := B0.cell 2 rfl
  have hib : inB (m : Int) 0 ((n : Int) - 1) = true := by unfold inB; simp; omega
  go_wp2_with fail
  with_reducible refine (l1In_at hib _).mono ?_
  rintro en w2 ⟨rfl, rfl⟩
  go_wp2_with fail
  have hal := Mid.alloc w1 (.cells #[.int .i64 m] 3)
  have hrv0 : RV (w1.alloc (.cells #[.int .i64 m] 3)) 0 (w1.alloc (.cells #[.int .i64 m] 3)).heap.size (some ⟨w1.heap.size, 0, none⟩) (ints [(m : Int)]) := ⟨Nat.le_refl _, fun _ => ⟨_, 0, rfl, Nat.zero_le _, by simp, fun j u hu => (World.cell?_alloc_at _ _ _ _ rfl).trans (by simpa [ints] using hu)⟩⟩
  replace B0 := B0.mid hal (Or.inr (Nat.zero_le _))
  replace hm0 := hm0.trans hal
  clear p0 p1 p2
  go_loopw [5, 6] (fun out i wr => ∃ (k : Nat) (A1 : Option Addr) (c1 : Nat) (zs : List Int), k ≤ es.length + 1 ∧ i = .int .i64 k ∧ out = .slice A1 zs.length c1 ∧ ROut n es m k zs ∧ RV wr 0 wr.heap.size A1 (ints zs) ∧
      Box wr w.heap.size [.int .i64 r, .int .i64 n, .slice A es.length c] ∧ Mid 0 0 w wr) (fun _ i _ => es.length + 1 - (intOf i).toNat)
  case atStart => exact ⟨0, _, 1, [(m : Int)], Nat.zero_le _, rfl, rfl, HJ0.out, hrv0, B0, hm0⟩
  case round =>
    clear hrv0 B0 hm0 hal hm1
    obtain ⟨wo, hwo⟩ : ∃ wo, wo = wr := ⟨_, rfl⟩
    subst hwo
    obtain ⟨k, A0, c0, zs0, hk, rfl, rfl, hj, hrv, bx, hm⟩ := hrel
    have p0 := bx.cell 0 rfl
    have p1 := bx.cell 1 rfl
    have p2 := bx.cell 2 rfl
    have hzl := hj.at'.le
    have HJ := Lib.hid hj
    clear hj
    by_cases hlt : k < es.length + 1
    · have hkn : (k : Int) < (es.length : Int) + 1 := by omega
      go_wp2_with fail
      go_loopw [5, 7] (fun out i wr => ∃ (j : Nat) (A1 : Option Addr) (c1 : Nat) (zs : List Int), j ≤ es.length ∧ i = .int .i64 j ∧ out = .slice A1 zs.length c1 ∧ RIn n es m k j zs ∧ RV wr 0 wr.heap.size A1 (ints zs) ∧
        Box wr w.heap.size [.int .i64 r, .int .i64 n, .slice A es.length c] ∧ Mid 0 0 w wr) (fun _ i _ => es.length - (intOf i).toNat)
      case atStart => exact ⟨0, _, _, zs0, Nat.zero_le _, rfl, rfl, HJ.out.into, hrv, bx, hm⟩
      case round =>
        clear hrv bx hm p0 p1 p2
        obtain ⟨j, A1, c1, zs, hj, rfl, rfl, hin, hrv, bx, hm⟩ := hrel
        have p0 := bx.cell 0 rfl
        have p1 := bx.cell 1 rfl
        have p2 := bx.cell 2 rfl
        have hzl := hin.at'.le
        have HI := Lib.hid hin
        clear hin
        by_cases hlt2 : j < es.length
        · obtain ⟨B, off, e, rfl, -, hbh, he, e0, e1, e2⟩ := (hr.mid hm (Or.inl (Nat.zero_le _))).ed hlt2
          have HE := Lib.hid he
          have HS := Lib.hid (HI.out.step he (HG.out.all e (List.mem_of_getElem? he)))
          have hkn2 : (j : Int) < (es.length : Int) := by omega
          have hal := Mid.alloc wr (.cells #[.int .i64 e.a, .int .i64 e.l, .int .i64 e.b] 78)
          have E1 := Box.new wr #[.int .i64 e.a, .int .i64 e.l, .int .i64 e.b] 78
          replace bx := bx.mid hal (Or.inr (Nat.zero_le _))
          replace hrv := hrv.mid hal (Or.inl (Nat.zero_le _))
          replace hm := hm.trans hal
          replace hrv := hrv.wide (Nat.le_refl _) hal.size (Nat.le_refl _)
          have g0 := E1.cell 0 rfl
          have g1 := E1.cell 1 rfl
          have g2 := E1.cell 2 rfl
          obtain ⟨b1, hb1⟩ := bool_of (e.a ∈ zs)
          have HB1 := Lib.hid hb1
          clear hb1 he
          have q0 := bx.cell 0 rfl
          have q1 := bx.cell 1 rfl
          have q2 := bx.cell 2 rfl
          go_wp2_with fail
          with_reducible refine (spec_l4Has A1 zs c1 e.a _ _ _ hrv (by omega) b1 HB1.out).mono ?_
          rintro en w2 ⟨rfl, rfl⟩
          cases b1 with
          | true =>
            go_wp2_with fail
            with_reducible refine (spec_l4Add A1 zs c1 e.b _ _ _ hrv (by omega)).mono ?_
            rintro en w3 ⟨A3, c3, rfl, hrv3, hm3⟩
            replace bx := bx.mid hm3 (Or.inr (Nat.zero_le _))
            replace E1 := E1.mid hm3 (Or.inr (Nat.zero_le _))
            replace hm := hm.trans hm3
            clear p0 p1 p2 q0 q1 q2 g0 g1 g2
            have p0 := bx.cell 0 rfl
            have p1 := bx.cell 1 rfl
            have p2 := bx.cell 2 rfl
            have g0 := E1.cell 0 rfl
            have g1 := E1.cell 1 rfl
            have g2 := E1.cell 2 rfl
            have hz3 : (putI e.b zs).length ≤ 41 := by have := putI_len e.b zs; omega
            go_wp2_with fail
            with_reducible refine (spec_l4Has A3 (putI e.b zs) c3 e.b _ _ _ hrv3 (by omega) true (iff_of_true rfl (mem_putI.2 (.inl rfl)))).mono ?_
            rintro en w2 ⟨rfl, rfl⟩
            go_wp2_with fail
            with_reducible refine (spec_l4Add A3 (putI e.b zs) c3 e.a _ _ _ hrv3 (by omega)).mono ?_
            rintro en w4 ⟨A4, c4, rfl, hrv4, hm4⟩
            replace bx := bx.mid hm4 (Or.inr (Nat.zero_le _))
            replace hm := hm.trans hm4
            go_wp2_with fail
            go_roundw
            case rel => exact ⟨j + 1, A4, c4, _, by omega, by go_num, rfl, by rw [← reachE_t (HB1.out.1 (by trivial))]; exact HS.out, hrv4, bx, hm⟩
            case measure => simp [intOf]; omega
          | false =>
            have hna : e.a ∉ zs := fun h => by have := HB1.out.2 h; cases this
            have HNA := Lib.hid hna
            obtain ⟨b2, hb2⟩ := bool_of (e.b ∈ zs)
            have HB2 := Lib.hid hb2
            clear hb2 hna
            go_wp2_with fail
            with_reducible refine (spec_l4Has A1 zs c1 e.b _ _ _ hrv (by omega) b2 HB2.out).mono ?_
            rintro en w2 ⟨rfl, rfl⟩
            cases b2 with
            | true =>
              go_wp2_with fail
              with_reducible refine (spec_l4Add A1 zs c1 e.a _ _ _ hrv (by omega)).mono ?_
              rintro en w4 ⟨A4, c4, rfl, hrv4, hm4⟩
              replace bx := bx.mid hm4 (Or.inr (Nat.zero_le _))
              replace hm := hm.trans hm4
              go_wp2_with fail
              go_roundw
              case rel => exact ⟨j + 1, A4, c4, _, by omega, by go_num, rfl, by rw [← reachE_ft HNA.out (HB2.out.1 (by trivial))]; exact HS.out, hrv4, bx, hm⟩
              case measure => simp [intOf]; omega
            | false =>
              have hnb : e.b ∉ zs := fun h => by have := HB2.out.2 h; cases this
              have HNB := Lib.hid hnb
              clear hnb
              go_wp2_with fail
              go_roundw
              case rel => exact ⟨j + 1, A1, c1, zs, by omega, by go_num, rfl, by have h := HS.out; rw [reachE_ff HNA.out HNB.out] at h; exact h, hrv, bx, hm⟩
              case measure => simp [intOf]; omega
        · obtain rfl : j = es.length := by omega
          go_wp2_with fail
          go_roundw
          case rel => exact ⟨k + 1, A1, c1, zs, by omega, by go_num, rfl, HI.out.out, hrv, bx, hm⟩
          case measure => simp [intOf]; omega
    · obtain rfl : k = es.length + 1 := by omega
      go_wp2_with fail
      go_ret
      exact ⟨_, _, zs0, rfl, hrv, by omega, fun u => HJ.out.done u, hm⟩

theorem spec_ReachedFrom0 (r : Int) (n : Nat) (A : Option Addr) (es : List Ed) (c : Nat) (w : World) (lo hi : Nat) (hr : RG w lo hi A es) (hg : IsGr r n es) (hv : 0 < n) :
    Calls Tryz.prog 156 #[graV r n A es.length c, .int .i64 0] w fun e w' => ∃ A1 c1 zs, e = .returned (.slice A1 zs.length c1) ∧ RV w' 0 w'.heap.size A1 (ints zs) ∧ zs.length ≤ 40 ∧ (∀ u, u ∈ zs ↔ Conn es 0 u) ∧ Mid 0 0 w w' :=
  spec_ReachedFrom r n 0 A es c w lo hi hr hg hv
set_option maxHeartbeats 4000000 in
set_option maxRecDepth 20000 in
theorem spec_l8Leaf (r : Int) (n : Nat) (A : Option Addr) (es : List Ed) (c : Nat) (w : World) (lo hi : Nat) (hr : RG w lo hi A es) (hg : IsGr r n es) :
    Calls Tryz.prog 131 #[graV r n A es.length c] w fun e w' => e = .returned (.int .i64 (leafI n es)) ∧ Mid 0 0 w w' := by
  have hn40 : n ≤ 40 := by have := hg.size; omega
  have hn1 : 1 ≤ n := by have := hg.size; omega
  have hl := hg.len
  have hm0 : Mid 0 0 w (w.alloc (.cells #[.int .i64 r, .int .i64 n, .slice A es.length c] 29)) := Mid.alloc _ _
  have B0 := Box.new w #[.int .i64 r, .int .i64 n, .slice A es.length c] 29
  have HG := Lib.hid hg
  clear hg
  go_enter Tryz.func131, Tryz.ntmps131
  go_wp2_with fail
  with_reducible refine (spec_ReachedFrom0 r n A es c _ _ _ (hr.mid hm0 (Or.inl (Nat.zero_le _))) HG.out (by omega)).mono ?_
  rintro en w1 ⟨A1, c1, zs, rfl, hrv, hz, hmem, hm1⟩
  have HM := Lib.hid hmem
  replace B0 := B0.mid hm1 (Or.inr (Nat.zero_le _))
  replace hm0 := hm0.trans hm1
  clear hmem
  have p0 := B0.cell 0 rfl
  have p1 := B0.cell 1 rfl
  have p2 := B0.cell 2 rfl
  go_wp2_with fail
  clear p0 p1 p2
  go_loopw [4] (fun i wr => ∃ (k : Nat), 1 ≤ k ∧ k ≤ n ∧ i = .int .i64 k ∧ Hid (∀ u : Nat, 1 ≤ u → u < k → ¬ Bad es u) ∧ RV wr 0 wr.heap.size A1 (ints zs) ∧
      Box wr w.heap.size [.int .i64 r, .int .i64 n, .slice A es.length c] ∧ Mid 0 0 w wr) (fun i _ => n - (intOf i).toNat)
  case atStart => exact ⟨1, Nat.le_refl _, hn1, rfl, Lib.hid (fun u h1 h2 => absurd h2 (by omega)), hrv, B0, hm0⟩
  case round =>
    clear hrv B0 hm0 hm1
    obtain ⟨k, hk1, hk, rfl, HU, hrv, bx, hm⟩ := hrel
    have p0 := bx.cell 0 rfl
    have p1 := bx.cell 1 rfl
    have p2 := bx.cell 2 rfl
    by_cases hlt : k < n
    · have hkn : (k : Int) < (n : Int) := by omega
      go_wp2_with fail
      with_reducible refine (spec_DegreeOf r n A es c k _ _ _ (hr.mid hm (Or.inl (Nat.zero_le _))) (by omega)).mono ?_
      rintro en w2 ⟨rfl, hm2⟩
      replace bx := bx.mid hm2 (Or.inr (Nat.zero_le _))
      replace hrv := hrv.mid hm2 (Or.inl (Nat.zero_le _))
      replace hm := hm.trans hm2
      replace hrv := hrv.wide (Nat.le_refl _) hm2.size (Nat.le_refl _)
      have hdl := deg_le es k
      by_cases hd : deg es k < 2
      · have b1 : decide ((deg es k : Int) < 2) = true := by simp; omega
        have hlf := leaf_some (s := n) hk1 hkn (.inl hd) HU.out
        have HL := Lib.hid hlf
        clear hlf hd
        go_wp2_with fail
        go_ret
        exact ⟨by rw [leafI_some HL.out]; rfl, hm⟩
      · have b1 : decide ((deg es k : Int) < 2) = false := by simp; omega
        obtain ⟨b2, hb2⟩ := bool_of ((k : Int) ∈ zs)
        have HB2 := Lib.hid hb2
        have HD := Lib.hid hd
        clear hb2 hd
        go_wp2_with fail
        with_reducible refine (spec_l4Has A1 zs c1 k _ _ _ hrv (by omega) b2 HB2.out).mono ?_
        rintro en w3 ⟨rfl, rfl⟩
        cases b2 with
        | true =>
          have hnb : ¬ Bad es k := by
            rintro (h | h)
            · exact HD.out h
            · exact h ((HM.out _).1 (HB2.out.1 (by trivial)))
          have HNB := Lib.hid hnb
          clear hnb p0 p1 p2
          have p0 := bx.cell 0 rfl
          have p1 := bx.cell 1 rfl
          have p2 := bx.cell 2 rfl
          go_wp2_with fail
          go_roundw
          case rel =>
            refine ⟨k + 1, by omega, by omega, by go_num, Lib.hid fun u h1 h2 => ?_, hrv, bx, hm⟩
            by_cases h : u = k
            · subst h; exact HNB.out
            · exact HU.out u h1 (by omega)
          case measure => simp [intOf]; omega
        | false =>
          have hb : Bad es k := .inr fun h => by have := HB2.out.2 ((HM.out _).2 h); cases this
          have HL := Lib.hid (leaf_some (s := n) hk1 hkn hb HU.out)
          clear hb
          go_wp2_with fail
          go_ret
          exact ⟨by rw [leafI_some HL.out]; rfl, hm⟩
    · obtain rfl : k = n := by omega
      have HL := Lib.hid (leaf_none (s := (k : Int)) (es := es) fun u h1 h2 => HU.out u h1 (by omega))
      go_wp2_with fail
      go_ret
      exact ⟨by rw [leafI_none HL.out]; rfl, hm⟩
end Go.Proofs.YtimmnnncgnnkgaaGreat

/- CanonicalOrder, the reference. -/
namespace Go.Proofs.YtimmnnncgnnkgaaGreat
set_option linter.unusedVariables false
set_option linter.unusedSimpArgs false
open Go.RowKit

theorem spec_CanonicalOrder_no (r s : Int) (A : Option Addr) (es : List Ed) (c : Nat) (w : World) (lo hi : Nat) (hr : RG w lo hi A es) (hl : es.length ≤ 1048576) (hf : ¬ IsFol r s es) :
    Calls Tryz.prog 137 #[graV r s A es.length c] w fun e w' => ∃ A1 c1, e = .returned (.slice A1 0 c1) ∧ Mid 0 0 w w' := by
  have hm0 : Mid 0 0 w (w.alloc (.cells #[.int .i64 r, .int .i64 s, .slice A es.length c] 29)) := Mid.alloc _ _
  have HF := Lib.hid hf
  clear hf
  go_enter Tryz.func137, Tryz.ntmps137
  go_wp2_with fail
  with_reducible refine (spec_IsFolded r s A es c _ _ _ (hr.mid hm0 (Or.inl (Nat.zero_le _))) hl false (iff_of_false Bool.false_ne_true HF.out)).mono ?_
  rintro en w1 ⟨rfl, hm1⟩
  have hal := Mid.alloc w1 (.cells #[] 3)
  replace hm0 := hm0.trans hm1
  go_wp2_with fail
  go_ret
  exact ⟨_, _, rfl, hm0.trans hal⟩

set_option maxHeartbeats 6400000 in
set_option maxRecDepth 100000 in
theorem spec_CanonicalOrder (r n : Nat) (A : Option Addr) (es : List Ed) (c : Nat) (w : World) (lo hi : Nat) (hr : RG w lo hi A es) (hf : IsFol r n es) :
    Calls Tryz.prog 137 #[graV r n A es.length c] w fun e w' => ∃ A1 c1, e = .returned (.slice A1 (ordE r es 0).length c1) ∧ RV w' 0 w'.heap.size A1 (ints (ordE r es 0)) ∧ Mid 0 0 w w' := by
  have hg := hf.gr
  have hn40 : n ≤ 40 := by have := hg.size; omega
  have hn1' : 1 ≤ n := by have := hg.size; omega
  have hr3 : r ≤ 3 := by have := hg.rank; omega
  have hl := hg.len
  have hgl : ∀ e ∈ es, 1 ≤ e.l ∧ e.l ≤ 3 := fun e he => by have := hg.all e he; unfold InG at this; omega
  have hm0 : Mid 0 0 w (w.alloc (.cells #[.int .i64 r, .int .i64 n, .slice A es.length c] 29)) := Mid.alloc _ _
  have B0 := Box.new w #[.int .i64 r, .int .i64 n, .slice A es.length c] 29
  have HG := Lib.hid hg
  have HF := Lib.hid hf
  have HGL := Lib.hid hgl
  have hv0 : (0 : Int) ≤ 0 := Int.le_refl _
  have hv3 : (0 : Int) < (n : Int) := by omega
  clear hg hgl hf
  go_enter Tryz.func137, Tryz.ntmps137
  go_wp2_with fail
  with_reducible refine (spec_IsFolded r n A es c _ _ _ (hr.mid hm0 (Or.inl (Nat.zero_le _))) (by omega) true (iff_of_true rfl HF.out)).mono ?_
  rintro en w1 ⟨rfl, hm1⟩
  replace B0 := B0.mid hm1 (Or.inr (Nat.zero_le _))
  replace hm0 := hm0.trans hm1
  have p0 := B0.cell 0 rfl
  have p1 := B0.cell 1 rfl
  have p2 := B0.cell 2 rfl
  have hal := Mid.alloc w1 (.cells #[.int .i64 0] 3)
  have O0 : (w1.alloc (.cells #[.int .i64 0] 3)).ownsRow w1.heap.size 3 1 (.slice (some ⟨w1.heap.size, 0, none⟩) 1 1) 1 (ints [(0 : Int)]) := World.ownsRow_lit (size := 1) w1 #[.int .i64 0] 1 (Nat.le_refl _) (by simp [maxLen]) (by simp)
  have hsz1 : w.heap.size < w1.heap.size := by have := hm1.size; simp at this; omega
  replace B0 := B0.mid hal (Or.inr (Nat.zero_le _))
  replace hm0 := hm0.trans hal
  go_wp2_with fail
  with_reducible refine (spec_l5Letters r _ (by omega)).mono ?_
  rintro en w4 ⟨A4, c4, rfl, hL4, hm4⟩
  have hs14 : w1.heap.size + 1 ≤ w4.heap.size := by have := hm4.size; simpa using this
  rw [World.size_alloc] at hL4
  replace B0 := B0.mid hm4 (Or.inr (Nat.zero_le _))
  replace O0 := owns_mid O0 hm4 (Or.inl (Nat.zero_le _))
  replace hm0 := hm0.trans hm4
  clear p0 p1 p2 hal hm4 hm1
  have HLL := Lib.hid (lets_len r)
  obtain ⟨LL, hLL⟩ : ∃ LL, (lets r).length = LL := ⟨_, rfl⟩
  have hLL6 : LL ≤ 6 := by have := HLL.out; omega
  rw [hLL]
  have HLn := Lib.hid hLL
  clear hLL
  go_wp2_with fail
  go_loopw [3, 5] (fun ord iv wr => ∃ (i n1 : Nat) (A1 : Option Addr) (c1 : Nat), i ≤ n1 ∧ iv = .int .i64 i ∧ ord = .slice A1 n1 c1 ∧ Hid ((bfsSt es (lets r) 0 i).length = n1) ∧
      wr.ownsRow w1.heap.size 3 1 (.slice A1 n1 c1) n1 (ints ((bfsSt es (lets r) 0 i).map Prod.fst)) ∧ Hid (RV wr (w1.heap.size + 1) w4.heap.size A4 (ints (lets r))) ∧ Hid (∀ g, Value.ownBlock (.slice A1 n1 c1) = some g → g < w1.heap.size + 1 ∨ w4.heap.size ≤ g) ∧
      Box wr w.heap.size [.int .i64 r, .int .i64 n, .slice A es.length c] ∧ Mid 0 0 w wr) (fun _ i _ => (41 - intOf i).toNat)
  case atStart => exact ⟨0, 1, _, 1, Nat.zero_le _, rfl, rfl, Lib.hid rfl, O0, Lib.hid hL4, Lib.hid (fun g hg => by injection hg with hg; simp at hg; omega), B0, hm0⟩
  case round =>
    clear O0 hL4 B0 hm0
    obtain ⟨wo, hwo⟩ : ∃ wo, wo = wr := ⟨_, rfl⟩
    subst hwo
    obtain ⟨i, n1, A1, c1, hin, rfl, rfl, HN, hord, HL4, HD, bx, hm⟩ := hrel
    have hok := bfsSt_ok (L := lets r) HG.out.all hv0 hv3 i
    have hn1 : n1 ≤ 40 := by have h1 := hok.len (by omega); have h2 := HN.out; omega
    have HOK := Lib.hid hok
    clear hok
    by_cases hlt : i < n1
    · obtain ⟨p, hp⟩ := get_of_lt (bfsSt es (lets r) 0 i) (show i < (bfsSt es (lets r) 0 i).length by rw [HN.out]; exact hlt)
      obtain ⟨u, wd⟩ := p
      have HP := Lib.hid hp
      have hNX := Lib.hid (bfsSt_next hp)
      have hi0 : (0 : Int) ≤ (i : Int) := by omega
      clear hp
      go_wp2_with fail
      go_loopw [3, 6] (fun ord jv wr => ∃ (j n1 : Nat) (A1 : Option Addr) (c1 : Nat), j ≤ LL ∧ jv = .int .i64 j ∧ ord = .slice A1 n1 c1 ∧ Hid ((bfsRow es ((lets r).take j) (u, wd) (bfsSt es (lets r) 0 i)).length = n1) ∧
          wr.ownsRow w1.heap.size 3 1 (.slice A1 n1 c1) n1 (ints ((bfsRow es ((lets r).take j) (u, wd) (bfsSt es (lets r) 0 i)).map Prod.fst)) ∧
          Hid (RV wr (w1.heap.size + 1) w4.heap.size A4 (ints (lets r))) ∧ Hid (∀ g, Value.ownBlock (.slice A1 n1 c1) = some g → g < w1.heap.size + 1 ∨ w4.heap.size ≤ g) ∧ Box wr w.heap.size [.int .i64 r, .int .i64 n, .slice A es.length c] ∧ Mid 0 0 w wr) (fun _ j _ => LL - (intOf j).toNat)
      case atStart => exact ⟨0, n1, _, c1, Nat.zero_le _, rfl, rfl, by rw [List.take_zero]; exact HN, hord, HL4, HD, bx, hm⟩
      case round =>
        clear hord HL4 HD bx hm
        obtain ⟨j, n1, A1, c1, hj, rfl, rfl, HN, hord, HL4, HD, bx, hm⟩ := hrel
        obtain ⟨stj, hstj⟩ : ∃ st, bfsRow es ((lets r).take j) (u, wd) (bfsSt es (lets r) 0 i) = st := ⟨_, rfl⟩
        have hokj : BfsOk n (lets r) stj := by rw [← hstj]; exact BfsOk.row HG.out.all _ (fun x hx => List.mem_of_mem_take hx) HOK.out HP.out
        have hpj : stj[i]? = some (u, wd) := by rw [← hstj]; exact prefix_get (bfsRow_pre _ _ _ _) HP.out
        rw [hstj] at HN hord
        have hn1b : n1 ≤ 40 := by have h1 := hokj.len (by omega); have h2 := HN.out; omega
        by_cases hlt2 : j < LL
        · obtain ⟨B4, o4, x, rfl, hB4, hx, hcx⟩ := HL4.out.at (k := j) (by rw [HLn.out]; exact hlt2)
          have hxm := lets_le (List.mem_of_getElem? hx)
          have hnx := bfsRow_take (es := es) (p := (u, wd)) (st := bfsSt es (lets r) 0 i) hx
          rw [hstj] at hnx
          simp only at hnx
          have hj0 : (0 : Int) ≤ (j : Int) := by omega
          have hj1 : (j : Int) < (LL : Int) := by omega
          have hil : i < n1 := by have h1 := (List.getElem?_eq_some_iff.1 hpj).1; have h2 := HN.out; omega
          have hi1 : (i : Int) < (n1 : Int) := by omega
          obtain ⟨g1, rfl, hg1, hg1s⟩ := owns_addr hord (show 0 < n1 by omega)
          have hcu : wr.cell? ⟨g1, i, none⟩ = some (.int .i64 u) := (hord.cellAt i (by omega)).trans (by rw [ints_get, List.getElem?_map, hpj]; rfl)
          have hB4s : B4 < wr.heap.size := Nat.lt_of_lt_of_le hB4 HL4.out.1
          have hcs := nextV_cases HG.out.all u x
          have HOJ := Lib.hid hokj
          have k0 := wg_cell bx.1 (bx.cell 0 rfl)
          have k1 := wg_cell bx.1 (bx.cell 1 rfl)
          have k2 := wg_cell bx.1 (bx.cell 2 rfl)
          have k3 := wg_cell hg1s hcu
          have k4 := wg_cell hB4s hcx
          have hA := fun m os => spec_NextVertex r n A es c u x (wg wr m os) lo hi (hr.mid (hm.trans (Mid.ofWg wr m os)) (Or.inl (Nat.zero_le _))) (by omega) HGL.out (by omega) (by omega)
          clear hx hokj hpj hstj hcu hcx
          go_wp2_with fail
          refine wp_region_quiet_wg (by kernel_rfl) (by kernel_rfl) ?_
          repeat
            (with_reducible refine wpQuiet_step (fun K hK => ?_))
            go_simp
            first
              | ((with_reducible refine hK _ ?_); clear hK K)
              | (rw [if_neg (by decide)]; (with_reducible refine hK _ ?_); clear hK K)
              | (apply Exists.intro; refine ⟨fun _ => ?_, hK _ ?_⟩; ((go_at_call 93; exact Calls.wg_of (hA _ _))); clear hK K)
          with_reducible refine wpQuiet_nil ?_
          intro _ hw'
          obtain ⟨⟨nq, osq⟩, hw''⟩ := hw'
          subst hw''
          have hwg := Mid.ofWg wr nq osq
          generalize wg wr nq osq = w6 at hwg ⊢
          replace bx := bx.mid hwg (Or.inr (Nat.zero_le _))
          replace hord := owns_mid hord hwg (Or.inl (Nat.zero_le _))
          replace hm := hm.trans hwg
          replace HL4 := Lib.hid (HL4.out.mid hwg (Or.inl (Nat.zero_le _)))
          generalize htx : nextV es u x = t at hnx hcs ⊢
          clear k0 k1 k2 k3 k4 hA
          by_cases ht0 : t < 0
          · have b1 : decide (0 ≤ t) = false := by simp; omega
            have HNX := Lib.hid (hnx.trans (by rw [bfsStep, htx, if_pos (.inl ht0)] : bfsStep es u wd stj x = stj))
            clear hnx hcs ht0 htx
            go_wp2_with fail
            go_roundw
            case rel => exact ⟨j + 1, n1, _, c1, by omega, by go_num, rfl, by rw [HNX.out]; exact HN, by rw [HNX.out]; exact hord, HL4, HD, bx, hm⟩
            case measure => simp [intOf]; omega
          · have b1 : decide (0 ≤ t) = true := by simp; omega
            obtain ⟨b2, hb2⟩ := bool_of (t ∈ stj.map Prod.fst)
            have HB2 := Lib.hid hb2
            have hlm : (stj.map Prod.fst).length = n1 := by rw [List.length_map]; exact HN.out
            have hP := spec_l4Has (some ⟨g1, 0, none⟩) (stj.map Prod.fst) c1 t w6 _ _ (owns_rv hord) (by omega) b2 HB2.out
            rw [hlm] at hP
            have HLM := Lib.hid hlm
            clear hb2 hcs hlm
            go_wp2_with fail
            with_reducible refine hP.mono ?_
            rintro en w7 ⟨rfl, rfl⟩
            cases b2 with
            | true =>
              have HNX := Lib.hid (hnx.trans (by rw [bfsStep, htx, if_pos (.inr (HB2.out.1 (by trivial)))] : bfsStep es u wd stj x = stj))
              clear hnx htx ht0 hP
              go_wp2_with fail
              go_roundw
              case rel => exact ⟨j + 1, n1, _, c1, by omega, by go_num, rfl, by rw [HNX.out]; exact HN, by rw [HNX.out]; exact hord, HL4, HD, bx, hm⟩
              case measure => simp [intOf]; omega
            | false =>
              have hnm : t ∉ stj.map Prod.fst := fun h => by have := HB2.out.2 h; cases this
              have HNX := Lib.hid (hnx.trans (by rw [bfsStep, htx, if_neg (fun h => h.elim (fun h => by omega) hnm)] : bfsStep es u wd stj x = stj ++ [(t, wd ++ [x])]))
              have HO9 := Lib.hid hord
              have hsz9 : w1.heap.size ≤ w6.heap.size := by have := HL4.out.1; omega
              clear hnx htx ht0 hP hnm
              go_wp2_with (at_builtin; refine wpList_pushI2 rfl _ _ rfl w1.heap.size _ n1 c1 (stj.map Prod.fst) rfl HO9.out t rfl (by omega) hsz9 ?_; intro A10 c10 w10 hord10 hgr10 hat10)
              have hm10 := Mid.of_grownRow HO9.out hgr10
              have bx10 := bx.mid hm10 (Or.inl (by omega))
              have hL10 := HL4.out.grown hgr10 HD.out
              have hmm10 := hm.transNew hm10 (Or.inl (by omega))
              have hmap : (stj ++ [(t, wd ++ [x])]).map Prod.fst = stj.map Prod.fst ++ [t] := by simp
              have HMAP := Lib.hid hmap
              have hw46 : w4.heap.size ≤ w6.heap.size := HL4.out.1
              have HD10 : Hid (∀ g, Value.ownBlock (.slice A10 (n1 + 1) c10) = some g → g < w1.heap.size + 1 ∨ w4.heap.size ≤ g) := Lib.hid (by
                intro g hg
                rcases hat10 with h | h
                · exact HD.out g (h.symm.trans hg)
                · rw [h] at hg
                  injection hg with hg
                  omega)
              have HL10 := Lib.hid hL10
              clear hL10 hmap hat10 hgr10
              go_roundw
              case rel => exact ⟨j + 1, n1 + 1, A10, c10, by omega, by go_num, rfl, Lib.hid (by rw [HNX.out, List.length_append, HN.out]; rfl), by rw [HNX.out, HMAP.out]; exact hord10, HL10, HD10, bx10, hmm10⟩
              case measure => simp [intOf]; omega
        · obtain rfl : j = LL := by omega
          have htk : (lets r).take j = lets r := List.take_of_length_le (by rw [HLn.out]; exact Nat.le_refl _)
          rw [htk] at hstj
          have hnx := hNX.out
          rw [hstj] at hnx
          have HNX := Lib.hid hnx
          have hin1 : i + 1 ≤ n1 := by have h1 := (List.getElem?_eq_some_iff.1 hpj).1; have h2 := HN.out; omega
          clear hnx hstj hpj
          go_wp2_with fail
          go_roundw
          case rel => exact ⟨i + 1, n1, A1, c1, hin1, by go_num, rfl, by rw [HNX.out]; exact HN, by rw [HNX.out]; exact hord, HL4, HD, bx, hm⟩
          case measure => simp [intOf]; omega
    · obtain rfl : i = n1 := by omega
      have hbf := bfs_eq (L := lets r) HG.out.all hv0 hv3 (by omega) HN.out
      have hord' : ordE r es 0 = (bfsSt es (lets r) 0 i).map Prod.fst := by rw [ordE, Int.toNat_natCast, hbf]
      have hlen : (ordE r es 0).length = i := by rw [hord', List.length_map]; exact HN.out
      have HORD := Lib.hid hord'
      have HLEN := Lib.hid hlen
      clear hbf hord' hlen
      go_wp2_with fail
      go_ret
      exact ⟨A1, c1, by rw [HLEN.out]; rfl, by rw [HORD.out]; exact (owns_rv hord).wide (Nat.zero_le _) (Nat.le_refl _) (Nat.le_refl _), hm⟩
end Go.Proofs.YtimmnnncgnnkgaaGreat

/- A row of one cell of the call's own, laid by a literal. -/
namespace Go.Proofs.YtimmnnncgnnkgaaGreat
set_option linter.unusedVariables false
open Go.RowKit
theorem owns_lit (w : World) (e : TypeId) (u : Value) : (w.alloc (.cells #[u] e)).ownsRow w.heap.size e 1 (.slice (some ⟨w.heap.size, 0, none⟩) 1 1) 1 [u] :=
  ⟨rfl, .inr ⟨w.heap.size, 1, #[u], rfl, Nat.le_refl _, heap_alloc_new w _, Nat.le_refl _, by unfold maxLen; omega, rfl, rfl⟩⟩
end Go.Proofs.YtimmnnncgnnkgaaGreat

/- l14Pairs, l14Edges, the reference. -/
namespace Go.Proofs.YtimmnnncgnnkgaaGreat
set_option linter.unusedVariables false
set_option linter.unusedSimpArgs false
open Go.RowKit

def MarkerX (P : Prop) : Prop := P
theorem MarkerX.to {P : Prop} (h : MarkerX P) : P := h
/-- A pair in range, in natural numbers. -/
theorem pcode_nat {na nb N : Nat} (hN : (na : Int) * (nb : Int) = (N : Int)) {p : Int × Int} (h : PIn na nb p) : ∃ q a b m : Nat, p = ((a : Int), (b : Int)) ∧ a < na ∧ b < nb ∧ (a : Int) * (nb : Int) = (m : Int) ∧ (m : Int) + (b : Int) = (q : Int) ∧ q < N ∧ pcode nb p = (q : Int) ∧ m ≤ q ∧
    Int.tdiv (q : Int) (nb : Int) = (a : Int) ∧ Int.tmod (q : Int) (nb : Int) = (b : Int) := by
  have h1 := pcode_rng h
  have h2 := pcode_tdiv h
  obtain ⟨x, y⟩ := p
  obtain ⟨i1, i2, i3, i4⟩ := h
  simp only at i1 i2 i3 i4
  obtain ⟨a, rfl⟩ : ∃ a : Nat, x = a := ⟨x.toNat, by omega⟩
  obtain ⟨b, rfl⟩ : ∃ b : Nat, y = b := ⟨y.toNat, by omega⟩
  obtain ⟨m, hm⟩ : ∃ m : Nat, (a : Int) * (nb : Int) = (m : Int) := ⟨a * nb, by simp⟩
  have h3 : pcode nb ((a : Int), (b : Int)) = ((m + b : Nat) : Int) := by
    unfold pcode
    simp only
    rw [hm]
    omega
  rw [h3, hN] at h1
  rw [h3] at h2
  exact ⟨m + b, a, b, m, rfl, by omega, by omega, hm, by omega, by omega, h3, by omega, h2.1, h2.2⟩

theorem pbStep_no1 {ea eb : List Ed} {p : Int × Int} {st : PS} {x : Int} (h : nextV ea p.1 x < 0) : pbStep ea eb p st x = st := by
  unfold pbStep
  rw [if_pos (Or.inl h)]
theorem pbStep_no2 {ea eb : List Ed} {p : Int × Int} {st : PS} {x : Int} (h : nextV eb p.2 x < 0) : pbStep ea eb p st x = st := by
  unfold pbStep
  rw [if_pos (Or.inr (Or.inl h))]
theorem pbStep_no3 {ea eb : List Ed} {p : Int × Int} {st : PS} {x : Int} (h : pbNext ea eb p x ∈ st) : pbStep ea eb p st x = st := by
  unfold pbStep
  rw [if_pos (Or.inr (Or.inr h))]
theorem pbStep_yes {ea eb : List Ed} {p : Int × Int} {st : PS} {x : Int} (h1 : ¬ nextV ea p.1 x < 0) (h2 : ¬ nextV eb p.2 x < 0) (h3 : pbNext ea eb p x ∉ st) : pbStep ea eb p st x = st ++ [pbNext ea eb p x] := by
  unfold pbStep
  rw [if_neg (fun h => h.elim h1 fun h => h.elim h2 h3)]

set_option maxHeartbeats 6400000 in
set_option maxRecDepth 100000 in
theorem spec_l14Pairs (r na nb u v : Nat) (A B : Option Addr) (ea eb : List Ed) (c d : Nat) (w : World) (lo hi lo2 hi2 : Nat) (hr : RG w lo hi A ea) (hr2 : RG w lo2 hi2 B eb) (hg : IsGr r na ea) (hg2 : IsGr r nb eb) (hu : u < na) (hv : v < nb) :
    Calls Tryz.prog 121 #[graV r na A ea.length c, graV r nb B eb.length d, .int .i64 u, .int .i64 v] w fun e w' => ∃ A1 c1, e = .returned (.slice A1 (pairsOf ea eb (lets r) (u, v)).length c1) ∧ RV w' 0 w'.heap.size A1 (ints ((pairsOf ea eb (lets r) (u, v)).map (pcode nb))) ∧ Mid 0 0 w w' := by
  have hna : na ≤ 40 := by have := hg.size; omega
  have hnb : nb ≤ 40 := by have := hg2.size; omega
  have hnb1 : (0 : Int) < (nb : Int) := by have := hg2.size; omega
  have hnb0 : ¬ nb = 0 := by omega
  have hr3 : r ≤ 3 := by have := hg.rank; omega
  have hl := hg.len
  have hl2 := hg2.len
  have hgl : ∀ e ∈ ea, 1 ≤ e.l ∧ e.l ≤ 3 := fun e he => by have := hg.all e he; unfold InG at this; omega
  have hgl2 : ∀ e ∈ eb, 1 ≤ e.l ∧ e.l ≤ 3 := fun e he => by have := hg2.all e he; unfold InG at this; omega
  have hp0 : PIn na nb ((u : Int), (v : Int)) := ⟨Int.natCast_nonneg _, Int.ofNat_lt.2 hu, Int.natCast_nonneg _, Int.ofNat_lt.2 hv⟩
  have hmulb : (na : Int) * (nb : Int) ≤ 40 * 40 := Int.mul_le_mul (by omega) (by omega) (by omega) (by omega)
  obtain ⟨N, hN⟩ : ∃ N : Nat, (na : Int) * (nb : Int) = (N : Int) := ⟨na * nb, by simp⟩
  have hN16 : N ≤ 1600 := by rw [hN] at hmulb; omega
  obtain ⟨q0, u', v', m0, hpq, -, -, hm0e, hq0e, hq0, hpc0, hmq0, -, -⟩ := pcode_nat hN hp0
  simp only [Prod.mk.injEq, Int.ofNat_inj] at hpq
  obtain ⟨rfl, rfl⟩ := hpq
  have hmx : N ≤ maxLen := by unfold maxLen; omega
  have HP0 := Lib.hid hp0
  have HPC := Lib.hid hpc0
  have HG := Lib.hid hg
  have HG2 := Lib.hid hg2
  have HGL := Lib.hid hgl
  have HGL2 := Lib.hid hgl2
  have HNN := Lib.hid hN
  have hm0 : Mid 0 0 w ((w.alloc (.cells #[.int .i64 r, .int .i64 na, .slice A ea.length c] 29)).alloc (.cells #[.int .i64 r, .int .i64 nb, .slice B eb.length d] 29)) := (Mid.alloc _ _).trans (Mid.alloc _ _)
  have B0 := (Box.new w #[.int .i64 r, .int .i64 na, .slice A ea.length c] 29).mid (Mid.alloc _ (.cells #[.int .i64 r, .int .i64 nb, .slice B eb.length d] 29)) (Or.inr (Nat.zero_le _))
  have B1 := Box.new (w.alloc (.cells #[.int .i64 r, .int .i64 na, .slice A ea.length c] 29)) #[.int .i64 r, .int .i64 nb, .slice B eb.length d] 29
  rw [World.size_alloc] at B1
  clear hg hg2 hgl hgl2 hp0 hpc0 hmulb
  go_enter Tryz.func121, Tryz.ntmps121
  have p0 := B0.cell 0 rfl
  have p1 := B0.cell 1 rfl
  have p2 := B0.cell 2 rfl
  have p'0 := B1.cell 0 rfl
  have p'1 := B1.cell 1 rfl
  have p'2 := B1.cell 2 rfl
  go_wp2_with (at_make; refine MarkerX.to ?_)
  unfold MarkerX
  refine wpList_mk rfl _ _ 113 rfl 4 (.bool false) 1 undSB infoB rfl .i64 .i64 _ _ N rfl rfl rfl rfl (by omega) hmx ?_
  intro w2 hown2 hgr2 hsz2
  simp only [World.size_alloc] at hown2 hsz2
  have hm2 := hm0.trans (Mid.of_grown hgr2 (by intro g h; cases h))
  have hmg := Mid.of_grown (lo := 0) (hi := 0) hgr2 (by intro g h; cases h)
  have hst2 := Mid.setAt w2 (w.heap.size + 1 + 1) q0 (.bool true)
  replace B0 := B0.mid hmg (Or.inr (Nat.zero_le _))
  replace B1 := B1.mid hmg (Or.inr (Nat.zero_le _))
  clear hmg hm0 hgr2 p0 p1 p2 p'0 p'1 p'2
  have B0s := B0.mid hst2 (Or.inl (by omega))
  have B1s := B1.mid hst2 (Or.inl (by omega))
  have hwa : w.heap.size < w2.heap.size := by omega
  have hwb : w.heap.size + 1 < w2.heap.size := by omega
  have p0 := B0s.cell 0 rfl
  have p'0 := B1s.cell 0 rfl
  have p'1 := B1.cell 1 rfl
  have hal := hown2.alloc (.cells #[.int .i64 q0] 3)
  have hfz := hal.frozenAt q0
  obtain ⟨u0, -, hcs⟩ := owns_cell hal hq0
  clear hal
  have O0 := owns_lit (w2.setCell ⟨w.heap.size + 1 + 1, q0, none⟩ (.bool true)) 3 (.int .i64 q0)
  have hset := owns_set (ys := seenOf N [(q0 : Int)]) hown2 q0 (.bool true) (by rw [← seenOf_nil, seenOf_set hq0]; rfl)
  have hms := Mid.storeNew hm2 (p := ⟨w.heap.size + 1 + 1, q0, none⟩) (Nat.le_succ_of_le (Nat.le_succ_of_le (Nat.le_refl _))) (.bool true)
  have hal := Mid.alloc (w2.setCell ⟨w.heap.size + 1 + 1, q0, none⟩ (.bool true)) (.cells #[.int .i64 q0] 3)
  simp only [World.size_setCell] at O0
  go_wp2_with fail
  with_reducible refine (spec_l5Letters r _ (by omega)).mono ?_
  rintro en w4 ⟨A4, c4, rfl, hL4, hm4⟩
  have hs4 : w2.heap.size + 1 ≤ w4.heap.size := by have := hm4.size; simpa using this
  rw [World.size_alloc, World.size_setCell] at hL4
  replace B0s := B0s.mid hal (Or.inr (Nat.zero_le _))
  replace B1s := B1s.mid hal (Or.inr (Nat.zero_le _))
  replace hset := owns_mid hset hal (Or.inl (Nat.zero_le _))
  replace hms := hms.trans hal
  replace B0s := B0s.mid hm4 (Or.inr (Nat.zero_le _))
  replace B1s := B1s.mid hm4 (Or.inr (Nat.zero_le _))
  replace hset := owns_mid hset hm4 (Or.inl (Nat.zero_le _))
  replace O0 := owns_mid O0 hm4 (Or.inl (Nat.zero_le _))
  replace hms := hms.trans hm4
  have hst0 : (pbSt ea eb (lets r) ((u : Int), (v : Int)) 0).map (pcode nb) = [(q0 : Int)] := by
    show [pcode nb ((u : Int), (v : Int))] = _
    rw [HPC.out]
  have HST0 := Lib.hid hst0
  clear p0 p'0 p'1 hal hm4 hm2 hst2 hcs hfz hown2 B0 B1 hst0 hm0e hq0e
  have HLL := Lib.hid (lets_len r)
  obtain ⟨LL, hLL⟩ : ∃ LL, (lets r).length = LL := ⟨_, rfl⟩
  have hLL6 : LL ≤ 6 := by have := HLL.out; omega
  rw [hLL]
  have HLn := Lib.hid hLL
  clear hLL
  go_wp2_with fail
  go_loopw [10, 12] (fun ord iv wr => ∃ (i n1 : Nat) (A1 : Option Addr) (c1 : Nat), i ≤ n1 ∧ iv = .int .i64 i ∧ ord = .slice A1 n1 c1 ∧ Hid ((pbSt ea eb (lets r) (u, v) i).length = n1) ∧
      wr.ownsRow w2.heap.size 3 1 (.slice A1 n1 c1) n1 (ints ((pbSt ea eb (lets r) (u, v) i).map (pcode nb))) ∧ wr.ownsRow (w.heap.size + 1 + 1) 4 1 (.slice (some ⟨w.heap.size + 1 + 1, 0, none⟩) N N) N (seenOf N ((pbSt ea eb (lets r) (u, v) i).map (pcode nb))) ∧
          Hid (RV wr (w2.heap.size + 1) w4.heap.size A4 (ints (lets r))) ∧ Hid (∀ g, Value.ownBlock (.slice A1 n1 c1) = some g → g < w2.heap.size + 1 ∨ w4.heap.size ≤ g) ∧ Box wr w.heap.size [.int .i64 r, .int .i64 na, .slice A ea.length c] ∧ Box wr (w.heap.size + 1) [.int .i64 r, .int .i64 nb, .slice B eb.length d] ∧ Mid 0 0 w wr) (fun _ i _ => (1601 - intOf i).toNat)
  case atStart => exact ⟨0, 1, _, 1, Nat.zero_le _, rfl, rfl, Lib.hid rfl, by rw [HST0.out]; exact O0, by rw [HST0.out]; exact hset, Lib.hid hL4, Lib.hid (fun g hg => by injection hg with hg; simp at hg; omega), B0s, B1s, hms⟩
  case round =>
    clear O0 hset hL4 B0s B1s hms
    obtain ⟨wo, hwo⟩ : ∃ wo, wo = wr := ⟨_, rfl⟩
    subst hwo
    obtain ⟨i, n1, A1, c1, hin, rfl, rfl, HN, hord, hsee, HL4, HD, bx, bz, hm⟩ := hrel
    have hn1 : n1 ≤ 1600 := by have h1 := pb_len (lets r) HG.out HG2.out HP0.out i; have h2 := HN.out; omega
    have HOK := Lib.hid (pbSt_ok (lets r) HG.out.all HG2.out.all HP0.out i)
    by_cases hlt : i < n1
    · obtain ⟨p, hp⟩ := get_of_lt (pbSt ea eb (lets r) (u, v) i) (show i < (pbSt ea eb (lets r) (u, v) i).length by rw [HN.out]; exact hlt)
      have hpin := HOK.out.rng p (List.mem_of_getElem? hp)
      obtain ⟨q, a, b, m, rfl, ha, hb, -, -, hq, hpc, -, hqd, hqm⟩ := pcode_nat HNN.out hpin
      have HP := Lib.hid hp
      have HQ := Lib.hid hpc
      have hNX := Lib.hid (pbSt_succ hp)
      have hi0 : (0 : Int) ≤ (i : Int) := by omega
      clear hp hpin hpc
      go_wp2_with fail
      go_loopw [10, 13] (fun ord jv wr => ∃ (j n1 : Nat) (A1 : Option Addr) (c1 : Nat), j ≤ LL ∧ jv = .int .i64 j ∧ ord = .slice A1 n1 c1 ∧ Hid ((pbRow ea eb ((lets r).take j) (a, b) (pbSt ea eb (lets r) (u, v) i)).length = n1) ∧
          wr.ownsRow w2.heap.size 3 1 (.slice A1 n1 c1) n1 (ints ((pbRow ea eb ((lets r).take j) (a, b) (pbSt ea eb (lets r) (u, v) i)).map (pcode nb))) ∧ wr.ownsRow (w.heap.size + 1 + 1) 4 1 (.slice (some ⟨w.heap.size + 1 + 1, 0, none⟩) N N) N (seenOf N ((pbRow ea eb ((lets r).take j) (a, b) (pbSt ea eb (lets r) (u, v) i)).map (pcode nb))) ∧
          Hid (RV wr (w2.heap.size + 1) w4.heap.size A4 (ints (lets r))) ∧ Hid (∀ g, Value.ownBlock (.slice A1 n1 c1) = some g → g < w2.heap.size + 1 ∨ w4.heap.size ≤ g) ∧ Box wr w.heap.size [.int .i64 r, .int .i64 na, .slice A ea.length c] ∧ Box wr (w.heap.size + 1) [.int .i64 r, .int .i64 nb, .slice B eb.length d] ∧ Mid 0 0 w wr) (fun _ j _ => LL - (intOf j).toNat)
      case atStart => exact ⟨0, n1, _, c1, Nat.zero_le _, rfl, rfl, by rw [List.take_zero]; exact HN, hord, hsee, HL4, HD, bx, bz, hm⟩
      case round =>
        clear hord hsee HL4 HD bx bz hm
        obtain ⟨j, n1, A1, c1, hj, rfl, rfl, HN, hord, hsee, HL4, HD, bx, bz, hm⟩ := hrel
        obtain ⟨stj, hstj⟩ : ∃ st, pbRow ea eb ((lets r).take j) (a, b) (pbSt ea eb (lets r) (u, v) i) = st := ⟨_, rfl⟩
        have hokj : PbOk na nb stj := by rw [← hstj]; exact PbOk.row HG.out.all HG2.out.all _ _ HOK.out
        have hpj : stj[i]? = some ((a : Int), (b : Int)) := by rw [← hstj]; exact prefix_get (pbRow_pre _ _ _ _ _) HP.out
        rw [hstj] at HN hord hsee
        have hn1b : n1 ≤ 1600 := by
          have h1 := hokj.len (Int.natCast_nonneg _) (Int.natCast_nonneg _)
          have h2 := HN.out
          rw [HNN.out] at h1
          omega
        by_cases hlt2 : j < LL
        · obtain ⟨B4, o4, x, rfl, hB4, hx, hcx⟩ := HL4.out.at (k := j) (by rw [HLn.out]; exact hlt2)
          have hxm := lets_le (List.mem_of_getElem? hx)
          have hnx := pbRow_take (ea := ea) (eb := eb) (p := ((a : Int), (b : Int))) (st := pbSt ea eb (lets r) (u, v) i) hx
          rw [hstj] at hnx
          have hj0 : (0 : Int) ≤ (j : Int) := by omega
          have hj1 : (j : Int) < (LL : Int) := by omega
          have hil : i < n1 := by have h1 := (List.getElem?_eq_some_iff.1 hpj).1; have h2 := HN.out; omega
          have hi1 : (i : Int) < (n1 : Int) := by omega
          obtain ⟨g1, rfl, hg1, hg1s⟩ := owns_addr hord (show 0 < n1 by omega)
          have hcu : wr.cell? ⟨g1, i, none⟩ = some (.int .i64 q) := (hord.cellAt i (by omega)).trans (by rw [ints_get, List.getElem?_map, hpj]; show some (Value.int .i64 (pcode nb ((a : Int), (b : Int)))) = _; rw [HQ.out])
          have hB4s : B4 < wr.heap.size := Nat.lt_of_lt_of_le hB4 HL4.out.1
          have hcs1 := nextV_cases HG.out.all (a : Int) x
          have hcs2 := nextV_cases HG2.out.all (b : Int) x
          have HOJ := Lib.hid hokj
          have HNX0 := Lib.hid hnx
          have HX := Lib.hid hx
          have HPJ := Lib.hid hpj
          have HCS1 := Lib.hid hcs1
          have HCS2 := Lib.hid hcs2
          have hwa : IntKind.i64.wrap (a : Int) = (a : Int) := IntWalk.i64_in _ (by omega)
          have hwb : IntKind.i64.wrap (b : Int) = (b : Int) := IntWalk.i64_in _ (by omega)
          have k0 := wg_cell bx.1 (bx.cell 0 rfl)
          have k1 := wg_cell bx.1 (bx.cell 1 rfl)
          have k2 := wg_cell bx.1 (bx.cell 2 rfl)
          have k3 := wg_cell hg1s hcu
          have k4 := wg_cell hB4s hcx
          have k5 := wg_cell bz.1 (bz.cell 1 rfl)
          have hA := fun m os => spec_NextVertex r na A ea c a x (wg wr m os) lo hi (hr.mid (hm.trans (Mid.ofWg wr m os)) (Or.inl (Nat.zero_le _))) (by omega) HGL.out (by omega) (by omega)
          clear hx hokj hpj hstj hcu hcx hnx hcs1 hcs2
          go_wp2_with fail
          refine wp_region_quiet_wg (by kernel_rfl) (by kernel_rfl) ?_
          repeat
            (with_reducible refine wpQuiet_step (fun K hK => ?_))
            go_simp
            first
              | ((with_reducible refine hK _ ?_); clear hK K)
              | (rw [if_neg (by decide)]; (with_reducible refine hK _ ?_); clear hK K)
              | (apply Exists.intro; refine ⟨fun _ => ?_, hK _ ?_⟩; ((go_at_call 93; exact Calls.wg_of (hA _ _))); clear hK K)
          with_reducible refine wpQuiet_nil ?_
          intro _ hw'
          obtain ⟨⟨nq, osq⟩, hw''⟩ := hw'
          subst hw''
          have hwg := Mid.ofWg wr nq osq
          generalize wg wr nq osq = w6 at hwg ⊢
          replace bx := bx.mid hwg (Or.inr (Nat.zero_le _))
          replace bz := bz.mid hwg (Or.inr (Nat.zero_le _))
          replace hord := owns_mid hord hwg (Or.inl (Nat.zero_le _))
          replace hsee := owns_mid hsee hwg (Or.inl (Nat.zero_le _))
          replace hm := hm.trans hwg
          replace HL4 := Lib.hid (HL4.out.mid hwg (Or.inl (Nat.zero_le _)))
          have hg1s6 := Nat.lt_of_lt_of_le hg1s hwg.size
          have hB4s6 : B4 < w6.heap.size := Nat.lt_of_lt_of_le hB4 HL4.out.1
          obtain ⟨B5, o5, x5, hBe, hB5, hx5, hcx5⟩ := HL4.out.at (k := j) (by rw [HLn.out]; exact hlt2)
          injection hBe with hBe
          injection hBe with hBe1 hBe2
          subst hBe1
          subst hBe2
          have hxx : x5 = x := by have h := HX.out; rw [hx5] at h; injection h
          subst hxx
          have hcu6 : w6.cell? ⟨g1, i, none⟩ = some (.int .i64 q) := (hord.cellAt i (by omega)).trans (by rw [ints_get, List.getElem?_map, HPJ.out]; show some (Value.int .i64 (pcode nb ((a : Int), (b : Int)))) = _; rw [HQ.out])
          clear k0 k1 k2 k3 k4 k5 hA
          have k0 := wg_cell bz.1 (bz.cell 0 rfl)
          have k1 := wg_cell bz.1 (bz.cell 1 rfl)
          have k2 := wg_cell bz.1 (bz.cell 2 rfl)
          have k3 := wg_cell hg1s6 hcu6
          have k4 := wg_cell hB4s6 hcx5
          have hA := fun m os => spec_NextVertex r nb B eb d b x5 (wg w6 m os) lo2 hi2 (hr2.mid (hm.trans (Mid.ofWg w6 m os)) (Or.inl (Nat.zero_le _))) (by omega) HGL2.out (by omega) (by omega)
          clear hx5 hcx5 hcu6
          go_wp2_with fail
          refine wp_region_quiet_wg (by kernel_rfl) (by kernel_rfl) ?_
          repeat
            (with_reducible refine wpQuiet_step (fun K hK => ?_))
            go_simp
            first
              | ((with_reducible refine hK _ ?_); clear hK K)
              | (rw [if_neg (by decide)]; (with_reducible refine hK _ ?_); clear hK K)
              | (apply Exists.intro; refine ⟨fun _ => ?_, hK _ ?_⟩; ((go_at_call 93; exact Calls.wg_of (hA _ _))); clear hK K)
          with_reducible refine wpQuiet_nil ?_
          intro _ hw'
          obtain ⟨⟨nq, osq⟩, hw''⟩ := hw'
          subst hw''
          have hwg2 := Mid.ofWg w6 nq osq
          generalize wg w6 nq osq = w7 at hwg2 ⊢
          replace bx := bx.mid hwg2 (Or.inr (Nat.zero_le _))
          replace bz := bz.mid hwg2 (Or.inr (Nat.zero_le _))
          replace hord := owns_mid hord hwg2 (Or.inl (Nat.zero_le _))
          replace hsee := owns_mid hsee hwg2 (Or.inl (Nat.zero_le _))
          replace hm := hm.trans hwg2
          replace HL4 := Lib.hid (HL4.out.mid hwg2 (Or.inl (Nat.zero_le _)))
          clear k0 k1 k2 k3 k4 hA hwg hwg2 hg1s6 hB4s6 hB4s hg1s
          have k1 := bz.cell 1 rfl
          by_cases ht1 : nextV ea a x5 < 0
          · have b1 : decide (0 ≤ nextV ea a x5) = false := by simp; omega
            have HNX := Lib.hid (HNX0.out.trans (pbStep_no1 ht1))
            clear ht1
            go_wp2_with fail
            go_roundw
            case rel => exact ⟨j + 1, n1, _, c1, by omega, by go_num, rfl, by rw [HNX.out]; exact HN, by rw [HNX.out]; exact hord, by rw [HNX.out]; exact hsee, HL4, HD, bx, bz, hm⟩
            case measure => simp [intOf]; omega
          · have b1 : decide (0 ≤ nextV ea a x5) = true := by simp; omega
            by_cases ht2 : nextV eb b x5 < 0
            · have b2 : decide (0 ≤ nextV eb b x5) = false := by simp; omega
              have HNX := Lib.hid (HNX0.out.trans (pbStep_no2 ht2))
              clear ht1 ht2
              go_wp2_with fail
              go_roundw
              case rel => exact ⟨j + 1, n1, _, c1, by omega, by go_num, rfl, by rw [HNX.out]; exact HN, by rw [HNX.out]; exact hord, by rw [HNX.out]; exact hsee, HL4, HD, bx, bz, hm⟩
              case measure => simp [intOf]; omega
            · have hpin2 := pbNext_in HG.out.all HG2.out.all ((a : Int), (b : Int)) ht1 ht2
              obtain ⟨q', x', y', m', hpe, hx', hy', hme', hqe', hq', hpc', hmq', -, -⟩ := pcode_nat HNN.out hpin2
              have htx : nextV ea a x5 = (x' : Int) := congrArg Prod.fst hpe
              have hty : nextV eb b x5 = (y' : Int) := congrArg Prod.snd hpe
              have HMEM := Lib.hid (HOJ.out.mem hpin2)
              have HQ' := Lib.hid hpc'
              have HT1 := Lib.hid ht1
              have HT2 := Lib.hid ht2
              simp only [htx, hty]
              clear b1 ht1 ht2 hpe htx hty hpin2 hpc'
              have c1' : decide ((0 : Int) ≤ (x' : Int)) = true := by simp
              have c2' : decide ((0 : Int) ≤ (y' : Int)) = true := by simp
              obtain ⟨bb, hbb⟩ : ∃ bb : Bool, decide ((q' : Int) ∈ stj.map (pcode nb)) = bb := ⟨_, rfl⟩
              have hcs := (hsee.cellAt q' (by omega)).trans (seenOf_get hq')
              rw [hbb] at hcs
              cases bb with
              | true =>
                have hin' := HMEM.out.1 (by rw [HQ'.out]; exact of_decide_eq_true hbb)
                have HNX := Lib.hid (HNX0.out.trans (pbStep_no3 hin'))
                clear hbb hin'
                go_wp2_with fail
                go_roundw
                case rel => exact ⟨j + 1, n1, _, c1, by omega, by go_num, rfl, by rw [HNX.out]; exact HN, by rw [HNX.out]; exact hord, by rw [HNX.out]; exact hsee, HL4, HD, bx, bz, hm⟩
                case measure => simp [intOf]; omega
              | false =>
                have hnin : pbNext ea eb ((a : Int), (b : Int)) x5 ∉ stj := fun h => by
                  have := HMEM.out.2 h
                  rw [HQ'.out] at this
                  exact absurd this (of_decide_eq_false hbb)
                have HNX := Lib.hid (HNX0.out.trans (pbStep_yes HT1.out HT2.out hnin))
                have HMAP : Hid ((stj ++ [pbNext ea eb ((a : Int), (b : Int)) x5]).map (pcode nb) = stj.map (pcode nb) ++ [(q' : Int)]) := Lib.hid (by rw [List.map_append, ← HQ'.out]; rfl)
                have hst7 := Mid.setAt w7 (w.heap.size + 1 + 1) q' (.bool true)
                have hfz := hsee.frozenAt q'
                have hse8 := owns_set hsee q' (.bool true) (seenOf_set hq')
                have hord8 := owns_mid hord hst7 (Or.inl (by omega))
                have bx8 := bx.mid hst7 (Or.inl (by omega))
                have bz8 := bz.mid hst7 (Or.inl (by omega))
                have hm8 := hm.transNew hst7 (Or.inl (by omega))
                have HL8 := Lib.hid (HL4.out.mid hst7 (Or.inl (by omega)))
                have HO9 := Lib.hid hord8
                have HS9 := Lib.hid hse8
                have hsz7 : w2.heap.size ≤ w7.heap.size := by have := HL4.out.1; omega
                have k1' := bz8.cell 1 rfl
                clear hbb hnin hord hord8 hsee hse8 hst7
                go_wp2_with (at_builtin; refine wpList_pushI2 rfl _ _ rfl w2.heap.size _ n1 c1 (stj.map (pcode nb)) rfl HO9.out q' (by rw [World.size_setCell]; rfl) (by omega) (by rw [World.size_setCell]; exact hsz7) ?_; intro A10 c10 w10 hord10 hgr10 hat10)
                rw [World.size_setCell] at hat10
                have hm10 := Mid.of_grownRow HO9.out hgr10
                have bx10 := bx8.mid hm10 (Or.inl (by omega))
                have bz10 := bz8.mid hm10 (Or.inl (by omega))
                have hsee10 := owns_other HS9.out hgr10 (fun h => by simp [Value.ownBlock] at h; omega)
                have hL10 := HL8.out.grown hgr10 HD.out
                have hmm10 := hm8.transNew hm10 (Or.inl (by omega))
                have hw47 : w4.heap.size ≤ w7.heap.size := HL4.out.1
                have HD10 : Hid (∀ g, Value.ownBlock (.slice A10 (n1 + 1) c10) = some g → g < w2.heap.size + 1 ∨ w4.heap.size ≤ g) := Lib.hid (by
                  intro g hg
                  rcases hat10 with h | h
                  · exact HD.out g (h.symm.trans hg)
                  · rw [h] at hg
                    injection hg with hg
                    omega)
                have HL10 := Lib.hid hL10
                clear hL10 hat10 hgr10
                go_roundw
                case rel => exact ⟨j + 1, n1 + 1, A10, c10, by omega, by go_num, rfl, Lib.hid (by rw [HNX.out, List.length_append, HN.out]; rfl), by rw [HNX.out, HMAP.out]; exact hord10, by rw [HNX.out, HMAP.out]; exact hsee10, HL10, HD10, bx10, bz10, hmm10⟩
                case measure => simp [intOf]; omega
        · obtain rfl : j = LL := by omega
          have htk : (lets r).take j = lets r := List.take_of_length_le (by rw [HLn.out]; exact Nat.le_refl _)
          rw [htk] at hstj
          have hnx := hNX.out
          rw [hstj] at hnx
          have HNX := Lib.hid hnx
          have hin1 : i + 1 ≤ n1 := by have h1 := (List.getElem?_eq_some_iff.1 hpj).1; have h2 := HN.out; omega
          clear hnx hstj hpj
          go_wp2_with fail
          go_roundw
          case rel => exact ⟨i + 1, n1, A1, c1, hin1, by go_num, rfl, by rw [HNX.out]; exact HN, by rw [HNX.out]; exact hord, by rw [HNX.out]; exact hsee, HL4, HD, bx, bz, hm⟩
          case measure => simp [intOf]; omega
    · obtain rfl : i = n1 := by omega
      have HPE := Lib.hid (pairs_eq HG.out HG2.out HP0.out HN.out)
      go_wp2_with fail
      go_ret
      exact ⟨A1, c1, by rw [HPE.out, HN.out]; rfl, by rw [HPE.out]; exact (owns_rv hord).wide (Nat.zero_le _) (Nat.le_refl _) (Nat.le_refl _), hm⟩
end Go.Proofs.YtimmnnncgnnkgaaGreat

/- l14Edges, the reference. -/
namespace Go.Proofs.YtimmnnncgnnkgaaGreat
set_option linter.unusedVariables false
set_option linter.unusedSimpArgs false
open Go.RowKit

theorem pbEs_no {ea eb : List Ed} {P : PS} {i : Nat} {p : Int × Int} {k : Nat} (h : nextV ea p.1 ((k : Int) + 1) < 0 ∨ nextV eb p.2 ((k : Int) + 1) < 0) : pbEs ea eb P i p (k + 1) = pbEs ea eb P i p k := by
  rw [pbEs_succ, pbEd, if_pos h]
  simp
theorem pbEs_yes {ea eb : List Ed} {P : PS} {i : Nat} {p : Int × Int} {k : Nat} (h1 : ¬ nextV ea p.1 ((k : Int) + 1) < 0) (h2 : ¬ nextV eb p.2 ((k : Int) + 1) < 0) : pbEs ea eb P i p (k + 1) = pbEs ea eb P i p k ++ [⟨i, (k : Int) + 1, (P.idxOf (pbNext ea eb p ((k : Int) + 1)) : Nat)⟩] := by
  rw [pbEs_succ, pbEd, if_neg (fun h => h.elim h1 h2)]
  simp

set_option maxHeartbeats 6400000 in
set_option maxRecDepth 100000 in
theorem spec_l14Edges (r na nb : Nat) (A B AP : Option Addr) (ea eb : List Ed) (P : PS) (c d cp PL : Nat) (w : World) (lo hi lo2 hi2 lo3 hi3 : Nat) (hr : RG w lo hi A ea) (hr2 : RG w lo2 hi2 B eb) (hr3 : RV w lo3 hi3 AP (ints (P.map (pcode nb)))) (hg : IsGr r na ea) (hg2 : IsGr r nb eb) (hin : ∀ p ∈ P, PIn na nb p) (hPL : P.length = PL) (hPl : PL ≤ 1600) :
    Calls Tryz.prog 122 #[graV r na A ea.length c, graV r nb B eb.length d, .slice AP PL cp] w fun e w' => e = .returned (.int .i64 ((pbAll ea eb r P PL).length : Nat)) ∧ Mid 0 0 w w' := by
  have hna : na ≤ 40 := by have := hg.size; omega
  have hnb : nb ≤ 40 := by have := hg2.size; omega
  have hnb0 : ¬ nb = 0 := by have := hg2.size; omega
  have hrr : r ≤ 3 := by have := hg.rank; omega
  have hl := hg.len
  have hl2 := hg2.len
  have hgl : ∀ e ∈ ea, 1 ≤ e.l ∧ e.l ≤ 3 := fun e he => by have := hg.all e he; unfold InG at this; omega
  have hgl2 : ∀ e ∈ eb, 1 ≤ e.l ∧ e.l ≤ 3 := fun e he => by have := hg2.all e he; unfold InG at this; omega
  obtain ⟨N, hN⟩ : ∃ N : Nat, (na : Int) * (nb : Int) = (N : Int) := ⟨na * nb, by simp⟩
  have hall : ∀ i, i ≤ PL → (pbAll ea eb r P i).length ≤ 4800 := fun i hi => by
    have h1 := pbAll_len ea eb r P i
    have h2 : i * r ≤ 1600 * 3 := Nat.mul_le_mul (by omega) hrr
    omega
  have HALL := Lib.hid hall
  have HG := Lib.hid hg
  have HG2 := Lib.hid hg2
  have HGL := Lib.hid hgl
  have HGL2 := Lib.hid hgl2
  have HNN := Lib.hid hN
  have HIN := Lib.hid hin
  have HPL := Lib.hid hPL
  have hm0 : Mid 0 0 w ((w.alloc (.cells #[.int .i64 r, .int .i64 na, .slice A ea.length c] 29)).alloc (.cells #[.int .i64 r, .int .i64 nb, .slice B eb.length d] 29)) := (Mid.alloc _ _).trans (Mid.alloc _ _)
  have B0 := (Box.new w #[.int .i64 r, .int .i64 na, .slice A ea.length c] 29).mid (Mid.alloc _ (.cells #[.int .i64 r, .int .i64 nb, .slice B eb.length d] 29)) (Or.inr (Nat.zero_le _))
  have B1 := Box.new (w.alloc (.cells #[.int .i64 r, .int .i64 na, .slice A ea.length c] 29)) #[.int .i64 r, .int .i64 nb, .slice B eb.length d] 29
  rw [World.size_alloc] at B1
  clear hg hg2 hgl hgl2 hin hN hPL hall
  go_enter Tryz.func122, Tryz.ntmps122
  go_wp2_with fail
  go_loopw [7, 8] (fun nv iv wr => ∃ (i m : Nat), i ≤ PL ∧ iv = .int .i64 i ∧ nv = .int .i64 m ∧ Hid ((pbAll ea eb r P i).length = m) ∧
      Box wr w.heap.size [.int .i64 r, .int .i64 na, .slice A ea.length c] ∧ Box wr (w.heap.size + 1) [.int .i64 r, .int .i64 nb, .slice B eb.length d] ∧ Mid 0 0 w wr) (fun _ i _ => PL - (intOf i).toNat)
  case atStart => exact ⟨0, 0, Nat.zero_le _, rfl, rfl, Lib.hid rfl, B0, B1, hm0⟩
  case round =>
    clear B0 B1 hm0
    obtain ⟨wo, hwo⟩ : ∃ wo, wo = wr := ⟨_, rfl⟩
    subst hwo
    obtain ⟨i, m0, hil, rfl, rfl, HN, bx, bz, hm⟩ := hrel
    by_cases hlt : i < PL
    · obtain ⟨p, hp⟩ := get_of_lt P (show i < P.length by rw [HPL.out]; exact hlt)
      obtain ⟨q, a, b, m, rfl, ha, hb, -, -, hq, hpc, -, hqd, hqm⟩ := pcode_nat HNN.out (HIN.out p (List.mem_of_getElem? hp))
      have HP := Lib.hid hp
      have HQ := Lib.hid hpc
      have HS := Lib.hid (pbAll_succ (ea := ea) (eb := eb) (r := r) hp)
      have hi0 : (0 : Int) ≤ (i : Int) := by omega
      have hi1 : (i : Int) < (PL : Int) := by omega
      have hm00 : m0 ≤ 4800 := by have h1 := HALL.out i hil; have h2 := HN.out; omega
      clear hp hpc
      go_wp2_with fail
      go_loopw [7, 9] (fun nv xv wr => ∃ (k m : Nat), k ≤ r ∧ xv = .int .i64 ((k : Int) + 1) ∧ nv = .int .i64 m ∧ Hid (m0 + (pbEs ea eb P i ((a : Int), (b : Int)) k).length = m) ∧
        Box wr w.heap.size [.int .i64 r, .int .i64 na, .slice A ea.length c] ∧ Box wr (w.heap.size + 1) [.int .i64 r, .int .i64 nb, .slice B eb.length d] ∧ Mid 0 0 w wr) (fun _ x _ => (r + 1 - intOf x).toNat)
      case atStart => exact ⟨0, m0, Nat.zero_le _, by go_num, rfl, Lib.hid (by simp [pbEs]), bx, bz, hm⟩
      case round =>
        clear bx bz hm
        obtain ⟨k, m1, hk, rfl, rfl, HM, bx, bz, hm⟩ := hrel
        have hm1b : m1 ≤ 4803 := by have h1 := pbEs_len ea eb P i ((a : Int), (b : Int)) k; have h2 := HM.out; omega
        have p0 := bx.cell 0 rfl
        have p'0 := bz.cell 0 rfl
        by_cases hlt2 : k < r
        · have hkr : (k : Int) + 1 ≤ (r : Int) := by omega
          obtain ⟨B4, o4, x, rfl, hB4, hx, hcx⟩ := (hr3.mid hm (Or.inl (Nat.zero_le _))).at (k := i) (by rw [List.length_map, HPL.out]; exact hlt)
          have hxq : x = (q : Int) := by
            rw [List.getElem?_map, HP.out] at hx
            injection hx with hx
            exact hx.symm.trans HQ.out
          subst hxq
          have hB4s : B4 < wr.heap.size := Nat.lt_of_lt_of_le hB4 (hr3.mid hm (Or.inl (Nat.zero_le _))).1
          have hwa : IntKind.i64.wrap (a : Int) = (a : Int) := IntWalk.i64_in _ (by omega)
          have hwb : IntKind.i64.wrap (b : Int) = (b : Int) := IntWalk.i64_in _ (by omega)
          have k0 := wg_cell bx.1 (bx.cell 0 rfl)
          have k1 := wg_cell bx.1 (bx.cell 1 rfl)
          have k2 := wg_cell bx.1 (bx.cell 2 rfl)
          have k3 := wg_cell hB4s hcx
          have k5 := wg_cell bz.1 (bz.cell 0 rfl)
          have k6 := wg_cell bz.1 (bz.cell 1 rfl)
          have k7 := wg_cell bz.1 (bz.cell 2 rfl)
          have hA := fun m os => spec_NextVertex r na A ea c a ((k : Int) + 1) (wg wr m os) lo hi (hr.mid (hm.trans (Mid.ofWg wr m os)) (Or.inl (Nat.zero_le _))) (by omega) HGL.out (by omega) (by omega)
          have hB := fun m os => spec_NextVertex r nb B eb d b ((k : Int) + 1) (wg wr m os) lo2 hi2 (hr2.mid (hm.trans (Mid.ofWg wr m os)) (Or.inl (Nat.zero_le _))) (by omega) HGL2.out (by omega) (by omega)
          clear hx hcx
          by_cases ht1 : nextV ea a ((k : Int) + 1) < 0
          · have b1 : decide (0 ≤ nextV ea a ((k : Int) + 1)) = false := by simp; omega
            have HE := Lib.hid (pbEs_no (ea := ea) (eb := eb) (P := P) (i := i) (p := ((a : Int), (b : Int))) (Or.inl ht1))
            clear ht1
            go_wp2_with fail
            refine wp_region_quiet_wg (by kernel_rfl) (by kernel_rfl) ?_
            repeat
              (with_reducible refine wpQuiet_step (fun K hK => ?_))
              go_simp
              first
                | ((with_reducible refine hK _ ?_); clear hK K)
                | (rw [if_neg (by decide)]; (with_reducible refine hK _ ?_); clear hK K)
                | (apply Exists.intro; refine ⟨fun _ => ?_, hK _ ?_⟩; ((first | (go_at_call 93; with_reducible exact Calls.wg_of (hA _ _)) | (go_at_call 93; with_reducible exact Calls.wg_of (hB _ _)))); clear hK K)
            with_reducible refine wpQuiet_nil ?_
            intro _ hw'
            obtain ⟨⟨nq, osq⟩, hw''⟩ := hw'
            subst hw''
            have hwg := Mid.ofWg wr nq osq
            generalize wg wr nq osq = w6 at hwg ⊢
            replace bx := bx.mid hwg (Or.inr (Nat.zero_le _))
            replace bz := bz.mid hwg (Or.inr (Nat.zero_le _))
            replace hm := hm.trans hwg
            clear k0 k1 k2 k3 k5 k6 k7 hA hB p0 p'0
            go_wp2_with fail
            go_roundw
            case rel => exact ⟨k + 1, m1, by omega, by go_num, rfl, by rw [HE.out]; exact HM, bx, bz, hm⟩
            case measure => simp [intOf]; omega
          · have b1 : decide (0 ≤ nextV ea a ((k : Int) + 1)) = true := by simp; omega
            by_cases ht2 : nextV eb b ((k : Int) + 1) < 0
            · have b2 : decide (0 ≤ nextV eb b ((k : Int) + 1)) = false := by simp; omega
              have HE := Lib.hid (pbEs_no (ea := ea) (eb := eb) (P := P) (i := i) (p := ((a : Int), (b : Int))) (Or.inr ht2))
              clear ht1 ht2
              go_wp2_with fail
              refine wp_region_quiet_wg (by kernel_rfl) (by kernel_rfl) ?_
              repeat
                (with_reducible refine wpQuiet_step (fun K hK => ?_))
                go_simp
                first
                  | ((with_reducible refine hK _ ?_); clear hK K)
                  | (rw [if_neg (by decide)]; (with_reducible refine hK _ ?_); clear hK K)
                  | (apply Exists.intro; refine ⟨fun _ => ?_, hK _ ?_⟩; ((first | (go_at_call 93; with_reducible exact Calls.wg_of (hA _ _)) | (go_at_call 93; with_reducible exact Calls.wg_of (hB _ _)))); clear hK K)
              with_reducible refine wpQuiet_nil ?_
              intro _ hw'
              obtain ⟨⟨nq, osq⟩, hw''⟩ := hw'
              subst hw''
              have hwg := Mid.ofWg wr nq osq
              generalize wg wr nq osq = w6 at hwg ⊢
              replace bx := bx.mid hwg (Or.inr (Nat.zero_le _))
              replace bz := bz.mid hwg (Or.inr (Nat.zero_le _))
              replace hm := hm.trans hwg
              clear k0 k1 k2 k3 k5 k6 k7 hA hB p0 p'0
              go_wp2_with fail
              go_roundw
              case rel => exact ⟨k + 1, m1, by omega, by go_num, rfl, by rw [HE.out]; exact HM, bx, bz, hm⟩
              case measure => simp [intOf]; omega
            · have b2 : decide (0 ≤ nextV eb b ((k : Int) + 1)) = true := by simp; omega
              have HE := Lib.hid (pbEs_yes (ea := ea) (eb := eb) (P := P) (i := i) (p := ((a : Int), (b : Int))) ht1 ht2)
              clear ht1 ht2
              go_wp2_with fail
              refine wp_region_quiet_wg (by kernel_rfl) (by kernel_rfl) ?_
              repeat
                (with_reducible refine wpQuiet_step (fun K hK => ?_))
                go_simp
                first
                  | ((with_reducible refine hK _ ?_); clear hK K)
                  | (rw [if_neg (by decide)]; (with_reducible refine hK _ ?_); clear hK K)
                  | (apply Exists.intro; refine ⟨fun _ => ?_, hK _ ?_⟩; ((first | (go_at_call 93; with_reducible exact Calls.wg_of (hA _ _)) | (go_at_call 93; with_reducible exact Calls.wg_of (hB _ _)))); clear hK K)
              with_reducible refine wpQuiet_nil ?_
              intro _ hw'
              obtain ⟨⟨nq, osq⟩, hw''⟩ := hw'
              subst hw''
              have hwg := Mid.ofWg wr nq osq
              generalize wg wr nq osq = w6 at hwg ⊢
              replace bx := bx.mid hwg (Or.inr (Nat.zero_le _))
              replace bz := bz.mid hwg (Or.inr (Nat.zero_le _))
              replace hm := hm.trans hwg
              clear k0 k1 k2 k3 k5 k6 k7 hA hB p0 p'0
              go_wp2_with fail
              go_roundw
              case rel => exact ⟨k + 1, m1 + 1, by omega, by go_num, by go_num, Lib.hid (by rw [HE.out, List.length_append]; have := HM.out; simp; omega), bx, bz, hm⟩
              case measure => simp [intOf]; omega
        · obtain rfl : k = r := by omega
          go_wp2_with fail
          go_roundw
          case rel => exact ⟨i + 1, m1, by omega, by go_num, rfl, Lib.hid (by rw [HS.out, List.length_append, HN.out]; exact HM.out), bx, bz, hm⟩
          case measure => simp [intOf]; omega
    · obtain rfl : i = PL := by omega
      go_wp2_with fail
      go_ret
      exact ⟨by rw [HN.out]; rfl, hm⟩
end Go.Proofs.YtimmnnncgnnkgaaGreat

/- CompleteGraph, the reference. -/
namespace Go.Proofs.YtimmnnncgnnkgaaGreat
set_option linter.unusedVariables false
set_option linter.unusedSimpArgs false
open Go.RowKit

end Go.Proofs.YtimmnnncgnnkgaaGreat

/- Maps keyed by pairs of integers: a map that the call has made, which reads as the place of a pair in a list. -/
namespace Go.Proofs.YtimmnnncgnnkgaaGreat
set_option linter.unusedVariables false
set_option linter.unusedSimpArgs false
open Go.RowKit
open Go.Maps (Keyed)

theorem wf_small {x : Int} (h1 : -1048577 ≤ x) (h2 : x ≤ 1048577) : (Lit.int .i64 x).wf = true := by
  have e1 : IntKind.min .i64 = -9223372036854775808 := by decide
  have e2 : IntKind.max .i64 = 9223372036854775807 := by decide
  simp only [Lit.wf, e1, e2, Bool.and_eq_true, decide_eq_true_eq]
  omega
theorem undP2 : Tryz.prog.underlying 107 = some (.array 2 3) := by kernel_rfl
theorem undMP : Tryz.prog.underlying 108 = some (.map 107 3) := by kernel_rfl
theorem undSP : Tryz.prog.underlying 109 = some (.slice 107) := by kernel_rfl
theorem infoP2 : (Tryz.prog.info? 107).map (fun i => (i.zero, i.size, i.bytes)) = some (some (.agg #[.int .i64 0, .int .i64 0]), 2, 16) := by kernel_rfl
theorem laidP : laidOutB Tryz.prog = true := by kernel_rfl
theorem rowP : (107 : TypeId) < Tryz.prog.types.size := of_decide_eq_true (by kernel_rfl)
theorem wideP : (match Tryz.prog.underlying 107 with | some (.array _ _) | some (.struct _) => true | _ => false) = true := by rw [undP2]
set_option maxRecDepth 100000 in
theorem keyedP : Keyed Tryz.prog 107 := Keyed.of_law (deep_law_laid laidP (m := 2) (by omega) rowP (by kernel_rfl) wideP)
theorem zeroI (w : World) : (zeroValue 3).run Tryz.prog w = .ok (.int .i64 0) w := by kernel_rfl
theorem cellsP : Tryz.prog.cellsOf 107 = 2 := by kernel_rfl
theorem cellsI1 : Tryz.prog.cellsOf 3 = 1 := by kernel_rfl
theorem keyTP : Tryz.prog.keyType 107 = true := by kernel_rfl
theorem pos_succ {n : Nat} (h : 0 < n) : ∃ m, n = m + 1 := ⟨n - 1, by omega⟩
set_option maxRecDepth 100000 in
theorem sizeP : ∃ m, Tryz.prog.types.size = m + 1 := pos_succ (of_decide_eq_true (by kernel_rfl))

def pairV (p : Int × Int) : Value := .agg #[.int .i64 p.1, .int .i64 p.2]
def PairOk (p : Int × Int) : Prop := (Lit.int .i64 p.1).wf = true ∧ (Lit.int .i64 p.2).wf = true
theorem pair_key {p : Int × Int} (h : PairOk p) : ∃ l, keyOf Tryz.prog 107 (pairV p) = some l := by
  obtain ⟨a, b⟩ := p
  obtain ⟨h1, h2⟩ := h
  simp only at h1 h2
  have hf : (pairV (a, b)).formed Tryz.prog 107 = true := by simp [pairV, Value.formed, undP2, cellsP]
  obtain ⟨m, hm⟩ := sizeP
  have e1 : ∀ x : Int, (Lit.int .i64 x).wf = true → Tryz.prog.keyLits (m + 1) 3 [.int .i64 x] = some [.int .i64 x] := fun x hx => by simp [Program.keyLits, undI, hx]
  have hk : Tryz.prog.keyLits (m + 1 + 1) 107 (pairV (a, b)).cells.toList = some [.int .i64 a, .int .i64 b] := by
    unfold Program.keyLits
    rw [undP2]
    simp only [pairV, Value.cells, cellsP, cellsI1]
    simp [List.range, List.range.loop, e1 a h1, e1 b h2]
  unfold keyOf
  rw [undP2]
  simp only [keyTP, hf, Bool.and_self, if_true, hm, hk]
  exact ⟨_, rfl⟩
theorem pairK_ex : ∃ kf : Int × Int → Lit, (∀ p, PairOk p → keyOf Tryz.prog 107 (pairV p) = some (kf p)) ∧ (∀ p, PairOk p → WideAt.IsKeyLit (kf p)) ∧ ∀ p q, PairOk p → PairOk q → kf p = kf q → p = q := by
  have h0 : ∀ p : Int × Int, ∃ l, PairOk p → keyOf Tryz.prog 107 (pairV p) = some l := fun p => by
    by_cases hp : PairOk p
    · obtain ⟨l, hl⟩ := pair_key hp
      exact ⟨l, fun _ => hl⟩
    · exact ⟨.int .i64 0, fun h => absurd h hp⟩
  obtain ⟨kf, hkf⟩ := Classical.axiomOfChoice h0
  refine ⟨kf, hkf, fun p hp => keyedP.key (hkf p hp), fun p q hp hq h => ?_⟩
  have h1 := hkf p hp
  have h2 := hkf q hq
  rw [← h] at h2
  have h3 := keyedP.inj h1 h2
  obtain ⟨a, b⟩ := p
  obtain ⟨c, d⟩ := q
  simp only [pairV, Value.agg.injEq] at h3
  simp at h3
  rw [h3.1, h3.2]
noncomputable def pairK : Int × Int → Lit := Classical.choose pairK_ex
theorem pairK_eq {p : Int × Int} (h : PairOk p) : keyOf Tryz.prog 107 (pairV p) = some (pairK p) := (Classical.choose_spec pairK_ex).1 p h
theorem pairK_key : ∀ p, PairOk p → WideAt.IsKeyLit (pairK p) := (Classical.choose_spec pairK_ex).2.1
theorem pairK_inj {p q : Int × Int} (hp : PairOk p) (hq : PairOk q) (h : pairK p = pairK q) : p = q := (Classical.choose_spec pairK_ex).2.2 p q hp hq h

/-- Block b is a map that gives the pairs of st their places. -/
def PMap (w : World) (b : Nat) (st : PS) : Prop := ∃ D : DataW Unit, w.ownsMap Tryz.prog 107 (plainElem Tryz.prog 3) b st.length D ∧
  (∀ p, PairOk p → Maps.has D (pairK p) = decide (p ∈ st)) ∧ ∀ p, PairOk p → p ∈ st → D.atKey (pairK p) (.lit (.int .i64 0)) = .lit (.int .i64 (st.idxOf p : Nat))
theorem PMap.lt {w : World} {b : Nat} {st : PS} (h : PMap w b st) : b < w.heap.size := by
  obtain ⟨D, h, -⟩ := h
  exact h.lt
theorem PMap.made (w : World) : PMap (w.alloc (.map #[] 0)) w.heap.size [] :=
  ⟨.map [], World.ownsMap_made w _ _ _, fun p hp => by simp [Maps.has], fun p hp h => by simp at h⟩
theorem PMap.mid {w w' : World} {b lo hi : Nat} {st : PS} (h : PMap w b st) (m : Mid lo hi w w') (hd : b < lo ∨ hi ≤ b) : PMap w' b st := by
  obtain ⟨D, h, h2⟩ := h
  have hlt := h.lt
  obtain ⟨es, clock, hb, F, hs, hD⟩ := h
  exact ⟨D, ⟨es, clock, (m.block b hlt (by omega)).trans hb, F, hs, hD⟩, h2⟩
theorem idxOf_new {st : PS} {p : Int × Int} (h : p ∉ st) : (st ++ [p]).idxOf p = st.length := by
  rw [List.idxOf_append, if_neg h]
  simp
theorem idxOf_old {st : PS} {p q : Int × Int} (h : q ∈ st) : (st ++ [p]).idxOf q = st.idxOf q := by
  rw [List.idxOf_append, if_pos h]
theorem put_law {kf : Int × Int → Lit} (hkey : ∀ q, PairOk q → WideAt.IsKeyLit (kf q)) (hinj : ∀ p q, PairOk p → PairOk q → kf p = kf q → p = q) {st : PS} {D : DataW Unit} {p : Int × Int} (hD : Maps.IsMap D) (h1 : ∀ q, PairOk q → Maps.has D (kf q) = decide (q ∈ st)) (h2 : ∀ q, PairOk q → q ∈ st → D.atKey (kf q) (.lit (.int .i64 0)) = .lit (.int .i64 (st.idxOf q : Nat)))
    (hp : PairOk p) (hn : p ∉ st) : (∀ q, PairOk q → Maps.has (D.put (kf p) (.lit (.int .i64 (st.length : Nat)))) (kf q) = decide (q ∈ st ++ [p])) ∧ ∀ q, PairOk q → q ∈ st ++ [p] → (D.put (kf p) (.lit (.int .i64 (st.length : Nat)))).atKey (kf q) (.lit (.int .i64 0)) = .lit (.int .i64 ((st ++ [p]).idxOf q : Nat)) := by
  refine ⟨fun q hq => ?_, fun q hq hm => ?_⟩
  · by_cases he : q = p
    · subst he
      rw [Maps.has_put_same hD (hkey q hq)]
      simp
    · rw [Maps.has_put_other (fun h => he (hinj q p hq hp h)), h1 q hq]
      simp [he]
  · by_cases he : q = p
    · subst he
      rw [Maps.atKey_put_same hD (hkey q hq), idxOf_new hn]
    · have hm2 : q ∈ st := by
        rcases List.mem_append.1 hm with h | h
        · exact h
        · simp at h; exact absurd h he
      rw [Maps.atKey_put_other (fun h => he (hinj q p hq hp h)), h2 q hq hm2, idxOf_old hm2]
theorem PMap.put {w' : World} {b : Nat} {st : PS} {D : DataW Unit} {p : Int × Int} (hD : Maps.IsMap D) (h1 : ∀ q, PairOk q → Maps.has D (pairK q) = decide (q ∈ st)) (h2 : ∀ q, PairOk q → q ∈ st → D.atKey (pairK q) (.lit (.int .i64 0)) = .lit (.int .i64 (st.idxOf q : Nat)))
    (hp : PairOk p) (hn : p ∉ st) (h : w'.ownsMap Tryz.prog 107 (plainElem Tryz.prog 3) b (st.length + 1) (D.put (pairK p) (.lit (.int .i64 (st.length : Nat))))) : PMap w' b (st ++ [p]) := by
  have hl := put_law (kf := pairK) pairK_key (fun _ _ => pairK_inj) hD h1 h2 hp hn
  exact ⟨_, by rw [List.length_append]; exact h, hl.1, hl.2⟩
section
variable {w : World} {ops : Array Oper} {rest : List Oper} {o : Oper} {a : Act} {Q : Exit → Act → World → Prop} {b : Nat} {st : PS}
theorem wpList_pmLook (hg : o.guard = none) (m x : Operand) (hop : o.op = Op.lookup 108 m x true) (hm : a.eval m = .map (some b)) (h : PMap w b st) (p : Int × Int) (hp : PairOk p) (hx : a.eval x = pairV p)
    (hK : ∀ c : Int, (p ∈ st → c = (st.idxOf p : Nat)) → wpList Tryz.prog ops Q rest (a.put o.dst (.tuple #[.int .i64 c, .bool (decide (p ∈ st))])) w) : wpList Tryz.prog ops Q (o :: rest) a w := by
  obtain ⟨D, h, h1, h2⟩ := h
  refine wpList_lookup_own_ok_int w hg m x _ hop 107 3 .i64 keyedP undMP undI (zeroI w) b st.length D hm h _ (pairK p) hx (pairK_eq hp) ?_
  intro c hat hwc
  rw [h1 p hp]
  refine hK c fun hmem => ?_
  have := h2 p hp hmem
  rw [hat] at this
  simpa using this
theorem wpList_pmLookT (hg : o.guard = none) (m x : Operand) (hop : o.op = Op.lookup 108 m x true) (hm : a.eval m = .map (some b)) (h : PMap w b st) (p : Int × Int) (hp : PairOk p) (hmem : p ∈ st) (k : Nat) (hk : st.idxOf p = k) (hx : a.eval x = pairV p)
    (hK : wpList Tryz.prog ops Q rest (a.put o.dst (.tuple #[.int .i64 (k : Nat), .bool true])) w) : wpList Tryz.prog ops Q (o :: rest) a w := by
  refine wpList_pmLook hg m x hop hm h p hp hx fun c hc => ?_
  rw [hc hmem, decide_eq_true hmem, hk]
  exact hK
theorem wpList_pmLookF (hg : o.guard = none) (m x : Operand) (hop : o.op = Op.lookup 108 m x true) (hm : a.eval m = .map (some b)) (h : PMap w b st) (p : Int × Int) (hp : PairOk p) (hmem : p ∉ st) (hx : a.eval x = pairV p)
    (hK : ∀ c : Int, wpList Tryz.prog ops Q rest (a.put o.dst (.tuple #[.int .i64 c, .bool false])) w) : wpList Tryz.prog ops Q (o :: rest) a w := by
  refine wpList_pmLook hg m x hop hm h p hp hx fun c hc => ?_
  rw [decide_eq_false hmem]
  exact hK c
theorem wpList_pmPut (hg : o.guard = none) (m x v : Operand) (hop : o.op = Op.mapUpdate 108 m x v) (hm : a.eval m = .map (some b)) (h : PMap w b st) (p : Int × Int) (hp : PairOk p) (hn : p ∉ st) (n : Nat) (hsn : st.length = n) (hl : n ≤ 1048576) (hx : a.eval x = pairV p) (hv : a.eval v = .int .i64 (n : Nat))
    (hK : ∀ w', PMap w' b (st ++ [p]) → Mid b (b + 1) w w' → wpList Tryz.prog ops Q rest (a.put o.dst undef) w') : wpList Tryz.prog ops Q (o :: rest) a w := by
  subst hsn
  obtain ⟨D, h, h1, h2⟩ := h
  have hwf : (Lit.int .i64 (st.length : Nat)).wf = true := wf_small (by omega) (by omega)
  refine wpList_mapUpdate_own w hg m x v _ hop 107 3 keyedP undMP (plainElem Tryz.prog 3) b st.length D hm h (by unfold maxLen; omega) _ _ (pairK p) hx hv (pairK_eq hp) _ [] (plainElem_int undI hwf) ?_
  intro w' h3 h4
  exact hK w' (PMap.put h.isMap h1 h2 hp hn h3) (Mid.of_grown h4 (fun g hg => by injection hg with hg; omega))
theorem wpList_pmIns (hg : o.guard = none) (m x v : Operand) (hop : o.op = Op.insert 108 m x v) (hm : a.eval m = .map (some b)) (h : PMap w b st) (p : Int × Int) (hp : PairOk p) (hn : p ∉ st) (n : Nat) (hsn : st.length = n) (hl : n ≤ 1048576) (hx : a.eval x = pairV p) (hv : a.eval v = .int .i64 (n : Nat))
    (hK : ∀ w', PMap w' b (st ++ [p]) → Mid b (b + 1) w w' → wpList Tryz.prog ops Q rest (a.put o.dst undef) w') : wpList Tryz.prog ops Q (o :: rest) a w := by
  subst hsn
  obtain ⟨D, h, h1, h2⟩ := h
  have hwf : (Lit.int .i64 (st.length : Nat)).wf = true := wf_small (by omega) (by omega)
  have hD := h.isMap
  refine wpList_plain hg fun K' hK' => ?_
  obtain ⟨w', hrun, r1, r2⟩ := h.update keyedP undMP (by unfold maxLen; omega) (pairK_eq hp) (plainElem_int undI hwf)
  unfold Oper.wp
  simp [execOp, hop, hm, hx, hv, hrun, Result.andThen]
  exact hK' _ _ (hK w' (PMap.put hD h1 h2 hp hn r1) (Mid.of_grown r2 (fun g hg => by injection hg with hg; omega)))
end
end Go.Proofs.YtimmnnncgnnkgaaGreat

/- The state of a pullback as the program walks it. -/
namespace Go.Proofs.YtimmnnncgnnkgaaGreat
set_option linter.unusedVariables false
set_option linter.unusedSimpArgs false
open Go.RowKit

/-- A fact that no tactic looks into. -/
structure Sec (p : Prop) : Prop where
  out : p
theorem canon_put (l : List Ed) (e : Ed) : canon (l ++ [e]) = putE e (canon l) := (canon_eq (asc_putE (asc_canon l)) fun x => by rw [mem_putE, mem_canon, List.mem_append, List.mem_singleton]; exact or_comm).symm

theorem RV.atI {w : World} {lo hi b off : Nat} {l : List Int} {k : Nat} {f : Int} (h : RV w lo hi (some ⟨b, off, none⟩) (ints l)) (hk : l[k]? = some f) : b < w.heap.size ∧ w.cell? ⟨b, off + k, none⟩ = some (.int .i64 f) := by
  obtain ⟨b2, off2, f2, he, h1, h2, h3⟩ := h.at (List.getElem?_eq_some_iff.1 hk).1
  injection he with he
  injection he with he1 he2
  subst he1 he2
  rw [hk] at h2
  injection h2 with h2
  subst h2
  exact ⟨Nat.lt_of_lt_of_le h1 h.1, h3⟩
theorem pb_code {nb : Int} {P : PS} {k : Nat} {p : Int × Int} {q : Int} (hp : P[k]? = some p) (hq : pcode nb p = q) : (P.map (pcode nb))[k]? = some q := by
  rw [List.getElem?_map, hp, ← hq]
  rfl
theorem pb_idx {na nb : Int} {P : PS} (h : PbOk na nb P) {t : Int × Int} (ht : t ∈ P) {k : Nat} {p : Int × Int} (hp : P[k]? = some p) : pcode nb p = pcode nb t ↔ k = P.idxOf t := by
  have hpm := List.mem_of_getElem? hp
  have hlt := (List.getElem?_eq_some_iff.1 hp).1
  have h2 : P[P.idxOf t]? = some t := by
    rw [List.getElem?_eq_getElem (List.idxOf_lt_length_of_mem ht)]
    exact congrArg some (List.getElem_idxOf _)
  constructor
  · intro he
    have : p = t := pcode_inj (h.rng p hpm) (h.rng t ht) he
    subst this
    exact (List.getElem?_inj hlt h.nd).1 (hp.trans h2.symm)
  · intro he
    subst he
    rw [h2] at hp
    injection hp with hp
    rw [hp]

/-- The pairs' cells. -/
def prI (st : PS) : List Int := st.flatMap fun p => [p.1, p.2]
theorem prI_append (a b : PS) : prI (a ++ b) = prI a ++ prI b := by simp [prI]
theorem prI_one (p : Int × Int) : prI [p] = [p.1, p.2] := rfl
theorem prI_len : ∀ st : PS, (prI st).length = st.length * 2
  | [] => rfl
  | p :: t => by
    have h := prI_len t
    have e : prI (p :: t) = p.1 :: p.2 :: prI t := rfl
    rw [e]
    simp only [List.length_cons]
    omega
theorem prI_at : ∀ {st : PS} {k : Nat} {p : Int × Int}, st[k]? = some p → (prI st)[k * 2]? = some p.1 ∧ (prI st)[k * 2 + 1]? = some p.2
  | [], k, p, h => by simp at h
  | q :: t, 0, p, h => by
    simp at h
    subst h
    exact ⟨rfl, rfl⟩
  | q :: t, k + 1, p, h => by
    simp at h
    have h1 := prI_at h
    have e : prI (q :: t) = q.1 :: q.2 :: prI t := rfl
    rw [e, show (k + 1) * 2 = k * 2 + 1 + 1 by omega]
    exact h1
section
variable {W : World} {ops : Array Oper} {rest : List Oper} {o : Oper} {a : Act} {Q : Exit → Act → World → Prop}
theorem wpList_pushP (hgd : o.guard = none) (s x : Operand)
    (ho : o.op = .call { callee := .builtin .append, args := #[s, x], argTypes := #[109, 109] }) (lo : Nat) (A : Option Addr) (n c : Nat) (st : PS) (hs : a.eval s = .slice A n c)
    (hown : W.ownsRow lo 107 2 (.slice A n c) n (ints (prI st))) (p : Int × Int) (hx : a.eval x = .slice (some ⟨W.heap.size, 0, none⟩) 1 1) (hn : n ≤ 1048576) (hb : lo ≤ W.heap.size)
    (h : ∀ A' c' w', w'.ownsRow lo 107 2 (.slice A' (n + 1) c') (n + 1) (ints (prI (st ++ [p]))) → W.grownBy w' (Value.ownBlock (.slice A n c)) → (Value.ownBlock (.slice A' (n + 1) c') = Value.ownBlock (.slice A n c) ∨ Value.ownBlock (.slice A' (n + 1) c') = some (W.heap.size + 1)) → wpList Tryz.prog ops Q rest (a.put o.dst (.slice A' (n + 1) c')) w') :
    wpList Tryz.prog ops Q (o :: rest) a (W.alloc (.cells #[.int .i64 p.1, .int .i64 p.2] 107)) := by
  refine wpList_push (news := [.int .i64 p.1, .int .i64 p.2]) hgd s x 109 ho lo 107 (.agg #[.int .i64 0, .int .i64 0]) 2 16 undSP infoP2 rfl (by decide) (.slice A n c) n (ints (prI st)) hs hown 1 hx rfl ?_ (by unfold maxLen; omega) (by omega) hb ?_
  · intro u hu
    simp at hu
    rcases hu with rfl | rfl <;> rfl
  · intro v' w' h1 h2 h3
    obtain ⟨A', c', rfl, -, -⟩ := owns_shape h1
    refine h A' c' w' ?_ h2 h3
    rw [prI_append, ints_append, prI_one]
    exact h1
end
theorem owns_litP (w : World) (p : Int × Int) : (w.alloc (.cells #[.int .i64 p.1, .int .i64 p.2] 107)).ownsRow w.heap.size 107 2 (.slice (some ⟨w.heap.size, 0, none⟩) 1 1) 1 (ints (prI [p])) :=
  ⟨rfl, .inr ⟨w.heap.size, 1, #[.int .i64 p.1, .int .i64 p.2], rfl, Nat.le_refl _, heap_alloc_new w _, Nat.le_refl _, by unfold maxLen; omega, rfl, rfl⟩⟩

/-- The order, the map, the edges and the graph's box. -/
structure PB (w : World) (r : Int) (Bo M G : Nat) (A1 : Option Addr) (n1 c1 : Nat) (sto stm : PS) (A2 : Option Addr) (n2 c2 : Nat) (xs : List Ed) : Prop where
  ord : w.ownsRow Bo 107 2 (.slice A1 n1 c1) n1 (ints (prI sto))
  map : PMap w M stm
  edg : w.ownsRow (G + 1) 78 3 (.slice A2 n2 c2) n2 (ints (edI xs))
  box : Box w G [.int .i64 r, .int .i64 0, .slice A2 n2 c2]
  ne : Value.ownBlock (.slice A1 n1 c1) ≠ some G
  lt : M < Bo
  le : Bo ≤ G
section
variable {w w' : World} {r : Int} {Bo M G : Nat} {A1 : Option Addr} {n1 c1 : Nat} {sto stm : PS} {A2 : Option Addr} {n2 c2 : Nat} {xs : List Ed}
theorem PB.ln1 (h : PB w r Bo M G A1 n1 c1 sto stm A2 n2 c2 xs) : sto.length = n1 := by
  have h1 := h.ord.1
  rw [ints_len, prI_len] at h1
  omega
theorem PB.ln2 (h : PB w r Bo M G A1 n1 c1 sto stm A2 n2 c2 xs) : xs.length = n2 := by
  have h1 := h.edg.1
  rw [ints_len, edI_len] at h1
  omega
theorem PB.mid (h : PB w r Bo M G A1 n1 c1 sto stm A2 n2 c2 xs) (m : Mid 0 0 w w') : PB w' r Bo M G A1 n1 c1 sto stm A2 n2 c2 xs :=
  ⟨owns_mid h.ord m (Or.inl (Nat.zero_le _)), h.map.mid m (Or.inr (Nat.zero_le _)), owns_mid h.edg m (Or.inl (Nat.zero_le _)), h.box.mid m (Or.inr (Nat.zero_le _)), h.ne, h.lt, h.le⟩
theorem PB.put {stm' : PS} (h : PB w r Bo M G A1 n1 c1 sto stm A2 n2 c2 xs) (hm : PMap w' M stm') (m : Mid M (M + 1) w w') : PB w' r Bo M G A1 n1 c1 sto stm' A2 n2 c2 xs := by
  have h1 := h.lt
  have h2 := h.le
  exact ⟨owns_mid h.ord m (Or.inl (by omega)), hm, owns_mid h.edg m (Or.inl (by omega)), h.box.mid m (Or.inr (by omega)), h.ne, h1, h2⟩
theorem PB.push {A' : Option Addr} {c' : Nat} {sto' : PS} (h : PB w r Bo M G A1 n1 c1 sto stm A2 n2 c2 xs) (h1 : w'.ownsRow Bo 107 2 (.slice A' (n1 + 1) c') (n1 + 1) (ints (prI sto'))) (hg : w.grownBy w' (Value.ownBlock (.slice A1 n1 c1)))
    (hat : Value.ownBlock (.slice A' (n1 + 1) c') = Value.ownBlock (.slice A1 n1 c1) ∨ Value.ownBlock (.slice A' (n1 + 1) c') = some (w.heap.size + 1)) : PB w' r Bo M G A' (n1 + 1) c' sto' stm A2 n2 c2 xs := by
  have hm := Mid.of_grownRow h.ord hg
  have hb := h.box.1
  refine ⟨h1, h.map.mid hm (Or.inl h.lt), ?_, h.box.grown hg h.ne, ?_, h.lt, h.le⟩
  · exact h.edg.kept hg (owns_ne h.edg h.ord (by decide))
  · rcases hat with e | e
    · rw [e]
      exact h.ne
    · rw [e]
      intro e2
      injection e2 with e2
      omega
theorem PB.edge {A' : Option Addr} {c' : Nat} {xs' : List Ed} (h : PB w r Bo M G A1 n1 c1 sto stm A2 n2 c2 xs) (h1 : w'.ownsRow (G + 1) 78 3 (.slice A' (n2 + 1) c') (n2 + 1) (ints (edI xs'))) (hg : w.grownBy w' (Value.ownBlock (.slice A2 n2 c2))) :
    PB (w'.setCell ⟨G, 2, none⟩ (.slice A' (n2 + 1) c')) r Bo M G A1 n1 c1 sto stm A' (n2 + 1) c' xs' := by
  have hm := Mid.of_grownRow h.edg hg
  have hst := Mid.setCell w' (lo := G) (hi := G + 1) (p := ⟨G, 2, none⟩) (.slice A' (n2 + 1) c') (Nat.le_refl _) (Nat.lt_succ_self _)
  have hlt := h.lt
  have hle := h.le
  have hne : Value.ownBlock (.slice A2 n2 c2) ≠ some G := fun e => by have := (h.edg.lt G e).1; omega
  have hne1 : Value.ownBlock (.slice A' (n2 + 1) c') ≠ some G := fun e => by have := (h1.lt G e).1; omega
  refine ⟨?_, (h.map.mid hm (Or.inl (by omega))).mid hst (Or.inl (by omega)), ?_, ?_, h.ne, hlt, hle⟩
  · exact owns_other (h.ord.kept hg (owns_ne h.ord h.edg (by decide))) (k := G) (grown_setCell (World.grownBy.refl _ (some G)) 2 (.slice A' (n2 + 1) c')) h.ne
  · exact owns_other h1 (k := G) (grown_setCell (World.grownBy.refl _ (some G)) 2 (.slice A' (n2 + 1) c')) hne1
  · exact (h.box.grown hg hne).set 2 _ (by simp) rfl
end
end Go.Proofs.YtimmnnncgnnkgaaGreat

/- PullbackAt, the reference. -/
namespace Go.Proofs.YtimmnnncgnnkgaaGreat
set_option linter.unusedVariables false
set_option linter.unusedSimpArgs false
open Go.RowKit

set_option maxHeartbeats 12800000 in
set_option maxRecDepth 100000 in
theorem spec_PullbackAt (r s : Int) (A : Option Addr) (es : List Ed) (c : Nat) (r' s' : Int) (B : Option Addr) (es' : List Ed) (d : Nat) (u v : Int) (w : World) (lo hi lo2 hi2 : Nat)
    (hr : RG w lo hi A es) (hr2 : RG w lo2 hi2 B es') (hl : es.length ≤ 1048576) (hl2 : es'.length ≤ 1048576) (rr rs : Int) (res : List Ed) (b : Bool) (hres : PullIs r s es r' s' es' u v rr rs res b) :
    Calls Tryz.prog 73 #[graV r s A es.length c, graV r' s' B es'.length d, .int .i64 u, .int .i64 v] w fun e w' => ∃ A1 c1, e = .returned (.tuple #[graV rr rs A1 res.length c1, .bool b]) ∧ OG w' w.heap.size w'.heap.size A1 c1 res ∧ Mid 0 0 w w' := by
  have HR := Lib.hid hres
  clear hres
  obtain ⟨b1, hb1⟩ := bool_of (IsFol r s es)
  have H1 := Lib.hid hb1
  obtain ⟨b2, hb2⟩ := bool_of (IsFol r' s' es')
  have H2 := Lib.hid hb2
  clear hb1 hb2
  have hm0 : Mid 0 0 w (((w.alloc (.cells #[.int .i64 r, .int .i64 s, .slice A es.length c] 29)).alloc (.cells #[.int .i64 r', .int .i64 s', .slice B es'.length d] 29)).alloc (.cells #[.int .i64 0, .int .i64 0, .slice none 0 0] 29)) := ((Mid.alloc _ _).trans (Mid.alloc _ _)).trans (Mid.alloc _ _)
  have B0 := ((Box.new w #[.int .i64 r, .int .i64 s, .slice A es.length c] 29).mid (Mid.alloc _ (.cells #[.int .i64 r', .int .i64 s', .slice B es'.length d] 29)) (Or.inr (Nat.zero_le _))).mid (Mid.alloc _ (.cells #[.int .i64 0, .int .i64 0, .slice none 0 0] 29)) (Or.inr (Nat.zero_le _))
  have B1 := (Box.new (w.alloc (.cells #[.int .i64 r, .int .i64 s, .slice A es.length c] 29)) #[.int .i64 r', .int .i64 s', .slice B es'.length d] 29).mid (Mid.alloc _ (.cells #[.int .i64 0, .int .i64 0, .slice none 0 0] 29)) (Or.inr (Nat.zero_le _))
  have B2 := Box.new ((w.alloc (.cells #[.int .i64 r, .int .i64 s, .slice A es.length c] 29)).alloc (.cells #[.int .i64 r', .int .i64 s', .slice B es'.length d] 29)) #[.int .i64 0, .int .i64 0, .slice none 0 0] 29
  simp only [World.size_alloc] at B1 B2
  go_enter Tryz.func73, Tryz.ntmps73
  go_wp2_with fail
  generalize hw1 : ((w.alloc (.cells #[.int .i64 r, .int .i64 s, .slice A es.length c] 29)).alloc (.cells #[.int .i64 r', .int .i64 s', .slice B es'.length d] 29)).alloc (.cells #[.int .i64 0, .int .i64 0, .slice none 0 0] 29) = w1 at hm0 B0 B1 B2 ⊢
  have hs1 : w1.heap.size = w.heap.size + 1 + 1 + 1 := by rw [← hw1]; simp
  have HS := Lib.hid hs1
  clear hw1 hs1
  with_reducible refine (spec_IsFolded r s A es c _ _ _ (hr.mid hm0 (Or.inl (Nat.zero_le _))) hl b1 H1.out).mono ?_
  rintro en w2 ⟨rfl, hm2⟩
  replace B0 := B0.mid hm2 (Or.inr (Nat.zero_le _))
  replace B1 := B1.mid hm2 (Or.inr (Nat.zero_le _))
  replace B2 := B2.mid hm2 (Or.inr (Nat.zero_le _))
  replace hm0 := hm0.trans hm2
  have p0 := B0.cell 0 rfl
  have p1 := B0.cell 1 rfl
  have p2 := B0.cell 2 rfl
  have k0 := B1.cell 0 rfl
  have k1 := B1.cell 1 rfl
  have k2 := B1.cell 2 rfl
  have z0 := B2.cell 0 rfl
  have z1 := B2.cell 1 rfl
  have z2 := B2.cell 2 rfl
  have zf := B2.2.2
  cases b1 with
  | false =>
    have hno : ¬ PullOk r s es r' s' es' u v := fun h => by
      have := H1.out.2 h.f1; cases this
    obtain ⟨rfl, rfl, rfl, rfl⟩ := HR.out.no hno
    go_wp2_with fail
    refine bodyPost_ret (v := .tuple #[.agg #[.int .i64 0, .int .i64 0, .slice none 0 0], .bool false]) (by simp [results, Tryz.results73, go_sem, z0, z1, z2, zf]) rfl ⟨none, 0, rfl, OG.nil, ?_⟩
    repeat (first | exact hm0 | refine Mid.storeNew ?_ (by simp; try omega) _)
  | true =>
  have F1 := Lib.hid (H1.out.1 rfl)
  clear H1
  go_wp2_with fail
  with_reducible refine (spec_IsFolded r' s' B es' d _ _ _ (hr2.mid hm0 (Or.inl (Nat.zero_le _))) hl2 b2 H2.out).mono ?_
  rintro en w3 ⟨rfl, hm3⟩
  replace B0 := B0.mid hm3 (Or.inr (Nat.zero_le _))
  replace B1 := B1.mid hm3 (Or.inr (Nat.zero_le _))
  replace B2 := B2.mid hm3 (Or.inr (Nat.zero_le _))
  replace hm0 := hm0.trans hm3
  clear p0 p1 p2 k0 k1 k2 z0 z1 z2 zf
  have p0 := B0.cell 0 rfl
  have p1 := B0.cell 1 rfl
  have p2 := B0.cell 2 rfl
  have k0 := B1.cell 0 rfl
  have k1 := B1.cell 1 rfl
  have k2 := B1.cell 2 rfl
  have z0 := B2.cell 0 rfl
  have z1 := B2.cell 1 rfl
  have z2 := B2.cell 2 rfl
  have zf := B2.2.2
  cases b2 with
  | false =>
    have hno : ¬ PullOk r s es r' s' es' u v := fun h => by
      have := H2.out.2 h.f2; cases this
    obtain ⟨rfl, rfl, rfl, rfl⟩ := HR.out.no hno
    go_wp2_with fail
    refine bodyPost_ret (v := .tuple #[.agg #[.int .i64 0, .int .i64 0, .slice none 0 0], .bool false]) (by simp [results, Tryz.results73, go_sem, z0, z1, z2, zf]) rfl ⟨none, 0, rfl, OG.nil, ?_⟩
    repeat (first | exact hm0 | refine Mid.storeNew ?_ (by simp; try omega) _)
  | true =>
  have F2 := Lib.hid (H2.out.1 rfl)
  have g1 := F1.out.gr.rank
  have g2 := F1.out.gr.size
  have g3 := F2.out.gr.size
  have g4 := F1.out.gr.len
  have g5 := F2.out.gr.len
  clear H2
  rcases (Decidable.em (r = r')).symm with hrk | hrk
  · have h1a : (r != r') = true := by simpa using hrk
    have hrk' := Lib.hid hrk
    have hno : ¬ PullOk r s es r' s' es' u v := fun h => by
      exact hrk'.out h.rk
    obtain ⟨rfl, rfl, rfl, rfl⟩ := HR.out.no hno
    go_wp2_with fail
    refine bodyPost_ret (v := .tuple #[.agg #[.int .i64 0, .int .i64 0, .slice none 0 0], .bool false]) (by simp [results, Tryz.results73, go_sem, z0, z1, z2, zf]) rfl ⟨none, 0, rfl, OG.nil, ?_⟩
    repeat (first | exact hm0 | refine Mid.storeNew ?_ (by simp; try omega) _)
  subst hrk
  rcases (Decidable.em (0 ≤ u ∧ u < s)).symm with hu | hu
  · have hib : inB u 0 (s - 1) = false := by unfold inB; simp; omega
    have HU := Lib.hid hu
    clear hu
    go_wp2_with fail
    with_reducible refine (l1In_at hib _).mono ?_
    rintro en w4 ⟨rfl, rfl⟩
    have hno : ¬ PullOk r s es r s' es' u v := fun h => by
      exact HU.out h.u0
    obtain ⟨rfl, rfl, rfl, rfl⟩ := HR.out.no hno
    go_wp2_with fail
    refine bodyPost_ret (v := .tuple #[.agg #[.int .i64 0, .int .i64 0, .slice none 0 0], .bool false]) (by simp [results, Tryz.results73, go_sem, z0, z1, z2, zf]) rfl ⟨none, 0, rfl, OG.nil, ?_⟩
    repeat (first | exact hm0 | refine Mid.storeNew ?_ (by simp; try omega) _)
  have hib : inB u 0 (s - 1) = true := by unfold inB; simp; omega
  go_wp2_with fail
  with_reducible refine (l1In_at hib _).mono ?_
  rintro en w4 ⟨rfl, rfl⟩
  rcases (Decidable.em (0 ≤ v ∧ v < s')).symm with hv | hv
  · have hib2 : inB v 0 (s' - 1) = false := by unfold inB; simp; omega
    have HV := Lib.hid hv
    clear hv
    go_wp2_with fail
    with_reducible refine (l1In_at hib2 _).mono ?_
    rintro en w4 ⟨rfl, rfl⟩
    have hno : ¬ PullOk r s es r s' es' u v := fun h => by
      exact HV.out h.v0
    obtain ⟨rfl, rfl, rfl, rfl⟩ := HR.out.no hno
    go_wp2_with fail
    refine bodyPost_ret (v := .tuple #[.agg #[.int .i64 0, .int .i64 0, .slice none 0 0], .bool false]) (by simp [results, Tryz.results73, go_sem, z0, z1, z2, zf]) rfl ⟨none, 0, rfl, OG.nil, ?_⟩
    repeat (first | exact hm0 | refine Mid.storeNew ?_ (by simp; try omega) _)
  have hib2 : inB v 0 (s' - 1) = true := by unfold inB; simp; omega
  go_wp2_with fail
  with_reducible refine (l1In_at hib2 _).mono ?_
  rintro en w4 ⟨rfl, rfl⟩
  clear hib hib2
  obtain ⟨rn, rfl⟩ : ∃ n : Nat, r = n := ⟨r.toNat, by omega⟩
  obtain ⟨sn, rfl⟩ : ∃ n : Nat, s = n := ⟨s.toNat, by omega⟩
  obtain ⟨tn, rfl⟩ : ∃ n : Nat, s' = n := ⟨s'.toNat, by omega⟩
  obtain ⟨un, rfl⟩ : ∃ n : Nat, u = n := ⟨u.toNat, by omega⟩
  obtain ⟨vn, rfl⟩ : ∃ n : Nat, v = n := ⟨v.toNat, by omega⟩
  have hun : un < sn := by omega
  have hvn : vn < tn := by omega
  have hp0 : PIn sn tn ((un : Int), (vn : Int)) := ⟨Int.natCast_nonneg _, Int.ofNat_lt.2 hun, Int.natCast_nonneg _, Int.ofNat_lt.2 hvn⟩
  go_wp2_with fail
  with_reducible refine (spec_l14Pairs rn sn tn un vn A B es es' c d _ _ _ _ _ (hr.mid hm0 (Or.inl (Nat.zero_le _))) (hr2.mid hm0 (Or.inl (Nat.zero_le _))) F1.out.gr F2.out.gr hun hvn).mono ?_
  rintro en w5 ⟨A5, c5, rfl, hP5, hm5⟩
  obtain ⟨P, hPP⟩ : ∃ P, pairsOf es es' (lets rn) ((un : Int), (vn : Int)) = P := ⟨_, rfl⟩
  obtain ⟨PL, hPL⟩ : ∃ n, P.length = n := ⟨_, rfl⟩
  rw [hPP] at hP5 ⊢
  rw [hPL]
  have hPlen : 0 < P.length := by rw [← hPP]; exact pbSt_pos _ _ _ _ 1601
  obtain ⟨B5, o5, x0, hA5, -, -, -⟩ := hP5.at (k := 0) (by rw [List.length_map]; exact hPlen)
  subst hA5
  clear hPlen
  have hPok := pairs_ok (lets rn) F1.out.gr.all F2.out.gr.all hp0
  have hPle := pairs_len (lets rn) F1.out.gr F2.out.gr hp0
  have hPcl := pairs_closed (lets rn) F1.out.gr F2.out.gr hp0
  rw [hPP] at hPok hPle hPcl
  rw [hPL] at hPle
  have HPP := Lib.hid hPP
  have HPL := Lib.hid hPL
  have HPK := Lib.hid hPok
  have HPC := Lib.hid hPcl
  clear hPP hPL hPok hPcl
  replace B0 := B0.mid hm5 (Or.inr (Nat.zero_le _))
  replace B1 := B1.mid hm5 (Or.inr (Nat.zero_le _))
  replace B2 := B2.mid hm5 (Or.inr (Nat.zero_le _))
  replace hm0 := hm0.trans hm5
  clear p0 p1 p2 k0 k1 k2 z0 z1 z2 zf
  have p0 := B0.cell 0 rfl
  have p1 := B0.cell 1 rfl
  have p2 := B0.cell 2 rfl
  have k0 := B1.cell 0 rfl
  have k1 := B1.cell 1 rfl
  have k2 := B1.cell 2 rfl
  have z0 := B2.cell 0 rfl
  have z1 := B2.cell 1 rfl
  have z2 := B2.cell 2 rfl
  have zf := B2.2.2
  go_wp2_with fail
  with_reducible refine (spec_l14Edges rn sn tn A B (some ⟨B5, o5, none⟩) es es' P c d c5 PL _ _ _ _ _ _ _ (hr.mid hm0 (Or.inl (Nat.zero_le _))) (hr2.mid hm0 (Or.inl (Nat.zero_le _))) hP5 F1.out.gr F2.out.gr HPK.out.rng HPL.out hPle).mono ?_
  rintro en w6 ⟨rfl, hm6⟩
  obtain ⟨m, hmE⟩ : ∃ n, (pbAll es es' rn P PL).length = n := ⟨_, rfl⟩
  rw [hmE]
  have hm48 : m ≤ 4800 := by
    have h1 := pbAll_len es es' rn P PL
    have h2 : PL * rn ≤ 1600 * 3 := Nat.mul_le_mul hPle (by omega)
    omega
  have HME := Lib.hid hmE
  clear hmE
  replace B0 := B0.mid hm6 (Or.inr (Nat.zero_le _))
  replace B1 := B1.mid hm6 (Or.inr (Nat.zero_le _))
  replace B2 := B2.mid hm6 (Or.inr (Nat.zero_le _))
  replace hm0 := hm0.trans hm6
  replace hP5 := hP5.mid hm6 (Or.inl (Nat.zero_le _))
  clear p0 p1 p2 k0 k1 k2 z0 z1 z2 zf
  have p0 := B0.cell 0 rfl
  have p1 := B0.cell 1 rfl
  have p2 := B0.cell 2 rfl
  have k0 := B1.cell 0 rfl
  have k1 := B1.cell 1 rfl
  have k2 := B1.cell 2 rfl
  have z0 := B2.cell 0 rfl
  have z1 := B2.cell 1 rfl
  have z2 := B2.cell 2 rfl
  have zf := B2.2.2
  rcases (Decidable.em (PL ≤ 40)).symm with hsz | hsz
  · have b3 : decide (40 < (PL : Int)) = true := by simp; omega
    have hno : ¬ PullOk (rn : Int) (sn : Int) es (rn : Int) (tn : Int) es' (un : Int) (vn : Int) := fun h => by
      have h1 := h.sz; rw [Int.toNat_natCast, HPP.out, HPL.out] at h1; omega
    obtain ⟨rfl, rfl, rfl, rfl⟩ := HR.out.no hno
    go_wp2_with fail
    refine bodyPost_ret (v := .tuple #[.agg #[.int .i64 0, .int .i64 0, .slice none 0 0], .bool false]) (by simp [results, Tryz.results73, go_sem, z0, z1, z2, zf]) rfl ⟨none, 0, rfl, OG.nil, ?_⟩
    repeat (first | exact hm0 | refine Mid.storeNew ?_ (by simp; try omega) _)
  have b3 : decide (40 < (PL : Int)) = false := by simp; omega
  rcases (Decidable.em (m ≤ 120)).symm with hln | hln
  · have b4 : decide (120 < (m : Int)) = true := by simp; omega
    have hno : ¬ PullOk (rn : Int) (sn : Int) es (rn : Int) (tn : Int) es' (un : Int) (vn : Int) := fun h => by
      have h1 := h.ln; rw [Int.toNat_natCast, HPP.out, HPL.out, HME.out] at h1; omega
    obtain ⟨rfl, rfl, rfl, rfl⟩ := HR.out.no hno
    go_wp2_with fail
    refine bodyPost_ret (v := .tuple #[.agg #[.int .i64 0, .int .i64 0, .slice none 0 0], .bool false]) (by simp [results, Tryz.results73, go_sem, z0, z1, z2, zf]) rfl ⟨none, 0, rfl, OG.nil, ?_⟩
    repeat (first | exact hm0 | refine Mid.storeNew ?_ (by simp; try omega) _)
  have b4 : decide (120 < (m : Int)) = false := by simp; omega
  have hok : PullOk (rn : Int) (sn : Int) es (rn : Int) (tn : Int) es' (un : Int) (vn : Int) := ⟨F1.out, F2.out, rfl, ⟨hp0.1, hp0.2.1⟩, ⟨hp0.2.2.1, hp0.2.2.2⟩, by rw [Int.toNat_natCast, HPP.out, HPL.out]; exact hsz, by rw [Int.toNat_natCast, HPP.out, HPL.out, HME.out]; exact hln⟩
  obtain ⟨rfl, hrr, hrs, hre⟩ := HR.out.yes hok
  rw [Int.toNat_natCast, HPP.out, HPL.out] at hrs
  unfold pullE at hre
  rw [Int.toNat_natCast, HPP.out, HPL.out] at hre
  have HRR := Lib.hid hrr
  have HRS := Lib.hid hrs
  have HRE := Lib.hid hre
  clear hrr hrs hre HR
  have hnb0 : ¬ tn = 0 := by omega
  have hmulb : (sn : Int) * (tn : Int) ≤ 40 * 40 := Int.mul_le_mul (by omega) (by omega) (by omega) (by omega)
  obtain ⟨N, hN⟩ : ∃ N : Nat, (sn : Int) * (tn : Int) = (N : Int) := ⟨sn * tn, by simp⟩
  have hN16 : N ≤ 1600 := by rw [hN] at hmulb; omega
  have HNN := Lib.hid hN
  have HGL : Hid (∀ e ∈ es, 1 ≤ e.l ∧ e.l ≤ 3) := Lib.hid (fun e he => by have := F1.out.gr.all e he; unfold InG at this; omega)
  have HGL2 : Hid (∀ e ∈ es', 1 ≤ e.l ∧ e.l ≤ 3) := Lib.hid (fun e he => by have := F2.out.gr.all e he; unfold InG at this; omega)
  have hrn3 : rn ≤ 3 := by omega
  have hal := Mid.alloc w6 (.cells #[.int .i64 rn, .int .i64 PL, .slice none 0 0] 29)
  have B3 := Box.new w6 #[.int .i64 rn, .int .i64 PL, .slice none 0 0] 29
  have hG6 := B2.1
  have hGP := hm6.size
  clear hmulb hN
  go_wp2_with fail
  replace B0 := B0.mid hal (Or.inr (Nat.zero_le _))
  replace B1 := B1.mid hal (Or.inr (Nat.zero_le _))
  replace B2 := B2.mid hal (Or.inr (Nat.zero_le _))
  replace hm0 := hm0.trans hal
  replace hP5 := hP5.mid hal (Or.inl (Nat.zero_le _))
  clear p0 p1 p2 k0 k1 k2 z0 z1 z2 zf hm2 hm3 hm5 hm6 HS
  generalize hw7 : w6.alloc (.cells #[.int .i64 rn, .int .i64 PL, .slice none 0 0] 29) = w7 at B0 B1 B2 B3 hm0 hP5 ⊢
  have hs7 : w7.heap.size = w6.heap.size + 1 := by rw [← hw7]; simp
  clear hw7 hal
  generalize hG : w6.heap.size = G at B3 hs7 hG6 hGP ⊢
  generalize hGPe : w5.heap.size = GP at hP5 hGP
  clear hG hGPe
  have O3 : OG w7 (G + 1) w7.heap.size none 0 [] := OG.nil
  go_loopw [13] (fun iv wr => ∃ (i : Nat) (A3 : Option Addr) (c3 lo3 hi3 : Nat) (xs : List Ed), i ≤ PL ∧ iv = .int .i64 i ∧ Hid (xs = canon (pbAll es es' rn P i)) ∧ OG wr lo3 hi3 A3 c3 xs ∧ (hi3 ≤ G ∨ G + 1 ≤ lo3) ∧ w.heap.size + 3 ≤ lo3 ∧ Box wr w.heap.size [.int .i64 rn, .int .i64 sn, .slice A es.length c] ∧ Box wr (w.heap.size + 1) [.int .i64 rn, .int .i64 tn, .slice B es'.length d] ∧ Box wr (w.heap.size + 1 + 1) [.int .i64 0, .int .i64 0, .slice none 0 0] ∧
        Box wr G [.int .i64 rn, .int .i64 PL, .slice A3 xs.length c3] ∧ Hid (RV wr 0 GP (some ⟨B5, o5, none⟩) (ints (P.map (pcode tn)))) ∧ Mid 0 0 w wr) (fun iv _ => PL - (intOf iv).toNat)
  case atStart => exact ⟨0, none, 0, _, _, [], Nat.zero_le _, rfl, Lib.hid (by simp [pbAll, canon, putAll]), O3, .inr (Nat.le_refl _), by omega, B0, B1, B2, B3, Lib.hid hP5, hm0⟩
  case round =>
    clear O3 B0 B1 B2 B3 hP5 hm0
    obtain ⟨wo, hwo⟩ : ∃ wo, wo = wr := ⟨_, rfl⟩
    subst hwo
    obtain ⟨i, A3, c3, lo3, hi3, xs, hi, rfl, HX, ho, hdis, hlo3, B0, B1, B2, B3, HP5, hm⟩ := hrel
    by_cases hlt : i < PL
    · obtain ⟨p, hp⟩ := get_of_lt P (show i < P.length by rw [HPL.out]; exact hlt)
      obtain ⟨q, a, b, mm, rfl, ha, hb, -, -, hq, hpc, -, hqd, hqm⟩ := pcode_nat HNN.out (HPK.out.rng p (List.mem_of_getElem? hp))
      have HP := Lib.hid hp
      have HPQ := Lib.hid (pb_code hp hpc)
      have HSU := Lib.hid (pbAll_succ (ea := es) (eb := es') (r := rn) hp)
      have hi0 : (0 : Int) ≤ (i : Int) := by omega
      have hi1 : (i : Int) < (PL : Int) := by omega
      clear hp hpc
      go_wp2_with fail
      go_loopw [14] (fun xv wr => ∃ (k : Nat) (A3 : Option Addr) (c3 lo3 hi3 : Nat) (xs : List Ed), k ≤ rn ∧ xv = .int .i64 ((k : Int) + 1) ∧ Hid (xs = canon (pbAll es es' rn P i ++ pbEs es es' P i ((a : Int), (b : Int)) k)) ∧ OG wr lo3 hi3 A3 c3 xs ∧ (hi3 ≤ G ∨ G + 1 ≤ lo3) ∧ w.heap.size + 3 ≤ lo3 ∧ Box wr w.heap.size [.int .i64 rn, .int .i64 sn, .slice A es.length c] ∧ Box wr (w.heap.size + 1) [.int .i64 rn, .int .i64 tn, .slice B es'.length d] ∧ Box wr (w.heap.size + 1 + 1) [.int .i64 0, .int .i64 0, .slice none 0 0] ∧
        Box wr G [.int .i64 rn, .int .i64 PL, .slice A3 xs.length c3] ∧ Hid (RV wr 0 GP (some ⟨B5, o5, none⟩) (ints (P.map (pcode tn)))) ∧ Mid 0 0 w wr) (fun xv _ => (rn + 1 - intOf xv).toNat)
      case atStart => exact ⟨0, A3, c3, lo3, hi3, xs, Nat.zero_le _, by go_num, Lib.hid (by rw [HX.out]; simp [pbEs]), ho, hdis, hlo3, B0, B1, B2, B3, HP5, hm⟩
      case round =>
        clear ho hdis hlo3 B0 B1 B2 B3 HP5 hm HX
        obtain ⟨k, A3, c3, lo3, hi3, xs, hk, rfl, HX, ho, hdis, hlo3, B0, B1, B2, B3, HP5, hm⟩ := hrel
        have p0 := B0.cell 0 rfl
        by_cases hlt2 : k < rn
        · have hkr : (k : Int) + 1 ≤ (rn : Int) := by omega
          have hc5 := HP5.out.atI HPQ.out
          have hB4s : B5 < wr.heap.size := hc5.1
          have hwa : IntKind.i64.wrap (a : Int) = (a : Int) := IntWalk.i64_in _ (by omega)
          have hwb : IntKind.i64.wrap (b : Int) = (b : Int) := IntWalk.i64_in _ (by omega)
          have k0 := wg_cell B0.1 (B0.cell 0 rfl)
          have k1 := wg_cell B0.1 (B0.cell 1 rfl)
          have k2 := wg_cell B0.1 (B0.cell 2 rfl)
          have k3 := wg_cell hB4s hc5.2
          have k5 := wg_cell B1.1 (B1.cell 1 rfl)
          have hA := fun m os => spec_NextVertex rn sn A es c a ((k : Int) + 1) (wg wr m os) _ _ (hr.mid (hm.trans (Mid.ofWg wr m os)) (Or.inl (Nat.zero_le _))) (by omega) HGL.out (by omega) (by omega)
          clear hc5
          go_wp2_with fail
          refine wp_region_quiet_wg (by kernel_rfl) (by kernel_rfl) ?_
          repeat
            (with_reducible refine wpQuiet_step (fun K hK => ?_))
            go_simp
            first
              | ((with_reducible refine hK _ ?_); clear hK K)
              | (rw [if_neg (by decide)]; (with_reducible refine hK _ ?_); clear hK K)
              | (apply Exists.intro; refine ⟨fun _ => ?_, hK _ ?_⟩; ((go_at_call 93; exact Calls.wg_of (hA _ _))); clear hK K)
          with_reducible refine wpQuiet_nil ?_
          intro _ hw'
          obtain ⟨⟨nq, osq⟩, hw''⟩ := hw'
          subst hw''
          have hwg := Mid.ofWg wr nq osq
          generalize wg wr nq osq = w8 at hwg ⊢
          replace B0 := B0.mid hwg (Or.inr (Nat.zero_le _))
          replace B1 := B1.mid hwg (Or.inr (Nat.zero_le _))
          replace B2 := B2.mid hwg (Or.inr (Nat.zero_le _))
          replace B3 := B3.mid hwg (Or.inr (Nat.zero_le _))
          replace hm := hm.trans hwg
          replace ho := ho.mid hwg (Or.inl (Nat.zero_le _))
          replace HP5 := Lib.hid (HP5.out.mid hwg (Or.inl (Nat.zero_le _)))
          have hc6 := HP5.out.atI HPQ.out
          have hB4s8 : B5 < w8.heap.size := hc6.1
          clear k0 k1 k2 k3 k5 hA p0 hB4s
          have k0 := wg_cell B1.1 (B1.cell 0 rfl)
          have k1 := wg_cell B1.1 (B1.cell 1 rfl)
          have k2 := wg_cell B1.1 (B1.cell 2 rfl)
          have k3 := wg_cell hB4s8 hc6.2
          have hA := fun m os => spec_NextVertex rn tn B es' d b ((k : Int) + 1) (wg w8 m os) lo2 hi2 (hr2.mid (hm.trans (Mid.ofWg w8 m os)) (Or.inl (Nat.zero_le _))) (by omega) HGL2.out (by omega) (by omega)
          clear hc6
          go_wp2_with fail
          refine wp_region_quiet_wg (by kernel_rfl) (by kernel_rfl) ?_
          repeat
            (with_reducible refine wpQuiet_step (fun K hK => ?_))
            go_simp
            first
              | ((with_reducible refine hK _ ?_); clear hK K)
              | (rw [if_neg (by decide)]; (with_reducible refine hK _ ?_); clear hK K)
              | (apply Exists.intro; refine ⟨fun _ => ?_, hK _ ?_⟩; ((go_at_call 93; exact Calls.wg_of (hA _ _))); clear hK K)
          with_reducible refine wpQuiet_nil ?_
          intro _ hw'
          obtain ⟨⟨nq, osq⟩, hw''⟩ := hw'
          subst hw''
          have hwg2 := Mid.ofWg w8 nq osq
          generalize wg w8 nq osq = w9 at hwg2 ⊢
          replace B0 := B0.mid hwg2 (Or.inr (Nat.zero_le _))
          replace B1 := B1.mid hwg2 (Or.inr (Nat.zero_le _))
          replace B2 := B2.mid hwg2 (Or.inr (Nat.zero_le _))
          replace B3 := B3.mid hwg2 (Or.inr (Nat.zero_le _))
          replace hm := hm.trans hwg2
          replace ho := ho.mid hwg2 (Or.inl (Nat.zero_le _))
          replace HP5 := Lib.hid (HP5.out.mid hwg2 (Or.inl (Nat.zero_le _)))
          clear k0 k1 k2 k3 hA hwg hwg2 hB4s8
          by_cases ht1 : nextV es a ((k : Int) + 1) < 0
          · have b1 : decide (0 ≤ nextV es a ((k : Int) + 1)) = false := by simp; omega
            have HE := Lib.hid (pbEs_no (ea := es) (eb := es') (P := P) (i := i) (p := ((a : Int), (b : Int))) (Or.inl ht1))
            clear ht1
            have hPL0 : 0 < PL := by omega
            have dPL : decide ((0 : Int) < (PL : Int)) = true := by simp; omega
            go_wp2_with fail
            go_loopw [17] (fun kv wr => kv = .int .i64 0 ∧ wr = w9) (fun _ _ => 0)
            case atStart => exact ⟨rfl, rfl⟩
            case round =>
              obtain ⟨rfl, rfl⟩ := hrel
              go_wp2_with fail
              go_roundw
              case rel => exact ⟨k + 1, A3, c3, lo3, hi3, xs, by omega, by go_num, by rw [HE.out]; exact HX, ho, hdis, hlo3, B0, B1, B2, B3, HP5, hm⟩
              case measure => simp [intOf]; omega
          · have b1 : decide (0 ≤ nextV es a ((k : Int) + 1)) = true := by simp; omega
            by_cases ht2 : nextV es' b ((k : Int) + 1) < 0
            · have b2 : decide (0 ≤ nextV es' b ((k : Int) + 1)) = false := by simp; omega
              have HE := Lib.hid (pbEs_no (ea := es) (eb := es') (P := P) (i := i) (p := ((a : Int), (b : Int))) (Or.inr ht2))
              clear ht1 ht2
              have hPL0 : 0 < PL := by omega
              have dPL : decide ((0 : Int) < (PL : Int)) = true := by simp; omega
              go_wp2_with fail
              go_loopw [17] (fun kv wr => kv = .int .i64 0 ∧ wr = w9) (fun _ _ => 0)
              case atStart => exact ⟨rfl, rfl⟩
              case round =>
                obtain ⟨rfl, rfl⟩ := hrel
                go_wp2_with fail
                go_roundw
                case rel => exact ⟨k + 1, A3, c3, lo3, hi3, xs, by omega, by go_num, by rw [HE.out]; exact HX, ho, hdis, hlo3, B0, B1, B2, B3, HP5, hm⟩
                case measure => simp [intOf]; omega
            · have hpin2 := pbNext_in F1.out.gr.all F2.out.gr.all ((a : Int), (b : Int)) ht1 ht2
              obtain ⟨q', x', y', m', hpe, hx', hy', hme', hqe', hq', hpc', hmq', -, -⟩ := pcode_nat HNN.out hpin2
              have hmemP := HPC.out _ (List.mem_of_getElem? HP.out) ((k : Int) + 1) (mem_lets.2 ⟨by omega, by omega, by omega⟩) ht1 ht2
              have hes := pbEs_yes (ea := es) (eb := es') (P := P) (i := i) (p := ((a : Int), (b : Int))) ht1 ht2
              have htx : nextV es a ((k : Int) + 1) = (x' : Int) := congrArg Prod.fst hpe
              have hty : nextV es' b ((k : Int) + 1) = (y' : Int) := congrArg Prod.snd hpe
              obtain ⟨idx, hidx⟩ : ∃ n, P.idxOf (pbNext es es' ((a : Int), (b : Int)) ((k : Int) + 1)) = n := ⟨_, rfl⟩
              have hidl : idx < PL := by rw [← hidx, ← HPL.out]; exact List.idxOf_lt_length_of_mem hmemP
              rw [hidx] at hes
              have HE := Lib.hid hes
              have HID := Lib.hid hidx
              have HMP := Lib.hid hmemP
              have HQ' := Lib.hid hpc'
              simp only [htx, hty]
              clear b1 ht1 ht2 hpe htx hty hpin2 hpc' hidx hmemP hes
              have c1' : decide ((0 : Int) ≤ (x' : Int)) = true := by simp
              have c2' : decide ((0 : Int) ≤ (y' : Int)) = true := by simp
              have hxl : xs.length ≤ 4900 := by
                rw [HX.out]
                have h1 := canon_len (pbAll es es' rn P i ++ pbEs es es' P i ((a : Int), (b : Int)) k)
                have h2 := pbAll_len es es' rn P i
                have h3 := pbEs_len es es' P i ((a : Int), (b : Int)) k
                have h4 : i * rn ≤ 1600 * 3 := Nat.mul_le_mul (by omega) (by omega)
                rw [List.length_append] at h1
                omega
              obtain ⟨wi, hwi⟩ : ∃ wi, wi = wr := ⟨_, rfl⟩
              subst hwi
              go_wp2_with fail
              go_loopw [17] (fun kv wr => ∃ (kk : Nat) (A3 : Option Addr) (c3 lo3 hi3 : Nat) (ys : List Ed), kk ≤ PL ∧ kv = .int .i64 kk ∧ Hid (ys = if kk ≤ idx then xs else putE ⟨i, (k : Int) + 1, (idx : Nat)⟩ xs) ∧ OG wr lo3 hi3 A3 c3 ys ∧ (hi3 ≤ G ∨ G + 1 ≤ lo3) ∧ w.heap.size + 3 ≤ lo3 ∧ Box wr w.heap.size [.int .i64 rn, .int .i64 sn, .slice A es.length c] ∧ Box wr (w.heap.size + 1) [.int .i64 rn, .int .i64 tn, .slice B es'.length d] ∧ Box wr (w.heap.size + 1 + 1) [.int .i64 0, .int .i64 0, .slice none 0 0] ∧
        Box wr G [.int .i64 rn, .int .i64 PL, .slice A3 ys.length c3] ∧ Hid (RV wr 0 GP (some ⟨B5, o5, none⟩) (ints (P.map (pcode tn)))) ∧ Mid 0 0 w wr) (fun kv _ => PL - (intOf kv).toNat)
              case atStart => exact ⟨0, A3, c3, lo3, hi3, xs, Nat.zero_le _, rfl, Lib.hid (if_pos (Nat.zero_le _)).symm, ho, hdis, hlo3, B0, B1, B2, B3, HP5, hm⟩
              case round =>
                clear ho hdis hlo3 B0 B1 B2 B3 HP5 hm
                obtain ⟨kk, A4, c4, lo4, hi4, ys, hkk, rfl, HY, ho, hdis, hlo3, B0, B1, B2, B3, HP5, hm⟩ := hrel
                by_cases hlt3 : kk < PL
                · obtain ⟨t, ht⟩ := get_of_lt P (show kk < P.length by rw [HPL.out]; exact hlt3)
                  obtain ⟨qk, ak, bk, mk, -, -, -, -, -, hqk, hpk, -, -, -⟩ := pcode_nat HNN.out (HPK.out.rng t (List.mem_of_getElem? ht))
                  have hck := HP5.out.atI (pb_code ht hpk)
                  have hI : (qk : Int) = (q' : Int) ↔ kk = idx := by rw [← hpk, ← HQ'.out, ← HID.out]; exact pb_idx HPK.out HMP.out ht
                  have hkk0 : (0 : Int) ≤ (kk : Int) := by omega
                  have hkk1 : (kk : Int) < (PL : Int) := by omega
                  have hyl : ys.length ≤ 5000 := by
                    rw [HY.out]
                    split
                    · omega
                    · have := putE_len ⟨i, (k : Int) + 1, (idx : Nat)⟩ xs
                      omega
                  have hwm : IntKind.i64.wrap (m' : Int) = (m' : Int) := IntWalk.i64_in _ (by omega)
                  have hwq : IntKind.i64.wrap (q' : Int) = (q' : Int) := IntWalk.i64_in _ (by omega)
                  have k3 := wg_cell hck.1 hck.2
                  have k5 := wg_cell B1.1 (B1.cell 1 rfl)
                  by_cases hki : kk = idx
                  · have hqq : ((qk : Int) == (q' : Int)) = true := beq_iff_eq.2 (hI.2 hki)
                    have HKI := Lib.hid hki
                    clear ht hpk hck hI hki
                    go_wp2_with fail
                    refine wp_region_quiet_wg (by kernel_rfl) (by kernel_rfl) ?_
                    repeat
                      (with_reducible refine wpQuiet_step (fun K hK => ?_))
                      go_simp
                      first
                        | ((with_reducible refine hK _ ?_); clear hK K)
                        | (rw [if_neg (by decide)]; (with_reducible refine hK _ ?_); clear hK K)
                        | (apply Exists.intro; refine ⟨fun _ => ?_, hK _ ?_⟩; (fail); clear hK K)
                    with_reducible refine wpQuiet_nil ?_
                    intro _ hw'
                    obtain ⟨⟨nq, osq⟩, hw''⟩ := hw'
                    subst hw''
                    have hwg := Mid.ofWg wr nq osq
                    generalize wg wr nq osq = wz at hwg ⊢
                    replace B0 := B0.mid hwg (Or.inr (Nat.zero_le _))
                    replace B1 := B1.mid hwg (Or.inr (Nat.zero_le _))
                    replace B2 := B2.mid hwg (Or.inr (Nat.zero_le _))
                    replace B3 := B3.mid hwg (Or.inr (Nat.zero_le _))
                    replace hm := hm.trans hwg
                    replace ho := ho.mid hwg (Or.inl (Nat.zero_le _))
                    replace HP5 := Lib.hid (HP5.out.mid hwg (Or.inl (Nat.zero_le _)))
                    clear k3 k5 hwg
                    have g2 := B3.cell 2 rfl
                    have B3z := B3.1
                    go_wp2_with fail
                    with_reducible refine (spec_l4Put A4 ys c4 ⟨i, (k : Int) + 1, kk⟩ wz _ _ ho.rg (by omega)).mono ?_
                    rintro en w10 ⟨A9, c9, rfl, ho9, hm9⟩
                    replace B0 := B0.mid hm9 (Or.inr (Nat.zero_le _))
                    replace B1 := B1.mid hm9 (Or.inr (Nat.zero_le _))
                    replace B2 := B2.mid hm9 (Or.inr (Nat.zero_le _))
                    replace B3 := B3.mid hm9 (Or.inr (Nat.zero_le _))
                    replace hm := hm.trans hm9
                    have HP9 := Lib.hid (HP5.out.mid hm9 (Or.inl (Nat.zero_le _)))
                    have hGz : G < w10.heap.size := B3.1
                    clear g2 ho HP5
                    have hsz9 := hm9.size
                    have hloz : G < wz.heap.size := B3z
                    have g2 := B3.cell 2 rfl
                    have gf := B3.2.2
                    go_wp2_with fail
                    go_roundw
                    case rel =>
                      have hst := Mid.setCell w10 (lo := G) (hi := G + 1) (p := ⟨G, 2, none⟩) (.slice A9 (putE ⟨i, (k : Int) + 1, kk⟩ ys).length c9) (Nat.le_refl _) (Nat.lt_succ_self _)
                      refine ⟨kk + 1, A9, c9, _, _, _, by omega, by go_num, Lib.hid ?_, ho9.mid hst (Or.inl (by omega)), .inr (by omega), by omega, B0.mid hst (Or.inl (by omega)), B1.mid hst (Or.inl (by omega)), B2.mid hst (Or.inl (by omega)), B3.set 2 _ (by simp) rfl, Lib.hid (HP9.out.mid hst (Or.inr (by omega))), hm.storeNew (by show w.heap.size ≤ G; omega) _⟩
                      rw [HY.out, HKI.out, if_pos (Nat.le_refl _), if_neg (Nat.not_succ_le_self _)]
                    case measure => simp [intOf]; omega
                  · have hqq : ((qk : Int) == (q' : Int)) = false := beq_eq_false_iff_ne.2 fun h => hki (hI.1 h)
                    have HKI := Lib.hid hki
                    clear ht hpk hck hI hki
                    go_wp2_with fail
                    refine wp_region_quiet_wg (by kernel_rfl) (by kernel_rfl) ?_
                    repeat
                      (with_reducible refine wpQuiet_step (fun K hK => ?_))
                      go_simp
                      first
                        | ((with_reducible refine hK _ ?_); clear hK K)
                        | (rw [if_neg (by decide)]; (with_reducible refine hK _ ?_); clear hK K)
                        | (apply Exists.intro; refine ⟨fun _ => ?_, hK _ ?_⟩; (fail); clear hK K)
                    with_reducible refine wpQuiet_nil ?_
                    intro _ hw'
                    obtain ⟨⟨nq, osq⟩, hw''⟩ := hw'
                    subst hw''
                    have hwg := Mid.ofWg wr nq osq
                    generalize wg wr nq osq = wz at hwg ⊢
                    replace B0 := B0.mid hwg (Or.inr (Nat.zero_le _))
                    replace B1 := B1.mid hwg (Or.inr (Nat.zero_le _))
                    replace B2 := B2.mid hwg (Or.inr (Nat.zero_le _))
                    replace B3 := B3.mid hwg (Or.inr (Nat.zero_le _))
                    replace hm := hm.trans hwg
                    replace ho := ho.mid hwg (Or.inl (Nat.zero_le _))
                    replace HP5 := Lib.hid (HP5.out.mid hwg (Or.inl (Nat.zero_le _)))
                    clear k3 k5 hwg
                    go_wp2_with fail
                    go_roundw
                    case rel =>
                      refine ⟨kk + 1, A4, c4, lo4, hi4, ys, by omega, by go_num, Lib.hid ?_, ho, hdis, hlo3, B0, B1, B2, B3, HP5, hm⟩
                      rw [HY.out]
                      have := HKI.out
                      by_cases h1 : kk ≤ idx
                      · rw [if_pos h1, if_pos (by omega)]
                      · rw [if_neg h1, if_neg (by omega)]
                    case measure => simp [intOf]; omega
                · obtain rfl : kk = PL := by omega
                  have HY2 : Hid (ys = putE ⟨i, (k : Int) + 1, (idx : Nat)⟩ xs) := Lib.hid (by rw [HY.out, if_neg (by omega)])
                  go_wp2_with fail
                  go_roundw
                  case rel => exact ⟨k + 1, A4, c4, lo4, hi4, ys, by omega, by go_num, Lib.hid (by rw [HE.out, ← List.append_assoc, canon_put, ← HX.out]; exact HY2.out), ho, hdis, hlo3, B0, B1, B2, B3, HP5, hm⟩
                  case measure => simp [intOf]; omega
        · obtain rfl : k = rn := by omega
          rw [← HSU.out] at HX
          have dk : decide ((k : Int) + 1 ≤ (k : Int)) = false := by simp; omega
          clear HPP HPL HPK HPC HME HRE HRR HRS hok HSU HP HPQ hqd hqm
          go_wp2_with fail
          go_roundw
          case rel => exact ⟨i + 1, A3, c3, lo3, hi3, xs, by omega, by go_num, HX, ho, hdis, hlo3, B0, B1, B2, B3, HP5, hm⟩
          case measure => simp [intOf]; omega
    · obtain rfl : i = PL := by omega
      have z0 := B2.cell 0 rfl
      have z1 := B2.cell 1 rfl
      have z2 := B2.cell 2 rfl
      have g0 := B3.cell 0 rfl
      have g1 := B3.cell 1 rfl
      have g2 := B3.cell 2 rfl
      have zf := B2.2.2
      have gf := B3.2.2
      go_wp2_with fail
      have hcl : (w.heap.size + 1 + 1 == G) = false := by simp; omega
      have hxx := HX.out
      refine bodyPost_ret (v := .tuple #[.agg #[.int .i64 rn, .int .i64 i, .slice A3 xs.length c3], .bool true]) (by simp [results, Tryz.results73, go_sem, z0, z1, z2, g0, g1, g2, zf, gf]) rfl ⟨A3, c3, ?_, ?_, ?_⟩
      · rw [HRR.out, HRS.out, HRE.out, hxx]
      · rw [HRE.out, ← hxx]
        refine OG.wide (OG.mid ho (a := w.heap.size) (b := w.heap.size + 3) ?_ (Or.inl (by omega))) (by omega) (by have := ho.size; simpa using this) (Nat.le_refl _)
        repeat (first | exact Mid.refl _ _ _ | refine Mid.stored ?_ _ (by simp; try omega) (by simp; try omega))
      · repeat (first | exact hm | refine Mid.storeNew ?_ (by simp; try omega) _)
end Go.Proofs.YtimmnnncgnnkgaaGreat

/- Plain: a completed graph is a graph. -/
namespace Go.Proofs.YtimmnnncgnnkgaaGreat
set_option linter.unusedVariables false
set_option linter.unusedSimpArgs false

end Go.Proofs.YtimmnnncgnnkgaaGreat

/- Words, letter by letter: what IsWord tests, in plain Lean. -/
namespace Go.Proofs.YtimmnnncgnnkgaaGreat
set_option linter.unusedVariables false
open Go.RowKit

/-- The first k letters are letters, and none is the inverse of the one ahead of it. -/
def WordTo (rank : Int) (xs : List Int) (k : Nat) : Prop :=
  ∀ j x, j < k → xs[j]? = some x → letB rank x = true ∧ ∀ y, 0 < j → xs[j - 1]? = some y → invB y x = false
theorem WordTo.zero (rank : Int) (xs : List Int) : WordTo rank xs 0 := fun j x h => absurd h (Nat.not_lt_zero j)
theorem WordTo.succ {rank : Int} {xs : List Int} {k : Nat} {x : Int} (h : WordTo rank xs k) (hx : xs[k]? = some x) (hl : letB rank x = true) (hp : ∀ y, 0 < k → xs[k - 1]? = some y → invB y x = false) : WordTo rank xs (k + 1) := by
  intro j z hj hz
  rcases Nat.lt_or_eq_of_le (Nat.le_of_lt_succ hj) with h1 | rfl
  · exact h j z h1 hz
  · rw [hx] at hz
    obtain rfl := Option.some.inj hz
    exact ⟨hl, hp⟩
theorem wordTo_all {rank : Int} {xs : List Int} (h1 : 1 ≤ rank) (h3 : rank ≤ 3) : WordTo rank xs xs.length ↔ WordP rank xs := by
  constructor
  · intro h
    refine ⟨fun x hx => ?_, fun k x y hx hy he => ?_⟩
    · obtain ⟨j, hj⟩ := List.mem_iff_getElem?.1 hx
      have := (h j x (List.getElem?_eq_some_iff.1 hj).1 hj).1
      simpa [letB] using this
    · have hl := (List.getElem?_eq_some_iff.1 hy).1
      have h2 := (h (k + 1) y hl hy).2 x (Nat.succ_pos k) (by simpa using hx)
      have h4 := (h k x (by omega) hx).1
      simp [letB] at h4
      have : invB x y = true := (invB_iff x y).2 ⟨h4.1, by unfold minI; omega, he⟩
      rw [this] at h2
      cases h2
  · rintro ⟨ha, hb⟩ j x hj hx
    refine ⟨by simpa [letB] using ha x (List.mem_of_getElem? hx), fun y h0 hy => ?_⟩
    cases hv : invB y x with
    | false => rfl
    | true => exact absurd ((invB_iff y x).1 hv).2.2 (hb (j - 1) y x hy (by rw [Nat.sub_add_cancel h0]; exact hx))

/-- What the reference tests of one letter. -/
def RawAt (rank : Int) (xs : List Int) (j : Nat) (x : Int) : Prop := (x == 0) = false ∧ inB x (wrap64 (-rank)) rank = true ∧ ∀ y, 0 < j → xs[j - 1]? = some y → (x == wrap64 (-y)) = false
def RawTo (rank : Int) (xs : List Int) (k : Nat) : Prop := ∀ j x, j < k → xs[j]? = some x → RawAt rank xs j x
theorem RawTo.zero (rank : Int) (xs : List Int) : RawTo rank xs 0 := fun j x h => absurd h (Nat.not_lt_zero j)
theorem RawTo.succ {rank : Int} {xs : List Int} {k : Nat} {x : Int} (h : RawTo rank xs k) (hx : xs[k]? = some x) (hp : RawAt rank xs k x) : RawTo rank xs (k + 1) := by
  intro j z hj hz
  rcases Nat.lt_or_eq_of_le (Nat.le_of_lt_succ hj) with h1 | rfl
  · exact h j z h1 hz
  · rw [hx] at hz
    obtain rfl := Option.some.inj hz
    exact hp
theorem rawTo_all {rank : Int} {xs : List Int} (h1 : 1 ≤ rank) (h3 : rank ≤ 3) : RawTo rank xs xs.length ↔ WordP rank xs := by
  have hw : wrap64 (-rank) = -rank := by rw [wrap_neg (by omega) (by omega)]; unfold negI minI; rw [if_neg (by omega)]
  have hwy : ∀ y, -rank ≤ y → y ≤ rank → wrap64 (-y) = -y := fun y ha hb => by rw [wrap_neg (by omega) (by omega)]; unfold negI minI; rw [if_neg (by omega)]
  unfold RawTo RawAt
  rw [hw]
  constructor
  · intro h
    refine ⟨fun x hx => ?_, fun k x y hx hy he => ?_⟩
    · obtain ⟨j, hj⟩ := List.mem_iff_getElem?.1 hx
      have := h j x (List.getElem?_eq_some_iff.1 hj).1 hj
      simp [inB] at this
      exact ⟨this.1, this.2.1⟩
    · have hl := (List.getElem?_eq_some_iff.1 hy).1
      have h2 := (h (k + 1) y hl hy).2.2 x (Nat.succ_pos k) (by simpa using hx)
      have h4 := (h k x (by omega) hx).2.1
      simp [inB] at h4
      rw [hwy x h4.1 h4.2, he] at h2
      simp at h2
  · rintro ⟨ha, hb⟩ j x hj hx
    have h0 := ha x (List.mem_of_getElem? hx)
    refine ⟨by simpa using h0.1, by simpa [inB] using h0.2, fun y hp hy => ?_⟩
    have h5 := ha y (List.mem_of_getElem? hy)
    rw [hwy y h5.2.1 h5.2.2]
    have := hb (j - 1) y x hy (by rw [Nat.sub_add_cancel hp]; exact hx)
    simpa using this
end Go.Proofs.YtimmnnncgnnkgaaGreat

/- Plain: the path of a word that is added to a graph. -/
namespace Go.Proofs.YtimmnnncgnnkgaaGreat
set_option linter.unusedVariables false
set_option linter.unusedSimpArgs false

/-- The edge that is passed by a letter. -/
def stepE (u x v : Int) : Ed := if x < 0 then ⟨v, -x, u⟩ else ⟨u, x, v⟩
/-- The vertices of the path: u, new ones from s on, v behind letter n. -/
def pathV (u s : Int) (n : Nat) (v : Int) (i : Nat) : Int := if i = 0 then u else if i < n then s + (i : Int) - 1 else v
def pathE (u s : Int) (w : List Int) (v : Int) (k : Nat) : List Ed := (List.range k).map fun i => stepE (pathV u s w.length v i) (w.getD i 0) (pathV u s w.length v (i + 1))
theorem pathE_succ {u s v x : Int} {w : List Int} {k : Nat} (h : w[k]? = some x) : pathE u s w v (k + 1) = pathE u s w v k ++ [stepE (pathV u s w.length v k) x (pathV u s w.length v (k + 1))] := by
  simp [pathE, List.range_succ, List.getD, h]
theorem pathE_len (u s : Int) (w : List Int) (v : Int) (k : Nat) : (pathE u s w v k).length = k := by simp [pathE]
structure PathOk (r s : Int) (es : List Ed) (u : Int) (w : List Int) (v : Int) : Prop where
  gr : IsGr r s es
  u0 : 0 ≤ u ∧ u < s
  v0 : 0 ≤ v ∧ v < s
  word : IsW r w
  ne : w ≠ []
  sz : s + (w.length : Int) - 1 ≤ 40
  ln : es.length + w.length ≤ 120
theorem pathV_in {u s v : Int} {n : Nat} (hu : 0 ≤ u ∧ u < s) (hv : 0 ≤ v ∧ v < s) (i : Nat) : 0 ≤ pathV u s n v i ∧ (0 < n → pathV u s n v i < s + (n : Int) - 1) := by
  unfold pathV
  split
  · omega
  · split <;> omega
theorem stepE_in {r s u x v : Int} (hu : 0 ≤ u ∧ u < s) (hv : 0 ≤ v ∧ v < s) (hx : x ≠ 0 ∧ -r ≤ x ∧ x ≤ r) : InG r s (stepE u x v) := by
  unfold stepE InG
  split <;> simp only <;> omega
theorem path_gr {r s : Int} {es : List Ed} {u : Int} {w : List Int} {v : Int} (h : PathOk r s es u w v) : IsGr r (s + (w.length : Int) - 1) (canon (es ++ pathE u s w v w.length)) := by
  have hs := h.gr.size
  have hn : 0 < w.length := List.length_pos_iff.2 h.ne
  refine ⟨h.gr.rank, ⟨by omega, h.sz⟩, ?_, ?_, asc_canon _⟩
  · have h1 := canon_len (es ++ pathE u s w v w.length)
    rw [List.length_append, pathE_len] at h1
    have := h.ln
    omega
  · intro e he
    rcases List.mem_append.1 (mem_canon.1 he) with h1 | h1
    · have := h.gr.all e h1
      unfold InG at this ⊢
      omega
    · simp only [pathE, List.mem_map, List.mem_range] at h1
      obtain ⟨i, hi, rfl⟩ := h1
      have h2 := pathV_in (n := w.length) h.u0 h.v0 i
      have h3 := pathV_in (n := w.length) h.u0 h.v0 (i + 1)
      refine stepE_in ⟨h2.1, h2.2 hn⟩ ⟨h3.1, h3.2 hn⟩ ?_
      have hw := h.word.2.2.2
      have hm : w.getD i 0 ∈ w := by
        rw [List.getD_eq_getElem?_getD, List.getElem?_eq_getElem hi]
        exact List.getElem_mem hi
      exact hw.1 _ hm
end Go.Proofs.YtimmnnncgnnkgaaGreat

/- IsWord, both sides. -/
namespace Go.Proofs.YtimmnnncgnnkgaaGreat
set_option linter.unusedVariables false
set_option linter.unusedSimpArgs false
open Go.RowKit

set_option maxHeartbeats 1600000 in
theorem impl_IsWord (rank : Int) (A : Option Addr) (xs : List Int) (c : Nat) (w : World) (B : Nat) (hr : Rs w B A (ints xs)) (hok : OkI xs) (hl : xs.length ≤ 4194304) (r : Bool) (hres : r = true ↔ IsW rank xs) :
    Calls Tryz.prog 59 #[.int .i64 rank, .slice A xs.length c] w fun e w' => e = .returned (.bool r) ∧ w = w' := by
  have HOK := Lib.hid hok
  have HR := Lib.hid hres
  clear hok hres
  by_cases hb : inB rank 1 3 = false
  · have hf : r = false := by
      cases r with
      | false => rfl
      | true =>
        have h := HR.out.1 rfl
        simp [inB] at hb
        have := h.1
        have := h.2.1
        omega
    subst hf
    have HB := Lib.hid hb
    clear hb
    go_enter Tryz.func59, Tryz.ntmps59
    go_wp2_with fail
    refine (within_any _ _ _ _).mono ?_
    rintro e w' ⟨rfl, rfl⟩
    rw [HB.out]
    go_wp2_with fail
    go_ret
    exact ⟨rfl, rfl⟩
  · have hb' : inB rank 1 3 = true := by simpa using hb
    have h13 : 1 ≤ rank ∧ rank ≤ 3 := by simpa [inB] using hb'
    have HB := Lib.hid hb'
    clear hb hb'
    obtain ⟨h1, h3⟩ := h13
    by_cases h24 : 24 < xs.length
    · have hf : r = false := by
        cases r with
        | false => rfl
        | true =>
          have := (HR.out.1 rfl).2.2.1
          omega
      subst hf
      go_enter Tryz.func59, Tryz.ntmps59
      go_wp2_with fail
      refine (within_any _ _ _ _).mono ?_
      rintro e w' ⟨rfl, rfl⟩
      rw [HB.out]
      go_wp2_with fail
      go_ret
      exact ⟨rfl, rfl⟩
    · have hR2 : r = true ↔ WordTo rank xs xs.length := HR.out.trans ⟨fun h => (wordTo_all h1 h3).2 h.2.2.2, fun h => ⟨h1, h3, by omega, (wordTo_all h1 h3).1 h⟩⟩
      have HR2 := Lib.hid hR2
      clear hR2 HR
      go_enter Tryz.func59, Tryz.ntmps59
      go_wp2_with fail
      refine (within_any _ _ _ _).mono ?_
      rintro e w' ⟨rfl, rfl⟩
      rw [HB.out]
      go_wp2_with fail
      go_loop [5, 6, 17] (fun _ _ i => ∃ k : Nat, k ≤ xs.length ∧ i = .int .i64 k ∧ WordTo rank xs k) (fun _ _ i => xs.length - (intOf i).toNat)
      case atStart => exact ⟨0, Nat.zero_le _, rfl, WordTo.zero _ _⟩
      case round =>
        obtain ⟨k, hk, rfl, hto⟩ := hrel
        have HT := Lib.hid hto
        clear hto
        by_cases hlt : k < xs.length
        · obtain ⟨b, off, x, rfl, -, hx, hc⟩ := hr.int hlt
          have HX := Lib.hid hx
          clear hx
          by_cases hL : letB rank x = false
          · have hf : r = false := by
              cases r with
              | false => rfl
              | true =>
                have := (HR2.out.1 rfl k x hlt HX.out).1
                rw [hL] at this
                cases this
            subst hf
            have HL := Lib.hid hL
            clear hL
            go_wp2_with fail
            refine (impl_isLetter _ _ _ h1 h3).mono ?_
            rintro e w' ⟨rfl, rfl⟩
            rw [HL.out]
            go_wp2_with fail
            go_ret
            exact ⟨rfl, rfl⟩
          · have hL' : letB rank x = true := by simpa using hL
            have HL := Lib.hid hL'
            clear hL hL'
            cases k with
            | zero =>
              have hc0 : w.cell? ⟨b, off, none⟩ = some (.int .i64 x) := hc
              go_wp2_with fail
              refine (impl_isLetter _ _ _ h1 h3).mono ?_
              rintro e w' ⟨rfl, rfl⟩
              rw [HL.out]
              go_wp2_with fail
              go_round
              case rel => exact ⟨1, by omega, by go_num, HT.out.succ HX.out HL.out (fun y h => absurd h (Nat.lt_irrefl 0))⟩
              case measure => simp [intOf]; omega
            | succ m =>
              obtain ⟨b', off', y, he, -, hy, hcy⟩ := hr.int (show m < xs.length by omega)
              injection he with he
              injection he with he1 he2 _
              subst he1 he2
              have hby := HOK.out y (List.mem_of_getElem? hy)
              have HY := Lib.hid hy
              have hyl : -9223372036854775808 ≤ y ∧ y ≤ 9223372036854775807 := hby
              obtain ⟨hy1, hy2⟩ := hyl
              clear hy hby
              by_cases hI : invB y x = true
              · have hf : r = false := by
                  cases r with
                  | false => rfl
                  | true =>
                    have := (HR2.out.1 rfl (m + 1) x hlt HX.out).2 y (Nat.succ_pos m) HY.out
                    rw [hI] at this
                    cases this
                subst hf
                have HI := Lib.hid hI
                clear hI
                go_wp2_with fail
                refine (impl_isLetter _ _ _ h1 h3).mono ?_
                rintro e w' ⟨rfl, rfl⟩
                rw [HL.out]
                go_wp2_with fail
                refine (impl_areInverse _ _ _ hy1 hy2).mono ?_
                rintro e w' ⟨rfl, rfl⟩
                rw [HI.out]
                go_wp2_with fail
                go_ret
                exact ⟨rfl, rfl⟩
              · have hI' : invB y x = false := by simpa using hI
                have HI := Lib.hid hI'
                clear hI hI'
                go_wp2_with fail
                refine (impl_isLetter _ _ _ h1 h3).mono ?_
                rintro e w' ⟨rfl, rfl⟩
                rw [HL.out]
                go_wp2_with fail
                refine (impl_areInverse _ _ _ hy1 hy2).mono ?_
                rintro e w' ⟨rfl, rfl⟩
                rw [HI.out]
                go_wp2_with fail
                go_round
                case rel =>
                  refine ⟨m + 1 + 1, by omega, by go_num, HT.out.succ HX.out HL.out (fun z _ hz => ?_)⟩
                  rw [Nat.add_sub_cancel, HY.out] at hz
                  obtain rfl := Option.some.inj hz
                  exact HI.out
                case measure => simp [intOf]; omega
        · obtain rfl : k = xs.length := by omega
          obtain rfl : r = true := HR2.out.2 HT.out
          go_wp2_with fail
          go_ret
          exact ⟨rfl, rfl⟩
end Go.Proofs.YtimmnnncgnnkgaaGreat
