/- Contracts and lemmas of this seat, many texts in one: see the words ahead of each. No condition beyond those typed in each lemma. -/
import Derived.Test.YtkaofcakelpnpaaGreatIm2
import Derived.Test.YtkaofcakelpnpaaGreatIm1
import Derived.Lib.SliceRun

namespace Go.Proofs.YtkaofcakelpnpaaGreat
set_option linter.unusedVariables false
set_option linter.unusedSimpArgs false
open Go.RowKit
structure TwoI (w : World) (lo : Nat) (F T : Value) (n m : Nat) (xs ys : List Int) : Prop where
  f : w.ownsRow lo 3 1 F n (ints xs)
  t : w.ownsRow lo 3 1 T m (ints ys)
  ne : F.ownBlock ≠ T.ownBlock
theorem TwoI.swap {w : World} {lo : Nat} {F T : Value} {n m : Nat} {xs ys : List Int} (h : TwoI w lo F T n m xs ys) : TwoI w lo T F m n ys xs := ⟨h.t, h.f, fun e => h.ne e.symm⟩
theorem TwoI.push {w w' : World} {lo : Nat} {F T F' : Value} {n m n' : Nat} {xs ys xs' : List Int} (h : TwoI w lo F T n m xs ys) (ho : w'.ownsRow lo 3 1 F' n' (ints xs')) (hg : w.grownBy w' F.ownBlock) (hb : F'.ownBlock = F.ownBlock ∨ F'.ownBlock = some (w.heap.size + 1)) : TwoI w' lo F' T n' m xs' ys := by
  refine ⟨ho, h.t.kept hg ?_, fun e => ?_⟩
  · cases hT : T.ownBlock with
    | none => exact .inl rfl
    | some j => exact .inr fun e => h.ne (by rw [hT]; exact e.symm)
  · rcases hb with hb | hb
    · exact h.ne (hb.symm.trans e)
    · have := (h.t.lt (w.heap.size + 1) (by rw [← e, hb])).2
      omega
theorem TwoI.mid {w w' : World} {lo a b : Nat} {F T : Value} {n m : Nat} {xs ys : List Int} (h : TwoI w lo F T n m xs ys) (hm : Mid a b w w') (hd : b ≤ lo) : TwoI w' lo F T n m xs ys := ⟨owns_mid h.f hm (Or.inl hd), owns_mid h.t hm (Or.inl hd), h.ne⟩
section
variable {W : World} {ops : Array Oper} {rest : List Oper} {o : Oper} {a : Act} {Q : Exit → Act → World → Prop}
theorem wpList_push2 (hgd : o.guard = none) (s x : Operand)
    (ho : o.op = .call { callee := .builtin .append, args := #[s, x], argTypes := #[48, 48] }) (lo : Nat) (A : Option Addr) (n c : Nat) (xs : List Int) (T : Value) (m : Nat) (ys : List Int) (hs : a.eval s = .slice A n c)
    (h2 : TwoI W lo (.slice A n c) T n m xs ys) (y : Int) (hx : a.eval x = .slice (some ⟨W.heap.size, 0, none⟩) 1 1) (hn : n ≤ 1048576) (hb : lo ≤ W.heap.size)
    (h : ∀ A' c' w', TwoI w' lo (.slice A' (n + 1) c') T (n + 1) m (xs ++ [y]) ys → Mid lo W.heap.size W w' → wpList Tryz.prog ops Q rest (a.put o.dst (.slice A' (n + 1) c')) w') :
    wpList Tryz.prog ops Q (o :: rest) a (W.alloc (.cells #[.int .i64 y] 3)) := by
  refine wpList_push (news := [.int .i64 y]) hgd s x 48 ho lo 3 (.int .i64 0) 1 8 undSI infoI rfl (by decide) (.slice A n c) n (ints xs) hs h2.f 1 hx rfl ?_ (by unfold maxLen; omega) (by omega) hb ?_
  · intro u hu
    simp at hu
    subst hu
    rfl
  · intro v' w' h3 h4 h5
    obtain ⟨A', c', rfl, -, -⟩ := owns_shape h3
    refine h A' c' w' (h2.push ?_ h4 h5) (Mid.of_grownRow h2.f h4)
    rw [ints_append]
    exact h3
theorem wpList_pushE2 (hgd : o.guard = none) (s x : Operand)
    (ho : o.op = .call { callee := .builtin .append, args := #[s, x], argTypes := #[30, 30] }) (lo : Nat) (A : Option Addr) (n c : Nat) (es : List Ed) (hs : a.eval s = .slice A n c)
    (hown : W.ownsRow lo 64 3 (.slice A n c) n (ints (edI es))) (e : Ed) (hx : a.eval x = .slice (some ⟨W.heap.size, 0, none⟩) 1 1) (hn : n ≤ 1048576) (hb : lo ≤ W.heap.size)
    (h : ∀ A' c' w', w'.ownsRow lo 64 3 (.slice A' (n + 1) c') (n + 1) (ints (edI (es ++ [e]))) → W.grownBy w' (Value.ownBlock (.slice A n c)) → (Value.ownBlock (.slice A' (n + 1) c') = Value.ownBlock (.slice A n c) ∨ Value.ownBlock (.slice A' (n + 1) c') = some (W.heap.size + 1)) → wpList Tryz.prog ops Q rest (a.put o.dst (.slice A' (n + 1) c')) w') :
    wpList Tryz.prog ops Q (o :: rest) a (W.alloc (.cells #[.int .i64 e.a, .int .i64 e.l, .int .i64 e.b] 64)) := by
  refine wpList_push (news := [.int .i64 e.a, .int .i64 e.l, .int .i64 e.b]) hgd s x 30 ho lo 64 (.agg #[.int .i64 0, .int .i64 0, .int .i64 0]) 3 24 undSE infoE rfl (by decide) (.slice A n c) n (ints (edI es)) hs hown 1 hx rfl ?_ (by unfold maxLen; omega) (by omega) hb ?_
  · intro u hu
    simp at hu
    rcases hu with rfl | rfl | rfl <;> rfl
  · intro v' w' h1 h2 h3
    obtain ⟨A', c', rfl, -, -⟩ := owns_shape h1
    refine h A' c' w' ?_ h2 h3
    rw [edI_append, ints_append, edI_one]
    exact h1
end
def CompleteIs (r s : Int) (es : List Ed) (rr rs : Int) (res : List Ed) (b : Bool) : Prop :=
  (b = true ∧ IsFol r s es ∧ rr = r ∧ rs = s ∧ res = canon (es ++ addLs s es r.toNat)) ∨ (b = false ∧ ¬ IsFol r s es ∧ rr = 0 ∧ rs = 0 ∧ res = [])
theorem CompleteIs.no {r s : Int} {es : List Ed} {rr rs : Int} {res : List Ed} {b : Bool} (h : CompleteIs r s es rr rs res b) (hn : ¬ IsFol r s es) : b = false ∧ rr = 0 ∧ rs = 0 ∧ res = [] := by
  rcases h with ⟨-, h, -⟩ | ⟨h1, -, h2⟩
  · exact absurd h hn
  · exact ⟨h1, h2⟩
theorem CompleteIs.yes {r s : Int} {es : List Ed} {rr rs : Int} {res : List Ed} {b : Bool} (h : CompleteIs r s es rr rs res b) (hn : IsFol r s es) : b = true ∧ rr = r ∧ rs = s ∧ res = canon (es ++ addLs s es r.toNat) := by
  rcases h with ⟨h1, -, h2⟩ | ⟨-, h, -⟩
  · exact ⟨h1, h2⟩
  · exact absurd hn h
end Go.Proofs.YtkaofcakelpnpaaGreat

namespace Go.Proofs.YtkaofcakelpnpaaGreat
set_option linter.unusedVariables false
set_option linter.unusedSimpArgs false
open Go.RowKit
theorem lets_le {n : Nat} {x : Int} (h : x ∈ lets n) : -(n : Int) ≤ x ∧ x ≤ n := (mem_lets.1 h).2
set_option maxHeartbeats 1600000 in
theorem impl_letters (n : Nat) (w : World) (hn : n ≤ 1000) :
    Calls Tryz.prog 82 #[.int .i64 n] w fun e w' => ∃ A c, e = .returned (.slice A (lets n).length c) ∧ RV w' w.heap.size w'.heap.size A (ints (lets n)) ∧ Mid 0 0 w w' := by
  have hm0 : Mid 0 0 w (w.alloc (.cells #[] 3)) := Mid.alloc _ _
  have O0 := owns_empty w 3 1
  go_enter Tryz.func82, Tryz.ntmps82
  go_wp2_with fail
  go_loopw [3, 4] (fun out i wr => ∃ (k : Nat) (A1 : Option Addr) (c1 n1 : Nat), k ≤ n ∧ i = .int .i64 ((k : Int) + 1) ∧ out = .slice A1 n1 c1 ∧ Hid ((lets k).length = n1) ∧
      wr.ownsRow w.heap.size 3 1 (.slice A1 n1 c1) n1 (ints (lets k)) ∧ Mid 0 0 w wr ∧ w.heap.size ≤ wr.heap.size) (fun _ i _ => (n + 1 - intOf i).toNat)
  case atStart => exact ⟨0, _, 0, 0, Nat.zero_le _, rfl, rfl, Lib.hid rfl, O0, hm0, hm0.size⟩
  case round =>
    obtain ⟨k, A1, c1, n1, hk, rfl, rfl, HN, hown, hm, hsz⟩ := hrel
    have hn1 : n1 ≤ 2000 := by have h1 := lets_len k; have h2 := HN.out; omega
    by_cases hlt : k < n
    · have hkn : (k : Int) + 1 ≤ n := by omega
      have hk0 : (0 : Int) ≤ (k : Int) := by omega
      have b4 : wrap64 (-((k : Int) + 1)) = -((k : Int) + 1) := by unfold wrap64; omega
      have HW := Lib.hid hown
      clear hown
      go_wp2_with (at_builtin; refine wpList_push rfl _ _ 48 rfl w.heap.size 3 (.int .i64 0) 1 8 undSI infoI rfl (by decide) _ _ _ rfl HW.out 2 [.int .i64 ((k : Int) + 1), .int .i64 (-((k : Int) + 1))] rfl rfl ?c1 ?c2 ?c3 hsz ?next)
      case c1 => exact one_of_ints [(k : Int) + 1, -((k : Int) + 1)]
      case c2 => unfold maxLen; omega
      case c3 => omega
      case next =>
        intro v' w3 hown1 hgr _
        obtain ⟨A3, c3, rfl, -, -⟩ := owns_shape hown1
        have hm3 := Mid.of_grownRow HW.out hgr
        go_wp2_with fail
        go_roundw
        case rel =>
          refine ⟨k + 1, A3, c3, n1 + 2, by omega, by go_num, rfl, Lib.hid (by have := HN.out; simp [lets]; omega), ?_, hm.transNew hm3 (Or.inl (Nat.le_refl _)), Nat.le_trans hsz hm3.size⟩
          rw [lets, ints_append]
          exact hown1
        case measure => simp [intOf]; omega
    · obtain rfl : k = n := by omega
      have hx := HN.out
      have hsz2 := hm.size
      go_wp2_with fail
      go_ret
      exact ⟨_, _, (by rw [hx]; rfl), owns_rv hown, hm⟩
set_option maxHeartbeats 1600000 in
theorem spec_l5Letters (n : Nat) (w : World) (hn : n ≤ 1000) :
    Calls Tryz.prog 95 #[.int .i64 n] w fun e w' => ∃ A c, e = .returned (.slice A (lets n).length c) ∧ RV w' w.heap.size w'.heap.size A (ints (lets n)) ∧ Mid 0 0 w w' := by
  have hm0 : Mid 0 0 w (w.alloc (.cells #[] 3)) := Mid.alloc _ _
  have O0 := owns_empty w 3 1
  go_enter Tryz.func95, Tryz.ntmps95
  go_wp2_with fail
  go_loopw [3, 4] (fun out i wr => ∃ (k : Nat) (A1 : Option Addr) (c1 n1 : Nat), k ≤ n ∧ i = .int .i64 ((k : Int) + 1) ∧ out = .slice A1 n1 c1 ∧ Hid ((lets k).length = n1) ∧
      wr.ownsRow w.heap.size 3 1 (.slice A1 n1 c1) n1 (ints (lets k)) ∧ Mid 0 0 w wr ∧ w.heap.size ≤ wr.heap.size) (fun _ i _ => (n + 1 - intOf i).toNat)
  case atStart => exact ⟨0, _, 0, 0, Nat.zero_le _, rfl, rfl, Lib.hid rfl, O0, hm0, hm0.size⟩
  case round =>
    obtain ⟨k, A1, c1, n1, hk, rfl, rfl, HN, hown, hm, hsz⟩ := hrel
    have hn1 : n1 ≤ 2000 := by have h1 := lets_len k; have h2 := HN.out; omega
    by_cases hlt : k < n
    · have hkn : (k : Int) + 1 ≤ n := by omega
      have hk0 : (0 : Int) ≤ (k : Int) := by omega
      have b4 : wrap64 (-((k : Int) + 1)) = -((k : Int) + 1) := by unfold wrap64; omega
      have HW := Lib.hid hown
      clear hown
      go_wp2_with (first | (at_builtin; refine wpList_pushI rfl _ _ rfl w.heap.size A1 n1 c1 (lets k) rfl HW.out ((k : Int) + 1) rfl (by omega) hsz ?_; intro A2 c2 w2 hown2 hm2; have hsz2 := Nat.le_trans hsz hm2.size; have HW2 := Lib.hid hown2; clear hown2) | (at_builtin; refine wpList_pushI rfl _ _ rfl w.heap.size A2 (n1 + 1) c2 (lets k ++ [(k : Int) + 1]) rfl HW2.out (-((k : Int) + 1)) rfl (by omega) hsz2 ?_; intro A3 c3 w3 hown3 hm3))
      go_roundw
      case rel =>
        refine ⟨k + 1, A3, c3, n1 + 1 + 1, by omega, by go_num, rfl, Lib.hid (by have := HN.out; simp [lets]; omega), ?_, (hm.transNew hm2 (Or.inl (Nat.le_refl _))).transNew hm3 (Or.inl (Nat.le_refl _)), Nat.le_trans hsz2 hm3.size⟩
        rw [List.append_assoc] at hown3
        exact hown3
      case measure => simp [intOf]; omega
    · obtain rfl : k = n := by omega
      have hx := HN.out
      have hsz2 := hm.size
      go_wp2_with fail
      go_ret
      exact ⟨_, _, (by rw [hx]; rfl), owns_rv hown, hm⟩
set_option maxHeartbeats 800000 in
theorem copyIntsN (A : Option Addr) (xs : List Int) (c : Nat) (w : World) (lo hi : Nat) (hr : RV w lo hi A (ints xs)) (hl : xs.length ≤ 1048576) :
    Calls Tryz.prog 84 #[.slice A xs.length c] w fun e w' => ∃ g c2, e = .returned (.slice (some ⟨g, 0, none⟩) xs.length c2) ∧ w'.ownsRow w.heap.size 3 1 (.slice (some ⟨g, 0, none⟩) xs.length c2) xs.length (ints xs) ∧ Mid 0 0 w w' := by
  have hoe := owns_empty w 3 1
  have hal := Mid.alloc w (.cells #[] 3)
  have hra := (hr.mid hal oZl).rs
  have hla : (ints xs).length = xs.length * 1 := by rw [ints_len]; omega
  have hnn : (Value.slice (some ⟨w.heap.size, 0, none⟩) 0 0).ownBlock ≠ none := by simp [Value.ownBlock]
  have HNN := Lib.hid hnn
  clear hnn
  go_enter Tryz.func84, Tryz.ntmps84
  go_wp2_with (at_builtin; refine wpList_cat rfl _ _ 48 rfl w.heap.size 3 (.int .i64 0) 1 8 undSI infoI rfl (by decide) _ _ _ rfl hoe A xs.length c _ (ints xs) rfl hra hla (one_of_ints _) ?c4 ?c5 ?c6 ?next)
  case c4 => unfold maxLen; omega
  case c5 => omega
  case c6 => simp
  case next =>
    intro v2 w2 ho2 hgr2 hat2
    obtain ⟨g, c2, rfl, hg1, -, -⟩ := owns_blk ho2 hat2 HNN.out
    try rw [Nat.zero_add, List.nil_append] at ho2
    have hm2 := Mid.of_grownRow hoe hgr2
    have hmm := hal.transNew hm2 (Or.inl (Nat.le_refl _))
    go_wp2_with fail
    go_ret
    exact ⟨g, c2, by simp, ho2, hmm⟩
end Go.Proofs.YtkaofcakelpnpaaGreat

namespace Go.Proofs.YtkaofcakelpnpaaGreat
set_option linter.unusedVariables false
set_option linter.unusedSimpArgs false
open Go.RowKit
end Go.Proofs.YtkaofcakelpnpaaGreat

namespace Go.Proofs.YtkaofcakelpnpaaGreat
set_option linter.unusedVariables false
set_option linter.unusedSimpArgs false
open Go.RowKit
def seenOf (n : Nat) (l : List Int) : List Value := (List.range n).map (fun (j : Nat) => Value.bool (decide ((j : Int) ∈ l)))
theorem seenOf_nil (n : Nat) : seenOf n [] = List.replicate n (.bool false) := by
  unfold seenOf
  apply List.ext_getElem <;> simp
theorem seenOf_get {n j : Nat} {l : List Int} (h : j < n) : (seenOf n l)[j]? = some (.bool (decide ((j : Int) ∈ l))) := by simp [seenOf, h]
theorem seenOf_set {n m : Nat} {l : List Int} (_h : m < n) : (seenOf n l).set m (.bool true) = seenOf n (l ++ [(m : Int)]) := by
  unfold seenOf
  apply List.ext_getElem
  · simp
  · intro i h1 h2
    rw [List.getElem_set]
    by_cases e : m = i
    · subst e
      simp
    · simp [e]
      intro e'
      omega
end Go.Proofs.YtkaofcakelpnpaaGreat

namespace Go.Proofs.YtkaofcakelpnpaaGreat
set_option linter.unusedVariables false
set_option linter.unusedSimpArgs false
structure JAt (s : Int) (es : List Ed) (v : Int) (vis : List Int) : Prop where
  here : v ∈ vis
  rng : ∀ u ∈ vis, 0 ≤ u ∧ u < s
  nd : vis.Nodup
  conn : ∀ u ∈ vis, Conn es v u
theorem JAt.le {s : Int} {es : List Ed} {v : Int} {vis : List Int} (h : JAt s es v vis) : vis.length ≤ s.toNat := by
  refine nodup_le s.toNat vis h.nd fun u hu => ?_
  have := h.rng u hu
  omega
theorem JAt.start {s : Int} (es : List Ed) {v : Int} (h0 : 0 ≤ v) (h1 : v < s) : JAt s es v [v] := by
  refine ⟨by simp, ?_, by simp, ?_⟩
  · intro u hu; simp at hu; subst hu; exact ⟨h0, h1⟩
  · intro u hu; simp at hu; subst hu; exact .here
theorem JAt.push {s : Int} {es : List Ed} {v u : Int} {vis : List Int} (h : JAt s es v vis) (hr : 0 ≤ u ∧ u < s) (hn : u ∉ vis) (hc : Conn es v u) : JAt s es v (vis ++ [u]) := by
  refine ⟨by simp [h.here], ?_, ?_, ?_⟩
  · intro x hx
    rcases List.mem_append.1 hx with hx | hx
    · exact h.rng x hx
    · simp at hx; subst hx; exact hr
  · rw [List.nodup_append]
    refine ⟨h.nd, by simp, ?_⟩
    intro a ha b hb
    simp at hb
    subst hb
    intro e
    subst e
    exact hn ha
  · intro x hx
    rcases List.mem_append.1 hx with hx | hx
    · exact h.conn x hx
    · simp at hx; subst hx; exact hc
def Shut' (es : List Ed) (k : Nat) (vis : List Int) : Prop := ∀ (j : Nat) (e : Ed), j < k → es[j]? = some e → (e.a ∈ vis ↔ e.b ∈ vis)
theorem Shut'.zero (es : List Ed) (vis : List Int) : Shut' es 0 vis := fun j e h => absurd h (Nat.not_lt_zero _)
theorem Shut'.succ {es : List Ed} {k : Nat} {vis : List Int} (h : Shut' es k vis) {e : Ed} (he : es[k]? = some e) (hc : e.a ∈ vis ↔ e.b ∈ vis) : Shut' es (k + 1) vis := fun j f hj hf => by
  by_cases h1 : j < k
  · exact h j f h1 hf
  · obtain rfl : j = k := by omega
    rw [he] at hf
    injection hf with hf
    subst hf
    exact hc
theorem JAt.done {s : Int} {es : List Ed} {v : Int} {vis : List Int} (h : JAt s es v vis) (hc : Shut' es es.length vis) (u : Int) : u ∈ vis ↔ Conn es v u := by
  refine conn_iff (P := fun u => u ∈ vis) h.here (fun e he => ?_) h.conn u
  obtain ⟨j, hj, rfl⟩ := List.mem_iff_getElem.1 he
  exact hc j _ hj (List.getElem?_eq_getElem hj)
theorem JAt.edge {s r : Int} {es : List Ed} {v : Int} {vis : List Int} (h : JAt s es v vis) {e : Ed} (he : e ∈ es) (hi : InG r s e) (hd : ¬ (e.a ∈ vis ↔ e.b ∈ vis)) :
    ∃ u, JAt s es v (vis ++ [u]) ∧ ∀ x, x ∈ vis ++ [e.a] ++ [e.b] ↔ x ∈ vis ++ [u] := by
  unfold InG at hi
  by_cases ha : e.a ∈ vis
  · have hb : e.b ∉ vis := fun hb => hd ⟨fun _ => hb, fun _ => ha⟩
    refine ⟨e.b, h.push (by omega) hb (.out he (h.conn _ ha)), fun x => ?_⟩
    simp only [List.mem_append, List.mem_singleton]
    constructor
    · rintro ((h | rfl) | h)
      · exact .inl h
      · exact .inl ha
      · exact .inr h
    · rintro (h | h)
      · exact .inl (.inl h)
      · exact .inr h
  · have hb : e.b ∈ vis := Classical.byContradiction fun hb => hd ⟨fun h => absurd h ha, fun h => absurd h hb⟩
    refine ⟨e.a, h.push (by omega) ha (.inn he (h.conn _ hb)), fun x => ?_⟩
    simp only [List.mem_append, List.mem_singleton]
    constructor
    · rintro ((h | rfl) | rfl)
      · exact .inl h
      · exact .inr rfl
      · exact .inl hb
    · rintro (h | h)
      · exact .inl (.inl h)
      · exact .inl (.inr h)
theorem filter_split' (p : Nat → Bool) : ∀ l : List Nat, (l.filter p).length + (l.filter fun v => !p v).length = l.length
  | [] => rfl
  | a :: t => by
    have := filter_split' p t
    cases h : p a <;> simp [h] <;> omega
theorem unseen_len {n : Nat} {es : List Ed} {v : Int} {vis : List Int} (h : JAt n es v vis) : ((List.range n).filter fun (j : Nat) => !decide ((j : Int) ∈ vis)).length + vis.length = n := by
  have h1 : vis.Perm (((List.range n).filter fun (j : Nat) => decide ((j : Int) ∈ vis)).map fun (j : Nat) => (j : Int)) := by
    refine (List.perm_ext_iff_of_nodup h.nd ?_).2 fun u => ?_
    · exact List.pairwise_map.2 ((List.nodup_range.filter _).imp fun h he => h (by omega))
    · rw [List.mem_map]
      constructor
      · intro hu
        have := h.rng u hu
        refine ⟨u.toNat, List.mem_filter.2 ⟨List.mem_range.2 (by omega), ?_⟩, by omega⟩
        rw [show ((u.toNat : Nat) : Int) = u by omega]
        simpa using hu
      · rintro ⟨k, hk, rfl⟩
        simpa using (List.mem_filter.1 hk).2
  have h2 := filter_split' (fun j : Nat => decide ((j : Int) ∈ vis)) (List.range n)
  have h3 := h1.length_eq
  rw [List.length_map] at h3
  rw [List.length_range] at h2
  omega
end Go.Proofs.YtkaofcakelpnpaaGreat

namespace Go.Proofs.YtkaofcakelpnpaaGreat
set_option linter.unusedVariables false
set_option linter.unusedSimpArgs false
open Go.RowKit
theorem seenOf_congr (n : Nat) {xs ys : List Int} (h : ∀ u, u ∈ xs ↔ u ∈ ys) : seenOf n xs = seenOf n ys := by
  unfold seenOf
  exact List.map_congr_left fun j _ => by rw [decide_eq_decide.2 (h j)]
theorem Mid.setAt (w : World) (b i : Nat) (u : Value) : Mid b (b + 1) w (w.setCell ⟨b, i, none⟩ u) := Mid.setCell w u (Nat.le_refl _) (Nat.lt_succ_self _)
def boolOf : Value → Bool | .bool b => b | _ => false
def cntF (w : World) (g n : Nat) : Nat := ((List.range n).filter fun j => match w.cell? ⟨g, j, none⟩ with | some (.bool false) => true | _ => false).length
theorem cntF_seen {w : World} {base g n c : Nat} {vis : List Int} {es : List Ed} {v : Int} (h : w.ownsRow base 4 1 (.slice (some ⟨g, 0, none⟩) n c) n (seenOf n vis)) (hj : JAt n es v vis) : cntF w g n + vis.length = n := by
  have h0 := unseen_len hj
  suffices hs : cntF w g n = ((List.range n).filter fun (j : Nat) => !decide ((j : Int) ∈ vis)).length by omega
  unfold cntF
  congr 1
  refine List.filter_congr fun j hj => ?_
  have hj := List.mem_range.1 hj
  rw [(h.cellAt j (by omega)).trans (seenOf_get hj)]
  by_cases hm : (j : Int) ∈ vis <;> simp [hm]
set_option maxHeartbeats 3200000 in
set_option maxRecDepth 20000 in
theorem impl_joined (r : Int) (n m : Nat) (A : Option Addr) (es : List Ed) (c : Nat) (w : World) (lo hi : Nat) (hr : RG w lo hi A es) (hg : IsGr r n es) (hv : m < n) :
    Calls Tryz.prog 77 #[graV r n A es.length c, .int .i64 m] w fun e w' => e = .returned (.slice (some ⟨w.heap.size + 1, 0, none⟩) n n) ∧ ∃ vis, w'.ownsRow (w.heap.size + 1) 4 1 (.slice (some ⟨w.heap.size + 1, 0, none⟩) n n) n (seenOf n vis) ∧ (∀ u, u ∈ vis ↔ Conn es m u) ∧ Mid 0 0 w w' := by
  have hn40 : n ≤ 40 := by have := hg.size; omega
  have hl := hg.len
  have hmx : n ≤ maxLen := by unfold maxLen; omega
  have hm0 : Mid 0 0 w (w.alloc (.cells #[.int .i64 r, .int .i64 n, .slice A es.length c] 32)) := Mid.alloc _ _
  have B0 := Box.new w #[.int .i64 r, .int .i64 n, .slice A es.length c] 32
  have HG := Lib.hid hg
  have hv3 : (m : Int) < (n : Int) := by omega
  have hv0 : (0 : Int) ≤ (m : Int) := by omega
  have hj0 := JAt.start (s := n) es hv0 hv3
  have HJ0 := Lib.hid hj0
  clear hg hj0
  go_enter Tryz.func77, Tryz.ntmps77
  go_wp2_with (at_make; refine wpList_mk rfl _ _ 80 rfl 4 (.bool false) 1 undSB infoB rfl .i64 .i64 _ _ n rfl rfl rfl rfl (by omega) hmx ?_; intro w2 hown2 hgr2 hsz2; have hfz := hown2.frozenAt m; obtain ⟨u, -, hcs⟩ := owns_cell hown2 hv; rw [World.size_alloc] at hfz hcs)
  have hm2 := hm0.trans (Mid.of_grown hgr2 (by intro g h; cases h))
  rw [World.size_alloc] at hown2
  have B2 := B0.mid (Mid.of_grown (lo := 0) (hi := 0) hgr2 (by intro g h; cases h)) oZr
  have hset := owns_set (ys := seenOf n [(m : Int)]) hown2 m (.bool true) (by rw [← seenOf_nil, seenOf_set hv]; rfl)
  have hms := Mid.storeNew hm2 (p := ⟨w.heap.size + 1, m, none⟩) (Nat.le_succ _) (.bool true)
  have hst : Mid (w.heap.size + 1) (w.heap.size + 2) w2 (w2.setCell ⟨w.heap.size + 1, m, none⟩ (.bool true)) := Mid.setCell _ _ (Nat.le_refl _) (Nat.lt_succ_self _)
  have B3 := B2.mid hst (Or.inl (Nat.lt_succ_self _))
  clear hown2 hgr2 hm2 B2 hcs hfz B0 hm0 hsz2 hst
  go_loopw [6] (fun a wr => ∃ (ag : Bool) (vis : List Int), a = .bool ag ∧ JAt n es m vis ∧ Hid (ag = false → Shut' es es.length vis) ∧ Box wr w.heap.size [.int .i64 r, .int .i64 n, .slice A es.length c] ∧
      wr.ownsRow (w.heap.size + 1) 4 1 (.slice (some ⟨w.heap.size + 1, 0, none⟩) n n) n (seenOf n vis) ∧ Mid 0 0 w wr) (fun a wr => 2 * cntF wr (w.heap.size + 1) n + if boolOf a then 1 else 0)
  case atStart => exact ⟨true, [(m : Int)], rfl, HJ0.out, Lib.hid (fun h => nomatch h), B3, hset, hms⟩
  case round =>
    clear B3 hset hms
    obtain ⟨wo, hwo⟩ : ∃ wo, wo = wr := ⟨_, rfl⟩
    subst hwo
    obtain ⟨ag0, vis0, rfl, hj, HA, bx, hown, hm⟩ := hrel
    cases ag0 with
    | false =>
      go_wp2_with fail
      go_ret
      exact ⟨rfl, vis0, hown, fun u => hj.done (HA.out trivial) u, hm⟩
    | true =>
      have HJ := Lib.hid hj
      have HC := Lib.hid (cntF_seen hown hj)
      clear hj HA
      have p0 := bx.cell 0 rfl
      have p1 := bx.cell 1 rfl
      have p2 := bx.cell 2 rfl
      go_wp2_with fail
      go_loopw [6, 19] (fun a i wr => ∃ (k : Nat) (ag : Bool) (vis : List Int), k ≤ es.length ∧ i = .int .i64 k ∧ a = .bool ag ∧ JAt n es m vis ∧ Hid (ag = false → vis.length = vis0.length ∧ Shut' es k vis) ∧ Hid (ag = true → vis0.length < vis.length) ∧ Hid (vis0.length ≤ vis.length) ∧
        Box wr w.heap.size [.int .i64 r, .int .i64 n, .slice A es.length c] ∧ wr.ownsRow (w.heap.size + 1) 4 1 (.slice (some ⟨w.heap.size + 1, 0, none⟩) n n) n (seenOf n vis) ∧ Mid 0 0 w wr) (fun _ i _ => es.length - (intOf i).toNat)
      case atStart => exact ⟨0, false, vis0, Nat.zero_le _, rfl, rfl, HJ.out, Lib.hid (fun _ => ⟨rfl, Shut'.zero es vis0⟩), Lib.hid (fun h => nomatch h), Lib.hid (Nat.le_refl _), bx, hown, hm⟩
      case round =>
        clear bx hown hm p0 p1 p2
        obtain ⟨k, ag, vis, hk, rfl, rfl, hj, HF, HT, HL, bx, hown, hm⟩ := hrel
        have p0 := bx.cell 0 rfl
        have p1 := bx.cell 1 rfl
        have p2 := bx.cell 2 rfl
        by_cases hlt : k < es.length
        · obtain ⟨B, off, e, rfl, -, hbh, he, e0, e1, e2⟩ := (hr.mid hm oZl).ed hlt
          have hin := HG.out.all e (List.mem_of_getElem? he)
          obtain ⟨i1, i2, i3, i4, i5, i6⟩ := hin
          have HE := Lib.hid he
          have hkn : (k : Int) < (es.length : Int) := by omega
          obtain ⟨x, l, y⟩ := e
          simp only at i1 i2 i3 i4 i5 i6 e0 e1 e2
          obtain ⟨ia, rfl⟩ : ∃ ia : Nat, x = ia := ⟨x.toNat, by omega⟩
          obtain ⟨ib, rfl⟩ : ∃ ib : Nat, y = ib := ⟨y.toNat, by omega⟩
          have hia : ia < n := by omega
          have hib : ib < n := by omega
          have hin : InG r n ⟨(ia : Int), l, (ib : Int)⟩ := ⟨i1, i2, i3, i4, i5, i6⟩
          have HIN := Lib.hid hin
          have hal := Mid.alloc wr (.cells #[.int .i64 ia, .int .i64 l, .int .i64 ib] 64)
          have ZE := Box.new wr #[.int .i64 ia, .int .i64 l, .int .i64 ib] 64
          have bx1 := bx.mid hal oZr
          have hown1 := hown.alloc (.cells #[.int .i64 ia, .int .i64 l, .int .i64 ib] 64)
          have hm1 := hm.trans hal
          have hca := (hown1.cellAt ia (by omega)).trans (seenOf_get hia)
          have hcb := (hown1.cellAt ib (by omega)).trans (seenOf_get hib)
          have hfz := fun i => hown1.frozenAt i
          have hgs : w.heap.size + 1 < wr.heap.size := (hown.lt _ rfl).2
          obtain ⟨ba, hba⟩ : ∃ b : Bool, decide ((ia : Int) ∈ vis) = b := ⟨_, rfl⟩
          obtain ⟨bb, hbb⟩ : ∃ b : Bool, decide ((ib : Int) ∈ vis) = b := ⟨_, rfl⟩
          rw [hba] at hca
          rw [hbb] at hcb
          clear he hin
          cases ba with
          | false =>
            cases bb with
            | false =>
              have HD : Hid ((ia : Int) ∈ vis ↔ (ib : Int) ∈ vis) := Lib.hid (by rw [← decide_eq_decide, hba, hbb])
              go_wp2_with fail
              go_quiet (fail)
              go_wp2_with fail
              go_roundw
              case rel => exact ⟨k + 1, ag, vis, by omega, by go_num, rfl, hj, Lib.hid (fun h => ⟨(HF.out h).1, (HF.out h).2.succ HE.out (HD.out)⟩), HT, HL, bx1.drewN _, owns_drewN hown1 _, hm1.drewN _⟩
              case measure => simp [intOf]; omega
            | true =>
              have hne1 : ¬ ia = ib := fun h => by rw [h, hbb] at hba; cases hba
              have hne2 : ¬ ib = ia := fun h => hne1 h.symm
              obtain ⟨u, hju, hmem⟩ := hj.edge (List.mem_of_getElem? HE.out) HIN.out (by simp only []; rw [← decide_eq_decide, hba, hbb]; simp)
              have hset := fun q => owns_set (owns_set (owns_drewN hown1 q) ia (.bool true) (seenOf_set hia)) ib (.bool true) ((seenOf_set hib).trans (seenOf_congr _ hmem))
              have hms := fun q => (Mid.storeNew (hm1.drewN q) (p := ⟨w.heap.size + 1, ia, none⟩) (Nat.le_succ _) (.bool true)).storeNew (p := ⟨w.heap.size + 1, ib, none⟩) (Nat.le_succ _) (.bool true)
              have hst : ∀ q, Mid (w.heap.size + 1) (w.heap.size + 2) ((wr.alloc (.cells #[.int .i64 ia, .int .i64 l, .int .i64 ib] 64)).drewN q) ((((wr.alloc (.cells #[.int .i64 ia, .int .i64 l, .int .i64 ib] 64)).drewN q).setCell ⟨w.heap.size + 1, ia, none⟩ (.bool true)).setCell ⟨w.heap.size + 1, ib, none⟩ (.bool true)) := fun q => (Mid.setAt _ _ _ _).trans (Mid.setAt _ _ _ _)
              have bx2 := fun q => (bx1.drewN q).mid (hst q) (Or.inl (Nat.lt_succ_self _))
              have HSET := Lib.hid hset
              clear hset
              go_wp2_with fail
              go_quiet (fail)
              go_wp2_with fail
              go_roundw
              case rel =>
                refine ⟨k + 1, true, vis ++ [u], by omega, by go_num, rfl, hju, Lib.hid (fun h => nomatch h), Lib.hid (fun _ => ?_), Lib.hid ?_, bx2 _, HSET.out _, hms _⟩
                · have := HL.out; simp; omega
                · have := HL.out; simp; omega
              case measure => simp [intOf]; omega
          | true =>
            cases bb with
            | false =>
              have hne1 : ¬ ia = ib := fun h => by rw [h, hbb] at hba; cases hba
              have hne2 : ¬ ib = ia := fun h => hne1 h.symm
              obtain ⟨u, hju, hmem⟩ := hj.edge (List.mem_of_getElem? HE.out) HIN.out (by simp only []; rw [← decide_eq_decide, hba, hbb]; simp)
              have hset := fun q => owns_set (owns_set (owns_drewN hown1 q) ia (.bool true) (seenOf_set hia)) ib (.bool true) ((seenOf_set hib).trans (seenOf_congr _ hmem))
              have hms := fun q => (Mid.storeNew (hm1.drewN q) (p := ⟨w.heap.size + 1, ia, none⟩) (Nat.le_succ _) (.bool true)).storeNew (p := ⟨w.heap.size + 1, ib, none⟩) (Nat.le_succ _) (.bool true)
              have hst : ∀ q, Mid (w.heap.size + 1) (w.heap.size + 2) ((wr.alloc (.cells #[.int .i64 ia, .int .i64 l, .int .i64 ib] 64)).drewN q) ((((wr.alloc (.cells #[.int .i64 ia, .int .i64 l, .int .i64 ib] 64)).drewN q).setCell ⟨w.heap.size + 1, ia, none⟩ (.bool true)).setCell ⟨w.heap.size + 1, ib, none⟩ (.bool true)) := fun q => (Mid.setAt _ _ _ _).trans (Mid.setAt _ _ _ _)
              have bx2 := fun q => (bx1.drewN q).mid (hst q) (Or.inl (Nat.lt_succ_self _))
              have HSET := Lib.hid hset
              clear hset
              go_wp2_with fail
              go_quiet (fail)
              go_wp2_with fail
              go_roundw
              case rel =>
                refine ⟨k + 1, true, vis ++ [u], by omega, by go_num, rfl, hju, Lib.hid (fun h => nomatch h), Lib.hid (fun _ => ?_), Lib.hid ?_, bx2 _, HSET.out _, hms _⟩
                · have := HL.out; simp; omega
                · have := HL.out; simp; omega
              case measure => simp [intOf]; omega
            | true =>
              have HD : Hid ((ia : Int) ∈ vis ↔ (ib : Int) ∈ vis) := Lib.hid (by rw [← decide_eq_decide, hba, hbb])
              go_wp2_with fail
              go_quiet (fail)
              go_wp2_with fail
              go_roundw
              case rel => exact ⟨k + 1, ag, vis, by omega, by go_num, rfl, hj, Lib.hid (fun h => ⟨(HF.out h).1, (HF.out h).2.succ HE.out (HD.out)⟩), HT, HL, bx1.drewN _, owns_drewN hown1 _, hm1.drewN _⟩
              case measure => simp [intOf]; omega
        · obtain rfl : k = es.length := by omega
          go_wp2_with fail
          go_roundw
          case rel => exact ⟨ag, vis, rfl, hj, Lib.hid (fun h => (HF.out h).2), bx, hown, hm⟩
          case measure =>
            have h1 := HC.out
            have h2 := cntF_seen hown hj
            have h3 := HL.out
            have h4 := HT.out
            have h5 := HJ.out.le
            simp [boolOf]
            cases ag with
            | false => simp; omega
            | true => have := h4 rfl; simp; omega
end Go.Proofs.YtkaofcakelpnpaaGreat

namespace Go.Proofs.YtkaofcakelpnpaaGreat
set_option linter.unusedVariables false
set_option linter.unusedSimpArgs false
open Go.RowKit
structure TreeSt (w : World) (g : Nat) (oB : Option Nat) (n : Nat) (vals : List Value) (st : BS) : Prop where
  len : vals.length = n
  on : ∀ p ∈ st, ∃ b c, vals[p.1.toNat]? = some (.slice (some ⟨b, 0, none⟩) p.2.length c) ∧ (∀ j u, (ints p.2)[j]? = some u → w.cell? ⟨b, j, none⟩ = some u) ∧ b ≠ g ∧ oB ≠ some b ∧ b < w.heap.size
  off : ∀ u : Nat, u < n → (u : Int) ∉ st.map Prod.fst → vals[u]? = some (.slice none 0 0)
section
variable {w w' : World} {g n : Nat} {oB oB' : Option Nat} {vals : List Value} {st : BS}
theorem TreeSt.mid {a b : Nat} (h : TreeSt w g oB n vals st) (m : Mid 0 0 w w') : TreeSt w' g oB n vals st :=
  ⟨h.len, fun p hp => by
    obtain ⟨b, c, h1, h2, h3, h4, h5⟩ := h.on p hp
    exact ⟨b, c, h1, fun j u hu => (World.cell?_of_block (m.block b h5 (by omega))).trans (h2 j u hu), h3, h4, Nat.lt_of_lt_of_le h5 m.size⟩, h.off⟩
theorem TreeSt.grow (h : TreeSt w g oB n vals st) (hg : w.grownBy w' oB) (hb : oB' = oB ∨ ∃ k, oB' = some k ∧ w.heap.size ≤ k) : TreeSt w' g oB' n vals st :=
  ⟨h.len, fun p hp => by
    obtain ⟨b, c, h1, h2, h3, h4, h5⟩ := h.on p hp
    refine ⟨b, c, h1, fun j u hu => (World.cell?_of_block (hg.block b h5 (fun e => h4 e.symm))).trans (h2 j u hu), h3, ?_, Nat.lt_of_lt_of_le h5 hg.size⟩
    rcases hb with rfl | ⟨k, rfl, hk⟩
    · exact h4
    · intro e
      injection e with e
      omega, h.off⟩
theorem TreeSt.set {t b c : Nat} {wd : List Int} (h : TreeSt w g oB n vals st) (ht : t < n) (hn : (t : Int) ∉ st.map Prod.fst) (hst : ∀ p ∈ st, 0 ≤ p.1)
    (hc : ∀ j u, (ints wd)[j]? = some u → w.cell? ⟨b, j, none⟩ = some u) (hb : b ≠ g) (ho : oB ≠ some b) (hs : b < w.heap.size) :
    TreeSt (w.setCell ⟨g, t, none⟩ (.slice (some ⟨b, 0, none⟩) wd.length c)) g oB n (vals.set t (.slice (some ⟨b, 0, none⟩) wd.length c)) (st ++ [((t : Int), wd)]) := by
  have key : ∀ (b' j : Nat) (u v : Value), b' ≠ g → w.cell? ⟨b', j, none⟩ = some u → (w.setCell ⟨g, t, none⟩ v).cell? ⟨b', j, none⟩ = some u := fun b' j u v hbg hc =>
    (World.cell?_setCell_other w _ _ v (by intro e; injection e with e; exact hbg e.symm)).trans hc
  refine ⟨by rw [List.length_set]; exact h.len, fun p hp => ?_, fun u hu hnu => ?_⟩
  · rcases List.mem_append.1 hp with hp | hp
    · obtain ⟨b', c', h1, h2, h3, h4, h5⟩ := h.on p hp
      have hne : t ≠ p.1.toNat := by
        intro e
        apply hn
        have := hst p hp
        rw [show (t : Int) = p.1 by omega]
        exact List.mem_map_of_mem hp
      refine ⟨b', c', by rw [List.getElem?_set_ne hne]; exact h1, fun j u hu => key b' j u _ h3 (h2 j u hu), h3, h4, by simpa using h5⟩
    · simp at hp
      subst hp
      refine ⟨b, c, ?_, fun j u hu => key b j u _ hb (hc j u hu), hb, ho, by simpa using hs⟩
      simp only [Int.toNat_natCast]
      rw [List.getElem?_set_self (by rw [h.len]; exact ht)]
  · rw [List.map_append, List.mem_append] at hnu
    have hne : t ≠ u := by
      intro e
      subst e
      exact hnu (.inr (by simp))
    rw [List.getElem?_set_ne hne]
    exact h.off u hu fun hm => hnu (.inl hm)
theorem TreeSt.word {p : Int × List Int} (h : TreeSt w g oB n vals st) (hp : p ∈ st) : ∃ b c, vals[p.1.toNat]? = some (.slice (some ⟨b, 0, none⟩) p.2.length c) ∧ RV w 0 w.heap.size (some ⟨b, 0, none⟩) (ints p.2) := by
  obtain ⟨b, c, h1, h2, h3, h4, h5⟩ := h.on p hp
  exact ⟨b, c, h1, Nat.le_refl _, fun _ => ⟨b, 0, rfl, Nat.zero_le _, h5, fun j u hu => by rw [Nat.zero_add]; exact h2 j u hu⟩⟩
end
section
variable {W : World} {ops : Array Oper} {rest : List Oper} {o : Oper} {a : Act} {Q : Exit → Act → World → Prop}
theorem wpList_pushI2 (hgd : o.guard = none) (s x : Operand)
    (ho : o.op = .call { callee := .builtin .append, args := #[s, x], argTypes := #[48, 48] }) (lo : Nat) (A : Option Addr) (n c : Nat) (xs : List Int) (hs : a.eval s = .slice A n c)
    (hown : W.ownsRow lo 3 1 (.slice A n c) n (ints xs)) (y : Int) (hx : a.eval x = .slice (some ⟨W.heap.size, 0, none⟩) 1 1) (hn : n ≤ 1048576) (hb : lo ≤ W.heap.size)
    (h : ∀ A' c' w', w'.ownsRow lo 3 1 (.slice A' (n + 1) c') (n + 1) (ints (xs ++ [y])) → W.grownBy w' (Value.ownBlock (.slice A n c)) → (Value.ownBlock (.slice A' (n + 1) c') = Value.ownBlock (.slice A n c) ∨ Value.ownBlock (.slice A' (n + 1) c') = some (W.heap.size + 1)) → wpList Tryz.prog ops Q rest (a.put o.dst (.slice A' (n + 1) c')) w') :
    wpList Tryz.prog ops Q (o :: rest) a (W.alloc (.cells #[.int .i64 y] 3)) := by
  refine wpList_push (news := [.int .i64 y]) hgd s x 48 ho lo 3 (.int .i64 0) 1 8 undSI infoI rfl (by decide) (.slice A n c) n (ints xs) hs hown 1 hx rfl ?_ (by unfold maxLen; omega) (by omega) hb ?_
  · intro u hu
    simp at hu
    subst hu
    rfl
  · intro v' w' h1 h2 h3
    obtain ⟨A', c', rfl, -, -⟩ := owns_shape h1
    refine h A' c' w' ?_ h2 h3
    rw [ints_append]
    exact h1
end
theorem RV.grown {w w' : World} {lo hi : Nat} {A : Option Addr} {cs : List Value} {row : Option Nat} (h : RV w lo hi A cs) (hg : w.grownBy w' row) (hd : ∀ g, row = some g → g < lo ∨ hi ≤ g) : RV w' lo hi A cs :=
  ⟨Nat.le_trans h.1 hg.size, fun hn => by
    obtain ⟨g, off, e, h1, h2, hc⟩ := h.2 hn
    have hs := h.1
    exact ⟨g, off, e, h1, h2, fun j u hu => (World.cell?_of_block (hg.block g (by omega) (fun e => by have := hd g e.symm; omega))).trans (hc j u hu)⟩⟩
theorem nilS_some (a : Addr) (n c : Nat) (W : World) : (binOp .eql 48 (.slice (some a) n c) (.slice none 0 0)).run Tryz.prog W = .ok (.bool false) W := Lib.run_eql_slice_nil W 48 3 (some a) n c 0 0 undSI
theorem nilS_none (W : World) : (binOp .eql 48 (.slice none 0 0) (.slice none 0 0)).run Tryz.prog W = .ok (.bool true) W := Lib.run_eql_slice_nil W 48 3 none 0 0 0 0 undSI
theorem bfsRow_take {es : List Ed} {L : List Int} {p : Int × List Int} {st : BS} {j : Nat} {x : Int} (h : L[j]? = some x) : bfsRow es (L.take (j + 1)) p st = bfsStep es p.1 p.2 (bfsRow es (L.take j) p st) x := by
  unfold bfsRow
  rw [take_snocI h, List.foldl_append]
  rfl
theorem bfsSt_next {es : List Ed} {L : List Int} {v : Int} {i : Nat} {p : Int × List Int} (h : (bfsSt es L v i)[i]? = some p) : bfsSt es L v (i + 1) = bfsRow es L p (bfsSt es L v i) := by
  show (match (bfsSt es L v i)[i]? with | none => bfsSt es L v i | some p => bfsRow es L p (bfsSt es L v i)) = _
  rw [h]
set_option maxHeartbeats 6400000 in
set_option maxRecDepth 100000 in
theorem impl_tree (r n v : Nat) (A : Option Addr) (es : List Ed) (c : Nat) (w : World) (lo hi : Nat) (hr : RG w lo hi A es) (hg : IsGr r n es) (hv : v < n) :
    Calls Tryz.prog 54 #[graV r n A es.length c, .int .i64 v] w fun e w' => ∃ A1 c1, e = .returned (.tuple #[.slice A1 (ordE r es v).length c1, .slice (some ⟨w.heap.size + 1, 0, none⟩) n n]) ∧ Mid 0 0 w w' ∧
      w'.ownsRow (w.heap.size + 2) 3 1 (.slice A1 (ordE r es v).length c1) (ordE r es v).length (ints (ordE r es v)) ∧
      ∃ vals, w'.ownsRow (w.heap.size + 1) 48 1 (.slice (some ⟨w.heap.size + 1, 0, none⟩) n n) n vals ∧ TreeSt w' (w.heap.size + 1) (Value.ownBlock (.slice A1 (ordE r es v).length c1)) n vals (bfs es (lets r) v) := by
  have hn40 : n ≤ 40 := by have := hg.size; omega
  have hr3 : r ≤ 3 := by have := hg.rank; omega
  have hl := hg.len
  have hmx : n ≤ maxLen := by unfold maxLen; omega
  have hgl : ∀ e ∈ es, 1 ≤ e.l ∧ e.l ≤ 3 := fun e he => by have := hg.all e he; unfold InG at this; omega
  have hm0 : Mid 0 0 w (w.alloc (.cells #[.int .i64 r, .int .i64 n, .slice A es.length c] 32)) := Mid.alloc _ _
  have B0 := Box.new w #[.int .i64 r, .int .i64 n, .slice A es.length c] 32
  have HG := Lib.hid hg
  have HGL := Lib.hid hgl
  have hv3 : (v : Int) < (n : Int) := by omega
  have hv0 : (0 : Int) ≤ (v : Int) := by omega
  clear hg hgl
  go_enter Tryz.func54, Tryz.ntmps54
  go_wp2_with (at_make; refine wpList_mk rfl _ _ 22 rfl 48 (.slice none 0 0) 24 undSSI infoSI rfl .i64 .i64 _ _ n rfl rfl rfl rfl (by omega) hmx ?_; intro w2 hown2 hgr2 hsz2; rw [World.size_alloc] at hown2 hsz2; have hfz := hown2.frozenAt v; obtain ⟨u0, -, hcs⟩ := owns_cell hown2 hv)
  have hm2 := hm0.trans (Mid.of_grown hgr2 (by intro g h; cases h))
  have B2 := B0.mid (Mid.of_grown (lo := 0) (hi := 0) hgr2 (by intro g h; cases h)) oZr
  have hal := Mid.alloc w2 (.cells #[] 3)
  replace B2 := B2.mid hal oZr
  replace hm2 := hm2.trans hal
  have hown3 := hown2.alloc (.cells #[] 3)
  have T0 : TreeSt (w2.alloc (.cells #[] 3)) (w.heap.size + 1) (some (w2.heap.size + 1)) n (List.replicate n (.slice none 0 0)) [] := ⟨by simp, by simp, fun u hu _ => by simp [hu]⟩
  have T1 := T0.set (t := v) (b := w2.heap.size) (c := 0) (wd := []) hv (by simp) (by simp) (by simp [ints]) (by omega) (by intro e; injection e with e; omega) (by simp)
  have O1 := owns_set hown3 v (.slice (some ⟨w2.heap.size, 0, none⟩) 0 0) rfl
  have hst := Mid.setAt (w2.alloc (.cells #[] 3)) (w.heap.size + 1) v (.slice (some ⟨w2.heap.size, 0, none⟩) 0 0)
  have B3 := B2.mid hst (Or.inl (Nat.lt_succ_self _))
  have hm3 := hm2.storeNew (p := ⟨w.heap.size + 1, v, none⟩) (Nat.le_succ _) (.slice (some ⟨w2.heap.size, 0, none⟩) 0 0)
  have heq : (w2.alloc (.cells #[] 3)).setCell ⟨w.heap.size + 1, v, none⟩ (.slice (some ⟨w2.heap.size, 0, none⟩) 0 0) = (w2.setCell ⟨w.heap.size + 1, v, none⟩ (.slice (some ⟨w2.heap.size, 0, none⟩) 0 0)).alloc (.cells #[] 3) := by go_simp
  rw [heq] at O1 B3 hm3
  simp only [List.length_nil] at T1
  rw [heq] at T1
  generalize hw3 : (w2.setCell ⟨w.heap.size + 1, v, none⟩ (.slice (some ⟨w2.heap.size, 0, none⟩) 0 0)).alloc (.cells #[] 3) = w3 at T1 O1 B3 hm3 ⊢
  have hs3 : w3.heap.size = w2.heap.size + 1 := by rw [← hw3]; simp
  have hal3 := Mid.alloc w3 (.cells #[.int .i64 v] 3)
  have O2 : (w3.alloc (.cells #[.int .i64 v] 3)).ownsRow (w.heap.size + 2) 3 1 (.slice (some ⟨w2.heap.size + 1, 0, none⟩) 1 1) 1 (ints [(v : Int)]) := by rw [← hs3]; exact owns_base (World.ownsRow_lit (size := 1) w3 #[.int .i64 v] 1 (Nat.le_refl _) (by simp [maxLen]) (by simp)) (by omega)
  have T2 := T1.mid (a := 0) (b := 0) hal3
  have O3 := O1.alloc (.cells #[.int .i64 v] 3)
  replace B3 := B3.mid hal3 oZr
  replace hm3 := hm3.trans hal3
  have HT := Lib.hid T2
  clear hw3 T0 T1 T2 O1 hst hown2 hown3 hm2 B2 B0 hm0 hal hal3 hgr2 hcs hfz
  go_loopw [7, 8] (fun ord iv wr => ∃ (i n1 : Nat) (A1 : Option Addr) (c1 : Nat) (vals : List Value), i ≤ n1 ∧ iv = .int .i64 i ∧ ord = .slice A1 n1 c1 ∧ Hid ((bfsSt es (lets r) v i).length = n1) ∧
      wr.ownsRow (w.heap.size + 2) 3 1 (.slice A1 n1 c1) n1 (ints ((bfsSt es (lets r) v i).map Prod.fst)) ∧ wr.ownsRow (w.heap.size + 1) 48 1 (.slice (some ⟨w.heap.size + 1, 0, none⟩) n n) n vals ∧
      Hid (TreeSt wr (w.heap.size + 1) (Value.ownBlock (.slice A1 n1 c1)) n vals (bfsSt es (lets r) v i)) ∧ Box wr w.heap.size [.int .i64 r, .int .i64 n, .slice A es.length c] ∧ Mid 0 0 w wr) (fun _ i _ => (41 - intOf i).toNat)
  case atStart => exact ⟨0, 1, _, 1, _, Nat.zero_le _, rfl, rfl, Lib.hid rfl, O2, O3, HT, B3, hm3⟩
  case round =>
    clear O2 O3 HT B3 hm3 hs3
    obtain ⟨wo, hwo⟩ : ∃ wo, wo = wr := ⟨_, rfl⟩
    subst hwo
    obtain ⟨i, n1, A1, c1, vals, hin, rfl, rfl, HN, hord, hwor, HT, bx, hm⟩ := hrel
    have hok := bfsSt_ok (L := lets r) HG.out.all hv0 hv3 i
    have hn1 : n1 ≤ 40 := by have h1 := hok.len (by omega); have h2 := HN.out; omega
    have HOK := Lib.hid hok
    clear hok
    by_cases hlt : i < n1
    · obtain ⟨p, hp⟩ := get_of_lt (bfsSt es (lets r) v i) (show i < (bfsSt es (lets r) v i).length by rw [HN.out]; exact hlt)
      have hrng := HOK.out.rng p (List.mem_of_getElem? hp)
      obtain ⟨pu, wd⟩ := p
      simp only at hrng
      obtain ⟨u, rfl⟩ : ∃ u : Nat, pu = u := ⟨pu.toNat, by omega⟩
      have hun : u < n := by omega
      have hwl := HOK.out.wl i _ hp
      simp only at hwl
      have HP := Lib.hid hp
      have hNX := Lib.hid (bfsSt_next hp)
      obtain ⟨g1, rfl, hg1, hg1s⟩ := owns_addr hord (show 0 < n1 by omega)
      have hcu : wo.cell? ⟨g1, i, none⟩ = some (.int .i64 u) := (hord.cellAt i (by omega)).trans (by rw [ints_get, List.getElem?_map, hp]; rfl)
      have hi0 : (0 : Int) ≤ (i : Int) := by omega
      have hi1 : (i : Int) < (n1 : Int) := by omega
      have p0 := bx.cell 0 rfl
      have p1 := bx.cell 1 rfl
      have p2 := bx.cell 2 rfl
      clear hp
      go_wp2_with fail
      with_reducible refine (impl_letters r _ (by omega)).mono ?_
      rintro en w4 ⟨A4, c4, rfl, hL4, hm4⟩
      have hdo := fun g hg => (hord.lt g hg).2
      have hwo2 : w.heap.size + 1 < wo.heap.size := (hwor.lt _ rfl).2
      replace bx := bx.mid hm4 oZr
      replace hord := owns_mid hord hm4 oZl
      replace hwor := owns_mid hwor hm4 oZl
      replace hm := hm.trans hm4
      replace HT := Lib.hid (HT.out.mid (a := 0) (b := 0) hm4)
      clear p0 p1 p2 hcu
      have HLL := Lib.hid (lets_len r)
      obtain ⟨LL, hLL⟩ : ∃ LL, (lets r).length = LL := ⟨_, rfl⟩
      have hLL6 : LL ≤ 6 := by have := HLL.out; omega
      rw [hLL]
      have HLn := Lib.hid hLL
      clear hLL
      go_wp2_with fail
      go_loopw [7, 36] (fun ord jv wr => ∃ (j n1 : Nat) (A1 : Option Addr) (c1 : Nat) (vals : List Value), j ≤ LL ∧ jv = .int .i64 j ∧ ord = .slice A1 n1 c1 ∧ Hid ((bfsRow es ((lets r).take j) ((u : Int), wd) (bfsSt es (lets r) v i)).length = n1) ∧
          wr.ownsRow (w.heap.size + 2) 3 1 (.slice A1 n1 c1) n1 (ints ((bfsRow es ((lets r).take j) ((u : Int), wd) (bfsSt es (lets r) v i)).map Prod.fst)) ∧ wr.ownsRow (w.heap.size + 1) 48 1 (.slice (some ⟨w.heap.size + 1, 0, none⟩) n n) n vals ∧
          Hid (TreeSt wr (w.heap.size + 1) (Value.ownBlock (.slice A1 n1 c1)) n vals (bfsRow es ((lets r).take j) ((u : Int), wd) (bfsSt es (lets r) v i))) ∧ Hid (RV wr wo.heap.size w4.heap.size A4 (ints (lets r))) ∧ Hid (∀ g, Value.ownBlock (.slice A1 n1 c1) = some g → g < wo.heap.size ∨ w4.heap.size ≤ g) ∧ Box wr w.heap.size [.int .i64 r, .int .i64 n, .slice A es.length c] ∧ Mid 0 0 w wr) (fun _ j _ => LL - (intOf j).toNat)
      case atStart => exact ⟨0, n1, _, c1, vals, Nat.zero_le _, rfl, rfl, by rw [List.take_zero]; exact HN, hord, hwor, by rw [List.take_zero]; exact HT, Lib.hid hL4, Lib.hid (fun g hg => .inl (hdo g hg)), bx, hm⟩
      case round =>
        clear hord hwor HT hL4 bx hm hdo hm4
        obtain ⟨j, n1, A1, c1, vals, hj, rfl, rfl, HN, hord, hwor, HT, HL4, HD, bx, hm⟩ := hrel
        obtain ⟨stj, hstj⟩ : ∃ st, bfsRow es ((lets r).take j) ((u : Int), wd) (bfsSt es (lets r) v i) = st := ⟨_, rfl⟩
        have hokj : BfsOk n (lets r) stj := by rw [← hstj]; exact BfsOk.row HG.out.all _ (fun x hx => List.mem_of_mem_take hx) HOK.out HP.out
        have hpj : stj[i]? = some ((u : Int), wd) := by rw [← hstj]; exact prefix_get (bfsRow_pre _ _ _ _) HP.out
        rw [hstj] at HN hord HT
        have hn1b : n1 ≤ 40 := by have h1 := hokj.len (by omega); have h2 := HN.out; omega
        have HOJ := Lib.hid hokj
        have p0 := bx.cell 0 rfl
        have p1 := bx.cell 1 rfl
        have p2 := bx.cell 2 rfl
        by_cases hlt2 : j < LL
        · obtain ⟨B4, o4, x, rfl, hB4, hx, hcx⟩ := HL4.out.at (k := j) (by rw [HLn.out]; exact hlt2)
          have hxm := lets_le (List.mem_of_getElem? hx)
          have hnx := bfsRow_take (es := es) (p := ((u : Int), wd)) (st := bfsSt es (lets r) v i) hx
          rw [hstj] at hnx
          simp only at hnx
          have hj0 : (0 : Int) ≤ (j : Int) := by omega
          have hj1 : (j : Int) < (LL : Int) := by omega
          obtain ⟨bw, cw, hvw, hrvw⟩ := HT.out.word (List.mem_of_getElem? hpj)
          have hcs := nextV_cases HG.out.all (u : Int) x
          have HVW := Lib.hid hvw
          have HPJ := Lib.hid hpj
          have HSJ := Lib.hid hstj
          have hu0 : (0 : Int) ≤ (u : Int) := by omega
          have hu1 : (u : Int) < (n : Int) := by omega
          clear hvw hx hokj hpj hstj
          go_wp2_with fail
          with_reducible refine (impl_NextVertex r n A es c u x _ lo hi (hr.mid hm oZl) (by omega) HGL.out (by omega) (by omega)).mono ?_
          rintro en w6 ⟨rfl, hm6⟩
          replace bx := bx.mid hm6 oZr
          replace hord := owns_mid hord hm6 oZl
          replace hwor := owns_mid hwor hm6 oZl
          replace hm := hm.trans hm6
          replace HT := Lib.hid (HT.out.mid (a := 0) (b := 0) hm6)
          replace HL4 := Lib.hid (HL4.out.mid hm6 oZl)
          replace hrvw := (hrvw.mid hm6 oZl).wide (Nat.le_refl _) hm6.size (Nat.le_refl _)
          generalize htx : nextV es (u : Int) x = t at hnx hcs ⊢
          clear p0 p1 p2 hcx
          by_cases ht0 : t < 0
          · have b1 : decide (0 ≤ t) = false := by simp; omega
            have HNX := Lib.hid (hnx.trans (by rw [bfsStep, htx, if_pos (.inl ht0)] : bfsStep es (u : Int) wd stj x = stj))
            clear hnx hcs ht0 htx
            go_wp2_with fail
            go_roundw
            case rel => exact ⟨j + 1, n1, A1, c1, vals, by omega, by go_num, rfl, by rw [HNX.out]; exact HN, by rw [HNX.out]; exact hord, hwor, by rw [HNX.out]; exact HT, HL4, HD, bx, hm⟩
            case measure => simp [intOf]; omega
          · obtain ⟨tn, rfl⟩ : ∃ tn : Nat, t = tn := ⟨t.toNat, by omega⟩
            have htn : tn < n := by omega
            have ht1 : (tn : Int) < (n : Int) := by omega
            have ht2 : (0 : Int) ≤ (tn : Int) := by omega
            clear hcs ht0
            by_cases hmem : (tn : Int) ∈ stj.map Prod.fst
            · obtain ⟨p', hp', hpt⟩ := List.mem_map.1 hmem
              obtain ⟨b', c', hval, -⟩ := HT.out.word hp'
              have hct : w6.cell? ⟨w.heap.size + 1, tn, none⟩ = some (.slice (some ⟨b', 0, none⟩) p'.2.length c') := (hwor.cellAt tn (by omega)).trans (by rw [← hval, hpt]; rfl)
              have HNX := Lib.hid (hnx.trans (by rw [bfsStep, htx, if_pos (.inr hmem)] : bfsStep es (u : Int) wd stj x = stj))
              have hq := fun W => nilS_some ⟨b', 0, none⟩ p'.2.length c' W
              clear hnx htx hmem hval hp' hpt
              go_wp2_with fail
              go_roundw
              case rel => exact ⟨j + 1, n1, A1, c1, vals, by omega, by go_num, rfl, by rw [HNX.out]; exact HN, by rw [HNX.out]; exact hord, hwor, by rw [HNX.out]; exact HT, HL4, HD, bx, hm⟩
              case measure => simp [intOf]; omega
            · have hval := HT.out.off tn htn hmem
              have hct : w6.cell? ⟨w.heap.size + 1, tn, none⟩ = some (.slice none 0 0) := (hwor.cellAt tn (by omega)).trans hval
              have hcw : w6.cell? ⟨w.heap.size + 1, u, none⟩ = some (.slice (some ⟨bw, 0, none⟩) wd.length cw) := (hwor.cellAt u (by omega)).trans HVW.out
              have HNX := Lib.hid (hnx.trans (by rw [bfsStep, htx, if_neg (fun h => h.elim (fun h => by omega) hmem)] : bfsStep es (u : Int) wd stj x = stj ++ [((tn : Int), wd ++ [x])]))
              have HMEM := Lib.hid hmem
              have HVAL := Lib.hid hval
              have hlt6 := fun g hg => (hord.lt g hg).2
              have hws6 : w.heap.size + 1 < w6.heap.size := (hwor.lt _ rfl).2
              have hq := fun W => nilS_none W
              clear hnx htx hmem hval
              go_wp2_with fail
              with_reducible refine (copyIntsN (some ⟨bw, 0, none⟩) wd cw _ _ _ hrvw (by omega)).mono ?_
              rintro en w7 ⟨g7, c7, rfl, hown7, hm7⟩
              have HW7 := Lib.hid hown7
              have HLT6 := Lib.hid hlt6
              clear hown7 hct hcw hlt6
              go_wp2_with (first | (at_builtin; refine wpList_pushI rfl _ _ rfl w6.heap.size (some ⟨g7, 0, none⟩) wd.length c7 wd rfl HW7.out x rfl (by omega) hm7.size ?_; intro A8 c8 w8 hown8 hm8; obtain ⟨g8, rfl, hg8a, hg8b⟩ := owns_addr hown8 (Nat.succ_pos _); have hm78 := hm7.transNew hm8 (Or.inl (Nat.le_refl _)); have hwor8 := owns_mid hwor hm78 oZl; have hord8 := owns_mid hord hm78 oZl; have hct8 := (hwor8.cellAt tn (by omega)).trans HVAL.out; have hfz8 := hwor8.frozenAt tn; have hord9 := hord8.kept (grown_of_setCell w8 (w.heap.size + 1) tn (.slice (some ⟨g8, 0, none⟩) (wd.length + 1) c8)) (owns_ne hord8 hwor8 (by decide)); have HO9 := Lib.hid hord9; have hsz9 : w.heap.size + 2 ≤ w8.heap.size := Nat.le_trans hws6 hm78.size; clear hord9 hwor hord) | (at_builtin; refine wpList_pushI2 rfl _ _ rfl (w.heap.size + 2) A1 n1 c1 (stj.map Prod.fst) rfl HO9.out tn (by rw [World.size_setCell]; rfl) (by omega) (by simp; omega) ?_; intro A10 c10 w10 hord10 hgr10 hat10))
              have T8 := HT.out.mid (a := 0) (b := 0) hm78
              have T9 := T8.set (t := tn) (b := g8) (c := c8) (wd := wd ++ [x]) htn HMEM.out (fun p hp => (HOJ.out.rng p hp).1) (fun j u hu => (hown8.cellAt j (by have := (List.getElem?_eq_some_iff.1 hu).1; simp [ints] at this; omega)).trans hu) (by omega) (fun e => by have := HLT6.out g8 e; omega) hg8b
              rw [show (wd ++ [x]).length = wd.length + 1 by simp] at T9
              have T10 := T9.grow hgr10 (hat10.imp id fun h => ⟨_, h, by simp⟩)
              have hwor9 := owns_set hwor8 tn (.slice (some ⟨g8, 0, none⟩) (wd.length + 1) c8) rfl
              have hwor10 := hwor9.kept hgr10 (owns_ne hwor9 HO9.out (by decide))
              have hst := Mid.setAt w8 (w.heap.size + 1) tn (.slice (some ⟨g8, 0, none⟩) (wd.length + 1) c8)
              have hm10 := Mid.of_grownRow HO9.out hgr10
              have bx10 := ((bx.mid hm78 oZr).mid hst (Or.inl (Nat.lt_succ_self _))).mid hm10 (Or.inl (by omega))
              have hL10 := ((HL4.out.mid hm78 oZl).mid hst (Or.inl (by omega))).grown hgr10 HD.out
              have hmm10 := ((hm.trans hm78).storeNew (p := ⟨w.heap.size + 1, tn, none⟩) (Nat.le_succ _) (.slice (some ⟨g8, 0, none⟩) (wd.length + 1) c8)).transNew hm10 (Or.inl (by omega))
              have hmap : (stj ++ [((tn : Int), wd ++ [x])]).map Prod.fst = stj.map Prod.fst ++ [(tn : Int)] := by simp
              have HMAP := Lib.hid hmap
              have hw46 : w4.heap.size ≤ w8.heap.size := Nat.le_trans HL4.out.1 hm78.size
              have HD10 : Hid (∀ g, Value.ownBlock (.slice A10 (n1 + 1) c10) = some g → g < wo.heap.size ∨ w4.heap.size ≤ g) := Lib.hid (by
                intro g hg
                rcases hat10 with h | h
                · exact HD.out g (h.symm.trans hg)
                · rw [h] at hg
                  injection hg with hg
                  simp at hg
                  omega)
              have HT10 := Lib.hid T10
              have HL10 := Lib.hid hL10
              clear T8 T9 T10 hL10 hmap hat10 hgr10
              go_wp2_with fail
              go_roundw
              case rel => exact ⟨j + 1, n1 + 1, A10, c10, _, by omega, by go_num, rfl, Lib.hid (by rw [HNX.out, List.length_append, HN.out]; rfl), by rw [HNX.out, HMAP.out]; exact hord10, hwor10, by rw [HNX.out]; exact HT10, HL10, HD10, bx10, hmm10⟩
              case measure => simp [intOf]; omega
        · obtain rfl : j = LL := by omega
          have htk : (lets r).take j = lets r := List.take_of_length_le (by rw [HLn.out]; exact Nat.le_refl _)
          rw [htk] at hstj
          have hnx := hNX.out
          rw [hstj] at hnx
          have HNX := Lib.hid hnx
          clear hnx hstj
          have hin1 : i + 1 ≤ n1 := by have h1 := (List.getElem?_eq_some_iff.1 hpj).1; have h2 := HN.out; omega
          go_wp2_with fail
          go_roundw
          case rel => exact ⟨i + 1, n1, A1, c1, vals, hin1, by go_num, rfl, by rw [HNX.out]; exact HN, by rw [HNX.out]; exact hord, hwor, by rw [HNX.out]; exact HT, bx, hm⟩
          case measure => simp [intOf]; omega
    · obtain rfl : i = n1 := by omega
      have hbf := bfs_eq (L := lets r) HG.out.all hv0 hv3 (by omega) HN.out
      have hord' : ordE r es v = (bfsSt es (lets r) v i).map Prod.fst := by rw [ordE, Int.toNat_natCast, hbf]
      have hlen : (ordE r es v).length = i := by rw [hord', List.length_map]; exact HN.out
      have HORD := Lib.hid hord'
      have HLEN := Lib.hid hlen
      have HBF := Lib.hid hbf
      clear hbf hord' hlen
      go_wp2_with fail
      go_ret2
      exact ⟨A1, c1, by rw [HLEN.out]; rfl, hm, by rw [HLEN.out, HORD.out]; exact hord, vals, hwor, by rw [HLEN.out, HBF.out]; exact HT.out⟩
end Go.Proofs.YtkaofcakelpnpaaGreat

namespace Go.Proofs.YtkaofcakelpnpaaGreat
set_option linter.unusedVariables false
set_option linter.unusedSimpArgs false
open Go.RowKit
set_option maxHeartbeats 1600000 in
theorem impl_IsWord (rank : Int) (A : Option Addr) (xs : List Int) (c : Nat) (w : World) (B : Nat) (hr : Rs w B A (ints xs)) (hok : OkI xs) (hl : xs.length ≤ 4194304) (r : Bool) (hres : r = true ↔ IsW rank xs) :
    Calls Tryz.prog 48 #[.int .i64 rank, .slice A xs.length c] w fun e w' => e = .returned (.bool r) ∧ w = w' := by
  have HOK := Lib.hid hok
  have HR := Lib.hid hres
  clear hok hres
  by_cases hb : inB rank 1 3 = false
  · have hf : r = false := by
      cases r with
      | false => rfl
      | true =>
        have h := HR.out.1 rfl
        simp [inB] at hb
        have := h.1
        have := h.2.1
        omega
    subst hf
    have HB := Lib.hid hb
    clear hb
    go_enter Tryz.func48, Tryz.ntmps48
    go_wp2_with fail
    refine (within_any _ _ _ _).mono ?_
    rintro e w' ⟨rfl, rfl⟩
    rw [HB.out]
    go_wp2_with fail
    go_ret
    exact ⟨rfl, rfl⟩
  · have hb' : inB rank 1 3 = true := by simpa using hb
    have h13 : 1 ≤ rank ∧ rank ≤ 3 := by simpa [inB] using hb'
    have HB := Lib.hid hb'
    clear hb hb'
    obtain ⟨h1, h3⟩ := h13
    by_cases h24 : 24 < xs.length
    · have hf : r = false := by
        cases r with
        | false => rfl
        | true =>
          have := (HR.out.1 rfl).2.2.1
          omega
      subst hf
      go_enter Tryz.func48, Tryz.ntmps48
      go_wp2_with fail
      refine (within_any _ _ _ _).mono ?_
      rintro e w' ⟨rfl, rfl⟩
      rw [HB.out]
      go_wp2_with fail
      go_ret
      exact ⟨rfl, rfl⟩
    · have hR2 : r = true ↔ WordTo rank xs xs.length := HR.out.trans ⟨fun h => (wordTo_all h1 h3).2 h.2.2.2, fun h => ⟨h1, h3, by omega, (wordTo_all h1 h3).1 h⟩⟩
      have HR2 := Lib.hid hR2
      clear hR2 HR
      go_enter Tryz.func48, Tryz.ntmps48
      go_wp2_with fail
      refine (within_any _ _ _ _).mono ?_
      rintro e w' ⟨rfl, rfl⟩
      rw [HB.out]
      go_wp2_with fail
      go_loop [5, 6, 17] (fun _ _ i => ∃ k : Nat, k ≤ xs.length ∧ i = .int .i64 k ∧ WordTo rank xs k) (fun _ _ i => xs.length - (intOf i).toNat)
      case atStart => exact ⟨0, Nat.zero_le _, rfl, WordTo.zero _ _⟩
      case round =>
        obtain ⟨k, hk, rfl, hto⟩ := hrel
        have HT := Lib.hid hto
        clear hto
        by_cases hlt : k < xs.length
        · obtain ⟨b, off, x, rfl, -, hx, hc⟩ := hr.int hlt
          have HX := Lib.hid hx
          clear hx
          by_cases hL : letB rank x = false
          · have hf : r = false := by
              cases r with
              | false => rfl
              | true =>
                have := (HR2.out.1 rfl k x hlt HX.out).1
                rw [hL] at this
                cases this
            subst hf
            have HL := Lib.hid hL
            clear hL
            go_wp2_with fail
            refine (impl_isLetter _ _ _ h1 h3).mono ?_
            rintro e w' ⟨rfl, rfl⟩
            rw [HL.out]
            go_wp2_with fail
            go_ret
            exact ⟨rfl, rfl⟩
          · have hL' : letB rank x = true := by simpa using hL
            have HL := Lib.hid hL'
            clear hL hL'
            cases k with
            | zero =>
              have hc0 : w.cell? ⟨b, off, none⟩ = some (.int .i64 x) := hc
              go_wp2_with fail
              refine (impl_isLetter _ _ _ h1 h3).mono ?_
              rintro e w' ⟨rfl, rfl⟩
              rw [HL.out]
              go_wp2_with fail
              go_round
              case rel => exact ⟨1, by omega, by go_num, HT.out.succ HX.out HL.out (fun y h => absurd h (Nat.lt_irrefl 0))⟩
              case measure => simp [intOf]; omega
            | succ m =>
              obtain ⟨b', off', y, he, -, hy, hcy⟩ := hr.int (show m < xs.length by omega)
              injection he with he
              injection he with he1 he2 _
              subst he1 he2
              have hby := HOK.out y (List.mem_of_getElem? hy)
              have HY := Lib.hid hy
              have hyl : -9223372036854775808 ≤ y ∧ y ≤ 9223372036854775807 := hby
              obtain ⟨hy1, hy2⟩ := hyl
              clear hy hby
              by_cases hI : invB y x = true
              · have hf : r = false := by
                  cases r with
                  | false => rfl
                  | true =>
                    have := (HR2.out.1 rfl (m + 1) x hlt HX.out).2 y (Nat.succ_pos m) HY.out
                    rw [hI] at this
                    cases this
                subst hf
                have HI := Lib.hid hI
                clear hI
                go_wp2_with fail
                refine (impl_isLetter _ _ _ h1 h3).mono ?_
                rintro e w' ⟨rfl, rfl⟩
                rw [HL.out]
                go_wp2_with fail
                refine (impl_areInverse _ _ _ hy1 hy2).mono ?_
                rintro e w' ⟨rfl, rfl⟩
                rw [HI.out]
                go_wp2_with fail
                go_ret
                exact ⟨rfl, rfl⟩
              · have hI' : invB y x = false := by simpa using hI
                have HI := Lib.hid hI'
                clear hI hI'
                go_wp2_with fail
                refine (impl_isLetter _ _ _ h1 h3).mono ?_
                rintro e w' ⟨rfl, rfl⟩
                rw [HL.out]
                go_wp2_with fail
                refine (impl_areInverse _ _ _ hy1 hy2).mono ?_
                rintro e w' ⟨rfl, rfl⟩
                rw [HI.out]
                go_wp2_with fail
                go_round
                case rel =>
                  refine ⟨m + 1 + 1, by omega, by go_num, HT.out.succ HX.out HL.out (fun z _ hz => ?_)⟩
                  rw [Nat.add_sub_cancel, HY.out] at hz
                  obtain rfl := Option.some.inj hz
                  exact HI.out
                case measure => simp [intOf]; omega
        · obtain rfl : k = xs.length := by omega
          obtain rfl : r = true := HR2.out.2 HT.out
          go_wp2_with fail
          go_ret
          exact ⟨rfl, rfl⟩
end Go.Proofs.YtkaofcakelpnpaaGreat

namespace Go.Proofs.YtkaofcakelpnpaaGreat
set_option linter.unusedVariables false
set_option linter.unusedSimpArgs false
open Go.RowKit
def PathIs (r s : Int) (es : List Ed) (u : Int) (wd : List Int) (v : Int) (rs : Int) (res : List Ed) (b : Bool) : Prop :=
  (b = true ∧ PathOk r s es u wd v ∧ rs = s + (wd.length : Int) - 1 ∧ res = canon (es ++ pathE u s wd v wd.length)) ∨ (b = false ∧ ¬ PathOk r s es u wd v ∧ rs = s ∧ res = es)
theorem PathIs.no {r s : Int} {es : List Ed} {u : Int} {wd : List Int} {v rs : Int} {res : List Ed} {b : Bool} (h : PathIs r s es u wd v rs res b) (hn : ¬ PathOk r s es u wd v) : b = false ∧ rs = s ∧ res = es := by
  rcases h with ⟨-, h, -⟩ | ⟨h1, -, h2⟩
  · exact absurd h hn
  · exact ⟨h1, h2⟩
theorem PathIs.yes {r s : Int} {es : List Ed} {u : Int} {wd : List Int} {v rs : Int} {res : List Ed} {b : Bool} (h : PathIs r s es u wd v rs res b) (hn : PathOk r s es u wd v) : b = true ∧ rs = s + (wd.length : Int) - 1 ∧ res = canon (es ++ pathE u s wd v wd.length) := by
  rcases h with ⟨h1, -, h2⟩ | ⟨-, h, -⟩
  · exact ⟨h1, h2⟩
  · exact absurd hn h
theorem has_bool {x s : Int} (h1 : 1 ≤ s) (h2 : s ≤ 40) {b : Bool} (hb : b = true ↔ 0 ≤ x ∧ x < s) : inB x 0 (wrap64 (s - 1)) = b ∧ inB x 0 (s - 1) = b := by
  have hw : wrap64 (s - 1) = s - 1 := by unfold wrap64; omega
  rw [hw]
  have h3 : inB x 0 (s - 1) = b := by
    cases b with
    | true => have := hb.1 rfl; unfold inB; simp; omega
    | false =>
      have h : ¬ (0 ≤ x ∧ x < s) := fun h => by have := hb.2 h; cases this
      unfold inB
      simp
      omega
  exact ⟨h3, h3⟩
set_option maxHeartbeats 400000 in
theorem impl_step (u x v : Int) (w : World) (h1 : -9223372036854775808 < x) (h2 : x ≤ 9223372036854775807) :
    Calls Tryz.prog 106 #[.int .i64 u, .int .i64 x, .int .i64 v] w fun e w' => e = .returned (stepE u x v).v ∧ Mid 0 0 w w' := by
  by_cases h : x < 0
  · have d1 : decide (x < 0) = true := by simpa using h
    have he : stepE u x v = ⟨v, -x, u⟩ := by rw [stepE, if_pos h]
    rw [he]
    clear he
    go_enter Tryz.func106, Tryz.ntmps106
    go_wp2_with fail
    refine bodyPost_ret (v := .agg #[.int .i64 v, .int .i64 (-x), .int .i64 u]) (by simp [results, Tryz.results106, go_sem]) rfl ⟨rfl, ?_⟩
    repeat (first | exact Mid.alloc _ _ | refine Mid.storeNew ?_ (by simp) _)
  · have d1 : decide (x < 0) = false := by simpa using h
    have he : stepE u x v = ⟨u, x, v⟩ := by rw [stepE, if_neg h]
    rw [he]
    clear he
    go_enter Tryz.func106, Tryz.ntmps106
    go_wp2_with fail
    refine bodyPost_ret (v := .agg #[.int .i64 u, .int .i64 x, .int .i64 v]) (by simp [results, Tryz.results106, go_sem]) rfl ⟨rfl, ?_⟩
    repeat (first | exact Mid.alloc _ _ | refine Mid.storeNew ?_ (by simp) _)
set_option maxHeartbeats 6400000 in
set_option maxRecDepth 100000 in
theorem impl_AddPath (r s : Int) (A : Option Addr) (es : List Ed) (c : Nat) (u : Int) (Aw : Option Addr) (wd : List Int) (cw : Nat) (v : Int) (w : World) (lo hi lo' hi' : Nat)
    (hr : RG w lo hi A es) (hw : RV w lo' hi' Aw (ints wd)) (hl : es.length ≤ 1048576) (hwl : wd.length ≤ 1048576) (hok : OkI wd) (rs : Int) (res : List Ed) (b : Bool) (hres : PathIs r s es u wd v rs res b) :
    Calls Tryz.prog 87 #[graV r s A es.length c, .int .i64 u, .slice Aw wd.length cw, .int .i64 v] w fun e w' => ∃ A1 c1, e = .returned (.tuple #[graV r rs A1 res.length c1, .bool b]) ∧ OG w' w.heap.size w'.heap.size A1 c1 res ∧ Mid 0 0 w w' := by
  have HR := Lib.hid hres
  have HOK := Lib.hid hok
  clear hres hok
  obtain ⟨b1, hb1⟩ := bool_of (IsGr r s es)
  obtain ⟨b2, hb2⟩ := bool_of (0 ≤ u ∧ u < s)
  obtain ⟨b3, hb3⟩ := bool_of (0 ≤ v ∧ v < s)
  obtain ⟨b4, hb4⟩ := bool_of (IsW r wd)
  have H1 := Lib.hid hb1
  have H2 := Lib.hid hb2
  have H3 := Lib.hid hb3
  have H4 := Lib.hid hb4
  clear hb1 hb2 hb3 hb4
  have hm0 : Mid 0 0 w ((w.alloc (.cells #[.int .i64 r, .int .i64 s, .slice A es.length c] 32)).alloc (.cells #[.int .i64 0, .int .i64 0, .slice none 0 0] 32)) := (Mid.alloc _ _).trans (Mid.alloc _ _)
  have B0 := (Box.new w #[.int .i64 r, .int .i64 s, .slice A es.length c] 32).mid (Mid.alloc _ (.cells #[.int .i64 0, .int .i64 0, .slice none 0 0] 32)) oZr
  have B2 := Box.new (w.alloc (.cells #[.int .i64 r, .int .i64 s, .slice A es.length c] 32)) #[.int .i64 0, .int .i64 0, .slice none 0 0] 32
  simp only [World.size_alloc] at B2
  go_enter Tryz.func87, Tryz.ntmps87
  go_wp2_with fail
  generalize hw1 : ((w.alloc (.cells #[.int .i64 r, .int .i64 s, .slice A es.length c] 32)).alloc (.cells #[.int .i64 0, .int .i64 0, .slice none 0 0] 32)) = w1 at hm0 B0 B2 ⊢
  have hs1 : w1.heap.size = w.heap.size + 1 + 1 := by rw [← hw1]; simp
  have HS := Lib.hid hs1
  clear hw1 hs1
  with_reducible refine (impl_copyGraph r s A es c _ _ _ (hr.mid hm0 oZl) hl).mono ?_
  rintro en w2 ⟨A1, c1, rfl, ho2, hm2⟩
  have hal := Mid.alloc w2 (.cells #[.int .i64 r, .int .i64 s, .slice A1 es.length c1] 32)
  have Y3 := Box.new w2 #[.int .i64 r, .int .i64 s, .slice A1 es.length c1] 32
  replace B0 := B0.mid hm2 oZr
  replace B2 := B2.mid hm2 oZr
  replace hm0 := hm0.trans hm2
  replace B0 := B0.mid hal oZr
  replace B2 := B2.mid hal oZr
  replace hm0 := hm0.trans hal
  have hG2 : w.heap.size + 1 < w2.heap.size := by have := HS.out; have := hm2.size; omega
  have ho5 := (ho2.mid hal oZl)
  have hlt2 := ho2.ov.2.2
  have hb2k : Value.ownBlock (.slice A1 es.length c1) ≠ some w2.heap.size := fun h => by have := hlt2 _ h; omega
  have p0 := B0.cell 0 rfl
  have p1 := B0.cell 1 rfl
  have p2 := B0.cell 2 rfl
  go_wp2_with fail
  generalize w2.alloc (.cells #[.int .i64 r, .int .i64 s, .slice A1 es.length c1] 32) = w3 at hm0 B0 B2 Y3 ho5 p0 p1 p2 ⊢
  have hG3 : w2.heap.size < w3.heap.size := Y3.1
  have HOW := Lib.hid ho5.ov.2.1
  have HBK := Lib.hid hb2k
  have ho6 := ho5.wide (Nat.le_refl _) (Nat.le_refl _) (Nat.le_of_lt hG3)
  generalize hG : w2.heap.size = G at Y3 hG2 hG3 ho5 HBK ⊢
  have HGW := Lib.hid (show w1.heap.size ≤ G by rw [← hG]; exact hm2.size)
  clear hG hal hm2 hlt2 hb2k ho2 ho6
  with_reducible refine (impl_IsGraph r s A es c _ _ _ (hr.mid hm0 oZl).rv hl b1 H1.out).mono ?_
  rintro en w4 ⟨rfl, hm4⟩
  replace B0 := B0.mid hm4 oZr
  replace B2 := B2.mid hm4 oZr
  replace Y3 := Y3.mid hm4 oZr
  replace ho5 := ho5.mid hm4 oZl
  replace hm0 := hm0.trans hm4
  replace HOW := Lib.hid (owns_mid HOW.out hm4 oZl)
  clear hm4
  cases b1 with
  | false =>
    have hno : ¬ PathOk r s es u wd v := fun h => by have := H1.out.2 h.gr; cases this
    clear p0 p1 p2
    obtain ⟨rfl, rfl, rfl⟩ := HR.out.no hno
    have a0 := B2.cell 0 rfl
    have a1 := B2.cell 1 rfl
    have a2 := B2.cell 2 rfl
    have q0 := Y3.cell 0 rfl
    have q1 := Y3.cell 1 rfl
    have q2 := Y3.cell 2 rfl
    have af := B2.2.2
    go_wp2_with fail
    refine bodyPost_ret (v := .tuple #[.agg #[.int .i64 r, .int .i64 rs, .slice A1 res.length c1], .bool false]) (by simp [results, Tryz.results87, go_sem, a0, a1, a2, af, q0, q1, q2]) rfl ⟨A1, c1, rfl, ?_, ?_⟩
    · refine OG.wide (OG.mid ho5 (a := w.heap.size) (b := w.heap.size + 2) ?_ (Or.inl (by have := HS.out; omega))) (by have := HS.out; omega) (by have := ho5.size; simp; omega) (Nat.le_refl _)
      repeat (first | exact Mid.refl _ _ _ | refine Mid.stored ?_ _ (by simp; try omega) (by simp; try omega))
    · repeat (first | exact hm0 | refine Mid.storeNew ?_ (by simp; try omega) _)
  | true =>
  have hgr := H1.out.1 rfl
  have hsz := hgr.size
  have hln := hgr.len
  have hrk := hgr.rank
  have GR := Lib.hid hgr
  clear hgr H1
  clear p0 p1 p2
  have p0 := B0.cell 0 rfl
  have p1 := B0.cell 1 rfl
  have p2 := B0.cell 2 rfl
  go_wp2_with fail
  with_reducible refine (impl_has r s A es.length c u _ b2 (has_bool hsz.1 hsz.2 H2.out).1).mono ?_
  rintro en w5 ⟨rfl, hm5⟩
  replace B0 := B0.mid hm5 oZr
  replace B2 := B2.mid hm5 oZr
  replace Y3 := Y3.mid hm5 oZr
  replace ho5 := ho5.mid hm5 oZl
  replace hm0 := hm0.trans hm5
  replace HOW := Lib.hid (owns_mid HOW.out hm5 oZl)
  clear hm5
  cases b2 with
  | false =>
    have hno : ¬ PathOk r s es u wd v := fun h => by have := H2.out.2 h.u0; cases this
    clear p0 p1 p2
    obtain ⟨rfl, rfl, rfl⟩ := HR.out.no hno
    have a0 := B2.cell 0 rfl
    have a1 := B2.cell 1 rfl
    have a2 := B2.cell 2 rfl
    have q0 := Y3.cell 0 rfl
    have q1 := Y3.cell 1 rfl
    have q2 := Y3.cell 2 rfl
    have af := B2.2.2
    go_wp2_with fail
    refine bodyPost_ret (v := .tuple #[.agg #[.int .i64 r, .int .i64 rs, .slice A1 res.length c1], .bool false]) (by simp [results, Tryz.results87, go_sem, a0, a1, a2, af, q0, q1, q2]) rfl ⟨A1, c1, rfl, ?_, ?_⟩
    · refine OG.wide (OG.mid ho5 (a := w.heap.size) (b := w.heap.size + 2) ?_ (Or.inl (by have := HS.out; omega))) (by have := HS.out; omega) (by have := ho5.size; simp; omega) (Nat.le_refl _)
      repeat (first | exact Mid.refl _ _ _ | refine Mid.stored ?_ _ (by simp; try omega) (by simp; try omega))
    · repeat (first | exact hm0 | refine Mid.storeNew ?_ (by simp; try omega) _)
  | true =>
  have hxu := H2.out.1 rfl
  clear H2
  clear p0 p1 p2
  have p0 := B0.cell 0 rfl
  have p1 := B0.cell 1 rfl
  have p2 := B0.cell 2 rfl
  go_wp2_with fail
  with_reducible refine (impl_has r s A es.length c v _ b3 (has_bool hsz.1 hsz.2 H3.out).1).mono ?_
  rintro en w6 ⟨rfl, hm6⟩
  replace B0 := B0.mid hm6 oZr
  replace B2 := B2.mid hm6 oZr
  replace Y3 := Y3.mid hm6 oZr
  replace ho5 := ho5.mid hm6 oZl
  replace hm0 := hm0.trans hm6
  replace HOW := Lib.hid (owns_mid HOW.out hm6 oZl)
  clear hm6
  cases b3 with
  | false =>
    have hno : ¬ PathOk r s es u wd v := fun h => by have := H3.out.2 h.v0; cases this
    clear p0 p1 p2
    obtain ⟨rfl, rfl, rfl⟩ := HR.out.no hno
    have a0 := B2.cell 0 rfl
    have a1 := B2.cell 1 rfl
    have a2 := B2.cell 2 rfl
    have q0 := Y3.cell 0 rfl
    have q1 := Y3.cell 1 rfl
    have q2 := Y3.cell 2 rfl
    have af := B2.2.2
    go_wp2_with fail
    refine bodyPost_ret (v := .tuple #[.agg #[.int .i64 r, .int .i64 rs, .slice A1 res.length c1], .bool false]) (by simp [results, Tryz.results87, go_sem, a0, a1, a2, af, q0, q1, q2]) rfl ⟨A1, c1, rfl, ?_, ?_⟩
    · refine OG.wide (OG.mid ho5 (a := w.heap.size) (b := w.heap.size + 2) ?_ (Or.inl (by have := HS.out; omega))) (by have := HS.out; omega) (by have := ho5.size; simp; omega) (Nat.le_refl _)
      repeat (first | exact Mid.refl _ _ _ | refine Mid.stored ?_ _ (by simp; try omega) (by simp; try omega))
    · repeat (first | exact hm0 | refine Mid.storeNew ?_ (by simp; try omega) _)
  | true =>
  have hxv := H3.out.1 rfl
  clear H3
  clear p0 p1 p2
  have p0 := B0.cell 0 rfl
  have p1 := B0.cell 1 rfl
  have p2 := B0.cell 2 rfl
  by_cases hne : wd = []
  · subst hne
    have hno : ¬ PathOk r s es u [] v := fun h => h.ne rfl
    clear p0 p1 p2
    obtain ⟨rfl, rfl, rfl⟩ := HR.out.no hno
    have a0 := B2.cell 0 rfl
    have a1 := B2.cell 1 rfl
    have a2 := B2.cell 2 rfl
    have q0 := Y3.cell 0 rfl
    have q1 := Y3.cell 1 rfl
    have q2 := Y3.cell 2 rfl
    have af := B2.2.2
    go_wp2_with fail
    refine bodyPost_ret (v := .tuple #[.agg #[.int .i64 r, .int .i64 rs, .slice A1 res.length c1], .bool false]) (by simp [results, Tryz.results87, go_sem, a0, a1, a2, af, q0, q1, q2]) rfl ⟨A1, c1, rfl, ?_, ?_⟩
    · refine OG.wide (OG.mid ho5 (a := w.heap.size) (b := w.heap.size + 2) ?_ (Or.inl (by have := HS.out; omega))) (by have := HS.out; omega) (by have := ho5.size; simp; omega) (Nat.le_refl _)
      repeat (first | exact Mid.refl _ _ _ | refine Mid.stored ?_ _ (by simp; try omega) (by simp; try omega))
    · repeat (first | exact hm0 | refine Mid.storeNew ?_ (by simp; try omega) _)
  have hpos : 0 < wd.length := List.length_pos_iff.2 hne
  have d4 : ((wd.length : Int) == 0) = false := by simp only [beq_eq_false_iff_ne]; omega
  have HNE := Lib.hid hne
  clear hne
  clear p0 p1 p2
  have p0 := B0.cell 0 rfl
  have p1 := B0.cell 1 rfl
  have p2 := B0.cell 2 rfl
  go_wp2_with fail
  with_reducible refine (impl_IsWord r Aw wd cw _ _ ((hw.mid hm0 oZl).rs) HOK.out (by omega) b4 H4.out).mono ?_
  rintro en w7 ⟨rfl, rfl⟩
  cases b4 with
  | false =>
    have hno : ¬ PathOk r s es u wd v := fun h => by have := H4.out.2 h.word; cases this
    clear p0 p1 p2
    obtain ⟨rfl, rfl, rfl⟩ := HR.out.no hno
    have a0 := B2.cell 0 rfl
    have a1 := B2.cell 1 rfl
    have a2 := B2.cell 2 rfl
    have q0 := Y3.cell 0 rfl
    have q1 := Y3.cell 1 rfl
    have q2 := Y3.cell 2 rfl
    have af := B2.2.2
    go_wp2_with fail
    refine bodyPost_ret (v := .tuple #[.agg #[.int .i64 r, .int .i64 rs, .slice A1 res.length c1], .bool false]) (by simp [results, Tryz.results87, go_sem, a0, a1, a2, af, q0, q1, q2]) rfl ⟨A1, c1, rfl, ?_, ?_⟩
    · refine OG.wide (OG.mid ho5 (a := w.heap.size) (b := w.heap.size + 2) ?_ (Or.inl (by have := HS.out; omega))) (by have := HS.out; omega) (by have := ho5.size; simp; omega) (Nat.le_refl _)
      repeat (first | exact Mid.refl _ _ _ | refine Mid.stored ?_ _ (by simp; try omega) (by simp; try omega))
    · repeat (first | exact hm0 | refine Mid.storeNew ?_ (by simp; try omega) _)
  | true =>
  have hwd := H4.out.1 rfl
  have hwd24 := hwd.2.2.1
  have HWD := Lib.hid hwd
  clear hwd H4
  clear p0 p1 p2
  have p0 := B0.cell 0 rfl
  have p1 := B0.cell 1 rfl
  have p2 := B0.cell 2 rfl
  have d5' : IntKind.i64.wrap (s + (wd.length : Int)) = s + (wd.length : Int) := IntWalk.i64_in _ (by omega)
  have d5'' : IntKind.i64.wrap (s + (wd.length : Int) - 1) = s + (wd.length : Int) - 1 := IntWalk.i64_in _ (by omega)
  by_cases hsl : 40 < s + (wd.length : Int) - 1
  · have hno : ¬ PathOk r s es u wd v := fun h => by have := h.sz; omega
    have d5 : decide (40 < s + (wd.length : Int) - 1) = true := by simpa using hsl
    clear p1
    clear p0 p2
    have p0 := B0.cell 0 rfl
    have p1 := B0.cell 1 rfl
    have p2 := B0.cell 2 rfl
    obtain ⟨rfl, rfl, rfl⟩ := HR.out.no hno
    have a0 := B2.cell 0 rfl
    have a1 := B2.cell 1 rfl
    have a2 := B2.cell 2 rfl
    have q0 := Y3.cell 0 rfl
    have q1 := Y3.cell 1 rfl
    have q2 := Y3.cell 2 rfl
    have af := B2.2.2
    go_wp2_with fail
    refine bodyPost_ret (v := .tuple #[.agg #[.int .i64 r, .int .i64 rs, .slice A1 res.length c1], .bool false]) (by simp [results, Tryz.results87, go_sem, a0, a1, a2, af, q0, q1, q2]) rfl ⟨A1, c1, rfl, ?_, ?_⟩
    · refine OG.wide (OG.mid ho5 (a := w.heap.size) (b := w.heap.size + 2) ?_ (Or.inl (by have := HS.out; omega))) (by have := HS.out; omega) (by have := ho5.size; simp; omega) (Nat.le_refl _)
      repeat (first | exact Mid.refl _ _ _ | refine Mid.stored ?_ _ (by simp; try omega) (by simp; try omega))
    · repeat (first | exact hm0 | refine Mid.storeNew ?_ (by simp; try omega) _)
  have d5 : decide (40 < s + (wd.length : Int) - 1) = false := by simpa using hsl
  by_cases hll : 120 < es.length + wd.length
  · have hno : ¬ PathOk r s es u wd v := fun h => by have := h.ln; omega
    have d6 : decide (120 < (es.length : Int) + (wd.length : Int)) = true := by simp; omega
    obtain ⟨rfl, rfl, rfl⟩ := HR.out.no hno
    have a0 := B2.cell 0 rfl
    have a1 := B2.cell 1 rfl
    have a2 := B2.cell 2 rfl
    have q0 := Y3.cell 0 rfl
    have q1 := Y3.cell 1 rfl
    have q2 := Y3.cell 2 rfl
    have af := B2.2.2
    go_wp2_with fail
    refine bodyPost_ret (v := .tuple #[.agg #[.int .i64 r, .int .i64 rs, .slice A1 res.length c1], .bool false]) (by simp [results, Tryz.results87, go_sem, a0, a1, a2, af, q0, q1, q2]) rfl ⟨A1, c1, rfl, ?_, ?_⟩
    · refine OG.wide (OG.mid ho5 (a := w.heap.size) (b := w.heap.size + 2) ?_ (Or.inl (by have := HS.out; omega))) (by have := HS.out; omega) (by have := ho5.size; simp; omega) (Nat.le_refl _)
      repeat (first | exact Mid.refl _ _ _ | refine Mid.stored ?_ _ (by simp; try omega) (by simp; try omega))
    · repeat (first | exact hm0 | refine Mid.storeNew ?_ (by simp; try omega) _)
  have d6 : decide (120 < (es.length : Int) + (wd.length : Int)) = false := by simp; omega
  obtain ⟨rfl, hrs, hre⟩ := HR.out.yes ⟨GR.out, hxu, hxv, HWD.out, HNE.out, by omega, by omega⟩
  have HRS := Lib.hid hrs
  have HRE := Lib.hid hre
  have hasc := Lib.hid GR.out.asc
  clear hrs hre HR
  have hwn : IntKind.i64.wrap ((wd.length : Int) - 1) = (wd.length : Int) - 1 := IntWalk.i64_in _ (by omega)
  have hletb := Lib.hid HWD.out.2.2.2.1
  have q0 := Y3.cell 0 rfl
  have q1 := Y3.cell 1 rfl
  have q2 := Y3.cell 2 rfl
  go_wp2_with fail
  clear p0 p1 p2 q0 q1 q2
  go_loopw [11, 66] (fun at_ i wr => ∃ (k : Nat) (A2 : Option Addr) (n2 c2 : Nat) (sz : Int), k ≤ wd.length ∧ i = .int .i64 k ∧ at_ = .int .i64 (pathV u s wd.length v k) ∧ Hid (sz = s + ((min k (wd.length - 1) : Nat) : Int)) ∧ Hid (n2 = es.length + k) ∧
    wr.ownsRow w1.heap.size 64 3 (.slice A2 n2 c2) n2 (ints (edI (es ++ pathE u s wd v k))) ∧ Value.ownBlock (.slice A2 n2 c2) ≠ some G ∧
    Box wr w.heap.size [.int .i64 r, .int .i64 s, .slice A es.length c] ∧ Box wr (w.heap.size + 1) [.int .i64 0, .int .i64 0, .slice none 0 0] ∧
    Box wr G [.int .i64 r, .int .i64 sz, .slice A2 n2 c2] ∧ Mid 0 0 w wr) (fun _ i _ => wd.length - (intOf i).toNat)
  case atStart => exact ⟨0, A1, es.length, c1, s, Nat.zero_le _, rfl, rfl, Lib.hid (by simp), Lib.hid rfl, by simpa [pathE] using HOW.out, HBK.out, B0, B2, Y3, hm0⟩
  case round =>
    clear B0 B2 Y3 hm0 ho5 HOW HBK hG3
    obtain ⟨k, A2, n2, c2, sz, hk, rfl, rfl, HSZ, HN, hown, hbk, Z0, Z2, Z3, hmr⟩ := hrel
    have hszv := HSZ.out
    have hn2 : n2 ≤ 240 := by have := HN.out; omega
    by_cases hlt : k < wd.length
    · obtain ⟨B, off, x, rfl, hbh, hx, hcx⟩ := (hw.mid hmr oZl).at hlt
      have hxl := hletb.out x (List.mem_of_getElem? hx)
      have hkn : (k : Int) < (wd.length : Int) := by omega
      have hk0 : (0 : Int) ≤ (k : Int) := by omega
      have hpe := pathE_succ (u := u) (s := s) (v := v) hx
      have HPE := Lib.hid hpe
      have hGr : G < wr.heap.size := Z3.1
      have hw1r : w1.heap.size ≤ wr.heap.size := by have := HGW.out; omega
      clear hx hpe
      generalize hat : pathV u s wd.length v k = at0 at HPE ⊢
      clear hat
      by_cases hlast : k + 1 < wd.length
      · have hmin : ((min k (wd.length - 1) : Nat) : Int) = (k : Int) := by rw [Nat.min_eq_left (by omega)]
        have hmin2 : ((min (k + 1) (wd.length - 1) : Nat) : Int) = (k : Int) + 1 := by rw [Nat.min_eq_left (by omega)]; rfl
        rw [hmin] at hszv
        subst hszv
        have hto : pathV u s wd.length v (k + 1) = s + (k : Int) := by
          rw [pathV, if_neg (by omega), if_pos hlast]
          omega
        rw [hto] at HPE
        have dk : decide ((k : Int) < (wd.length : Int) - 1) = true := by simp; omega
        have hws : IntKind.i64.wrap (s + (k : Int) + 1) = s + (k : Int) + 1 := IntWalk.i64_in _ (by omega)
        have q1 := Z3.cell 1 rfl
        have qf := Z3.2.2
        have hst := Mid.setCell wr (lo := G) (hi := G + 1) (p := ⟨G, 1, none⟩) (.int .i64 (s + (k : Int) + 1)) (Nat.le_refl _) (Nat.lt_succ_self _)
        have V0 := Z0.mid hst (Or.inl (by omega))
        have V2 := Z2.mid hst (Or.inl (by omega))
        have V3 := Z3.set 1 (.int .i64 (s + (k : Int) + 1)) (by simp) rfl
        have hownV := owns_other hown (k := G) (grown_setCell (World.grownBy.refl _ (some G)) 1 (.int .i64 (s + (k : Int) + 1))) hbk
        have hmv := hmr.storeNew (p := ⟨G, 1, none⟩) (by show w.heap.size ≤ G; omega) (.int .i64 (s + (k : Int) + 1))
        have hsV : (wr.setCell ⟨G, 1, none⟩ (.int .i64 (s + (k : Int) + 1))).heap.size = wr.heap.size := by simp
        go_wp2_with fail
        generalize wr.setCell ⟨G, 1, none⟩ (.int .i64 (s + (k : Int) + 1)) = wx at V0 V2 V3 hownV hmv hsV ⊢
        have hnsz : Hid (s + (k : Int) + 1 = s + ((min (k + 1) (wd.length - 1) : Nat) : Int)) := Lib.hid (by rw [hmin2]; omega)
        clear Z0 Z2 Z3 hown hmr q1 qf hst hcx hmin hmin2 HSZ
        simp only [List.set_cons_succ, List.set_cons_zero] at V3
        generalize s + (k : Int) + 1 = sz' at V3 hnsz
        generalize s + (k : Int) = to at HPE hto ⊢
        have hGx : G < wx.heap.size := V3.1
        have hmd := Mid.drew1 wx
        have U0 := V0.mid hmd oZr
        have U2 := V2.mid hmd oZr
        have U3 := V3.mid hmd oZr
        have hownU := owns_mid hownV hmd oZl
        have hmu := hmv.trans hmd
        have g2 := U3.cell 2 rfl
        have hsd := hmd.size
        have hP1 := fun W => impl_step at0 x to W (by omega) (by omega)
        clear V0 V2 V3 hownV hmv hmd
        refine wp_region_T (S := (fun w' => w'.cell? ⟨G, 2, none⟩ = some (.slice A2 n2 c2))) 9 (by kernel_rfl) g2 ?_
        generalize World.drew wx = wz at U0 U2 U3 hownU hmu g2 hsd ⊢
        refine wpAnyT_take (i := 0) (v := ?_) rfl (by kernel_rfl) (by kernel_rfl) (by kernel_rfl) (by kernel_rfl) (fun _ _ _ h => h) (Or.inl ⟨by rfl, ?_⟩) g2 ?_
        rotate_left
        focus (intro w hSw; (try dsimp only at hSw); go_simp; try with_reducible rfl)
        try simp only [Act.put, List.setIfInBounds_toArray, List.set_cons_zero, List.set_cons_succ, List.getElem_toArray, List.getElem_cons_zero, List.getElem_cons_succ]
        refine wpAnyT_take (i := 1) (v := ?_) rfl (by kernel_rfl) (by kernel_rfl) (by kernel_rfl) (by kernel_rfl) (fun _ _ _ h => h) (Or.inl ⟨by rfl, ?_⟩) g2 ?_
        rotate_left
        focus (intro w hSw; (try dsimp only at hSw); go_simp; try with_reducible rfl)
        try simp only [Act.put, List.setIfInBounds_toArray, List.set_cons_zero, List.set_cons_succ, List.getElem_toArray, List.getElem_cons_zero, List.getElem_cons_succ]
        refine wpAnyT_take (i := 2) (v := ?_) rfl (by kernel_rfl) (by kernel_rfl) (by kernel_rfl) (by kernel_rfl) (fun _ _ _ h => h) (Or.inl ⟨by rfl, ?_⟩) g2 ?_
        rotate_left
        focus (intro w hSw; (try dsimp only at hSw); go_simp; try with_reducible rfl)
        try simp only [Act.put, List.setIfInBounds_toArray, List.set_cons_zero, List.set_cons_succ, List.getElem_toArray, List.getElem_cons_zero, List.getElem_cons_succ]
        refine wpAnyT_take (i := 3) (v := ?_) rfl (by kernel_rfl) (by kernel_rfl) (by kernel_rfl) (by kernel_rfl) (fun _ _ _ h => h) (Or.inl ⟨by rfl, ?_⟩) g2 ?_
        rotate_left
        focus (intro w hSw; (try dsimp only at hSw); go_simp; try with_reducible rfl)
        try simp only [Act.put, List.setIfInBounds_toArray, List.set_cons_zero, List.set_cons_succ, List.getElem_toArray, List.getElem_cons_zero, List.getElem_cons_succ]
        refine wpAnyT_take (i := 4) (v := ?_) rfl (by kernel_rfl) (by kernel_rfl) (by kernel_rfl) (by kernel_rfl) (fun _ _ _ h => h) (Or.inl ⟨by rfl, ?_⟩) g2 ?_
        rotate_left
        focus (intro w hSw; (try dsimp only at hSw); go_simp; try with_reducible rfl)
        try simp only [Act.put, List.setIfInBounds_toArray, List.set_cons_zero, List.set_cons_succ, List.getElem_toArray, List.getElem_cons_zero, List.getElem_cons_succ]
        refine wpAnyT_ready (rs := [5]) (by kernel_rfl) (by simp) (AllReadyT.cons rfl (fun K hK => ?_) AllReadyT.nil)
        (go_simp; refine (hP1 _).mono ?_; rintro en w7 ⟨rfl, hm7⟩; have U3' := U3.mid hm7 oZr; go_wp2_with fail)
        refine hK.out _ _ (Or.inr (U3'.cell 2 rfl)) (fun _ => ?_)
        clear hK K
        try simp only [Act.put, List.setIfInBounds_toArray, List.set_cons_zero, List.set_cons_succ, List.getElem_toArray, List.getElem_cons_zero, List.getElem_cons_succ]
        have U0' := U0.mid hm7 oZr
        have U2' := U2.mid hm7 oZr
        have hownU' := owns_mid hownU hm7 oZl
        have hmu' := hmu.trans hm7
        have hs7 := hm7.size
        clear U0 U2 U3 hownU hmu g2 hP1 hm7
        generalize stepE at0 x to = ed at HPE ⊢
        have haz := Mid.alloc w7 (.cells #[.int .i64 ed.a, .int .i64 ed.l, .int .i64 ed.b] 64)
        have T0 := U0'.mid haz oZr
        have T2 := U2'.mid haz oZr
        have T3 := U3'.mid haz oZr
        have hownT := hownU'.alloc (.cells #[.int .i64 ed.a, .int .i64 ed.l, .int .i64 ed.b] 64)
        have hmt := hmu'.trans haz
        have hS2 := T3.cell 2 rfl
        have hrs : Rs (w7.alloc (.cells #[.int .i64 ed.a, .int .i64 ed.l, .int .i64 ed.b] 64)) (w7.heap.size + 1) (some ⟨w7.heap.size, 0, none⟩) [.int .i64 ed.a, .int .i64 ed.l, .int .i64 ed.b] := fun _ => ⟨w7.heap.size, 0, rfl, Nat.lt_succ_self _, fun j u hu => (World.cell?_alloc_at _ _ _ _ rfl).trans (by simpa using hu)⟩
        have hone : ∀ u ∈ [Value.int .i64 ed.a, .int .i64 ed.l, .int .i64 ed.b], u.oneCell' = true := by
          intro u hu
          simp at hu
          rcases hu with rfl | rfl | rfl <;> rfl
        have hmxl : n2 + 1 ≤ maxLen := by unfold maxLen; omega
        have hbyt : (n2 + 1) * 24 ≤ 140737488355328 := by omega
        have hbas : w1.heap.size ≤ (w7.alloc (.cells #[.int .i64 ed.a, .int .i64 ed.l, .int .i64 ed.b] 64)).heap.size := by simp; omega
        have hGz : G < w7.heap.size := U3'.1
        have HO := Lib.hid hone
        have HB0 := Lib.hid (fun (g : Nat) (h : Value.ownBlock (.slice A2 n2 c2) = some g) => (hownT.lt g h).1)
        have HBk := Lib.hid hbk
        clear hone hbk U0' U2' U3' hownU' hmu' haz
        refine wpAnyT_ready (rs := [6]) (by kernel_rfl) (by simp) (AllReadyT.cons rfl (fun K hK => ?_) AllReadyT.nil)
        go_simp
        refine hK.out _ _ (Or.inr hS2) (fun _ => ?_)
        clear hK K
        try simp only [Act.put, List.setIfInBounds_toArray, List.set_cons_zero, List.set_cons_succ, List.getElem_toArray, List.getElem_cons_zero, List.getElem_cons_succ]
        generalize hwt : w7.alloc (.cells #[.int .i64 ed.a, .int .i64 ed.l, .int .i64 ed.b] 64) = wt at T0 T2 T3 hownT hmt hS2 hrs hbas ⊢
        have hszt : wt.heap.size = w7.heap.size + 1 := by rw [← hwt]; simp
        have HZT := Lib.hid hszt
        clear hwt hszt
        refine wpAnyT_ready (rs := [7]) (by kernel_rfl) (by simp) (AllReadyT.cons rfl (fun K hK => ?_) AllReadyT.nil)
        (refine step_cat (by rfl) (.tmp 84) (.tmp 89) 30 (by rfl) w1.heap.size 64 (.agg #[.int .i64 0, .int .i64 0, .int .i64 0]) 3 24 undSE infoE rfl (by decide) (.slice A2 n2 c2) n2 _ (by rfl) hownT (some ⟨w7.heap.size, 0, none⟩) 1 1 _ [.int .i64 ed.a, .int .i64 ed.l, .int .i64 ed.b] (by rfl) hrs rfl HO.out hmxl hbyt hbas ?_; intro v2 w8 ho8 hgr8 hat8; obtain ⟨A3, c3, rfl, -, -⟩ := owns_shape ho8)
        refine hK.out _ _ (Or.inr ((T3.grown hgr8 HBk.out).cell 2 rfl)) (fun _ => ?_)
        clear hK K
        try simp only [Act.put, List.setIfInBounds_toArray, List.set_cons_zero, List.set_cons_succ, List.getElem_toArray, List.getElem_cons_zero, List.getElem_cons_succ]
        have R3 := T3.grown hgr8 HBk.out
        have R0 := T0.grown hgr8 (fun h => by have := HB0.out _ h; have := HS.out; omega)
        have R2 := T2.grown hgr8 (fun h => by have := HB0.out _ h; have := HS.out; omega)
        have hmr8 : Mid 0 0 w w8 := hmt.transNew (Mid.of_grownRow hownT hgr8) (Or.inl (by have := HS.out; omega))
        have hS3 := R3.cell 2 rfl
        have hne : Value.ownBlock (.slice A3 (n2 + 1) c3) ≠ some G := by
          rcases hat8 with h | h
          · rw [h]; exact HBk.out
          · rw [h]
            intro he
            injection he with he
            have := HZT.out
            omega
        have HNE2 := Lib.hid hne
        have hrf := R3.2.2
        clear hne hat8 hS2 hrs T0 T2 T3 hmt
        refine wpAnyT_take (i := 8) (v := ?_) rfl (by kernel_rfl) (by kernel_rfl) (by kernel_rfl) (by kernel_rfl) (fun _ _ _ h => h) (Or.inl ⟨by rfl, ?_⟩) hS3 ?_
        rotate_left
        focus (intro w hSw; (try dsimp only at hSw); go_simp; try with_reducible rfl)
        try simp only [Act.put, List.setIfInBounds_toArray, List.set_cons_zero, List.set_cons_succ, List.getElem_toArray, List.getElem_cons_zero, List.getElem_cons_succ]
        refine wpAnyT_ready (rs := [9]) (by kernel_rfl) (by simp) (AllReadyT.cons rfl (fun K hK => ?_) AllReadyT.nil)
        (go_simp)
        refine hK.out _ _ (Or.inl rfl) (fun _ => ?_)
        clear hK K
        try simp only [Act.put, List.setIfInBounds_toArray, List.set_cons_zero, List.set_cons_succ, List.getElem_toArray, List.getElem_cons_zero, List.getElem_cons_succ]
        refine wpAnyT_done (by kernel_rfl) ?_ _
        go_wp2_with fail
        go_roundw
        case rel =>
          have hst := Mid.setCell w8 (lo := G) (hi := G + 1) (p := ⟨G, 2, none⟩) (.slice A3 (n2 + 1) c3) (Nat.le_refl _) (Nat.lt_succ_self _)
          refine ⟨k + 1, A3, n2 + 1, c3, sz', by omega, by go_num, by rw [hto], hnsz, Lib.hid (by rw [HN.out]; omega), ?_, HNE2.out, R0.mid hst (Or.inl (by omega)), R2.mid hst (Or.inl (by omega)), R3.set 2 _ (by simp) rfl, hmr8.storeNew (by show w.heap.size ≤ G; omega) _⟩
          have h1 := owns_other ho8 (k := G) (grown_setCell (World.grownBy.refl _ (some G)) 2 (.slice A3 (n2 + 1) c3)) HNE2.out
          rw [HPE.out, ← List.append_assoc, edI_append, ints_append, edI_one]
          exact h1
        case measure => simp [intOf]; omega
      · have hkl : k + 1 = wd.length := by omega
        have hmin : min k (wd.length - 1) = min (k + 1) (wd.length - 1) := by omega
        have hnsz : Hid (sz = s + ((min (k + 1) (wd.length - 1) : Nat) : Int)) := Lib.hid (by rw [hszv, hmin])
        have hto : pathV u s wd.length v (k + 1) = v := by
          rw [pathV, if_neg (by omega), if_neg (by omega)]
        rw [hto] at HPE
        have dk : decide ((k : Int) < (wd.length : Int) - 1) = false := by simp; omega
        clear hszv hmin HSZ
        generalize sz = sz' at Z3 hnsz
        go_wp2_with fail
        have V0 := Z0
        have V2 := Z2
        have V3 := Z3
        have hownV := hown
        have hmv := hmr
        obtain ⟨wx, hwx⟩ : ∃ wx, wr = wx := ⟨_, rfl⟩
        have hsV : wx.heap.size = wr.heap.size := by rw [hwx]
        rw [hwx] at V0 V2 V3 hownV hmv ⊢
        clear Z0 Z2 Z3 hown hmr hcx
        have hGx : G < wx.heap.size := V3.1
        have hmd := Mid.drew1 wx
        have U0 := V0.mid hmd oZr
        have U2 := V2.mid hmd oZr
        have U3 := V3.mid hmd oZr
        have hownU := owns_mid hownV hmd oZl
        have hmu := hmv.trans hmd
        have g2 := U3.cell 2 rfl
        have hsd := hmd.size
        have hP1 := fun W => impl_step at0 x v W (by omega) (by omega)
        clear V0 V2 V3 hownV hmv hmd
        refine wp_region_T (S := (fun w' => w'.cell? ⟨G, 2, none⟩ = some (.slice A2 n2 c2))) 9 (by kernel_rfl) g2 ?_
        generalize World.drew wx = wz at U0 U2 U3 hownU hmu g2 hsd ⊢
        refine wpAnyT_take (i := 0) (v := ?_) rfl (by kernel_rfl) (by kernel_rfl) (by kernel_rfl) (by kernel_rfl) (fun _ _ _ h => h) (Or.inl ⟨by rfl, ?_⟩) g2 ?_
        rotate_left
        focus (intro w hSw; (try dsimp only at hSw); go_simp; try with_reducible rfl)
        try simp only [Act.put, List.setIfInBounds_toArray, List.set_cons_zero, List.set_cons_succ, List.getElem_toArray, List.getElem_cons_zero, List.getElem_cons_succ]
        refine wpAnyT_take (i := 1) (v := ?_) rfl (by kernel_rfl) (by kernel_rfl) (by kernel_rfl) (by kernel_rfl) (fun _ _ _ h => h) (Or.inl ⟨by rfl, ?_⟩) g2 ?_
        rotate_left
        focus (intro w hSw; (try dsimp only at hSw); go_simp; try with_reducible rfl)
        try simp only [Act.put, List.setIfInBounds_toArray, List.set_cons_zero, List.set_cons_succ, List.getElem_toArray, List.getElem_cons_zero, List.getElem_cons_succ]
        refine wpAnyT_take (i := 2) (v := ?_) rfl (by kernel_rfl) (by kernel_rfl) (by kernel_rfl) (by kernel_rfl) (fun _ _ _ h => h) (Or.inl ⟨by rfl, ?_⟩) g2 ?_
        rotate_left
        focus (intro w hSw; (try dsimp only at hSw); go_simp; try with_reducible rfl)
        try simp only [Act.put, List.setIfInBounds_toArray, List.set_cons_zero, List.set_cons_succ, List.getElem_toArray, List.getElem_cons_zero, List.getElem_cons_succ]
        refine wpAnyT_take (i := 3) (v := ?_) rfl (by kernel_rfl) (by kernel_rfl) (by kernel_rfl) (by kernel_rfl) (fun _ _ _ h => h) (Or.inl ⟨by rfl, ?_⟩) g2 ?_
        rotate_left
        focus (intro w hSw; (try dsimp only at hSw); go_simp; try with_reducible rfl)
        try simp only [Act.put, List.setIfInBounds_toArray, List.set_cons_zero, List.set_cons_succ, List.getElem_toArray, List.getElem_cons_zero, List.getElem_cons_succ]
        refine wpAnyT_take (i := 4) (v := ?_) rfl (by kernel_rfl) (by kernel_rfl) (by kernel_rfl) (by kernel_rfl) (fun _ _ _ h => h) (Or.inl ⟨by rfl, ?_⟩) g2 ?_
        rotate_left
        focus (intro w hSw; (try dsimp only at hSw); go_simp; try with_reducible rfl)
        try simp only [Act.put, List.setIfInBounds_toArray, List.set_cons_zero, List.set_cons_succ, List.getElem_toArray, List.getElem_cons_zero, List.getElem_cons_succ]
        refine wpAnyT_ready (rs := [5]) (by kernel_rfl) (by simp) (AllReadyT.cons rfl (fun K hK => ?_) AllReadyT.nil)
        (go_simp; refine (hP1 _).mono ?_; rintro en w7 ⟨rfl, hm7⟩; have U3' := U3.mid hm7 oZr; go_wp2_with fail)
        refine hK.out _ _ (Or.inr (U3'.cell 2 rfl)) (fun _ => ?_)
        clear hK K
        try simp only [Act.put, List.setIfInBounds_toArray, List.set_cons_zero, List.set_cons_succ, List.getElem_toArray, List.getElem_cons_zero, List.getElem_cons_succ]
        have U0' := U0.mid hm7 oZr
        have U2' := U2.mid hm7 oZr
        have hownU' := owns_mid hownU hm7 oZl
        have hmu' := hmu.trans hm7
        have hs7 := hm7.size
        clear U0 U2 U3 hownU hmu g2 hP1 hm7
        generalize stepE at0 x v = ed at HPE ⊢
        have haz := Mid.alloc w7 (.cells #[.int .i64 ed.a, .int .i64 ed.l, .int .i64 ed.b] 64)
        have T0 := U0'.mid haz oZr
        have T2 := U2'.mid haz oZr
        have T3 := U3'.mid haz oZr
        have hownT := hownU'.alloc (.cells #[.int .i64 ed.a, .int .i64 ed.l, .int .i64 ed.b] 64)
        have hmt := hmu'.trans haz
        have hS2 := T3.cell 2 rfl
        have hrs : Rs (w7.alloc (.cells #[.int .i64 ed.a, .int .i64 ed.l, .int .i64 ed.b] 64)) (w7.heap.size + 1) (some ⟨w7.heap.size, 0, none⟩) [.int .i64 ed.a, .int .i64 ed.l, .int .i64 ed.b] := fun _ => ⟨w7.heap.size, 0, rfl, Nat.lt_succ_self _, fun j u hu => (World.cell?_alloc_at _ _ _ _ rfl).trans (by simpa using hu)⟩
        have hone : ∀ u ∈ [Value.int .i64 ed.a, .int .i64 ed.l, .int .i64 ed.b], u.oneCell' = true := by
          intro u hu
          simp at hu
          rcases hu with rfl | rfl | rfl <;> rfl
        have hmxl : n2 + 1 ≤ maxLen := by unfold maxLen; omega
        have hbyt : (n2 + 1) * 24 ≤ 140737488355328 := by omega
        have hbas : w1.heap.size ≤ (w7.alloc (.cells #[.int .i64 ed.a, .int .i64 ed.l, .int .i64 ed.b] 64)).heap.size := by simp; omega
        have hGz : G < w7.heap.size := U3'.1
        have HO := Lib.hid hone
        have HB0 := Lib.hid (fun (g : Nat) (h : Value.ownBlock (.slice A2 n2 c2) = some g) => (hownT.lt g h).1)
        have HBk := Lib.hid hbk
        clear hone hbk U0' U2' U3' hownU' hmu' haz
        refine wpAnyT_ready (rs := [6]) (by kernel_rfl) (by simp) (AllReadyT.cons rfl (fun K hK => ?_) AllReadyT.nil)
        go_simp
        refine hK.out _ _ (Or.inr hS2) (fun _ => ?_)
        clear hK K
        try simp only [Act.put, List.setIfInBounds_toArray, List.set_cons_zero, List.set_cons_succ, List.getElem_toArray, List.getElem_cons_zero, List.getElem_cons_succ]
        generalize hwt : w7.alloc (.cells #[.int .i64 ed.a, .int .i64 ed.l, .int .i64 ed.b] 64) = wt at T0 T2 T3 hownT hmt hS2 hrs hbas ⊢
        have hszt : wt.heap.size = w7.heap.size + 1 := by rw [← hwt]; simp
        have HZT := Lib.hid hszt
        clear hwt hszt
        refine wpAnyT_ready (rs := [7]) (by kernel_rfl) (by simp) (AllReadyT.cons rfl (fun K hK => ?_) AllReadyT.nil)
        (refine step_cat (by rfl) (.tmp 84) (.tmp 89) 30 (by rfl) w1.heap.size 64 (.agg #[.int .i64 0, .int .i64 0, .int .i64 0]) 3 24 undSE infoE rfl (by decide) (.slice A2 n2 c2) n2 _ (by rfl) hownT (some ⟨w7.heap.size, 0, none⟩) 1 1 _ [.int .i64 ed.a, .int .i64 ed.l, .int .i64 ed.b] (by rfl) hrs rfl HO.out hmxl hbyt hbas ?_; intro v2 w8 ho8 hgr8 hat8; obtain ⟨A3, c3, rfl, -, -⟩ := owns_shape ho8)
        refine hK.out _ _ (Or.inr ((T3.grown hgr8 HBk.out).cell 2 rfl)) (fun _ => ?_)
        clear hK K
        try simp only [Act.put, List.setIfInBounds_toArray, List.set_cons_zero, List.set_cons_succ, List.getElem_toArray, List.getElem_cons_zero, List.getElem_cons_succ]
        have R3 := T3.grown hgr8 HBk.out
        have R0 := T0.grown hgr8 (fun h => by have := HB0.out _ h; have := HS.out; omega)
        have R2 := T2.grown hgr8 (fun h => by have := HB0.out _ h; have := HS.out; omega)
        have hmr8 : Mid 0 0 w w8 := hmt.transNew (Mid.of_grownRow hownT hgr8) (Or.inl (by have := HS.out; omega))
        have hS3 := R3.cell 2 rfl
        have hne : Value.ownBlock (.slice A3 (n2 + 1) c3) ≠ some G := by
          rcases hat8 with h | h
          · rw [h]; exact HBk.out
          · rw [h]
            intro he
            injection he with he
            have := HZT.out
            omega
        have HNE2 := Lib.hid hne
        have hrf := R3.2.2
        clear hne hat8 hS2 hrs T0 T2 T3 hmt
        refine wpAnyT_take (i := 8) (v := ?_) rfl (by kernel_rfl) (by kernel_rfl) (by kernel_rfl) (by kernel_rfl) (fun _ _ _ h => h) (Or.inl ⟨by rfl, ?_⟩) hS3 ?_
        rotate_left
        focus (intro w hSw; (try dsimp only at hSw); go_simp; try with_reducible rfl)
        try simp only [Act.put, List.setIfInBounds_toArray, List.set_cons_zero, List.set_cons_succ, List.getElem_toArray, List.getElem_cons_zero, List.getElem_cons_succ]
        refine wpAnyT_ready (rs := [9]) (by kernel_rfl) (by simp) (AllReadyT.cons rfl (fun K hK => ?_) AllReadyT.nil)
        (go_simp)
        refine hK.out _ _ (Or.inl rfl) (fun _ => ?_)
        clear hK K
        try simp only [Act.put, List.setIfInBounds_toArray, List.set_cons_zero, List.set_cons_succ, List.getElem_toArray, List.getElem_cons_zero, List.getElem_cons_succ]
        refine wpAnyT_done (by kernel_rfl) ?_ _
        go_wp2_with fail
        go_roundw
        case rel =>
          have hst := Mid.setCell w8 (lo := G) (hi := G + 1) (p := ⟨G, 2, none⟩) (.slice A3 (n2 + 1) c3) (Nat.le_refl _) (Nat.lt_succ_self _)
          refine ⟨k + 1, A3, n2 + 1, c3, sz', by omega, by go_num, by rw [hto], hnsz, Lib.hid (by rw [HN.out]; omega), ?_, HNE2.out, R0.mid hst (Or.inl (by omega)), R2.mid hst (Or.inl (by omega)), R3.set 2 _ (by simp) rfl, hmr8.storeNew (by show w.heap.size ≤ G; omega) _⟩
          have h1 := owns_other ho8 (k := G) (grown_setCell (World.grownBy.refl _ (some G)) 2 (.slice A3 (n2 + 1) c3)) HNE2.out
          rw [HPE.out, ← List.append_assoc, edI_append, ints_append, edI_one]
          exact h1
        case measure => simp [intOf]; omega
    · obtain rfl : k = wd.length := by omega
      have hszf : sz = s + (wd.length : Int) - 1 := by rw [hszv, Nat.min_eq_right (by omega)]; omega
      subst hszf
      have hrg : RG wr w1.heap.size wr.heap.size A2 (es ++ pathE u s wd v wd.length) := OV.rv (e := 64) (size := 3) (c := c2) (n := n2) ⟨Nat.le_refl _, hown, fun g hg => (hown.lt g hg).2⟩
      have hnl : (es ++ pathE u s wd v wd.length).length = n2 := by rw [HN.out, List.length_append, pathE_len]
      have HNL := Lib.hid hnl
      have z2 := Z3.cell 2 rfl
      clear hnl hszv
      go_wp2_with fail
      with_reducible refine (impl_sortedN A2 (es ++ pathE u s wd v wd.length) n2 c2 _ _ _ HNL.out hrg (by omega)).mono ?_
      rintro en w6 ⟨A4, c4, rfl, ho6, hm6⟩
      have Q2 := Z2.mid hm6 oZr
      have Q3 := Z3.mid hm6 oZr
      have hG6 : G < wr.heap.size := Z3.1
      have hsz6 := hm6.size
      clear z2
      have a0 := Q2.cell 0 rfl
      have a1 := Q2.cell 1 rfl
      have a2 := Q2.cell 2 rfl
      have b0 := Q3.cell 0 rfl
      have b1 := Q3.cell 1 rfl
      have b2 := Q3.cell 2 rfl
      have af := Q2.2.2
      have bf := Q3.2.2
      go_wp2_with fail
      have hcl : (w.heap.size + 1 == G) = false := by simp; omega
      refine bodyPost_ret (v := .tuple #[.agg #[.int .i64 r, .int .i64 (s + (wd.length : Int) - 1), .slice A4 (canon (es ++ pathE u s wd v wd.length)).length c4], .bool true]) (by simp [results, Tryz.results87, go_sem, a0, a1, a2, b0, b1, b2, af, bf]) rfl ⟨A4, c4, ?_, ?_, ?_⟩
      · rw [HRS.out, HRE.out]
      · rw [HRE.out]
        refine OG.wide (OG.mid ho6 (a := w.heap.size) (b := G + 1) ?_ (Or.inl hG6)) (by have := hmr.size; omega) (by simp) (Nat.le_refl _)
        repeat (first | exact Mid.refl _ _ _ | refine Mid.stored ?_ _ (by simp; try omega) (by simp; try omega))
      · have h := hmr.trans hm6
        repeat (first | exact h | refine Mid.storeNew ?_ (by simp; try omega) _)
end Go.Proofs.YtkaofcakelpnpaaGreat

namespace Go.Proofs.YtkaofcakelpnpaaGreat
set_option linter.unusedVariables false
set_option linter.unusedSimpArgs false
theorem srt_ext {xs ys : List Int} (hx : xs.Pairwise (· < ·)) (hy : ys.Pairwise (· < ·)) (h : ∀ u, u ∈ xs ↔ u ∈ ys) : xs = ys := by
  have n1 : xs.Nodup := hx.imp fun h => by omega
  have n2 : ys.Nodup := hy.imp fun h => by omega
  exact List.Perm.eq_of_pairwise (le := fun x y : Int => x < y) (fun a b _ _ h1 h2 => by omega) hx hy ((List.perm_ext_iff_of_nodup n1 n2).2 h)
theorem putI_mem {x : Int} {l : List Int} (h : l.Pairwise (· < ·)) (hx : x ∈ l) : putI x l = l :=
  srt_ext (putI_sorted h) h fun u => by
    rw [mem_putI]
    constructor
    · rintro (rfl | h)
      · exact hx
      · exact h
    · exact .inr
theorem putI_new {x : Int} {l : List Int} (h : l.Pairwise (· < ·)) (hx : x ∉ l) : (putI x l).length = l.length + 1 := by
  have n1 : (putI x l).Nodup := (putI_sorted h).imp fun h => by omega
  have n2 : (x :: l).Nodup := List.nodup_cons.2 ⟨hx, h.imp fun h => by omega⟩
  have := ((List.perm_ext_iff_of_nodup n1 n2).2 fun u => by rw [mem_putI, List.mem_cons]).length_eq
  simpa using this
structure RAt (s : Int) (es : List Ed) (v : Int) (zs : List Int) : Prop where
  here : v ∈ zs
  rng : ∀ u ∈ zs, 0 ≤ u ∧ u < s
  srt : zs.Pairwise (· < ·)
  conn : ∀ u ∈ zs, Conn es v u
  cnt : zs.length ≤ 1 + (es.filter fun e => decide (e.a ∈ zs ∧ e.b ∈ zs)).length
theorem RAt.start {s : Int} (es : List Ed) {v : Int} (h0 : 0 ≤ v) (h1 : v < s) : RAt s es v [v] := by
  refine ⟨by simp, ?_, by simp, ?_, by simp⟩
  · intro u hu; simp at hu; subst hu; exact ⟨h0, h1⟩
  · intro u hu; simp at hu; subst hu; exact .here
theorem filter_len_mono {p q : Ed → Bool} (h : ∀ e, p e = true → q e = true) : ∀ l : List Ed, (l.filter p).length ≤ (l.filter q).length
  | [] => Nat.le_refl _
  | e :: t => by
    have := filter_len_mono h t
    cases hp : p e with
    | true => rw [List.filter_cons_of_pos hp, List.filter_cons_of_pos (h e hp)]; simpa using this
    | false =>
      rw [List.filter_cons_of_neg (by simp [hp])]
      cases hq : q e with
      | true => rw [List.filter_cons_of_pos hq]; simp; omega
      | false => rw [List.filter_cons_of_neg (by simp [hq])]; exact this
theorem filter_len_lt {p q : Ed → Bool} (h : ∀ e, p e = true → q e = true) {f : Ed} (hp : p f = false) (hq : q f = true) : ∀ {l : List Ed}, f ∈ l → (l.filter p).length < (l.filter q).length
  | e :: t, hm => by
    rcases List.mem_cons.1 hm with rfl | hm
    · rw [List.filter_cons_of_neg (by simp [hp]), List.filter_cons_of_pos hq]
      have := filter_len_mono h t
      simp
      omega
    · have := filter_len_lt h hp hq hm
      cases hp' : p e with
      | true => rw [List.filter_cons_of_pos hp', List.filter_cons_of_pos (h e hp')]; simpa using this
      | false =>
        rw [List.filter_cons_of_neg (by simp [hp'])]
        cases hq' : q e with
        | true => rw [List.filter_cons_of_pos hq']; simp; omega
        | false => rw [List.filter_cons_of_neg (by simp [hq'])]; exact this
theorem RAt.push {s : Int} {es : List Ed} {v u : Int} {zs : List Int} (h : RAt s es v zs) {e : Ed} (he : e ∈ es) (hr : 0 ≤ u ∧ u < s) (hc : Conn es v u) (hu : u ∉ zs) (hue : u = e.a ∨ u = e.b) (h2 : e.a = u ∨ e.a ∈ zs) (h3 : e.b = u ∨ e.b ∈ zs) : RAt s es v (putI u zs) := by
  refine ⟨mem_putI.2 (.inr h.here), ?_, putI_sorted h.srt, ?_, ?_⟩
  · intro x hx
    rcases mem_putI.1 hx with rfl | hx
    · exact hr
    · exact h.rng x hx
  · intro x hx
    rcases mem_putI.1 hx with rfl | hx
    · exact hc
    · exact h.conn x hx
  · have h4 := h.cnt
    have h5 := putI_new h.srt hu
    have h6 := filter_len_lt (p := fun e => decide (e.a ∈ zs ∧ e.b ∈ zs)) (q := fun e => decide (e.a ∈ putI u zs ∧ e.b ∈ putI u zs)) (f := e) (l := es) (by
      intro f hf
      simp only [decide_eq_true_eq, mem_putI] at hf ⊢
      exact ⟨.inr hf.1, .inr hf.2⟩) (by
      simp only [decide_eq_false_iff_not]
      rintro ⟨h6, h7⟩
      rcases hue with rfl | rfl
      · exact hu h6
      · exact hu h7) (by
      simp only [decide_eq_true_eq, mem_putI]
      exact ⟨h2, h3⟩) he
    omega
def reachE (e : Ed) (zs : List Int) : List Int := if e.b ∈ (if e.a ∈ zs then putI e.b zs else zs) then putI e.a (if e.a ∈ zs then putI e.b zs else zs) else (if e.a ∈ zs then putI e.b zs else zs)
theorem RAt.edge {r s : Int} {es : List Ed} {v : Int} {zs : List Int} (h : RAt s es v zs) {e : Ed} (he : e ∈ es) (hi : InG r s e) :
    RAt s es v (reachE e zs) ∧ ((reachE e zs = zs ∧ (e.a ∈ zs ↔ e.b ∈ zs)) ∨ (zs.length < (reachE e zs).length ∧ ¬ (e.a ∈ zs ↔ e.b ∈ zs))) := by
  unfold InG at hi
  unfold reachE
  by_cases ha : e.a ∈ zs
  · rw [if_pos ha, if_pos (mem_putI.2 (.inl rfl))]
    rw [putI_mem (putI_sorted h.srt) (mem_putI.2 (.inr ha))]
    by_cases hb : e.b ∈ zs
    · rw [putI_mem h.srt hb]
      exact ⟨h, .inl ⟨rfl, ⟨fun _ => hb, fun _ => ha⟩⟩⟩
    · refine ⟨h.push he (by omega) (.out he (h.conn _ ha)) hb (.inr rfl) (.inr ha) (.inl rfl), .inr ⟨?_, fun hh => hb (hh.1 ha)⟩⟩
      rw [putI_new h.srt hb]
      omega
  · rw [if_neg ha]
    by_cases hb : e.b ∈ zs
    · rw [if_pos hb]
      refine ⟨h.push he (by omega) (.inn he (h.conn _ hb)) ha (.inl rfl) (.inl rfl) (.inr hb), .inr ⟨?_, fun hh => ha (hh.2 hb)⟩⟩
      rw [putI_new h.srt ha]
      omega
    · rw [if_neg hb]
      exact ⟨h, .inl ⟨rfl, ⟨fun h => absurd h ha, fun h => absurd h hb⟩⟩⟩
structure RIn (s : Int) (es : List Ed) (v : Int) (k i : Nat) (zs : List Int) : Prop where
  at' : RAt s es v zs
  or' : Shut' es es.length zs ∨ (k + 1 < zs.length) ∨ (k + 1 ≤ zs.length ∧ Shut' es i zs)
structure ROut (s : Int) (es : List Ed) (v : Int) (k : Nat) (zs : List Int) : Prop where
  at' : RAt s es v zs
  or' : Shut' es es.length zs ∨ k + 1 ≤ zs.length
theorem ROut.start {s : Int} (es : List Ed) {v : Int} (h0 : 0 ≤ v) (h1 : v < s) : ROut s es v 0 [v] := ⟨RAt.start es h0 h1, .inr (by simp)⟩
theorem ROut.into {s : Int} {es : List Ed} {v : Int} {k : Nat} {zs : List Int} (h : ROut s es v k zs) : RIn s es v k 0 zs := ⟨h.at', h.or'.imp id fun h => .inr ⟨h, Shut'.zero es zs⟩⟩
theorem RIn.out {s : Int} {es : List Ed} {v : Int} {k : Nat} {zs : List Int} (h : RIn s es v k es.length zs) : ROut s es v (k + 1) zs := ⟨h.at', by
  rcases h.or' with h1 | h1 | ⟨h1, h2⟩
  · exact .inl h1
  · exact .inr (by omega)
  · exact .inl h2⟩
theorem RIn.step {r s : Int} {es : List Ed} {v : Int} {k i : Nat} {zs : List Int} (h : RIn s es v k i zs) {e : Ed} (he : es[i]? = some e) (hi : InG r s e) : RIn s es v k (i + 1) (reachE e zs) := by
  obtain ⟨h1, h2⟩ := h.at'.edge (List.mem_of_getElem? he) hi
  have hil := (List.getElem?_eq_some_iff.1 he).1
  refine ⟨h1, ?_⟩
  rcases h2 with ⟨h2, h3⟩ | ⟨h2, h3⟩
  · rw [h2]
    rcases h.or' with h4 | h4 | ⟨h4, h5⟩
    · exact .inl h4
    · exact .inr (.inl h4)
    · exact .inr (.inr ⟨h4, h5.succ he h3⟩)
  · right
    left
    rcases h.or' with h4 | h4 | ⟨h4, h5⟩
    · exact absurd (h4 i e hil he) h3
    · omega
    · omega
theorem ROut.done {s : Int} {es : List Ed} {v : Int} {zs : List Int} (h : ROut s es v (es.length + 1) zs) (u : Int) : u ∈ zs ↔ Conn es v u := by
  have hc : Shut' es es.length zs := by
    rcases h.or' with h1 | h1
    · exact h1
    · have h2 := h.at'.cnt
      have h3 := List.length_filter_le (fun e => decide (e.a ∈ zs ∧ e.b ∈ zs)) es
      omega
  refine conn_iff (P := fun u => u ∈ zs) h.at'.here (fun e he => ?_) h.at'.conn u
  obtain ⟨j, hj, rfl⟩ := List.mem_iff_getElem.1 he
  exact hc j _ hj (List.getElem?_eq_getElem hj)
theorem RAt.le {s : Int} {es : List Ed} {v : Int} {zs : List Int} (h : RAt s es v zs) : zs.length ≤ s.toNat := by
  refine nodup_le s.toNat zs (h.srt.imp fun h => by omega) fun u hu => ?_
  have := h.rng u hu
  omega
end Go.Proofs.YtkaofcakelpnpaaGreat

namespace Go.Proofs.YtkaofcakelpnpaaGreat
set_option linter.unusedVariables false
set_option linter.unusedSimpArgs false
open Go.RowKit
set_option maxHeartbeats 1600000 in
theorem spec_l4Has (A : Option Addr) (l : List Int) (c : Nat) (x : Int) (w : World) (lo hi : Nat) (hr : RV w lo hi A (ints l)) (hl : l.length ≤ 1000000) (b : Bool) (hb : b = true ↔ x ∈ l) :
    Calls Tryz.prog 92 #[.slice A l.length c, .int .i64 x] w fun en w' => en = .returned (.bool b) ∧ w = w' := by
  have HB := Lib.hid hb
  clear hb
  go_enter Tryz.func92, Tryz.ntmps92
  go_wp2_with fail
  go_loop [5] (fun i => ∃ k : Nat, k ≤ l.length ∧ i = .int .i64 k ∧ x ∉ l.take k) (fun i => l.length - (intOf i).toNat)
  case atStart => exact ⟨0, Nat.zero_le _, rfl, by simp⟩
  case round =>
    obtain ⟨k, hk, rfl, hn⟩ := hrel
    have HN := Lib.hid hn
    clear hn
    by_cases hlt : k < l.length
    · obtain ⟨B, off, f, rfl, hbh, he, c0⟩ := hr.at hlt
      have hkn : (k : Int) < (l.length : Int) := by omega
      have HE := Lib.hid he
      clear he
      by_cases hx : f = x
      · have b1 : (f == x) = true := by simpa using hx
        have hbt : b = true := HB.out.2 (by rw [← hx]; exact List.mem_of_getElem? HE.out)
        subst hbt
        clear hx
        go_wp2_with fail
        go_ret
        exact ⟨rfl, rfl⟩
      · have b1 : (f == x) = false := by simpa only [beq_eq_false_iff_ne] using hx
        have HX := Lib.hid hx
        clear hx
        go_wp2_with fail
        go_round
        case rel =>
          refine ⟨k + 1, by omega, by go_num, ?_⟩
          rw [take_snocI HE.out, List.mem_append, List.mem_singleton]
          rintro (h | h)
          · exact HN.out h
          · exact HX.out h.symm
        case measure => simp [intOf]; omega
    · obtain rfl : k = l.length := by omega
      have hbt : b = false := bool_no HB.out (by have := HN.out; rwa [List.take_length] at this)
      subst hbt
      go_wp2_with fail
      go_ret
      exact ⟨rfl, rfl⟩
noncomputable def leafI (s : Int) (es : List Ed) : Int := match leaf s es with | some v => (v : Int) | none => -1
theorem leafI_some {s : Int} {es : List Ed} {v : Nat} (h : leaf s es = some v) : leafI s es = v := by rw [leafI, h]
theorem leafI_none {s : Int} {es : List Ed} (h : leaf s es = none) : leafI s es = -1 := by rw [leafI, h]
theorem reachE_t {e : Ed} {zs : List Int} (h : e.a ∈ zs) : reachE e zs = putI e.a (putI e.b zs) := by
  unfold reachE
  rw [if_pos h, if_pos (mem_putI.2 (.inl rfl))]
theorem reachE_ft {e : Ed} {zs : List Int} (h : e.a ∉ zs) (h2 : e.b ∈ zs) : reachE e zs = putI e.a zs := by
  unfold reachE
  rw [if_neg h, if_pos h2]
theorem reachE_ff {e : Ed} {zs : List Int} (h : e.a ∉ zs) (h2 : e.b ∉ zs) : reachE e zs = zs := by
  unfold reachE
  rw [if_neg h, if_neg h2]
set_option maxHeartbeats 4000000 in
set_option maxRecDepth 20000 in
theorem spec_ReachedFrom (r : Int) (n m : Nat) (A : Option Addr) (es : List Ed) (c : Nat) (w : World) (lo hi : Nat) (hr : RG w lo hi A es) (hg : IsGr r n es) (hv : m < n) :
    Calls Tryz.prog 90 #[graV r n A es.length c, .int .i64 m] w fun e w' => ∃ A1 c1 zs, e = .returned (.slice A1 zs.length c1) ∧ RV w' 0 w'.heap.size A1 (ints zs) ∧ zs.length ≤ 40 ∧ (∀ u, u ∈ zs ↔ Conn es m u) ∧ Mid 0 0 w w' := by
  have hn40 : n ≤ 40 := by have := hg.size; omega
  have hl := hg.len
  have hm0 : Mid 0 0 w (w.alloc (.cells #[.int .i64 r, .int .i64 n, .slice A es.length c] 32)) := Mid.alloc _ _
  have B0 := Box.new w #[.int .i64 r, .int .i64 n, .slice A es.length c] 32
  have HG := Lib.hid hg
  have hv3 : (m : Int) < (n : Int) := by omega
  have hv0 : (0 : Int) ≤ (m : Int) := by omega
  have HJ0 := Lib.hid (ROut.start (s := n) es hv0 hv3)
  clear hg
  go_enter Tryz.func90, Tryz.ntmps90
  go_wp2_with fail
  with_reducible refine (spec_IsGraph r n A es c _ _ _ (hr.mid hm0 oZl).rv (by omega) true (iff_of_true rfl HG.out)).mono ?_
  rintro en w1 ⟨rfl, hm1⟩
  replace B0 := B0.mid hm1 oZr
  replace hm0 := hm0.trans hm1
  have p0 := B0.cell 0 rfl
  have p1 := B0.cell 1 rfl
  have p2 := B0.cell 2 rfl
  have hib : inB (m : Int) 0 ((n : Int) - 1) = true := by unfold inB; simp; omega
  go_wp2_with fail
  with_reducible refine (l1In_at hib _).mono ?_
  rintro en w2 ⟨rfl, rfl⟩
  go_wp2_with fail
  have hal := Mid.alloc w1 (.cells #[.int .i64 m] 3)
  have hrv0 : RV (w1.alloc (.cells #[.int .i64 m] 3)) 0 (w1.alloc (.cells #[.int .i64 m] 3)).heap.size (some ⟨w1.heap.size, 0, none⟩) (ints [(m : Int)]) := ⟨Nat.le_refl _, fun _ => ⟨_, 0, rfl, Nat.zero_le _, by simp, fun j u hu => (World.cell?_alloc_at _ _ _ _ rfl).trans (by simpa [ints] using hu)⟩⟩
  replace B0 := B0.mid hal oZr
  replace hm0 := hm0.trans hal
  clear p0 p1 p2
  go_loopw [5, 6] (fun out i wr => ∃ (k : Nat) (A1 : Option Addr) (c1 : Nat) (zs : List Int), k ≤ es.length + 1 ∧ i = .int .i64 k ∧ out = .slice A1 zs.length c1 ∧ ROut n es m k zs ∧ RV wr 0 wr.heap.size A1 (ints zs) ∧
      Box wr w.heap.size [.int .i64 r, .int .i64 n, .slice A es.length c] ∧ Mid 0 0 w wr) (fun _ i _ => es.length + 1 - (intOf i).toNat)
  case atStart => exact ⟨0, _, 1, [(m : Int)], Nat.zero_le _, rfl, rfl, HJ0.out, hrv0, B0, hm0⟩
  case round =>
    clear hrv0 B0 hm0 hal hm1
    obtain ⟨wo, hwo⟩ : ∃ wo, wo = wr := ⟨_, rfl⟩
    subst hwo
    obtain ⟨k, A0, c0, zs0, hk, rfl, rfl, hj, hrv, bx, hm⟩ := hrel
    have p0 := bx.cell 0 rfl
    have p1 := bx.cell 1 rfl
    have p2 := bx.cell 2 rfl
    have hzl := hj.at'.le
    have HJ := Lib.hid hj
    clear hj
    by_cases hlt : k < es.length + 1
    · have hkn : (k : Int) < (es.length : Int) + 1 := by omega
      go_wp2_with fail
      go_loopw [5, 7] (fun out i wr => ∃ (j : Nat) (A1 : Option Addr) (c1 : Nat) (zs : List Int), j ≤ es.length ∧ i = .int .i64 j ∧ out = .slice A1 zs.length c1 ∧ RIn n es m k j zs ∧ RV wr 0 wr.heap.size A1 (ints zs) ∧
        Box wr w.heap.size [.int .i64 r, .int .i64 n, .slice A es.length c] ∧ Mid 0 0 w wr) (fun _ i _ => es.length - (intOf i).toNat)
      case atStart => exact ⟨0, _, _, zs0, Nat.zero_le _, rfl, rfl, HJ.out.into, hrv, bx, hm⟩
      case round =>
        clear hrv bx hm p0 p1 p2
        obtain ⟨j, A1, c1, zs, hj, rfl, rfl, hin, hrv, bx, hm⟩ := hrel
        have p0 := bx.cell 0 rfl
        have p1 := bx.cell 1 rfl
        have p2 := bx.cell 2 rfl
        have hzl := hin.at'.le
        have HI := Lib.hid hin
        clear hin
        by_cases hlt2 : j < es.length
        · obtain ⟨B, off, e, rfl, -, hbh, he, e0, e1, e2⟩ := (hr.mid hm oZl).ed hlt2
          have HE := Lib.hid he
          have HS := Lib.hid (HI.out.step he (HG.out.all e (List.mem_of_getElem? he)))
          have hkn2 : (j : Int) < (es.length : Int) := by omega
          have hal := Mid.alloc wr (.cells #[.int .i64 e.a, .int .i64 e.l, .int .i64 e.b] 64)
          have E1 := Box.new wr #[.int .i64 e.a, .int .i64 e.l, .int .i64 e.b] 64
          replace bx := bx.mid hal oZr
          replace hrv := hrv.mid hal oZl
          replace hm := hm.trans hal
          replace hrv := hrv.wide (Nat.le_refl _) hal.size (Nat.le_refl _)
          have g0 := E1.cell 0 rfl
          have g1 := E1.cell 1 rfl
          have g2 := E1.cell 2 rfl
          obtain ⟨b1, hb1⟩ := bool_of (e.a ∈ zs)
          have HB1 := Lib.hid hb1
          clear hb1 he
          have q0 := bx.cell 0 rfl
          have q1 := bx.cell 1 rfl
          have q2 := bx.cell 2 rfl
          go_wp2_with fail
          with_reducible refine (spec_l4Has A1 zs c1 e.a _ _ _ hrv (by omega) b1 HB1.out).mono ?_
          rintro en w2 ⟨rfl, rfl⟩
          cases b1 with
          | true =>
            go_wp2_with fail
            with_reducible refine (spec_l4Add A1 zs c1 e.b _ _ _ hrv (by omega)).mono ?_
            rintro en w3 ⟨A3, c3, rfl, hrv3, hm3⟩
            replace bx := bx.mid hm3 oZr
            replace E1 := E1.mid hm3 oZr
            replace hm := hm.trans hm3
            clear p0 p1 p2 q0 q1 q2 g0 g1 g2
            have p0 := bx.cell 0 rfl
            have p1 := bx.cell 1 rfl
            have p2 := bx.cell 2 rfl
            have g0 := E1.cell 0 rfl
            have g1 := E1.cell 1 rfl
            have g2 := E1.cell 2 rfl
            have hz3 : (putI e.b zs).length ≤ 41 := by have := putI_len e.b zs; omega
            go_wp2_with fail
            with_reducible refine (spec_l4Has A3 (putI e.b zs) c3 e.b _ _ _ hrv3 (by omega) true (iff_of_true rfl (mem_putI.2 (.inl rfl)))).mono ?_
            rintro en w2 ⟨rfl, rfl⟩
            go_wp2_with fail
            with_reducible refine (spec_l4Add A3 (putI e.b zs) c3 e.a _ _ _ hrv3 (by omega)).mono ?_
            rintro en w4 ⟨A4, c4, rfl, hrv4, hm4⟩
            replace bx := bx.mid hm4 oZr
            replace hm := hm.trans hm4
            go_wp2_with fail
            go_roundw
            case rel => exact ⟨j + 1, A4, c4, _, by omega, by go_num, rfl, by rw [← reachE_t (HB1.out.1 (by trivial))]; exact HS.out, hrv4, bx, hm⟩
            case measure => simp [intOf]; omega
          | false =>
            have hna : e.a ∉ zs := fun h => by have := HB1.out.2 h; cases this
            have HNA := Lib.hid hna
            obtain ⟨b2, hb2⟩ := bool_of (e.b ∈ zs)
            have HB2 := Lib.hid hb2
            clear hb2 hna
            go_wp2_with fail
            with_reducible refine (spec_l4Has A1 zs c1 e.b _ _ _ hrv (by omega) b2 HB2.out).mono ?_
            rintro en w2 ⟨rfl, rfl⟩
            cases b2 with
            | true =>
              go_wp2_with fail
              with_reducible refine (spec_l4Add A1 zs c1 e.a _ _ _ hrv (by omega)).mono ?_
              rintro en w4 ⟨A4, c4, rfl, hrv4, hm4⟩
              replace bx := bx.mid hm4 oZr
              replace hm := hm.trans hm4
              go_wp2_with fail
              go_roundw
              case rel => exact ⟨j + 1, A4, c4, _, by omega, by go_num, rfl, by rw [← reachE_ft HNA.out (HB2.out.1 (by trivial))]; exact HS.out, hrv4, bx, hm⟩
              case measure => simp [intOf]; omega
            | false =>
              have hnb : e.b ∉ zs := fun h => by have := HB2.out.2 h; cases this
              have HNB := Lib.hid hnb
              clear hnb
              go_wp2_with fail
              go_roundw
              case rel => exact ⟨j + 1, A1, c1, zs, by omega, by go_num, rfl, by have h := HS.out; rw [reachE_ff HNA.out HNB.out] at h; exact h, hrv, bx, hm⟩
              case measure => simp [intOf]; omega
        · obtain rfl : j = es.length := by omega
          go_wp2_with fail
          go_roundw
          case rel => exact ⟨k + 1, A1, c1, zs, by omega, by go_num, rfl, HI.out.out, hrv, bx, hm⟩
          case measure => simp [intOf]; omega
    · obtain rfl : k = es.length + 1 := by omega
      go_wp2_with fail
      go_ret
      exact ⟨_, _, zs0, rfl, hrv, by omega, fun u => HJ.out.done u, hm⟩
theorem spec_ReachedFrom0 (r : Int) (n : Nat) (A : Option Addr) (es : List Ed) (c : Nat) (w : World) (lo hi : Nat) (hr : RG w lo hi A es) (hg : IsGr r n es) (hv : 0 < n) :
    Calls Tryz.prog 90 #[graV r n A es.length c, .int .i64 0] w fun e w' => ∃ A1 c1 zs, e = .returned (.slice A1 zs.length c1) ∧ RV w' 0 w'.heap.size A1 (ints zs) ∧ zs.length ≤ 40 ∧ (∀ u, u ∈ zs ↔ Conn es 0 u) ∧ Mid 0 0 w w' :=
  spec_ReachedFrom r n 0 A es c w lo hi hr hg hv
set_option maxHeartbeats 4000000 in
set_option maxRecDepth 20000 in
theorem spec_l8Leaf (r : Int) (n : Nat) (A : Option Addr) (es : List Ed) (c : Nat) (w : World) (lo hi : Nat) (hr : RG w lo hi A es) (hg : IsGr r n es) :
    Calls Tryz.prog 65 #[graV r n A es.length c] w fun e w' => e = .returned (.int .i64 (leafI n es)) ∧ Mid 0 0 w w' := by
  have hn40 : n ≤ 40 := by have := hg.size; omega
  have hn1 : 1 ≤ n := by have := hg.size; omega
  have hl := hg.len
  have hm0 : Mid 0 0 w (w.alloc (.cells #[.int .i64 r, .int .i64 n, .slice A es.length c] 32)) := Mid.alloc _ _
  have B0 := Box.new w #[.int .i64 r, .int .i64 n, .slice A es.length c] 32
  have HG := Lib.hid hg
  clear hg
  go_enter Tryz.func65, Tryz.ntmps65
  go_wp2_with fail
  with_reducible refine (spec_ReachedFrom0 r n A es c _ _ _ (hr.mid hm0 oZl) HG.out (by omega)).mono ?_
  rintro en w1 ⟨A1, c1, zs, rfl, hrv, hz, hmem, hm1⟩
  have HM := Lib.hid hmem
  replace B0 := B0.mid hm1 oZr
  replace hm0 := hm0.trans hm1
  clear hmem
  have p0 := B0.cell 0 rfl
  have p1 := B0.cell 1 rfl
  have p2 := B0.cell 2 rfl
  go_wp2_with fail
  clear p0 p1 p2
  go_loopw [4] (fun i wr => ∃ (k : Nat), 1 ≤ k ∧ k ≤ n ∧ i = .int .i64 k ∧ Hid (∀ u : Nat, 1 ≤ u → u < k → ¬ Bad es u) ∧ RV wr 0 wr.heap.size A1 (ints zs) ∧
      Box wr w.heap.size [.int .i64 r, .int .i64 n, .slice A es.length c] ∧ Mid 0 0 w wr) (fun i _ => n - (intOf i).toNat)
  case atStart => exact ⟨1, Nat.le_refl _, hn1, rfl, Lib.hid (fun u h1 h2 => absurd h2 (by omega)), hrv, B0, hm0⟩
  case round =>
    clear hrv B0 hm0 hm1
    obtain ⟨k, hk1, hk, rfl, HU, hrv, bx, hm⟩ := hrel
    have p0 := bx.cell 0 rfl
    have p1 := bx.cell 1 rfl
    have p2 := bx.cell 2 rfl
    by_cases hlt : k < n
    · have hkn : (k : Int) < (n : Int) := by omega
      go_wp2_with fail
      with_reducible refine (spec_DegreeOf r n A es c k _ _ _ (hr.mid hm oZl) (by omega)).mono ?_
      rintro en w2 ⟨rfl, hm2⟩
      replace bx := bx.mid hm2 oZr
      replace hrv := hrv.mid hm2 oZl
      replace hm := hm.trans hm2
      replace hrv := hrv.wide (Nat.le_refl _) hm2.size (Nat.le_refl _)
      have hdl := deg_le es k
      by_cases hd : deg es k < 2
      · have b1 : decide ((deg es k : Int) < 2) = true := by simp; omega
        have hlf := leaf_some (s := n) hk1 hkn (.inl hd) HU.out
        have HL := Lib.hid hlf
        clear hlf hd
        go_wp2_with fail
        go_ret
        exact ⟨by rw [leafI_some HL.out]; rfl, hm⟩
      · have b1 : decide ((deg es k : Int) < 2) = false := by simp; omega
        obtain ⟨b2, hb2⟩ := bool_of ((k : Int) ∈ zs)
        have HB2 := Lib.hid hb2
        have HD := Lib.hid hd
        clear hb2 hd
        go_wp2_with fail
        with_reducible refine (spec_l4Has A1 zs c1 k _ _ _ hrv (by omega) b2 HB2.out).mono ?_
        rintro en w3 ⟨rfl, rfl⟩
        cases b2 with
        | true =>
          have hnb : ¬ Bad es k := by
            rintro (h | h)
            · exact HD.out h
            · exact h ((HM.out _).1 (HB2.out.1 (by trivial)))
          have HNB := Lib.hid hnb
          clear hnb p0 p1 p2
          have p0 := bx.cell 0 rfl
          have p1 := bx.cell 1 rfl
          have p2 := bx.cell 2 rfl
          go_wp2_with fail
          go_roundw
          case rel =>
            refine ⟨k + 1, by omega, by omega, by go_num, Lib.hid fun u h1 h2 => ?_, hrv, bx, hm⟩
            by_cases h : u = k
            · subst h; exact HNB.out
            · exact HU.out u h1 (by omega)
          case measure => simp [intOf]; omega
        | false =>
          have hb : Bad es k := .inr fun h => by have := HB2.out.2 ((HM.out _).2 h); cases this
          have HL := Lib.hid (leaf_some (s := n) hk1 hkn hb HU.out)
          clear hb
          go_wp2_with fail
          go_ret
          exact ⟨by rw [leafI_some HL.out]; rfl, hm⟩
    · obtain rfl : k = n := by omega
      have HL := Lib.hid (leaf_none (s := (k : Int)) (es := es) fun u h1 h2 => HU.out u h1 (by omega))
      go_wp2_with fail
      go_ret
      exact ⟨by rw [leafI_none HL.out]; rfl, hm⟩
end Go.Proofs.YtkaofcakelpnpaaGreat

namespace Go.Proofs.YtkaofcakelpnpaaGreat
set_option linter.unusedVariables false
set_option linter.unusedSimpArgs false
open Go.RowKit
theorem spec_CanonicalOrder_no (r s : Int) (A : Option Addr) (es : List Ed) (c : Nat) (w : World) (lo hi : Nat) (hr : RG w lo hi A es) (hl : es.length ≤ 1048576) (hf : ¬ IsFol r s es) :
    Calls Tryz.prog 93 #[graV r s A es.length c] w fun e w' => ∃ A1 c1, e = .returned (.slice A1 0 c1) ∧ Mid 0 0 w w' := by
  have hm0 : Mid 0 0 w (w.alloc (.cells #[.int .i64 r, .int .i64 s, .slice A es.length c] 32)) := Mid.alloc _ _
  have HF := Lib.hid hf
  clear hf
  go_enter Tryz.func93, Tryz.ntmps93
  go_wp2_with fail
  with_reducible refine (spec_IsFolded r s A es c _ _ _ (hr.mid hm0 oZl) hl false (iff_of_false Bool.false_ne_true HF.out)).mono ?_
  rintro en w1 ⟨rfl, hm1⟩
  have hal := Mid.alloc w1 (.cells #[] 3)
  replace hm0 := hm0.trans hm1
  go_wp2_with fail
  go_ret
  exact ⟨_, _, rfl, hm0.trans hal⟩
set_option maxHeartbeats 6400000 in
set_option maxRecDepth 100000 in
theorem spec_CanonicalOrder (r n : Nat) (A : Option Addr) (es : List Ed) (c : Nat) (w : World) (lo hi : Nat) (hr : RG w lo hi A es) (hf : IsFol r n es) :
    Calls Tryz.prog 93 #[graV r n A es.length c] w fun e w' => ∃ A1 c1, e = .returned (.slice A1 (ordE r es 0).length c1) ∧ RV w' 0 w'.heap.size A1 (ints (ordE r es 0)) ∧ Mid 0 0 w w' := by
  have hg := hf.gr
  have hn40 : n ≤ 40 := by have := hg.size; omega
  have hn1' : 1 ≤ n := by have := hg.size; omega
  have hr3 : r ≤ 3 := by have := hg.rank; omega
  have hl := hg.len
  have hgl : ∀ e ∈ es, 1 ≤ e.l ∧ e.l ≤ 3 := fun e he => by have := hg.all e he; unfold InG at this; omega
  have hm0 : Mid 0 0 w (w.alloc (.cells #[.int .i64 r, .int .i64 n, .slice A es.length c] 32)) := Mid.alloc _ _
  have B0 := Box.new w #[.int .i64 r, .int .i64 n, .slice A es.length c] 32
  have HG := Lib.hid hg
  have HF := Lib.hid hf
  have HGL := Lib.hid hgl
  have hv0 : (0 : Int) ≤ 0 := Int.le_refl _
  have hv3 : (0 : Int) < (n : Int) := by omega
  clear hg hgl hf
  go_enter Tryz.func93, Tryz.ntmps93
  go_wp2_with fail
  with_reducible refine (spec_IsFolded r n A es c _ _ _ (hr.mid hm0 oZl) (by omega) true (iff_of_true rfl HF.out)).mono ?_
  rintro en w1 ⟨rfl, hm1⟩
  replace B0 := B0.mid hm1 oZr
  replace hm0 := hm0.trans hm1
  have p0 := B0.cell 0 rfl
  have p1 := B0.cell 1 rfl
  have p2 := B0.cell 2 rfl
  have hal := Mid.alloc w1 (.cells #[.int .i64 0] 3)
  have O0 : (w1.alloc (.cells #[.int .i64 0] 3)).ownsRow w1.heap.size 3 1 (.slice (some ⟨w1.heap.size, 0, none⟩) 1 1) 1 (ints [(0 : Int)]) := World.ownsRow_lit (size := 1) w1 #[.int .i64 0] 1 (Nat.le_refl _) (by simp [maxLen]) (by simp)
  have hsz1 : w.heap.size < w1.heap.size := by have := hm1.size; simp at this; omega
  replace B0 := B0.mid hal oZr
  replace hm0 := hm0.trans hal
  go_wp2_with fail
  with_reducible refine (spec_l5Letters r _ (by omega)).mono ?_
  rintro en w4 ⟨A4, c4, rfl, hL4, hm4⟩
  have hs14 : w1.heap.size + 1 ≤ w4.heap.size := by have := hm4.size; simpa using this
  rw [World.size_alloc] at hL4
  replace B0 := B0.mid hm4 oZr
  replace O0 := owns_mid O0 hm4 oZl
  replace hm0 := hm0.trans hm4
  clear p0 p1 p2 hal hm4 hm1
  have HLL := Lib.hid (lets_len r)
  obtain ⟨LL, hLL⟩ : ∃ LL, (lets r).length = LL := ⟨_, rfl⟩
  have hLL6 : LL ≤ 6 := by have := HLL.out; omega
  rw [hLL]
  have HLn := Lib.hid hLL
  clear hLL
  go_wp2_with fail
  go_loopw [3, 5] (fun ord iv wr => ∃ (i n1 : Nat) (A1 : Option Addr) (c1 : Nat), i ≤ n1 ∧ iv = .int .i64 i ∧ ord = .slice A1 n1 c1 ∧ Hid ((bfsSt es (lets r) 0 i).length = n1) ∧
      wr.ownsRow w1.heap.size 3 1 (.slice A1 n1 c1) n1 (ints ((bfsSt es (lets r) 0 i).map Prod.fst)) ∧ Hid (RV wr (w1.heap.size + 1) w4.heap.size A4 (ints (lets r))) ∧ Hid (∀ g, Value.ownBlock (.slice A1 n1 c1) = some g → g < w1.heap.size + 1 ∨ w4.heap.size ≤ g) ∧
      Box wr w.heap.size [.int .i64 r, .int .i64 n, .slice A es.length c] ∧ Mid 0 0 w wr) (fun _ i _ => (41 - intOf i).toNat)
  case atStart => exact ⟨0, 1, _, 1, Nat.zero_le _, rfl, rfl, Lib.hid rfl, O0, Lib.hid hL4, Lib.hid (fun g hg => by injection hg with hg; simp at hg; omega), B0, hm0⟩
  case round =>
    clear O0 hL4 B0 hm0
    obtain ⟨wo, hwo⟩ : ∃ wo, wo = wr := ⟨_, rfl⟩
    subst hwo
    obtain ⟨i, n1, A1, c1, hin, rfl, rfl, HN, hord, HL4, HD, bx, hm⟩ := hrel
    have hok := bfsSt_ok (L := lets r) HG.out.all hv0 hv3 i
    have hn1 : n1 ≤ 40 := by have h1 := hok.len (by omega); have h2 := HN.out; omega
    have HOK := Lib.hid hok
    clear hok
    by_cases hlt : i < n1
    · obtain ⟨p, hp⟩ := get_of_lt (bfsSt es (lets r) 0 i) (show i < (bfsSt es (lets r) 0 i).length by rw [HN.out]; exact hlt)
      obtain ⟨u, wd⟩ := p
      have HP := Lib.hid hp
      have hNX := Lib.hid (bfsSt_next hp)
      have hi0 : (0 : Int) ≤ (i : Int) := by omega
      clear hp
      go_wp2_with fail
      go_loopw [3, 6] (fun ord jv wr => ∃ (j n1 : Nat) (A1 : Option Addr) (c1 : Nat), j ≤ LL ∧ jv = .int .i64 j ∧ ord = .slice A1 n1 c1 ∧ Hid ((bfsRow es ((lets r).take j) (u, wd) (bfsSt es (lets r) 0 i)).length = n1) ∧
          wr.ownsRow w1.heap.size 3 1 (.slice A1 n1 c1) n1 (ints ((bfsRow es ((lets r).take j) (u, wd) (bfsSt es (lets r) 0 i)).map Prod.fst)) ∧
          Hid (RV wr (w1.heap.size + 1) w4.heap.size A4 (ints (lets r))) ∧ Hid (∀ g, Value.ownBlock (.slice A1 n1 c1) = some g → g < w1.heap.size + 1 ∨ w4.heap.size ≤ g) ∧ Box wr w.heap.size [.int .i64 r, .int .i64 n, .slice A es.length c] ∧ Mid 0 0 w wr) (fun _ j _ => LL - (intOf j).toNat)
      case atStart => exact ⟨0, n1, _, c1, Nat.zero_le _, rfl, rfl, by rw [List.take_zero]; exact HN, hord, HL4, HD, bx, hm⟩
      case round =>
        clear hord HL4 HD bx hm
        obtain ⟨j, n1, A1, c1, hj, rfl, rfl, HN, hord, HL4, HD, bx, hm⟩ := hrel
        obtain ⟨stj, hstj⟩ : ∃ st, bfsRow es ((lets r).take j) (u, wd) (bfsSt es (lets r) 0 i) = st := ⟨_, rfl⟩
        have hokj : BfsOk n (lets r) stj := by rw [← hstj]; exact BfsOk.row HG.out.all _ (fun x hx => List.mem_of_mem_take hx) HOK.out HP.out
        have hpj : stj[i]? = some (u, wd) := by rw [← hstj]; exact prefix_get (bfsRow_pre _ _ _ _) HP.out
        rw [hstj] at HN hord
        have hn1b : n1 ≤ 40 := by have h1 := hokj.len (by omega); have h2 := HN.out; omega
        by_cases hlt2 : j < LL
        · obtain ⟨B4, o4, x, rfl, hB4, hx, hcx⟩ := HL4.out.at (k := j) (by rw [HLn.out]; exact hlt2)
          have hxm := lets_le (List.mem_of_getElem? hx)
          have hnx := bfsRow_take (es := es) (p := (u, wd)) (st := bfsSt es (lets r) 0 i) hx
          rw [hstj] at hnx
          simp only at hnx
          have hj0 : (0 : Int) ≤ (j : Int) := by omega
          have hj1 : (j : Int) < (LL : Int) := by omega
          have hil : i < n1 := by have h1 := (List.getElem?_eq_some_iff.1 hpj).1; have h2 := HN.out; omega
          have hi1 : (i : Int) < (n1 : Int) := by omega
          obtain ⟨g1, rfl, hg1, hg1s⟩ := owns_addr hord (show 0 < n1 by omega)
          have hcu : wr.cell? ⟨g1, i, none⟩ = some (.int .i64 u) := (hord.cellAt i (by omega)).trans (by rw [ints_get, List.getElem?_map, hpj]; rfl)
          have hB4s : B4 < wr.heap.size := Nat.lt_of_lt_of_le hB4 HL4.out.1
          have hcs := nextV_cases HG.out.all u x
          have HOJ := Lib.hid hokj
          have k0 := wg_cell bx.1 (bx.cell 0 rfl)
          have k1 := wg_cell bx.1 (bx.cell 1 rfl)
          have k2 := wg_cell bx.1 (bx.cell 2 rfl)
          have k3 := wg_cell hg1s hcu
          have k4 := wg_cell hB4s hcx
          have hA := fun m os => spec_NextVertex r n A es c u x (wg wr m os) lo hi (hr.mid (hm.trans (Mid.ofWg wr m os)) oZl) (by omega) HGL.out (by omega) (by omega)
          clear hx hokj hpj hstj hcu hcx
          go_wp2_with fail
          refine wp_region_quiet_wg (by kernel_rfl) (by kernel_rfl) ?_
          repeat
            (with_reducible refine wpQuiet_step (fun K hK => ?_))
            go_simp
            first
              | ((with_reducible refine hK _ ?_); clear hK K)
              | (rw [if_neg (by decide)]; (with_reducible refine hK _ ?_); clear hK K)
              | (apply Exists.intro; refine ⟨fun _ => ?_, hK _ ?_⟩; ((go_at_call 96; exact Calls.wg_of (hA _ _))); clear hK K)
          with_reducible refine wpQuiet_nil ?_
          intro _ hw'
          obtain ⟨⟨nq, osq⟩, hw''⟩ := hw'
          subst hw''
          have hwg := Mid.ofWg wr nq osq
          generalize wg wr nq osq = w6 at hwg ⊢
          replace bx := bx.mid hwg oZr
          replace hord := owns_mid hord hwg oZl
          replace hm := hm.trans hwg
          replace HL4 := Lib.hid (HL4.out.mid hwg oZl)
          generalize htx : nextV es u x = t at hnx hcs ⊢
          clear k0 k1 k2 k3 k4 hA
          by_cases ht0 : t < 0
          · have b1 : decide (0 ≤ t) = false := by simp; omega
            have HNX := Lib.hid (hnx.trans (by rw [bfsStep, htx, if_pos (.inl ht0)] : bfsStep es u wd stj x = stj))
            clear hnx hcs ht0 htx
            go_wp2_with fail
            go_roundw
            case rel => exact ⟨j + 1, n1, _, c1, by omega, by go_num, rfl, by rw [HNX.out]; exact HN, by rw [HNX.out]; exact hord, HL4, HD, bx, hm⟩
            case measure => simp [intOf]; omega
          · have b1 : decide (0 ≤ t) = true := by simp; omega
            obtain ⟨b2, hb2⟩ := bool_of (t ∈ stj.map Prod.fst)
            have HB2 := Lib.hid hb2
            have hlm : (stj.map Prod.fst).length = n1 := by rw [List.length_map]; exact HN.out
            have hP := spec_l4Has (some ⟨g1, 0, none⟩) (stj.map Prod.fst) c1 t w6 _ _ (owns_rv hord) (by omega) b2 HB2.out
            rw [hlm] at hP
            have HLM := Lib.hid hlm
            clear hb2 hcs hlm
            go_wp2_with fail
            with_reducible refine hP.mono ?_
            rintro en w7 ⟨rfl, rfl⟩
            cases b2 with
            | true =>
              have HNX := Lib.hid (hnx.trans (by rw [bfsStep, htx, if_pos (.inr (HB2.out.1 (by trivial)))] : bfsStep es u wd stj x = stj))
              clear hnx htx ht0 hP
              go_wp2_with fail
              go_roundw
              case rel => exact ⟨j + 1, n1, _, c1, by omega, by go_num, rfl, by rw [HNX.out]; exact HN, by rw [HNX.out]; exact hord, HL4, HD, bx, hm⟩
              case measure => simp [intOf]; omega
            | false =>
              have hnm : t ∉ stj.map Prod.fst := fun h => by have := HB2.out.2 h; cases this
              have HNX := Lib.hid (hnx.trans (by rw [bfsStep, htx, if_neg (fun h => h.elim (fun h => by omega) hnm)] : bfsStep es u wd stj x = stj ++ [(t, wd ++ [x])]))
              have HO9 := Lib.hid hord
              have hsz9 : w1.heap.size ≤ w6.heap.size := by have := HL4.out.1; omega
              clear hnx htx ht0 hP hnm
              go_wp2_with (at_builtin; refine wpList_pushI2 rfl _ _ rfl w1.heap.size _ n1 c1 (stj.map Prod.fst) rfl HO9.out t rfl (by omega) hsz9 ?_; intro A10 c10 w10 hord10 hgr10 hat10)
              have hm10 := Mid.of_grownRow HO9.out hgr10
              have bx10 := bx.mid hm10 (Or.inl (by omega))
              have hL10 := HL4.out.grown hgr10 HD.out
              have hmm10 := hm.transNew hm10 (Or.inl (by omega))
              have hmap : (stj ++ [(t, wd ++ [x])]).map Prod.fst = stj.map Prod.fst ++ [t] := by simp
              have HMAP := Lib.hid hmap
              have hw46 : w4.heap.size ≤ w6.heap.size := HL4.out.1
              have HD10 : Hid (∀ g, Value.ownBlock (.slice A10 (n1 + 1) c10) = some g → g < w1.heap.size + 1 ∨ w4.heap.size ≤ g) := Lib.hid (by
                intro g hg
                rcases hat10 with h | h
                · exact HD.out g (h.symm.trans hg)
                · rw [h] at hg
                  injection hg with hg
                  omega)
              have HL10 := Lib.hid hL10
              clear hL10 hmap hat10 hgr10
              go_roundw
              case rel => exact ⟨j + 1, n1 + 1, A10, c10, by omega, by go_num, rfl, Lib.hid (by rw [HNX.out, List.length_append, HN.out]; rfl), by rw [HNX.out, HMAP.out]; exact hord10, HL10, HD10, bx10, hmm10⟩
              case measure => simp [intOf]; omega
        · obtain rfl : j = LL := by omega
          have htk : (lets r).take j = lets r := List.take_of_length_le (by rw [HLn.out]; exact Nat.le_refl _)
          rw [htk] at hstj
          have hnx := hNX.out
          rw [hstj] at hnx
          have HNX := Lib.hid hnx
          have hin1 : i + 1 ≤ n1 := by have h1 := (List.getElem?_eq_some_iff.1 hpj).1; have h2 := HN.out; omega
          clear hnx hstj hpj
          go_wp2_with fail
          go_roundw
          case rel => exact ⟨i + 1, n1, A1, c1, hin1, by go_num, rfl, by rw [HNX.out]; exact HN, by rw [HNX.out]; exact hord, HL4, HD, bx, hm⟩
          case measure => simp [intOf]; omega
    · obtain rfl : i = n1 := by omega
      have hbf := bfs_eq (L := lets r) HG.out.all hv0 hv3 (by omega) HN.out
      have hord' : ordE r es 0 = (bfsSt es (lets r) 0 i).map Prod.fst := by rw [ordE, Int.toNat_natCast, hbf]
      have hlen : (ordE r es 0).length = i := by rw [hord', List.length_map]; exact HN.out
      have HORD := Lib.hid hord'
      have HLEN := Lib.hid hlen
      clear hbf hord' hlen
      go_wp2_with fail
      go_ret
      exact ⟨A1, c1, by rw [HLEN.out]; rfl, by rw [HORD.out]; exact (owns_rv hord).wide (Nat.zero_le _) (Nat.le_refl _) (Nat.le_refl _), hm⟩
end Go.Proofs.YtkaofcakelpnpaaGreat

namespace Go.Proofs.YtkaofcakelpnpaaGreat
set_option linter.unusedVariables false
open Go.RowKit
end Go.Proofs.YtkaofcakelpnpaaGreat

namespace Go.Proofs.YtkaofcakelpnpaaGreat
set_option linter.unusedVariables false
set_option linter.unusedSimpArgs false
open Go.RowKit
def MarkerX (P : Prop) : Prop := P
theorem MarkerX.to {P : Prop} (h : MarkerX P) : P := h
end Go.Proofs.YtkaofcakelpnpaaGreat

namespace Go.Proofs.YtkaofcakelpnpaaGreat
set_option linter.unusedVariables false
set_option linter.unusedSimpArgs false
open Go.RowKit
def RSC (w : World) (lo hi : Nat) (A : Option Addr) (xss : List (List Int)) : Prop :=
  ∃ rows, rowsD rows = xss ∧ RV w lo hi A (rowsV rows) ∧ ∀ r ∈ rows, RV w lo hi r.A (ints r.xs) ∧ r.xs.length ≤ r.c
section
variable {w w' : World} {lo hi a b : Nat} {A : Option Addr} {xss : List (List Int)}
theorem RSC.rss (h : RSC w lo hi A xss) : RSS w lo hi A xss := by
  obtain ⟨rows, h1, h2, h3⟩ := h
  exact ⟨rows, h1, h2, fun r hr => (h3 r hr).1⟩
theorem RSC.size (h : RSC w lo hi A xss) : hi ≤ w.heap.size := h.rss.size
theorem RSC.mid (h : RSC w lo hi A xss) (m : Mid a b w w') (hd : b ≤ lo ∨ hi ≤ a) : RSC w' lo hi A xss := by
  obtain ⟨rows, h1, h2, h3⟩ := h
  exact ⟨rows, h1, h2.mid m hd, fun r hr => ⟨(h3 r hr).1.mid m hd, (h3 r hr).2⟩⟩
theorem owns_cap {e : TypeId} {base size n c : Nat} {xs : List Value} (h : w.ownsRow base e size (.slice A n c) n xs) : n ≤ c := by
  obtain ⟨_, _, e, h1, _⟩ := owns_shape h
  injection e with _ _ e
  omega
theorem RSC.row (h : RSC w lo hi A xss) {k : Nat} (hk : k < xss.length) :
    ∃ b off A' c' xs, A = some ⟨b, off, none⟩ ∧ lo ≤ b ∧ b < hi ∧ xss[k]? = some xs ∧ w.cell? ⟨b, off + k, none⟩ = some (.slice A' xs.length c') ∧ RV w lo hi A' (ints xs) ∧ xs.length ≤ c' := by
  obtain ⟨rows, rfl, h2, h3⟩ := h
  rw [rowsD_len] at hk
  obtain ⟨b, off, e, hb, hb2, hc⟩ := h2.2 (by intro h0; have := congrArg List.length h0; rw [rowsV_len] at this; simp at this; subst this; simp at hk)
  obtain ⟨r, hr⟩ := get_of_lt rows hk
  refine ⟨b, off, r.A, r.c, r.xs, e, hb, hb2, by simp [rowsD, hr], hc k _ (by simp [rowsV, hr, Row.v]), (h3 r (List.mem_of_getElem? hr)).1, (h3 r (List.mem_of_getElem? hr)).2⟩
end
end Go.Proofs.YtkaofcakelpnpaaGreat

namespace Go.Proofs.YtkaofcakelpnpaaGreat
set_option linter.unusedVariables false
set_option linter.unusedSimpArgs false
open Go.RowKit
def WordsAt (w : World) (H B : Nat) (vals : List Value) (st : BS) : Prop := ∀ p ∈ st, p.2 ≠ [] → ∃ b cw, vals[p.1.toNat]? = some (.slice (some ⟨b, 0, none⟩) p.2.length cw) ∧ b < H ∧ b ≠ B ∧ b < w.heap.size ∧ ∀ j u, (ints p.2)[j]? = some u → w.cell? ⟨b, j, none⟩ = some u
theorem WordsAt.mid {w w' : World} {H B : Nat} {vals : List Value} {st : BS} (h : WordsAt w H B vals st) (m : Mid 0 0 w w') : WordsAt w' H B vals st := fun p hp hn => by
  obtain ⟨b, cw, h1, h2, h3, h4, h5⟩ := h p hp hn
  exact ⟨b, cw, h1, h2, h3, Nat.lt_of_lt_of_le h4 m.size, fun j u hu => cell_keep m h4 oZr (h5 j u hu)⟩
theorem WordsAt.grown {w w' : World} {H B : Nat} {vals : List Value} {st : BS} {row : Option Nat} (h : WordsAt w H B vals st) (hg : w.grownBy w' row) (hd : ∀ g, row = some g → g = B ∨ H ≤ g) : WordsAt w' H B vals st := fun p hp hn => by
  obtain ⟨b, cw, h1, h2, h3, h4, h5⟩ := h p hp hn
  refine ⟨b, cw, h1, h2, h3, Nat.lt_of_lt_of_le h4 hg.size, fun j u hu => (World.cell?_of_block (hg.block b h4 (fun e => ?_))).trans (h5 j u hu)⟩
  rcases hd b e.symm with h0 | h0
  · exact h3 h0
  · omega
theorem TreeSt.wordsAt {w w1 : World} {g n : Nat} {oB : Option Nat} {vals : List Value} {st : BS} {B : Nat} {e : TypeId} {size : Nat} {v : Value} (h : TreeSt w g oB n vals st) (hB : ∀ j, w.cell? ⟨B, j, none⟩ = none) : WordsAt w w.heap.size B vals st := fun p hp hn => by
  obtain ⟨b, c, h1, h2, h3, h4, h5⟩ := h.on p hp
  refine ⟨b, c, h1, h5, ?_, h5, h2⟩
  intro hb
  subst hb
  have hl : 0 < p.2.length := List.length_pos_iff.2 hn
  have := h2 0 (.int .i64 p.2[0]) (by rw [ints_get, List.getElem?_eq_getElem hl]; rfl)
  rw [hB] at this
  cases this
theorem ob_oneT {b g n c : Nat} (h : Value.ownBlock (.slice (some ⟨b, 0, none⟩) n c) = some g) : g = b := (Option.some.inj (show some b = some g from h)).symm
theorem rv_get0 {w : World} {lo hi b j : Nat} {cs : List Value} {u : Value} (h : RV w lo hi (some ⟨b, 0, none⟩) cs) (hu : cs[j]? = some u) : w.cell? ⟨b, j, none⟩ = some u := by
  obtain ⟨b', off, e, -, -, hc⟩ := h.2 (by intro h0; subst h0; simp at hu)
  injection e with e
  injection e with e1 e2
  subst e1 e2
  have := hc j u hu
  rw [Nat.zero_add] at this
  exact this
set_option maxHeartbeats 6400000 in
set_option maxRecDepth 100000 in
theorem impl_treeEdges (r n : Nat) (A : Option Addr) (es : List Ed) (c : Nat) (w : World) (lo hi : Nat) (hr : RG w lo hi A es) (hf : IsFol r n es) :
    Calls Tryz.prog 85 #[graV r n A es.length c] w fun e w' => ∃ A1 c1, e = .returned (.slice A1 (canon (treeE es (bfs es (lets r) 0))).length c1) ∧ OG w' w.heap.size w'.heap.size A1 c1 (canon (treeE es (bfs es (lets r) 0))) ∧ Mid 0 0 w w' := by
  have hg := hf.gr
  have hn1 : 0 < n := by have := hg.size; omega
  have hn40 : n ≤ 40 := by have := hg.size; omega
  have hl := hg.len
  have hgl : ∀ e ∈ es, 1 ≤ e.l ∧ e.l ≤ 3 := fun e he => by have := hg.all e he; have := hg.rank; unfold InG at *; omega
  have hr3 : r ≤ 3 := by have := hg.rank; omega
  have hbok := bfs_ok (L := lets r) (v := 0) hg.all (Int.le_refl _) (show (0 : Int) < (n : Int) by omega)
  have hpar := bfs_par es (lets r) 0
  have hm0 : Mid 0 0 w ((w.alloc (.cells #[.int .i64 r, .int .i64 n, .slice A es.length c] 32)).alloc (.cells #[] 64)) := (Mid.alloc _ _).trans (Mid.alloc _ _)
  have B0 := (Box.new w #[.int .i64 r, .int .i64 n, .slice A es.length c] 32).mid (Mid.alloc _ (.cells #[] 64)) oZr
  have O0 := owns_empty (w.alloc (.cells #[.int .i64 r, .int .i64 n, .slice A es.length c] 32)) 64 3
  have hB : ∀ j, ((w.alloc (.cells #[.int .i64 r, .int .i64 n, .slice A es.length c] 32)).alloc (.cells #[] 64)).cell? ⟨w.heap.size + 1, j, none⟩ = none := fun j => by
    have h := World.cell?_alloc_new (w.alloc (.cells #[.int .i64 r, .int .i64 n, .slice A es.length c] 32)) #[] 64 j
    rw [World.size_alloc] at h
    rw [h]
    rfl
  simp only [World.size_alloc] at O0
  have p0 := B0.cell 0 rfl
  have p1 := B0.cell 1 rfl
  have p2 := B0.cell 2 rfl
  go_enter Tryz.func85, Tryz.ntmps85
  go_wp2_with fail
  generalize (w.alloc (.cells #[.int .i64 r, .int .i64 n, .slice A es.length c] 32)).alloc (.cells #[] 64) = w1 at hm0 B0 O0 hB p0 p1 p2 ⊢
  have hs1 : w.heap.size + 1 < w1.heap.size := (O0.lt _ rfl).2
  have hrg1 := hr.mid hm0 oZl
  have hT := impl_tree r n 0 A es c w1 lo hi hrg1 hg hn1
  have h00 : ((0 : Nat) : Int) = 0 := rfl
  rw [h00] at hT
  have hor : ordE r es 0 = (bfs es (lets r) 0).map Prod.fst := by unfold ordE; rw [Int.toNat_natCast]
  rw [hor] at hT
  generalize hST : bfs es (lets r) 0 = ST at hT hbok hpar ⊢
  have HTL := Lib.hid hT
  have HSTE := Lib.hid hST
  clear hT h00 hor hST
  with_reducible refine HTL.out.mono ?_
  rintro en w2 ⟨A1, c1, rfl, hm2, hord, vals, hval, hts⟩
  have hlen : (ST.map Prod.fst).length = ST.length := List.length_map ..
  rw [hlen] at hord hts ⊢
  have hM1 : 0 < ST.length := List.length_pos_iff.2 hpar.ne
  have hM40 : ST.length ≤ n := by have := hbok.len (by omega); omega
  obtain ⟨m, hm⟩ : ∃ m, ST.length = m + 1 := ⟨ST.length - 1, by omega⟩
  have HM := Lib.hid hm
  rw [hm] at hord hts ⊢
  obtain ⟨g1, rfl, hg11, hg12⟩ := owns_addr hord (Nat.succ_pos m)
  have hcap := owns_cap hord
  have hs2 := hm2.size
  have hWD := hts.wordsAt (w1 := w2) (e := 64) (size := 3) (v := undef) (B := w.heap.size + 1) (fun j => (World.cell?_of_block (hm2.block _ (by simpa using hs1) (by omega))).trans (hB j))
  have hRO := (owns_rv hord).wide (lo' := w.heap.size + 2) (hi' := w2.heap.size) (by omega) (Nat.le_refl _) (Nat.le_refl _)
  have hRV := (owns_rv hval).wide (lo' := w.heap.size + 2) (hi' := w2.heap.size) (by omega) (Nat.le_refl _) (Nat.le_refl _)
  clear p0 p1 p2 hord hval hts hlen hB HTL
  replace B0 := B0.mid hm2 oZr
  replace O0 := owns_mid O0 hm2 oZl
  replace hm0 := hm0.trans hm2
  have HO0 : Hid (w2.ownsRow (w.heap.size + 1) 64 3 (.slice (some ⟨w.heap.size + 1, 0, none⟩) 0 0) 0 (ints (edI ((treeE es ST).take 0)))) := Lib.hid O0
  have HD0 : Hid (∀ g, Value.ownBlock (.slice (some (⟨w.heap.size + 1, 0, none⟩ : Addr)) 0 0) = some g → g = w.heap.size + 1 ∨ w2.heap.size ≤ g) := Lib.hid (fun g hg => .inl (ob_oneT hg))
  have HRO := Lib.hid hRO
  have HRV := Lib.hid hRV
  have HWD := Lib.hid hWD
  have hH2 : w.heap.size + 2 ≤ w2.heap.size := by omega
  clear O0 hRO hRV hWD hm2
  generalize (some (⟨w.heap.size + 1, 0, none⟩ : Addr)) = A0 at HO0 HD0 ⊢
  generalize hH : w2.heap.size = H2 at HRO HRV HWD HD0 hH2 hg12
  generalize w1.heap.size + 1 = gv at HRV ⊢
  have hsz2 : H2 ≤ w2.heap.size := Nat.le_of_eq hH.symm
  clear hH
  by_cases hc1 : c1 = 1
  · subst hc1
    obtain rfl : m = 0 := by omega
    have hT0 : treeE es ST = [] := by
      cases hST : ST with
      | nil => rfl
      | cons p t =>
        have := HM.out
        rw [hST, List.length_cons] at this
        have : t = [] := List.eq_nil_of_length_eq_zero (by omega)
        subst this
        rfl
    have hnil := HO0.out
    rw [hT0] at hnil
    have HT0 := Lib.hid hT0
    clear hT0
    go_wp2_with fail
    go_loopw [3, 20] (fun ov kv wr => ov = .slice A0 0 0 ∧ kv = .int .i64 0 ∧ wr = w2) (fun _ _ _ => 0)
    case atStart => exact ⟨rfl, rfl, rfl⟩
    case round =>
      obtain ⟨rfl, rfl, rfl⟩ := hrel
      have hrg : RG wr w.heap.size wr.heap.size A0 [] := (RV.wide (owns_rv hnil) (Nat.le_succ _) (Nat.le_refl _) (Nat.le_refl _))
      have HS := Lib.hid (impl_sortedN A0 [] 0 0 wr _ _ rfl hrg (by omega))
      clear hrg hnil
      go_wp2_with fail
      with_reducible refine HS.out.mono ?_
      rintro en w5 ⟨A5, c5, rfl, hO5, hm5⟩
      go_wp2_with fail
      go_ret
      rw [HSTE.out, HT0.out]
      exact ⟨A5, c5, rfl, hO5.wide hm0.size (Nat.le_refl _) (Nat.le_refl _), hm0.trans hm5⟩
  · go_wp2_with fail
    go_loopw [3, 20] (fun ov kv wr => ∃ (k : Nat) (A2 : Option Addr) (c2 : Nat), kv = .int .i64 k ∧ ov = .slice A2 k c2 ∧ k ≤ m ∧ Hid (wr.ownsRow (w.heap.size + 1) 64 3 (.slice A2 k c2) k (ints (edI ((treeE es ST).take k)))) ∧ Hid (∀ g, Value.ownBlock (.slice A2 k c2) = some g → g = w.heap.size + 1 ∨ H2 ≤ g) ∧ Hid (RV wr (w.heap.size + 2) H2 (some ⟨g1, 0, none⟩) (ints (ST.map Prod.fst))) ∧ Hid (RV wr (w.heap.size + 2) H2 (some ⟨gv, 0, none⟩) vals) ∧ Hid (WordsAt wr H2 (w.heap.size + 1) vals ST) ∧ Box wr w.heap.size [.int .i64 r, .int .i64 n, .slice A es.length c] ∧ H2 ≤ wr.heap.size ∧ Mid 0 0 w wr) (fun _ kv _ => m - (intOf kv).toNat)
    case atStart => exact ⟨0, A0, 0, rfl, rfl, Nat.zero_le _, HO0, HD0, HRO, HRV, HWD, B0, hsz2, hm0⟩
    case round =>
      clear HO0 HD0 HRO HRV HWD B0 hsz2 hm0 hrg1
      obtain ⟨wo, hwo⟩ : ∃ wo, wo = wr := ⟨_, rfl⟩
      subst hwo
      obtain ⟨k, A2, c2, rfl, rfl, hk, HO, HD, HRO, HRV, HWD, B0, hsz, hm0⟩ := hrel
      by_cases hlt : k < m
      · obtain ⟨p, hp⟩ := get_of_lt ST (show k + 1 < ST.length by rw [HM.out]; omega)
        have hpm := List.mem_of_getElem? hp
        have hpt : p ∈ ST.tail := by
          have h : ST.tail[k]? = some p := by
            cases hST : ST with
            | nil => rw [hST] at hp; simp at hp
            | cons a t => rw [hST] at hp; simpa using hp
          exact List.mem_of_getElem? h
        have hed : (treeE es ST)[k]? = some (edgeOf es p) := by
          unfold treeE
          cases hST : ST with
          | nil => rw [hST] at hp; simp at hp
          | cons a t => rw [hST] at hp; simp at hp; simp [hp]
        obtain ⟨p', -, x, hxL, hpe, -⟩ := hpar.par p hpt
        have hx3 := mem_lets.1 hxL
        have hp2 : p.2 = p'.2 ++ [x] := by rw [hpe]
        have hrng := hbok.rng p hpm
        obtain ⟨pv, hpv⟩ : ∃ n : Nat, p.1 = n := ⟨p.1.toNat, by omega⟩
        obtain ⟨bw, cw, hvw, hbwH, hbwB, hbws, hcw⟩ := HWD.out p hpm (by rw [hp2]; simp)
        obtain ⟨q, hq⟩ : ∃ q, p'.2.length = q := ⟨_, rfl⟩
        have hpl : p.2.length = q + 1 := by rw [hp2, List.length_append, hq]; rfl
        have hcx := hcw q (.int .i64 x) (by rw [ints_get, hp2, List.getElem?_append_right (by omega), hq]; simp)
        rw [hpv, Int.toNat_natCast, hpl] at hvw
        have hcv := rv_get0 HRV.out hvw
        have hco := rv_get0 HRO.out (show (ints (ST.map Prod.fst))[k + 1]? = some (.int .i64 (pv : Int)) by rw [ints_get, List.getElem?_map, hp, ← hpv]; rfl)
        have heo : edgeOf es p = stepE (nextV es (pv : Int) (-x)) x (pv : Int) := by unfold edgeOf; rw [hp2, lastL_snoc, hpv]
        have hql : q ≤ 100 := by
          have h1 := hbok.wl (k + 1) p hp
          have h2 := HM.out
          omega
        have hwq : IntKind.i64.wrap (((q + 1 : Nat) : Int) - 1) = (q : Int) := by rw [IntWalk.i64_in _ (by omega)]; omega
        have hwn : IntKind.i64.wrap (-x) = -x := IntWalk.i64_in _ (by omega)
        have hgvs : gv < wo.heap.size := by obtain ⟨_, _, e, -, h, -⟩ := HRV.out.2 (by intro h0; rw [h0] at hvw; simp at hvw); injection e with e; injection e with e; have := HRV.out.1; omega
        have hg1s : g1 < wo.heap.size := by omega
        have hpvn : (pv : Int) < (n : Int) := by omega
        have hpv0 : (0 : Int) ≤ (pv : Int) := by omega
        have hk0 : (0 : Int) ≤ (k : Int) := by omega
        have hkm : (k : Int) < (m : Int) := by omega
        have hq0 : (0 : Int) ≤ (q : Int) := by omega
        have hqq : (q : Int) < (((q + 1 : Nat)) : Int) := by omega
        rw [show k + 1 = 1 + k by omega] at hco
        have HED := Lib.hid hed
        have HEO := Lib.hid heo
        have hNV := impl_NextVertex r n A es c pv (-x) wo lo hi (hr.mid hm0 oZl) (by omega) hgl (by omega) (by omega)
        have hbb : w.heap.size < wo.heap.size := B0.1
        obtain ⟨u, hu⟩ : ∃ u, nextV es (pv : Int) (-x) = u := ⟨_, rfl⟩
        rw [hu] at hNV
        have HNU := Lib.hid hu
        have z0 := B0.cell 0 rfl
        have z1 := B0.cell 1 rfl
        have z2 := B0.cell 2 rfl
        clear hp hpm hpt hed hpe hp2 hpv hcw hvw hpl heo hq hu
        go_wp2_with fail
        with_reducible refine hNV.mono ?_
        rintro en w3 ⟨rfl, hm3⟩
        have hST := impl_step u x (pv : Int) w3 (by omega) (by omega)
        have HO3 := Lib.hid (owns_mid HO.out hm3 oZl)
        have HRO3 := Lib.hid (HRO.out.mid hm3 oZl)
        have HRV3 := Lib.hid (HRV.out.mid hm3 oZl)
        have HWD3 := Lib.hid (HWD.out.mid hm3)
        have B3 := B0.mid hm3 oZr
        have hs3 := hm3.size
        have hm03 := hm0.trans hm3
        clear HO HRO HRV HWD B0 hm0 hm3 z0 z1 z2 hcx hcv hco hNV
        go_wp2_with fail
        with_reducible refine hST.mono ?_
        rintro en w4 ⟨rfl, hm4⟩
        have HO4 := Lib.hid (owns_mid HO3.out hm4 oZl)
        have HRO4 := Lib.hid (HRO3.out.mid hm4 oZl)
        have HRV4 := Lib.hid (HRV3.out.mid hm4 oZl)
        have HWD4 := Lib.hid (HWD3.out.mid hm4)
        have B4 := B3.mid hm4 oZr
        have hs4 := hm4.size
        have hm04 := hm03.trans hm4
        have HED2 : Hid ((treeE es ST)[k]? = some (stepE u x (pv : Int))) := Lib.hid (by rw [HED.out, HEO.out, HNU.out])
        clear HO3 HRO3 HRV3 HWD3 B3 hm03 hm4 hST HED HEO HNU
        generalize stepE u x (pv : Int) = ed at HED2 ⊢
        go_wp2_with (at_builtin; refine MarkerX.to ?_)
        unfold MarkerX
        refine wpList_pushE2 rfl _ _ rfl (w.heap.size + 1) A2 k c2 _ rfl HO4.out ed rfl (by omega) (by omega) ?_
        intro A6 c6 w6 ho6 hgr6 hat6
        have HO6 : Hid (w6.ownsRow (w.heap.size + 1) 64 3 (.slice A6 (k + 1) c6) (k + 1) (ints (edI ((treeE es ST).take (k + 1))))) := Lib.hid (by
          obtain ⟨h1, h2⟩ := List.getElem?_eq_some_iff.1 HED2.out
          rw [List.take_succ_eq_append_getElem h1, h2]
          exact ho6)
        have HRO6 := Lib.hid (HRO4.out.grown hgr6 (fun g hg => by rcases HD.out g hg with h | h <;> omega))
        have HRV6 := Lib.hid (HRV4.out.grown hgr6 (fun g hg => by rcases HD.out g hg with h | h <;> omega))
        have HWD6 := Lib.hid (HWD4.out.grown hgr6 HD.out)
        have B6 := B4.grown hgr6 (by intro h0; have := HD.out _ h0; omega)
        have hm06 := hm04.grownNew hgr6 (fun g hg => by have := (HO4.out.lt g hg).1; omega)
        have hs6 := hgr6.size
        have HD6 : Hid (∀ g, Value.ownBlock (.slice A6 (k + 1) c6) = some g → g = w.heap.size + 1 ∨ H2 ≤ g) := Lib.hid (by
          intro g hg
          rcases hat6 with h | h
          · exact HD.out g (h ▸ hg)
          · rw [h] at hg
            injection hg with hg
            omega)
        clear ho6 hgr6 hat6 HO4 HRO4 HRV4 HWD4 B4 hm04 HD HED2
        go_wp2_with fail
        go_roundw
        case rel => exact ⟨k + 1, A6, c6, by go_num, rfl, by omega, HO6, HD6, HRO6, HRV6, HWD6, B6, by omega, hm06⟩
        case measure => simp [intOf]; omega
      · obtain rfl : k = m := by omega
        have htl : (treeE es ST).length = k := by unfold treeE; rw [List.length_map, List.length_tail, HM.out]; rfl
        have ho := HO.out
        rw [List.take_of_length_le (by omega)] at ho
        have hrg : RG wo w.heap.size wo.heap.size A2 (treeE es ST) := (RV.wide (owns_rv ho) (Nat.le_succ _) (Nat.le_refl _) (Nat.le_refl _))
        have HS := Lib.hid (impl_sortedN A2 (treeE es ST) k c2 wo _ _ htl hrg (by omega))
        clear hrg ho htl HO HD HRO HRV HWD B0
        go_wp2_with fail
        with_reducible refine HS.out.mono ?_
        rintro en w5 ⟨A5, c5, rfl, hO5, hm5⟩
        go_wp2_with fail
        go_ret
        rw [HSTE.out]
        exact ⟨A5, c5, rfl, hO5.wide hm0.size (Nat.le_refl _) (Nat.le_refl _), hm0.trans hm5⟩
end Go.Proofs.YtkaofcakelpnpaaGreat

namespace Go.Proofs.YtkaofcakelpnpaaGreat
set_option linter.unusedVariables false
set_option linter.unusedSimpArgs false
open Go.RowKit
def composeP (p q : List Int) : List Int := p.map (fun x => q.getD x.toNat 0)
end Go.Proofs.YtkaofcakelpnpaaGreat

namespace Go.Proofs.YtkaofcakelpnpaaGreat
set_option linter.unusedVariables false
set_option linter.unusedSimpArgs false
open Go.RowKit
def ComposeIs (p q res : List Int) : Prop := ((IsPerm p ∧ IsPerm q ∧ p.length = q.length) → res = composeP p q) ∧ (¬ (IsPerm p ∧ IsPerm q ∧ p.length = q.length) → res = [])
end Go.Proofs.YtkaofcakelpnpaaGreat
