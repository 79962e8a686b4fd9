/- Contracts and lemmas of this seat, many texts in one: see the words ahead of each. No condition beyond those typed in each lemma. -/
import Derived.Test.YtimmnnncgnnkgaaFw3
import Derived.Test.YtimmnnncgnnkgaaFw2
import Derived.Test.YtimmnnncgnnkgaaFw1
import Derived.Deep.RegionHeld3
import Derived.Maps.OwnSet
import Derived.DeepKeys4

/- IsCore, IsSubgroup, RankOf. -/
namespace Go.Proofs.Ytimmnnncgnnkgaa
set_option linter.unusedVariables false
set_option linter.unusedSimpArgs false
open Go.RowKit

open Classical in
/-- The rank of the subgroup, -1 if it is none. -/
noncomputable def rankI (r s : Int) (es : List Ed) : Int := if IsCor r s es then (es.length : Int) - s + 1 else -1

end Go.Proofs.Ytimmnnncgnnkgaa

/- MissingSteps (whether there are some), IsFiniteIndex. -/
namespace Go.Proofs.Ytimmnnncgnnkgaa
set_option linter.unusedVariables false
set_option linter.unusedSimpArgs false
open Go.RowKit

/-- Every letter goes on at every vertex. -/
def Full (r n : Nat) (es : List Ed) : Prop := ∀ v : Nat, v < n → ∀ x ∈ lets r, 0 ≤ nextV es v x
/-- The same of the vertices below v, and of the first j letters at v. -/
def FullTo (r : Nat) (es : List Ed) (v j : Nat) : Prop := (∀ u : Nat, u < v → ∀ x ∈ lets r, 0 ≤ nextV es u x) ∧ ∀ x ∈ (lets r).take j, 0 ≤ nextV es v x
theorem FullTo.zero (r : Nat) (es : List Ed) : FullTo r es 0 0 := ⟨fun u h => absurd h (Nat.not_lt_zero _), by simp⟩
theorem FullTo.step {r : Nat} {es : List Ed} {v j : Nat} {x : Int} (hx : (lets r)[j]? = some x) : FullTo r es v (j + 1) ↔ FullTo r es v j ∧ 0 ≤ nextV es v x := by
  unfold FullTo
  rw [take_snocI hx]
  constructor
  · rintro ⟨h1, h2⟩
    exact ⟨⟨h1, fun y hy => h2 y (List.mem_append.2 (.inl hy))⟩, h2 x (by simp)⟩
  · rintro ⟨⟨h1, h2⟩, h3⟩
    refine ⟨h1, fun y hy => ?_⟩
    rcases List.mem_append.1 hy with hy | hy
    · exact h2 y hy
    · simp at hy; subst hy; exact h3
theorem FullTo.row {r : Nat} {es : List Ed} {v : Nat} : FullTo r es v (lets r).length ↔ FullTo r es (v + 1) 0 := by
  unfold FullTo
  rw [List.take_length]
  constructor
  · rintro ⟨h1, h2⟩
    refine ⟨fun u hu x hx => ?_, by simp⟩
    by_cases h : u < v
    · exact h1 u h x hx
    · obtain rfl : u = v := by omega
      exact h2 x hx
  · rintro ⟨h1, -⟩
    exact ⟨fun u hu x hx => h1 u (by omega) x hx, fun x hx => h1 v (by omega) x hx⟩
theorem FullTo.all {r n : Nat} {es : List Ed} : FullTo r es n 0 ↔ Full r n es := ⟨fun h => h.1, fun h => ⟨h, by simp⟩⟩

set_option maxHeartbeats 1600000 in
theorem impl_lettersO (n : Nat) (w : World) (hn : n ≤ 1000) :
    Calls Try.prog 49 #[.int .i64 n] w fun e w' => ∃ A c, e = .returned (.slice A (lets n).length c) ∧ w'.ownsRow w.heap.size 3 1 (.slice A (lets n).length c) (lets n).length (ints (lets n)) ∧ Mid 0 0 w w' := by
  have hm0 : Mid 0 0 w (w.alloc (.cells #[] 3)) := Mid.alloc _ _
  have O0 := owns_empty w 3 1
  go_enter Try.func49, Try.ntmps49
  go_wp2_with fail
  go_loopw [3, 4] (fun out i wr => ∃ (k : Nat) (A1 : Option Addr) (c1 n1 : Nat), k ≤ n ∧ i = .int .i64 ((k : Int) + 1) ∧ out = .slice A1 n1 c1 ∧ Hid ((lets k).length = n1) ∧
      wr.ownsRow w.heap.size 3 1 (.slice A1 n1 c1) n1 (ints (lets k)) ∧ Mid 0 0 w wr ∧ w.heap.size ≤ wr.heap.size) (fun _ i _ => (n + 1 - intOf i).toNat)
  case atStart => exact ⟨0, _, 0, 0, Nat.zero_le _, rfl, rfl, Lib.hid rfl, O0, hm0, hm0.size⟩
  case round =>
    obtain ⟨k, A1, c1, n1, hk, rfl, rfl, HN, hown, hm, hsz⟩ := hrel
    have hn1 : n1 ≤ 2000 := by have h1 := lets_len k; have h2 := HN.out; omega
    by_cases hlt : k < n
    · have hkn : (k : Int) + 1 ≤ n := by omega
      have hk0 : (0 : Int) ≤ (k : Int) := by omega
      have b4 : wrap64 (-((k : Int) + 1)) = -((k : Int) + 1) := by unfold wrap64; omega
      have HW := Lib.hid hown
      clear hown
      go_wp2_with (at_builtin; refine wpList_push rfl _ _ 37 rfl w.heap.size 3 (.int .i64 0) 1 8 undSI infoI rfl (by decide) _ _ _ rfl HW.out 2 [.int .i64 ((k : Int) + 1), .int .i64 (-((k : Int) + 1))] rfl rfl ?c1 ?c2 ?c3 hsz ?next)
      case c1 => exact one_of_ints [(k : Int) + 1, -((k : Int) + 1)]
      case c2 => unfold maxLen; omega
      case c3 => omega
      case next =>
        intro v' w3 hown1 hgr _
        obtain ⟨A3, c3, rfl, -, -⟩ := owns_shape hown1
        have hm3 := Mid.of_grownRow HW.out hgr
        go_wp2_with fail
        go_roundw
        case rel =>
          refine ⟨k + 1, A3, c3, n1 + 2, by omega, by go_num, rfl, Lib.hid (by have := HN.out; simp [lets]; omega), ?_, hm.transNew hm3 (Or.inl (Nat.le_refl _)), Nat.le_trans hsz hm3.size⟩
          rw [lets, ints_append]
          exact hown1
        case measure => simp [intOf]; omega
    · obtain rfl : k = n := by omega
      have hx := HN.out
      have hsz2 := hm.size
      go_wp2_with fail
      go_ret
      exact ⟨_, _, (by rw [hx]; rfl), (by rw [hx]; exact hown), hm⟩

set_option maxHeartbeats 1600000 in
theorem spec_l5LettersO (n : Nat) (w : World) (hn : n ≤ 1000) :
    Calls Try.prog 81 #[.int .i64 n] w fun e w' => ∃ A c, e = .returned (.slice A (lets n).length c) ∧ w'.ownsRow w.heap.size 3 1 (.slice A (lets n).length c) (lets n).length (ints (lets n)) ∧ Mid 0 0 w w' := by
  have hm0 : Mid 0 0 w (w.alloc (.cells #[] 3)) := Mid.alloc _ _
  have O0 := owns_empty w 3 1
  go_enter Try.func81, Try.ntmps81
  go_wp2_with fail
  go_loopw [3, 4] (fun out i wr => ∃ (k : Nat) (A1 : Option Addr) (c1 n1 : Nat), k ≤ n ∧ i = .int .i64 ((k : Int) + 1) ∧ out = .slice A1 n1 c1 ∧ Hid ((lets k).length = n1) ∧
      wr.ownsRow w.heap.size 3 1 (.slice A1 n1 c1) n1 (ints (lets k)) ∧ Mid 0 0 w wr ∧ w.heap.size ≤ wr.heap.size) (fun _ i _ => (n + 1 - intOf i).toNat)
  case atStart => exact ⟨0, _, 0, 0, Nat.zero_le _, rfl, rfl, Lib.hid rfl, O0, hm0, hm0.size⟩
  case round =>
    obtain ⟨k, A1, c1, n1, hk, rfl, rfl, HN, hown, hm, hsz⟩ := hrel
    have hn1 : n1 ≤ 2000 := by have h1 := lets_len k; have h2 := HN.out; omega
    by_cases hlt : k < n
    · have hkn : (k : Int) + 1 ≤ n := by omega
      have hk0 : (0 : Int) ≤ (k : Int) := by omega
      have b4 : wrap64 (-((k : Int) + 1)) = -((k : Int) + 1) := by unfold wrap64; omega
      have HW := Lib.hid hown
      clear hown
      go_wp2_with (first | (at_builtin; refine wpList_pushI rfl _ _ rfl w.heap.size A1 n1 c1 (lets k) rfl HW.out ((k : Int) + 1) rfl (by omega) hsz ?_; intro A2 c2 w2 hown2 hm2; have hsz2 := Nat.le_trans hsz hm2.size; have HW2 := Lib.hid hown2; clear hown2) | (at_builtin; refine wpList_pushI rfl _ _ rfl w.heap.size A2 (n1 + 1) c2 (lets k ++ [(k : Int) + 1]) rfl HW2.out (-((k : Int) + 1)) rfl (by omega) hsz2 ?_; intro A3 c3 w3 hown3 hm3))
      go_roundw
      case rel =>
        refine ⟨k + 1, A3, c3, n1 + 1 + 1, by omega, by go_num, rfl, Lib.hid (by have := HN.out; simp [lets]; omega), ?_, (hm.transNew hm2 (Or.inl (Nat.le_refl _))).transNew hm3 (Or.inl (Nat.le_refl _)), Nat.le_trans hsz2 hm3.size⟩
        rw [List.append_assoc] at hown3
        exact hown3
      case measure => simp [intOf]; omega
    · obtain rfl : k = n := by omega
      have hx := HN.out
      have hsz2 := hm.size
      go_wp2_with fail
      go_ret
      exact ⟨_, _, (by rw [hx]; rfl), (by rw [hx]; exact hown), hm⟩

/-- A subgroup of finite index. -/
structure IsFin (r s : Int) (es : List Ed) : Prop where
  cor : IsCor r s es
  full : Full r.toNat s.toNat es

end Go.Proofs.Ytimmnnncgnnkgaa

/- ActionOf, of both, and the law's data. -/
namespace Go.Proofs.Ytimmnnncgnnkgaa
set_option linter.unusedVariables false
set_option linter.unusedSimpArgs false
open Go.RowKit

/-- Where the letter x leads from each vertex; for all letters up to k. -/
def rowL (n : Nat) (es : List Ed) (x : Int) : List Int := (List.range n).map fun (v : Nat) => nextV es (v : Int) x
def actL (n : Nat) (es : List Ed) (k : Nat) : List (List Int) := (List.range k).map fun (i : Nat) => rowL n es ((i : Int) + 1)
open Classical in
noncomputable def actI (r s : Int) (es : List Ed) : List (List Int) := if IsFin r s es then actL s.toNat es r.toNat else []
def ActionOfIs (r0 s0 : Int) (d0 : List Ed) (res0 : List (List Int)) : Prop := res0 = actI r0 s0 d0
end Go.Proofs.Ytimmnnncgnnkgaa

/- A row of one cell of the call's own, laid by a literal. -/
namespace Go.Proofs.Ytimmnnncgnnkgaa
set_option linter.unusedVariables false
open Go.RowKit
theorem owns_lit (w : World) (e : TypeId) (u : Value) : (w.alloc (.cells #[u] e)).ownsRow w.heap.size e 1 (.slice (some ⟨w.heap.size, 0, none⟩) 1 1) 1 [u] :=
  ⟨rfl, .inr ⟨w.heap.size, 1, #[u], rfl, Nat.le_refl _, heap_alloc_new w _, Nat.le_refl _, by unfold maxLen; omega, rfl, rfl⟩⟩
end Go.Proofs.Ytimmnnncgnnkgaa

/- A growing list of rows of the call's own, beside a list that it reads. -/
namespace Go.Proofs.Ytimmnnncgnnkgaa
set_option linter.unusedVariables false
set_option linter.unusedSimpArgs false
open Go.RowKit

/-- A list of rows of the call's own, from block b on, in an outer row of its own from lo on; the list act between a and b. -/
structure Grp (w : World) (lo a b : Nat) (A : Option Addr) (n c : Nat) (rows : List Row) (Aa : Option Addr) (act : List (List Int)) : Prop where
  out : w.ownsRow lo 37 1 (.slice A n c) n (rowsV rows)
  rows : OwnRows w b w.heap.size 3 rows
  act : RSS w a b Aa act
  off : ∀ g, Value.ownBlock (.slice A n c) = some g → g < a ∨ b ≤ g
  lob : lo ≤ b
section
variable {w w' : World} {lo a b : Nat} {A : Option Addr} {n c : Nat} {rows : List Row} {Aa : Option Addr} {act : List (List Int)}
theorem Grp.len (h : Grp w lo a b A n c rows Aa act) : rows.length = n := by
  have := h.out.1
  rw [rowsV_len] at this
  omega
theorem Grp.mid (h : Grp w lo a b A n c rows Aa act) (m : Mid 0 0 w w') : Grp w' lo a b A n c rows Aa act :=
  ⟨owns_mid h.out m (Or.inl (Nat.zero_le _)), (h.rows.mid m (Or.inl (Nat.zero_le _))).wide (Nat.le_refl _) m.size (Nat.le_refl _), h.act.mid m (Or.inl (Nat.zero_le _)), h.off, h.lob⟩
theorem Grp.rss (h : Grp w lo a b A n c rows Aa act) : RSS w lo w.heap.size A (rowsD rows) :=
  (OSS.mk' h.out (h.rows.wide h.lob (Nat.le_refl _) (Nat.le_refl _)) rfl).rss
theorem Grp.row (h : Grp w lo a b A n c rows Aa act) {k : Nat} (hk : k < n) :
    ∃ b off A' c' xs, A = some ⟨b, off, none⟩ ∧ lo ≤ b ∧ b < w.heap.size ∧ (rowsD rows)[k]? = some xs ∧ w.cell? ⟨b, off + k, none⟩ = some (.slice A' xs.length c') ∧ RV w lo w.heap.size A' (ints xs) :=
  h.rss.row (by rw [rowsD_len, h.len]; exact hk)
/-- A row more. -/
theorem Grp.push {W : World} {W' : World} {A' : Option Addr} {c' : Nat} {r : Row} (h : Grp w lo a b A n c rows Aa act) (m : Mid 0 0 w W) (hrow : W.ownsRow w.heap.size 3 1 r.v r.xs.length (ints r.xs))
    (h1 : W'.ownsRow lo 37 1 (.slice A' (n + 1) c') (n + 1) (rowsV rows ++ [r.v])) (h2 : W.grownBy W' (Value.ownBlock (.slice A n c))) (h3 : Value.ownBlock (.slice A' (n + 1) c') = Value.ownBlock (.slice A n c) ∨ Value.ownBlock (.slice A' (n + 1) c') = some (W.heap.size + 1)) :
    Grp W' lo a b A' (n + 1) c' (rows ++ [r]) Aa act := by
  have hbs := h.act.size
  have hms := m.size
  have hG := h.mid m
  refine ⟨by rw [rowsV_append]; exact h1, ?_, ?_, ?_, h.lob⟩
  · have k1 := (h.rows.mid m (Or.inl (Nat.zero_le _))).push (r := r) (base := w.heap.size) (hi' := W.heap.size) hrow (Nat.le_refl _) hbs hms (Nat.le_refl _) (fun g hg => (hrow.lt g hg).2)
    exact (k1.grown hG.out (by decide) h2).wide (Nat.le_refl _) h2.size (Nat.le_refl _)
  · cases hob : Value.ownBlock (.slice A n c) with
    | none =>
      rw [hob] at h2
      exact hG.act.mid (Mid.of_grown (lo := 0) (hi := 0) h2 (by intro g hg; cases hg)) (Or.inl (Nat.zero_le _))
    | some g =>
      rw [hob] at h2
      have := h.off g hob
      exact hG.act.mid (Mid.of_grown (lo := g) (hi := g + 1) h2 (by intro g' hg; injection hg with hg; omega)) (by omega)
  · intro g hg
    rcases h3 with h3 | h3
    · exact h.off g (by rw [← h3]; exact hg)
    · rw [h3] at hg
      injection hg with hg
      omega
end
section
variable {W : World} {ops : Array Oper} {rest : List Oper} {o : Oper} {ac : Act} {Q : Exit → Act → World → Prop}
end
open Classical in
/-- The elements of the group. -/
noncomputable def grpI (r s : Int) (es : List Ed) : List (List Int) := if IsFin r s es then grpRun (actL s.toNat es r.toNat) 201 0 [upto s.toNat] else []
theorem sumL_le {m : Nat} : ∀ (l : List (List Int)), (∀ x ∈ l, x.length ≤ m) → sumL l ≤ l.length * m
  | [], _ => by simp [sumL]
  | x :: t, h => by
    have h1 := sumL_le t fun y hy => h y (by simp [hy])
    have h2 := h x (by simp)
    have h3 : sumL (x :: t) = x.length + sumL t := by simp [sumL]
    rw [h3, List.length_cons, Nat.succ_mul]
    omega
end Go.Proofs.Ytimmnnncgnnkgaa

/- append to a row of the call's own: what was read through the old slice is read as before. -/
namespace Go.Proofs.Ytimmnnncgnnkgaa
set_option linter.unusedVariables false
set_option linter.unusedSimpArgs false
open Go.RowKit

section
variable {P : Program} (w : World)
/-- The new slice lies in the old one's block, or nothing that was there has turned. -/
theorem run_append_stands (base : Nat) (t ty e : TypeId) (i : TypeInfo) (z : Value) (size bytes : Nat) (ht : P.underlying t = some (.slice e)) (hi : P.info? e = some i) (hz : i.zero = some z)
    (hsize : i.size = size) (hby : i.bytes = bytes) (v : Value) (n : Nat) (xs : List Value) (hown : w.ownsRow base e size v n xs)
    (a : Addr) (m c : Nat) (news : List Value) (hl : news.length = m * size) (hnews : ∀ j u, news[j]? = some u → w.cell? (a.add j) = some u) (h1 : ∀ u ∈ news, u.oneCell' = true)
    (h63 : n + m ≤ maxLen) (hbytes : (n + m) * bytes ≤ 140737488355328) {v' : Value} {w' : World} (hr : (Builtin.append_ #[t, t] ty #[v, .slice (some a) m c]).run P w = .ok v' w') (hg : w.grownBy w' v.ownBlock) :
    v'.ownBlock = v.ownBlock ∨ w.grownBy w' none := by
  subst hsize
  subst hby
  have hsmall : n + m ≤ 9223372036854775807 := by simp only [maxLen] at h63; omega
  rcases hown.2 with ⟨rfl, rfl⟩ | ⟨g, cap, cur, rfl, hbg, hgg, hnc, hcm, hcs, htake⟩
  · exact .inr hg
  · by_cases hroom : n + m ≤ cap
    · have hfit : n * i.size + news.length ≤ cur.size := by rw [hl, hcs, ← Nat.add_mul]; exact Nat.mul_le_mul_right _ hroom
      have h2 := run_append_room (P := P) w t ty e i ht hi g n cap cur hgg a m c news hl hnews h1 hroom hfit
      rw [hr] at h2
      injection h2 with h2 h3
      exact .inl (by rw [h2]; rfl)
    · have holds : ∀ j u, xs[j]? = some u → w.cell? ((⟨g, 0, none⟩ : Addr).add j) = some u := hown.cells (g := g) rfl
      have h2 := run_append_grow (P := P) w t ty e i z ht hi hz ⟨g, 0, none⟩ n cap xs hown.1 holds a m c news hl hnews (by omega) (by omega) (growslice_fits (by omega) hbytes)
      rw [hr] at h2
      injection h2 with h2 h3
      exact .inr (by rw [h3]; exact grown_trans (grown_drew w none) (World.grownBy_alloc _ _ _))
end
section
variable {W : World} {ops : Array Oper} {rest : List Oper} {o : Oper} {a : Act} {Q : Exit → Act → World → Prop}
theorem wpList_pushS (hgd : o.guard = none) (s x : Operand) (t : TypeId)
    (ho : o.op = .call { callee := .builtin .append, args := #[s, x], argTypes := #[t, t] })
    (base : Nat) (e : TypeId) (z : Value) (size bytes : Nat) (ht : Try.prog.underlying t = some (.slice e)) (hinfo : (Try.prog.info? e).map (fun i => (i.zero, i.size, i.bytes)) = some (some z, size, bytes))
    (hzs : z.cells.size = size) (hsz : 0 < size)
    (v : Value) (n : Nat) (xs : List Value) (hs : a.eval s = v) (hown : W.ownsRow base e size v n xs)
    (m : Nat) (news : List Value) (hx : a.eval x = .slice (some ⟨W.heap.size, 0, none⟩) m m) (hl : news.length = m * size) (h1 : ∀ u ∈ news, u.oneCell' = true)
    (h63 : n + m ≤ maxLen) (hbytes : (n + m) * bytes ≤ 140737488355328) (hbase : base ≤ W.heap.size)
    (h : ∀ v' w', w'.ownsRow base e size v' (n + m) (xs ++ news) → W.grownBy w' v.ownBlock → (v'.ownBlock = v.ownBlock ∨ v'.ownBlock = some (W.heap.size + 1)) → (v'.ownBlock = v.ownBlock ∨ W.grownBy w' none) → wpList Try.prog ops Q rest (a.put o.dst v') w') :
    wpList Try.prog ops Q (o :: rest) a (W.alloc (.cells news.toArray e)) := by
  obtain ⟨i, hi, hz, hsize, hby⟩ := info_parts hinfo
  have hnews : ∀ j u, news[j]? = some u → (W.alloc (.cells news.toArray e)).cell? ((⟨W.heap.size, 0, none⟩ : Addr).add j) = some u := by
    intro j u hu
    rw [Addr.add_lit, Nat.zero_add, World.cell?_alloc_new]
    simpa using hu
  refine wpList_plain hgd fun K hK => ?_
  obtain ⟨v', w', hr, h2, h3, h4, h5⟩ := run_append_own_at (P := Try.prog) (W.alloc (.cells news.toArray e)) base t o.type e i z size bytes ht hi hz hsize hby hzs hsz v n xs (hown.alloc _) ⟨W.heap.size, 0, none⟩ m m news hl hnews h1 h63 hbytes (by simp; omega)
  have h6 := run_append_stands (P := Try.prog) (W.alloc (.cells news.toArray e)) base t o.type e i z size bytes ht hi hz hsize hby v n xs (hown.alloc _) ⟨W.heap.size, 0, none⟩ m m news hl hnews h1 h63 hbytes hr h3
  unfold Oper.wp execOp
  simp only [ho, resolve, invoke, builtin, Sem.run_bind, Sem.run_pure, Result.andThen_ok, List.map_toArray, List.map_cons, List.map_nil, hs, hx, hr]
  refine hK _ _ (h v' w' h2 (grown_trans (World.grownBy_alloc W _ _) h3) (by simpa using h5) ?_)
  rcases h6 with h6 | h6
  · exact .inl h6
  · exact .inr (grown_trans (World.grownBy_alloc W _ _) h6)
end
/-- What was read through a slice of the rows' outer row. -/
def OldRows (w : World) (g : Nat) (rows0 : List Row) : Prop := g < w.heap.size ∧ ∀ k u, (rowsV rows0)[k]? = some u → w.cell? ⟨g, k, none⟩ = some u
theorem OldRows.mid {w w' : World} {g lo hi : Nat} {rows0 : List Row} (h : OldRows w g rows0) (m : Mid lo hi w w') (hd : g < lo ∨ hi ≤ g) : OldRows w' g rows0 :=
  ⟨Nat.lt_of_lt_of_le h.1 m.size, fun k u hu => (World.cell?_of_block (m.block g h.1 (by omega))).trans (h.2 k u hu)⟩
theorem OldRows.push {W W' : World} {lo g : Nat} {A A' : Option Addr} {n c c' : Nat} {rows0 rows : List Row} {r : Row} (h : OldRows W g rows0) (hp : rows0 <+: rows)
    (h1 : W'.ownsRow lo 37 1 (.slice A' (n + 1) c') (n + 1) (rowsV rows ++ [r.v])) (h2 : W.grownBy W' (Value.ownBlock (.slice A n c)))
    (h6 : Value.ownBlock (.slice A' (n + 1) c') = Value.ownBlock (.slice A n c) ∨ W.grownBy W' none) : OldRows W' g rows0 := by
  refine ⟨Nat.lt_of_lt_of_le h.1 h2.size, fun k u hu => ?_⟩
  by_cases hb : Value.ownBlock (.slice A n c) = some g
  · rcases h6 with h6 | h6
    · have hg' : Value.ownBlock (.slice A' (n + 1) c') = some g := h6.trans hb
      have hk : (rowsV rows ++ [r.v])[k]? = some u := by
        obtain ⟨t, rfl⟩ := hp
        rw [rowsV_append, List.append_assoc, List.getElem?_append_left (List.getElem?_eq_some_iff.1 hu).1]
        exact hu
      have := h1.cells hg' k u hk
      rw [Addr.add_lit, Nat.zero_add] at this
      exact this
    · exact h6.cell (h.2 k u hu) (by simp)
  · exact h2.cell (h.2 k u hu) (by intro e; exact hb e.symm)
section
variable {W : World} {ops : Array Oper} {rest : List Oper} {o : Oper} {ac : Act} {Q : Exit → Act → World → Prop}
theorem wpList_pushGO {w : World} {lo a b g : Nat} {A : Option Addr} {n c : Nat} {rows rows0 : List Row} {Aa : Option Addr} {act : List (List Int)} (hgd : o.guard = none) (s x : Operand)
    (ho : o.op = .call { callee := .builtin .append, args := #[s, x], argTypes := #[48, 48] }) (hs : ac.eval s = .slice A n c)
    (h : Grp w lo a b A n c rows Aa act) (m : Mid 0 0 w W) (hold : OldRows w g rows0) (hp : rows0 <+: rows) (r : Row) (u : Value) (hu : r.v = u) (hrow : W.ownsRow w.heap.size 3 1 r.v r.xs.length (ints r.xs)) (hx : ac.eval x = .slice (some ⟨W.heap.size, 0, none⟩) 1 1) (hn : n ≤ 1048576)
    (hk : ∀ A' c' w', Grp w' lo a b A' (n + 1) c' (rows ++ [r]) Aa act → OldRows w' g rows0 → W.grownBy w' (Value.ownBlock (.slice A n c)) → Mid lo W.heap.size W w' → wpList Try.prog ops Q rest (ac.put o.dst (.slice A' (n + 1) c')) w') :
    wpList Try.prog ops Q (o :: rest) ac (W.alloc (.cells #[u] 37)) := by
  subst hu
  have hbs := h.act.size
  have hms := m.size
  have hlo := h.lob
  refine wpList_pushS (news := [r.v]) hgd s x 48 ho lo 37 (.slice none 0 0) 1 24 undSSI infoSI rfl (by decide) (.slice A n c) n (rowsV rows) hs (h.mid m).out 1 hx rfl ?_ (by unfold maxLen; omega) (by omega) (by omega) ?_
  · intro u hu
    simp at hu
    subst hu
    rfl
  · intro v' w' h1 h2 h3 h6
    obtain ⟨A', c', rfl, -, -⟩ := owns_shape h1
    exact hk A' c' w' (h.push m hrow h1 h2 h3) ((hold.mid m (Or.inr (Nat.zero_le _))).push hp h1 h2 h6) h2 (Mid.of_grownRow (h.mid m).out h2)
end
end Go.Proofs.Ytimmnnncgnnkgaa

/- Plain: words, layer by layer: each word of a layer is a word of the layer ahead and a letter that may follow it. -/
namespace Go.Proofs.Ytimmnnncgnnkgaa
set_option linter.unusedVariables false
set_option linter.unusedSimpArgs false

def oneW (f : List Int → Int → Bool) (L : List Int) (w : List Int) : List (List Int) := (L.filter (f w)).map fun x => w ++ [x]
def layStep (f : List Int → Int → Bool) (L : List Int) (l : List (List Int)) : List (List Int) := l.flatMap (oneW f L)
def lay (f : List Int → Int → Bool) (L : List Int) : Nat → List (List Int)
  | 0 => [[]]
  | n + 1 => layStep f L (lay f L n)
/-- The layers below n, one behind the other. -/
def pre (f : List Int → Int → Bool) (L : List Int) : Nat → List (List Int)
  | 0 => []
  | n + 1 => pre f L n ++ lay f L n
section
variable {f : List Int → Int → Bool} {L : List Int}
theorem oneW_len (w : List Int) : (oneW f L w).length ≤ L.length := by
  unfold oneW
  rw [List.length_map]
  exact List.length_filter_le _ _
theorem layStep_len (l : List (List Int)) : (layStep f L l).length ≤ l.length * L.length := by
  induction l with
  | nil => simp [layStep]
  | cons w t ih =>
    have h1 := oneW_len (f := f) (L := L) w
    have h2 : layStep f L (w :: t) = oneW f L w ++ layStep f L t := rfl
    rw [h2, List.length_append, List.length_cons, Nat.succ_mul]
    omega
theorem lay_len (hL : L.length ≤ 6) : ∀ n, (lay f L n).length ≤ 6 ^ n
  | 0 => by simp [lay]
  | n + 1 => by
    have h1 := lay_len hL n
    have h2 := layStep_len (f := f) (L := L) (lay f L n)
    have h3 : (lay f L n).length * L.length ≤ 6 ^ n * 6 := Nat.mul_le_mul h1 hL
    rw [Nat.pow_succ]
    exact Nat.le_trans h2 h3
theorem lay_b (hL : L.length ≤ 6) {n : Nat} (hn : n ≤ 5) : (lay f L n).length ≤ 7776 := by
  have h1 := lay_len (f := f) hL n
  have h2 : 6 ^ n ≤ 6 ^ 5 := Nat.pow_le_pow_right (by omega) hn
  omega
theorem pre_b (hL : L.length ≤ 6) : ∀ {n : Nat}, n ≤ 6 → (pre f L n).length ≤ n * 7776
  | 0, _ => by simp [pre]
  | n + 1, hn => by
    have h1 := pre_b hL (n := n) (by omega)
    have h2 := lay_b (f := f) hL (n := n) (by omega)
    rw [pre, List.length_append]
    omega
theorem mem_layStep {l : List (List Int)} {v : List Int} : v ∈ layStep f L l ↔ ∃ w ∈ l, ∃ x ∈ L, f w x = true ∧ v = w ++ [x] := by
  unfold layStep oneW
  simp only [List.mem_flatMap, List.mem_map, List.mem_filter]
  constructor
  · rintro ⟨w, hw, x, ⟨hx, hf⟩, rfl⟩
    exact ⟨w, hw, x, hx, hf, rfl⟩
  · rintro ⟨w, hw, x, hx, hf, rfl⟩
    exact ⟨w, hw, x, ⟨hx, hf⟩, rfl⟩
theorem lay_ok : ∀ {n : Nat} {v : List Int}, v ∈ lay f L n → v.length = n ∧ ∀ x ∈ v, x ∈ L
  | 0, v, h => by simp [lay] at h; subst h; simp
  | n + 1, v, h => by
    obtain ⟨w, hw, x, hx, -, rfl⟩ := mem_layStep.1 h
    obtain ⟨h1, h2⟩ := lay_ok hw
    refine ⟨by simp [h1], fun y hy => ?_⟩
    rcases List.mem_append.1 hy with hy | hy
    · exact h2 y hy
    · simp at hy
      subst hy
      exact hx
theorem pre_ok : ∀ {n : Nat} {v : List Int}, v ∈ pre f L n → v.length < n ∧ ∀ x ∈ v, x ∈ L
  | 0, v, h => by simp [pre] at h
  | n + 1, v, h => by
    rcases List.mem_append.1 h with h | h
    · have := pre_ok h
      exact ⟨by omega, this.2⟩
    · have := lay_ok h
      exact ⟨by omega, this.2⟩
/-- One word more of the layer ahead. -/
theorem layStep_take {l : List (List Int)} {k : Nat} {w : List Int} (h : l[k]? = some w) : layStep f L (l.take (k + 1)) = layStep f L (l.take k) ++ oneW f L w := by
  obtain ⟨hk, h'⟩ := List.getElem?_eq_some_iff.1 h
  rw [List.take_succ_eq_append_getElem hk, h']
  unfold layStep
  rw [List.flatMap_append]
  simp
theorem oneW_yes {w : List Int} {j : Nat} {x : Int} (h : L[j]? = some x) (hf : f w x = true) : oneW f (L.take (j + 1)) w = oneW f (L.take j) w ++ [w ++ [x]] := by
  obtain ⟨hk, h'⟩ := List.getElem?_eq_some_iff.1 h
  rw [List.take_succ_eq_append_getElem hk, h']
  unfold oneW
  rw [List.filter_append, List.map_append]
  simp [hf]
theorem oneW_no {w : List Int} {j : Nat} {x : Int} (h : L[j]? = some x) (hf : f w x = false) : oneW f (L.take (j + 1)) w = oneW f (L.take j) w := by
  obtain ⟨hk, h'⟩ := List.getElem?_eq_some_iff.1 h
  rw [List.take_succ_eq_append_getElem hk, h']
  unfold oneW
  rw [List.filter_append, List.map_append]
  simp [hf]
end
/-- The letter may follow the word. -/
def okB (w : List Int) (x : Int) : Bool := !(w.getLast? == some (-x))
theorem okB_snoc (w : List Int) (y x : Int) : okB (w ++ [y]) x = !(y == -x) := by simp [okB]
end Go.Proofs.Ytimmnnncgnnkgaa

/- Contracts: the orders of letters and words. -/
namespace Go.Proofs.Ytimmnnncgnnkgaa
set_option linter.unusedVariables false
set_option linter.unusedSimpArgs false
open Go.RowKit

/-! ### the order of words -/
end Go.Proofs.Ytimmnnncgnnkgaa

/- InvertWord of the program; the halves of CompareNielsen. -/
namespace Go.Proofs.Ytimmnnncgnnkgaa
set_option linter.unusedVariables false
set_option linter.unusedSimpArgs false
open Go.RowKit

set_option maxHeartbeats 800000 in
theorem impl_InvertWord (A : Option Addr) (xs : List Int) (c B : Nat) (w : World) (hr : Rs w B A (ints xs)) (hB : B ≤ w.heap.size) (hok : OkI xs) (hl : xs.length ≤ 4194304) :
    Calls Try.prog 107 #[.slice A xs.length c] w fun e w' => RetI 3 (invW xs) w e w' := by
  have HOK := Lib.hid hok
  clear hok
  have hmx : xs.length ≤ maxLen := by unfold maxLen; omega
  obtain ⟨i0, hi, hz0, hz1, hz2⟩ := info_parts infoI
  have hby : i0.bytes * xs.length ≤ 281474976710656 := by rw [hz2]; omega
  go_enter Try.func107, Try.ntmps107
  go_wp2_with (at_make; refine wpList_make_own _ rfl _ _ 37 rfl w.heap.size 3 i0 (.int .i64 0) 1 undSI hi hz0 hz1 .i64 .i64 _ xs.length rfl rfl rfl hby hmx (Nat.le_refl _) ?_; intro w1 hown1 hgr1)
  have hb1 := below_none hgr1
  clear hi hz0 hz1 hz2 hby
  go_loopw [3, 4] (fun v i wr => ∃ j : Nat, j ≤ xs.length ∧ i = .int .i64 ((j : Int) - 1) ∧ wr.ownsRow w.heap.size 3 1 v (xs.length - j) (ints (invW (xs.drop j))) ∧ Below w.heap.size w wr)
    (fun _ i _ => (intOf i + 1).toNat)
  case atStart => exact ⟨xs.length, Nat.le_refl _, rfl, by simpa [invW, ints] using hown1, hb1⟩
  case round =>
    obtain ⟨j, hj, rfl, hown, hb⟩ := hrel
    have hsz := hb.size
    cases j with
    | zero =>
      go_wp2_with fail
      go_ret
      exact RetI.mk (by rw [invW_len]) (by simpa using hown) hb
    | succ m =>
      rw [show (((m + 1 : Nat) : Int) - 1) = (m : Int) from by omega]
      obtain ⟨b, off, x, rfl, -, hx, hc⟩ := ((hr.more hB).below hb).int (show m < xs.length by omega)
      have hbx := HOK.out x (List.mem_of_getElem? hx)
      have HW := Lib.hid (wrap_neg hbx.1 hbx.2)
      have HX := Lib.hid hx
      clear hx hbx
      go_wp2_with (at_builtin; refine wpList_push rfl _ _ 37 rfl w.heap.size 3 (.int .i64 0) 1 8 undSI infoI rfl (by decide) _ _ _ rfl hown 1 [.int .i64 (wrap64 (-x))] rfl rfl ?c1 ?c2 ?c3 hsz ?next)
      case c1 => exact one_of_ints [wrap64 (-x)]
      case c2 => unfold maxLen; omega
      case c3 => omega
      case next =>
        intro v' w1 hown1 hgr _
        go_wp2_with fail
        go_roundw
        case rel =>
          refine ⟨m, by omega, rfl, ?_, hb.grown hgr hsz (fun g hg => (hown.lt g hg).1)⟩
          rw [drop_of xs HX.out, invW_cons, ints_append, show xs.length - m = xs.length - (m + 1) + 1 from by omega, ← HW.out]
          exact hown1
        case measure => simp [intOf]

/-! ### the halves -/
def halfN (xs : List Int) : Nat := (xs.length + 1) / 2
def halfA (xs : List Int) : List Int := xs.take (halfN xs)
def halfB (xs : List Int) : List Int := (invW xs).take (halfN xs)
def halves (xs : List Int) : List Int × List Int := if 0 < cmpW (halfA xs) (halfB xs) then (halfB xs, halfA xs) else (halfA xs, halfB xs)
theorem okI_invW {xs : List Int} (h : OkI xs) : OkI (invW xs) := by
  intro x hx
  unfold invW at hx
  rw [List.mem_reverse, List.mem_map] at hx
  obtain ⟨y, hy, rfl⟩ := hx
  have := h y hy
  unfold negI minI
  split <;> omega
/-- What both give back. -/
def RetHalves (xs : List Int) (w : World) (e : Ending) (w' : World) : Prop :=
  ∃ A c A' c', e = .returned (.tuple #[.slice A (halfN xs) c, .slice A' (halfN xs) c']) ∧ Rs w' w'.heap.size A (ints (halves xs).1) ∧ Rs w' w'.heap.size A' (ints (halves xs).2) ∧ Mid 0 0 w w'

theorem impl_InvertWordX (A : Option Addr) (xs : List Int) (c B : Nat) (w : World) (hr : Rs w B A (ints xs)) (hB : B ≤ w.heap.size) (hok : OkI xs) (hl : xs.length ≤ 4194304) :
    Calls Try.prog 107 #[.slice A xs.length c] w fun e w' => ∃ A2 c2, e = .returned (.slice A2 xs.length c2) ∧ xs.length ≤ c2 ∧ w'.ownsRow w.heap.size 3 1 (.slice A2 xs.length c2) xs.length (ints (invW xs)) ∧ Below w.heap.size w w' :=
  (impl_InvertWord A xs c B w hr hB hok hl).mono fun e w' h => by
    obtain ⟨A2, c2, he, ho, hb⟩ := h
    obtain ⟨A2', c2', he2, hn2, -⟩ := owns_shape ho
    injection he2 with he2a _ he2c
    subst he2a he2c
    rw [invW_len] at he hn2 ho
    exact ⟨A2, c2, he, hn2, ho, hb⟩

end Go.Proofs.Ytimmnnncgnnkgaa

/- Copies of lists of words: copyLists, l20Copy. -/
namespace Go.Proofs.Ytimmnnncgnnkgaa
set_option linter.unusedVariables false
set_option linter.unusedSimpArgs false
open Go.RowKit

theorem OwnRows.replace {w : World} {lo hi : Nat} {tI : TypeId} {rows : List Row} {base hi' k : Nat} {r : Row} (h : OwnRows w lo hi tI rows) (hr : w.ownsRow base tI 1 r.v r.xs.length (ints r.xs)) (hb : hi ≤ base) (hl : lo ≤ base) (hh : hi ≤ hi') (hs : hi' ≤ w.heap.size) (hlt : ∀ g, r.v.ownBlock = some g → g < hi') :
    OwnRows w lo hi' tI (rows.set k r) := by
  refine ⟨fun s hs' => ?_, ?_⟩
  · rcases List.mem_or_eq_of_mem_set hs' with hm | hm
    · exact (h.1 s hm).wide (Nat.le_refl _) hh hs
    · subst hm
      exact ⟨hs, owns_base hr hl, hlt⟩
  · have key : ∀ s ∈ rows, s.v.ownBlock = none ∨ (s.v.ownBlock ≠ r.v.ownBlock) := fun s hsm => by
      cases hv : s.v.ownBlock with
      | none => exact .inl rfl
      | some g =>
        refine .inr fun e => ?_
        have h1 := (h.1 s hsm).2.2 g hv
        have h2 := (hr.lt g e.symm).1
        omega
    rw [List.pairwise_iff_getElem]
    intro i j hi hj hij
    have hp := List.pairwise_iff_getElem.1 h.2 i j (by simpa using hi) (by simpa using hj) hij
    rw [List.getElem_set, List.getElem_set]
    have hi2 : i < rows.length := by simpa using hi
    have hj2 : j < rows.length := by simpa using hj
    split
    · split
      · omega
      · cases hv : r.v.ownBlock with
        | none => exact .inl rfl
        | some g =>
          refine .inr fun e => ?_
          rcases key rows[j] (List.getElem_mem _) with h1 | h1
          · rw [h1] at e; cases e
          · exact h1 (by rw [hv]; exact e.symm)
    · split
      · exact key rows[i] (List.getElem_mem _)
      · exact hp
theorem OwnRows.erase {w : World} {lo hi : Nat} {tI : TypeId} {rows : List Row} (k : Nat) (h : OwnRows w lo hi tI rows) : OwnRows w lo hi tI (rows.eraseIdx k) :=
  ⟨fun r hr => h.1 r (List.mem_of_mem_eraseIdx hr), h.2.sublist (List.eraseIdx_sublist _ _)⟩
set_option maxHeartbeats 400000 in
theorem impl_copyInts (A : Option Addr) (xs : List Int) (c : Nat) (w : World) (B : Nat) (hr : Rs w B A (ints xs)) (hB : B ≤ w.heap.size) (hl : xs.length ≤ 1099511627776) :
    Calls Try.prog 106 #[.slice A xs.length c] w fun e w' => ∃ A2 c2, e = .returned (.slice A2 xs.length c2) ∧ w'.ownsRow w.heap.size 3 1 (.slice A2 xs.length c2) xs.length (ints xs) ∧ Below w.heap.size w w' := by
  have hoe := owns_empty w 3 1
  have hra : Rs (w.alloc (.cells #[] 3)) B A (ints xs) := hr.alloc hB _
  have hla : (ints xs).length = xs.length * 1 := by rw [ints_len]; omega
  go_enter Try.func106, Try.ntmps106
  go_wp2_with (at_builtin; refine wpList_cat rfl _ _ 37 rfl w.heap.size 3 (.int .i64 0) 1 8 undSI infoI rfl (by decide) _ _ _ rfl hoe A xs.length c B (ints xs) rfl hra hla (one_of_ints _) ?c4 ?c5 ?c6 ?next)
  case c4 => unfold maxLen; omega
  case c5 => omega
  case c6 => simp
  case next =>
    intro v2 w2 ho2 hgr2 _
    try rw [Nat.zero_add, List.nil_append] at ho2
    go_wp2_with fail
    go_ret
    obtain ⟨A2, c2, rfl, -, -⟩ := owns_shape ho2
    exact ⟨A2, c2, rfl, ho2, ((Below.refl w.heap.size w).alloc (Nat.le_refl _) _).grown hgr2 (by simp) (fun g hg => (hoe.lt g hg).1)⟩

end Go.Proofs.Ytimmnnncgnnkgaa

/- Plain: the pairs of vertices that are reached from one, in order, and the edges among them. -/
namespace Go.Proofs.Ytimmnnncgnnkgaa
set_option linter.unusedVariables false
set_option linter.unusedSimpArgs false

abbrev PS := List (Int × Int)
/-- Where a letter leads a pair. -/
def pbNext (ea eb : List Ed) (p : Int × Int) (x : Int) : Int × Int := (nextV ea p.1 x, nextV eb p.2 x)
/-- One letter of the search. -/
def pbStep (ea eb : List Ed) (p : Int × Int) (st : PS) (x : Int) : PS :=
  if nextV ea p.1 x < 0 ∨ nextV eb p.2 x < 0 ∨ pbNext ea eb p x ∈ st then st else st ++ [pbNext ea eb p x]
def pbRow (ea eb : List Ed) (L : List Int) (p : Int × Int) (st : PS) : PS := L.foldl (pbStep ea eb p) st
def pbSt (ea eb : List Ed) (L : List Int) (p0 : Int × Int) : Nat → PS
  | 0 => [p0]
  | i + 1 => match (pbSt ea eb L p0 i)[i]? with
    | none => pbSt ea eb L p0 i
    | some p => pbRow ea eb L p (pbSt ea eb L p0 i)
def pairsOf (ea eb : List Ed) (L : List Int) (p0 : Int × Int) : PS := pbSt ea eb L p0 1601
/-- A pair's number. -/
def pcode (sb : Int) (p : Int × Int) : Int := p.1 * sb + p.2
/-- The pair lies in range. -/
def PIn (sa sb : Int) (p : Int × Int) : Prop := 0 ≤ p.1 ∧ p.1 < sa ∧ 0 ≤ p.2 ∧ p.2 < sb
theorem pcode_rng {sa sb : Int} {p : Int × Int} (h : PIn sa sb p) : 0 ≤ pcode sb p ∧ pcode sb p < sa * sb := by
  obtain ⟨h1, h2, h3, h4⟩ := h
  have k1 : 0 ≤ p.1 * sb := Int.mul_nonneg h1 (by omega)
  have k2 : (p.1 + 1) * sb ≤ sa * sb := Int.mul_le_mul_of_nonneg_right (by omega) (by omega)
  rw [Int.add_mul, Int.one_mul] at k2
  unfold pcode
  omega
theorem pcode_div {sa sb : Int} {p : Int × Int} (h : PIn sa sb p) : pcode sb p / sb = p.1 ∧ pcode sb p % sb = p.2 := by
  obtain ⟨h1, h2, h3, h4⟩ := h
  unfold pcode
  constructor
  · rw [Int.add_comm, Int.add_mul_ediv_right _ _ (by omega), Int.ediv_eq_zero_of_lt h3 h4, Int.zero_add]
  · rw [Int.add_comm, Int.add_mul_emod_self_right, Int.emod_eq_of_lt h3 h4]
theorem pcode_inj {sa sb : Int} {p q : Int × Int} (hp : PIn sa sb p) (hq : PIn sa sb q) (h : pcode sb p = pcode sb q) : p = q := by
  have h1 := pcode_div hp
  have h2 := pcode_div hq
  rw [h] at h1
  exact Prod.ext (h1.1.symm.trans h2.1) (h1.2.symm.trans h2.2)
structure PbOk (sa sb : Int) (st : PS) : Prop where
  nd : st.Nodup
  rng : ∀ p ∈ st, PIn sa sb p
theorem PbOk.codes {sa sb : Int} {st : PS} (h : PbOk sa sb st) : (st.map (pcode sb)).Nodup := by
  rw [List.Nodup, List.pairwise_map]
  exact (List.pairwise_iff_forall_sublist.2 fun {a b} hab hc => by
    have ha : a ∈ st := hab.subset (by simp)
    have hb : b ∈ st := hab.subset (by simp)
    have h1 := pcode_inj (h.rng a ha) (h.rng b hb) hc
    have h2 := (List.pairwise_iff_forall_sublist.1 h.nd) hab
    exact h2 h1)
theorem PbOk.len {sa sb : Int} {st : PS} (h : PbOk sa sb st) (ha : 0 ≤ sa) (hb : 0 ≤ sb) : (st.length : Int) ≤ sa * sb := by
  have h1 := nodup_le (sa * sb).toNat (st.map (pcode sb)) h.codes fun x hx => by
    obtain ⟨p, hp, rfl⟩ := List.mem_map.1 hx
    have h2 := pcode_rng (h.rng p hp)
    omega
  rw [List.length_map] at h1
  have h0 : 0 ≤ sa * sb := Int.mul_nonneg ha hb
  omega
theorem PbOk.start {sa sb : Int} {p0 : Int × Int} (h0 : PIn sa sb p0) : PbOk sa sb [p0] := ⟨by simp, fun p hp => by simp at hp; subst hp; exact h0⟩
theorem pbNext_in {r r' sa sb : Int} {ea eb : List Ed} (hga : ∀ e ∈ ea, InG r sa e) (hgb : ∀ e ∈ eb, InG r' sb e) (p : Int × Int) {x : Int} (h1 : ¬ nextV ea p.1 x < 0) (h2 : ¬ nextV eb p.2 x < 0) : PIn sa sb (pbNext ea eb p x) := by
  have k1 := nextV_cases hga p.1 x
  have k2 := nextV_cases hgb p.2 x
  unfold PIn pbNext
  omega
theorem PbOk.step {r r' sa sb : Int} {ea eb : List Ed} (hga : ∀ e ∈ ea, InG r sa e) (hgb : ∀ e ∈ eb, InG r' sb e) {st : PS} (h : PbOk sa sb st) (p : Int × Int) (x : Int) : PbOk sa sb (pbStep ea eb p st x) := by
  unfold pbStep
  split
  · exact h
  · rename_i hc
    have hc1 : ¬ nextV ea p.1 x < 0 := fun h => hc (.inl h)
    have hc2 : ¬ nextV eb p.2 x < 0 := fun h => hc (.inr (.inl h))
    have hc3 : pbNext ea eb p x ∉ st := fun h => hc (.inr (.inr h))
    refine ⟨?_, ?_⟩
    · rw [List.nodup_append]
      refine ⟨h.nd, by simp, ?_⟩
      intro a ha b hb
      simp at hb
      subst hb
      intro e
      subst e
      exact hc3 ha
    · intro q hq
      rcases List.mem_append.1 hq with hq | hq
      · exact h.rng q hq
      · simp at hq
        subst hq
        exact pbNext_in hga hgb p hc1 hc2
theorem PbOk.row {r r' sa sb : Int} {ea eb : List Ed} (hga : ∀ e ∈ ea, InG r sa e) (hgb : ∀ e ∈ eb, InG r' sb e) (p : Int × Int) : ∀ (K : List Int) {st : PS}, PbOk sa sb st → PbOk sa sb (pbRow ea eb K p st)
  | [], st, h => h
  | x :: K, st, h => PbOk.row hga hgb p K (h.step hga hgb p x)
/-- The edge of a pair's letter among pairs. -/
def pbEd (ea eb : List Ed) (P : PS) (i : Nat) (p : Int × Int) (x : Int) : Option Ed :=
  if nextV ea p.1 x < 0 ∨ nextV eb p.2 x < 0 then none else some ⟨i, x, (P.idxOf (pbNext ea eb p x) : Nat)⟩
def pbEs (ea eb : List Ed) (P : PS) (i : Nat) (p : Int × Int) (k : Nat) : List Ed := (List.range k).filterMap fun (j : Nat) => pbEd ea eb P i p ((j : Int) + 1)
/-- The edges of the first n pairs. -/
def pbAll (ea eb : List Ed) (r : Nat) (P : PS) : Nat → List Ed
  | 0 => []
  | n + 1 => pbAll ea eb r P n ++ (match P[n]? with | none => [] | some p => pbEs ea eb P n p r)
structure PullOk (r s : Int) (es : List Ed) (r' s' : Int) (es' : List Ed) (u v : Int) : Prop where
  f1 : IsFol r s es
  f2 : IsFol r' s' es'
  rk : r = r'
  u0 : 0 ≤ u ∧ u < s
  v0 : 0 ≤ v ∧ v < s'
  sz : (pairsOf es es' (lets r.toNat) (u, v)).length ≤ 40
  ln : (pbAll es es' r.toNat (pairsOf es es' (lets r.toNat) (u, v)) (pairsOf es es' (lets r.toNat) (u, v)).length).length ≤ 120
/-- The edges lie among the pairs. -/
def PClosed (ea eb : List Ed) (L : List Int) (P : PS) : Prop := ∀ p ∈ P, ∀ x ∈ L, ¬ nextV ea p.1 x < 0 → ¬ nextV eb p.2 x < 0 → pbNext ea eb p x ∈ P
/-- What PullbackAt gives. -/
def pullE (r : Int) (es es' : List Ed) (u v : Int) : List Ed := canon (pbAll es es' r.toNat (pairsOf es es' (lets r.toNat) (u, v)) (pairsOf es es' (lets r.toNat) (u, v)).length)
def PullIs (r s : Int) (es : List Ed) (r' s' : Int) (es' : List Ed) (u v : Int) (rr rs : Int) (res : List Ed) (b : Bool) : Prop :=
  (b = true ∧ PullOk r s es r' s' es' u v ∧ rr = r ∧ rs = ((pairsOf es es' (lets r.toNat) (u, v)).length : Int) ∧ res = pullE r es es' u v) ∨ (b = false ∧ ¬ PullOk r s es r' s' es' u v ∧ rr = 0 ∧ rs = 0 ∧ res = [])
theorem PullIs.no {r s : Int} {es : List Ed} {r' s' : Int} {es' : List Ed} {u v : Int} {rr rs : Int} {res : List Ed} {b : Bool} (h : PullIs r s es r' s' es' u v rr rs res b) (hn : ¬ PullOk r s es r' s' es' u v) : b = false ∧ rr = 0 ∧ rs = 0 ∧ res = [] := by
  rcases h with ⟨-, h, -⟩ | ⟨h1, -, h2⟩
  · exact absurd h hn
  · exact ⟨h1, h2⟩
theorem PullIs.yes {r s : Int} {es : List Ed} {r' s' : Int} {es' : List Ed} {u v : Int} {rr rs : Int} {res : List Ed} {b : Bool} (h : PullIs r s es r' s' es' u v rr rs res b) (hn : PullOk r s es r' s' es' u v) : b = true ∧ rr = r ∧ rs = ((pairsOf es es' (lets r.toNat) (u, v)).length : Int) ∧ res = pullE r es es' u v := by
  rcases h with ⟨h1, -, h2⟩ | ⟨-, h, -⟩
  · exact ⟨h1, h2⟩
  · exact absurd hn h
end Go.Proofs.Ytimmnnncgnnkgaa

/- l14Pairs, l14Edges, the reference. -/
namespace Go.Proofs.Ytimmnnncgnnkgaa
set_option linter.unusedVariables false
set_option linter.unusedSimpArgs false
open Go.RowKit

def MarkerX (P : Prop) : Prop := P
theorem MarkerX.to {P : Prop} (h : MarkerX P) : P := h
end Go.Proofs.Ytimmnnncgnnkgaa

/- wordsUpTo, the program. -/
namespace Go.Proofs.Ytimmnnncgnnkgaa
set_option linter.unusedVariables false
set_option linter.unusedSimpArgs false
open Go.RowKit

theorem okB_inv {w : List Int} {y x : Int} (hx : x ≠ 0) (hy : y ≠ 0) (hb : -3 ≤ y ∧ y ≤ 3) : okB (w ++ [y]) x = !(invB y x) := by
  rw [okB_snoc]
  congr 1
  unfold invB
  have h1 : (y == -x) = decide (x = -y) := by
    by_cases h : x = -y
    · simp [h]
    · have : ¬ y = -x := by omega
      simp [h, this]
  rw [h1]
  have h2 : ¬ y = minI := by unfold minI; omega
  simp [hy, h2]
theorem lay_pos {r : Nat} (hr : 1 ≤ r) (n : Nat) : 0 < (lay okB (lets r) n).length := by
  have h : ∀ n, List.replicate n (1 : Int) ∈ lay okB (lets r) n := by
    intro n
    induction n with
    | zero => simp [lay]
    | succ n ih =>
      rw [lay, mem_layStep]
      refine ⟨_, ih, 1, mem_lets.2 (by omega), ?_, List.replicate_succ'⟩
      cases n with
      | zero => rfl
      | succ n => rw [List.replicate_succ', okB_snoc]; rfl
  exact List.length_pos_of_mem (h n)
theorem pushE {w' : World} {lo : Nat} {A2 : Option Addr} {n c2 : Nat} {xs : List Int} {y : Int} (h : w'.ownsRow lo 3 1 (.slice A2 (n + 1) c2) (n + 1) (ints (xs ++ [y]))) (hl : xs.length = n) : w'.ownsRow lo 3 1 (Row.v ⟨A2, c2, xs ++ [y]⟩) (xs ++ [y]).length (ints (xs ++ [y])) := by
  have : (xs ++ [y]).length = n + 1 := by rw [List.length_append, hl]; rfl
  unfold Row.v
  rw [this]
  exact h

set_option maxHeartbeats 6400000 in
set_option maxRecDepth 100000 in
theorem impl_wordsUpTo (r n : Nat) (w : World) (hr1 : 1 ≤ r) (hr : r ≤ 3) (hn : n ≤ 4) :
    Calls Try.prog 77 #[.int .i64 r, .int .i64 n] w fun e w' => ∃ A1 c1, e = .returned (.slice A1 (pre okB (lets r) (n + 1)).length c1) ∧ OSS w' w.heap.size w'.heap.size 37 3 A1 c1 (pre okB (lets r) (n + 1)) ∧ Mid 0 0 w w' := by
  have hLL : (lets r).length ≤ 6 := by rw [lets_len]; omega
  have HLB := Lib.hid (fun k (hk : k ≤ 5) => lay_b (f := okB) hLL hk)
  have HPB := Lib.hid (fun k (hk : k ≤ 6) => pre_b (f := okB) hLL hk)
  have hm0 : Mid 0 0 w ((w.alloc (.cells #[] 3)).alloc (.cells #[.slice (some ⟨w.heap.size, 0, none⟩) 0 0] 37)) := (Mid.alloc _ _).trans (Mid.alloc _ _)
  have O0 := (owns_empty w 3 1).alloc (.cells #[.slice (some ⟨w.heap.size, 0, none⟩) 0 0] 37)
  have O1 := owns_lit (w.alloc (.cells #[] 3)) 37 (.slice (some ⟨w.heap.size, 0, none⟩) 0 0)
  simp only [World.size_alloc] at O1
  have hG0 : Grp ((w.alloc (.cells #[] 3)).alloc (.cells #[.slice (some ⟨w.heap.size, 0, none⟩) 0 0] 37)) w.heap.size w.heap.size w.heap.size (some ⟨w.heap.size + 1, 0, none⟩) 1 1 [⟨some ⟨w.heap.size, 0, none⟩, 0, []⟩] none [] :=
    ⟨owns_base O1 (Nat.le_succ _), ⟨fun r hr => by rw [List.mem_singleton] at hr; subst hr; exact ⟨Nat.le_refl _, O0, fun g hg => (O0.lt g hg).2⟩, by simp⟩, RSS.nil (by simp; omega), fun g hg => by injection hg with hg; simp only at hg; omega, Nat.le_refl _⟩
  go_enter Try.func77, Try.ntmps77
  go_wp2_with fail
  generalize (w.alloc (.cells #[] 3)).alloc (.cells #[.slice (some ⟨w.heap.size, 0, none⟩) 0 0] 37) = w1 at hm0 hG0 ⊢
  have HG0 := Lib.hid hG0
  generalize (some (⟨w.heap.size + 1, 0, none⟩ : Addr)) = A0 at HG0 ⊢
  have HD0 : Hid (rowsD [(⟨some ⟨w.heap.size, 0, none⟩, 0, []⟩ : Row)] = pre okB (lets r) (0 + 1)) := Lib.hid rfl
  have HF0 : Hid ((pre okB (lets r) 0).length = 0) := Lib.hid rfl
  generalize [(⟨some ⟨w.heap.size, 0, none⟩, 0, []⟩ : Row)] = rows00 at HG0 HD0
  clear O0 O1 hG0
  go_loopw [5, 6, 7] (fun ov fv nv wr => ∃ (k fr n1 : Nat) (rows : List Row) (A1 : Option Addr) (c1 : Nat), nv = .int .i64 k ∧ fv = .int .i64 fr ∧ ov = .slice A1 n1 c1 ∧ Hid (k ≤ n) ∧ Hid ((pre okB (lets r) k).length = fr) ∧ Hid (rowsD rows = pre okB (lets r) (k + 1)) ∧ Hid (Grp wr w.heap.size w.heap.size w.heap.size A1 n1 c1 rows none []) ∧ Mid 0 0 w wr) (fun _ _ nv _ => n - (intOf nv).toNat)
  case atStart => exact ⟨0, 0, 1, rows00, A0, 1, rfl, rfl, rfl, Lib.hid (Nat.zero_le _), HF0, HD0, HG0, hm0⟩
  case round =>
    clear HF0 HD0 HG0 hm0
    obtain ⟨wo, hwo⟩ : ∃ wo, wo = wr := ⟨_, rfl⟩
    subst hwo
    obtain ⟨k, fr, n1, rows, A1, c1, rfl, rfl, rfl, HK, HF, HD, HG, hm⟩ := hrel
    have hkn := HK.out
    have hn1 : n1 = fr + (lay okB (lets r) k).length := by
      have h1 := HG.out.len
      have h2 := congrArg List.length HD.out
      rw [rowsD_len, pre, List.length_append, HF.out] at h2
      omega
    by_cases hlt : k < n
    · have hk1 : (k : Int) < (n : Int) := by omega
      obtain ⟨ln, hln⟩ : ∃ ln, (lay okB (lets r) k).length = ln := ⟨_, rfl⟩
      have hlb : ln ≤ 7776 := by rw [← hln]; exact HLB.out k (by omega)
      have hfb : fr ≤ 40000 := by have h1 := HPB.out k (by omega); have h2 := HF.out; omega
      rw [hln] at hn1
      have hln0 : 0 < ln := by rw [← hln]; exact lay_pos hr1 k
      obtain ⟨g0, hA1, hg0, hg0s⟩ := owns_addr HG.out.out (show 0 < n1 by omega)
      subst hA1
      have hnc : n1 ≤ c1 := by obtain ⟨_, _, e, h1, h2⟩ := owns_shape HG.out.out; injection e with _ _ e; omega
      have hcm : c1 ≤ maxLen := by obtain ⟨_, _, e, h1, h2⟩ := owns_shape HG.out.out; injection e with _ _ e; omega
      have hcf : ¬ c1 = fr := by omega
      have i1 : (fr : Int) ≤ (n1 : Int) := by omega
      have i2 : (n1 : Int) ≤ (c1 : Int) := by omega
      have i3 : (0 : Int) ≤ (fr : Int) := by omega
      have HLN := Lib.hid hln
      have HN1 := Lib.hid hn1
      clear hln hn1
      have hsub : n1 - fr = ln := by have := HN1.out; omega
      have hold : OldRows wo g0 rows := ⟨hg0s, fun j u hu => (HG.out.out.cellAt j (by have h1 := (List.getElem?_eq_some_iff.1 hu).1; have h2 := HG.out.len; rw [rowsV_len] at h1; omega)).trans hu⟩
      have HOLD := Lib.hid hold
      have HRL := Lib.hid HG.out.len
      go_wp2_with fail
      generalize (some (⟨g0, 0, none⟩ : Addr)) = A2 at HG ⊢
      have HD1 : Hid (rowsD rows = pre okB (lets r) (k + 1) ++ layStep okB (lets r) ((lay okB (lets r) k).take 0)) := Lib.hid (by rw [HD.out]; simp [layStep])
      clear hold hsub
      go_loopw [5, 27] (fun ov jv wr => ∃ (j n2 : Nat) (rows2 : List Row) (A3 : Option Addr) (c3 : Nat), jv = .int .i64 j ∧ ov = .slice A3 n2 c3 ∧ Hid (j ≤ ln) ∧ Hid (rows <+: rows2) ∧ Hid (rowsD rows2 = pre okB (lets r) (k + 1) ++ layStep okB (lets r) ((lay okB (lets r) k).take j)) ∧ Hid (Grp wr w.heap.size w.heap.size w.heap.size A3 n2 c3 rows2 none []) ∧ Hid (OldRows wr g0 rows) ∧ Mid 0 0 w wr) (fun _ jv _ => ln - (intOf jv).toNat)
      case atStart => exact ⟨0, n1, rows, A2, c1, rfl, rfl, Lib.hid (Nat.zero_le _), Lib.hid (List.prefix_refl _), HD1, HG, HOLD, hm⟩
      case round =>
        clear HG HOLD hm HD1 hg0 hg0s
        obtain ⟨wp, hwp⟩ : ∃ wp, wp = wr := ⟨_, rfl⟩
        subst hwp
        obtain ⟨j, n2, rows2, A3, c3, rfl, rfl, HJ, HPF, HD2, HG, HOLD, hm⟩ := hrel
        have hjl := HJ.out
        have hn2 : n2 ≤ 50000 := by
          have h1 := HG.out.len
          have h2 := congrArg List.length HD2.out
          have h3 := HPB.out (k + 1) (by omega)
          have h4 := layStep_len (f := okB) (L := lets r) ((lay okB (lets r) k).take j)
          have h5 : ((lay okB (lets r) k).take j).length ≤ 1296 := by
            have h6 := lay_len (f := okB) hLL k
            have h7 : 6 ^ k ≤ 6 ^ 4 := Nat.pow_le_pow_right (by omega) (by omega)
            rw [List.length_take]
            omega
          have h8 : ((lay okB (lets r) k).take j).length * (lets r).length ≤ 1296 * 6 := Nat.mul_le_mul h5 hLL
          rw [rowsD_len, List.length_append] at h2
          omega
        by_cases hlt2 : j < ln
        · obtain ⟨wd, hwd⟩ := get_of_lt (lay okB (lets r) k) (show j < (lay okB (lets r) k).length by rw [HLN.out]; exact hlt2)
          obtain ⟨hwk, hwl⟩ := lay_ok (List.mem_of_getElem? hwd)
          have HWL := Lib.hid hwl
          have hj0 : (0 : Int) ≤ (j : Int) := by omega
          have hj1 : (j : Int) < (ln : Int) := by omega
          obtain ⟨rr, hrr⟩ := get_of_lt rows (show fr + j < rows.length by rw [HRL.out]; have := HN1.out; omega)
          have hxs : rr.xs = wd := by
            have h1 : (rowsD rows)[fr + j]? = some rr.xs := by simp [rowsD, hrr]
            rw [HD.out, pre, List.getElem?_append_right (by rw [HF.out]; omega), HF.out, Nat.add_sub_cancel_left, hwd] at h1
            injection h1 with h1
            exact h1.symm
          have hce := HOLD.out.2 (fr + j) rr.v (by simp [rowsV, hrr])
          have hg0s := HOLD.out.1
          have hmem : rr ∈ rows2 := HPF.out.subset (List.mem_of_getElem? hrr)
          have hrv := OV.rv (HG.out.rows.1 rr hmem)
          have HMEM0 := Lib.hid hmem
          obtain ⟨Aw, cw, xw⟩ := rr
          simp only at hxs hrv
          subst hxs
          have hce' : wp.cell? ⟨g0, fr + j, none⟩ = some (.slice Aw k cw) := by rw [hce]; simp only [Row.v, hwk]
          have HRV := Lib.hid hrv
          have HWK := Lib.hid hwk
          have HLS := Lib.hid (layStep_take (f := okB) (L := lets r) hwd)
          clear hce hrr hmem hrv hwd hwk hwl
          go_wp2_with fail
          with_reducible refine (impl_lettersO r _ (by omega)).mono ?_
          rintro en w8 ⟨A8, c8, rfl, hL8, hm8⟩
          have hs8 := hm8.size
          replace HG := Lib.hid (HG.out.mid hm8)
          replace HOLD := Lib.hid (HOLD.out.mid hm8 (Or.inr (Nat.zero_le _)))
          have hmm := hm.trans hm8
          obtain ⟨LL, hLe⟩ : ∃ LL, (lets r).length = LL := ⟨_, rfl⟩
          rw [hLe] at hL8 ⊢
          have hLL6 : LL ≤ 6 := by omega
          have HLe := Lib.hid hLe
          have HLT := Lib.hid hL8
          have HD3 : Hid (rowsD rows2 = (pre okB (lets r) (k + 1) ++ layStep okB (lets r) ((lay okB (lets r) k).take j)) ++ oneW okB ((lets r).take 0) xw) := Lib.hid (by rw [HD2.out]; simp [oneW])
          generalize wp.heap.size = Lp at HLT
          clear hL8 hm8 hLe HRV hce' hm HD2
          go_wp2_with fail
          go_loopw [5, 34] (fun ov iv wr => ∃ (i n3 : Nat) (rows3 : List Row) (A4 : Option Addr) (c4 : Nat), iv = .int .i64 i ∧ ov = .slice A4 n3 c4 ∧ Hid (i ≤ LL) ∧ Hid (rows <+: rows3) ∧ Hid ((⟨Aw, cw, xw⟩ : Row) ∈ rows3) ∧ Hid (rowsD rows3 = (pre okB (lets r) (k + 1) ++ layStep okB (lets r) ((lay okB (lets r) k).take j)) ++ oneW okB ((lets r).take i) xw) ∧ Hid (Grp wr w.heap.size w.heap.size w.heap.size A4 n3 c4 rows3 none []) ∧ Hid (OldRows wr g0 rows) ∧ Hid (wr.ownsRow Lp 3 1 (.slice A8 LL c8) LL (ints (lets r))) ∧ Mid 0 0 w wr) (fun _ iv _ => LL - (intOf iv).toNat)
          case atStart => exact ⟨0, n2, rows2, A3, c3, rfl, rfl, Lib.hid (Nat.zero_le _), HPF, HMEM0, HD3, HG, HOLD, HLT, hmm⟩
          case round =>
            clear HG HOLD HLT HD3 HPF HMEM0 hmm hg0s
            obtain ⟨wq, hwq⟩ : ∃ wq, wq = wr := ⟨_, rfl⟩
            subst hwq
            obtain ⟨i, n3, rows3, A4, c4, rfl, rfl, HI, HPF, HMEM, HD3, HG, HOLD, HLT, hm⟩ := hrel
            have hiL := HI.out
            have hn3 : n3 ≤ 60000 := by
              have h1 := HG.out.len
              have h2 := congrArg List.length HD3.out
              have h3 := HPB.out (k + 1) (by omega)
              have h4 := layStep_len (f := okB) (L := lets r) ((lay okB (lets r) k).take j)
              have h5 : ((lay okB (lets r) k).take j).length ≤ 1296 := by
                have h6 := lay_len (f := okB) hLL k
                have h7 : 6 ^ k ≤ 6 ^ 4 := Nat.pow_le_pow_right (by omega) (by omega)
                rw [List.length_take]
                omega
              have h8 : ((lay okB (lets r) k).take j).length * (lets r).length ≤ 1296 * 6 := Nat.mul_le_mul h5 hLL
              have h9 := oneW_len (f := okB) (L := (lets r).take i) xw
              have h10 : ((lets r).take i).length ≤ 6 := by rw [List.length_take]; omega
              rw [rowsD_len, List.length_append, List.length_append] at h2
              omega
            have hrv := OV.rv (HG.out.rows.1 _ HMEM.out)
            simp only at hrv
            by_cases hlt3 : i < LL
            · obtain ⟨x, hx⟩ := get_of_lt (lets r) (show i < (lets r).length by rw [HLe.out]; exact hlt3)
              have hxm := mem_lets.1 (List.mem_of_getElem? hx)
              have HX := Lib.hid hx
              obtain ⟨g8, hA8, hg8, hg8s⟩ := owns_addr HLT.out (show 0 < LL by omega)
              subst hA8
              have hcx : wq.cell? ⟨g8, i, none⟩ = some (.int .i64 x) := (HLT.out.cellAt i (by omega)).trans (by rw [ints_get, hx]; rfl)
              have hi0 : (0 : Int) ≤ (i : Int) := by omega
              have hi1 : (i : Int) < (LL : Int) := by omega
              clear hx
              rcases List.eq_nil_or_concat xw with hnil | ⟨ws, y, hcc⟩
              · have hk0 : k = 0 := by have := HWK.out; rw [hnil] at this; exact this.symm
                have hkb : ((k : Int) == 0) = true := by simp [hk0]
                have hokb : okB xw x = true := by rw [hnil]; rfl
                clear hnil hk0
                have hCP := impl_copyInts Aw xw cw wq _ (hrv.rs) hrv.1 (by rw [HWK.out]; omega)
                rw [HWK.out] at hCP
                go_wp2_with fail
                with_reducible refine hCP.mono ?_
                rintro en w10 ⟨A10, c10, rfl, ho10, hbe10⟩
                have hm10 : Mid 0 0 wq w10 := Mid.of_below hbe10
                have hs10 := hm10.size
                have HO10 := Lib.hid ho10
                clear hCP ho10 hbe10 hrv
                go_wp2_with (at_builtin; refine MarkerX.to ?_)
                unfold MarkerX
                refine wpList_pushI2 rfl _ _ rfl wq.heap.size _ k _ xw rfl HO10.out x rfl (by omega) hs10 ?_
                intro A12 c12 w12 ho12 hgr12 hat12
                have hm12 : Mid 0 0 wq w12 := hm10.transNew (Mid.of_grownRow HO10.out hgr12) (Or.inl (Nat.le_refl _))
                have hrow := Lib.hid (pushE ho12 HWK.out)
                have hu : Hid (Row.v ⟨A12, c12, xw ++ [x]⟩ = .slice A12 (k + 1) c12) := Lib.hid (by simp only [Row.v, List.length_append, HWK.out, List.length_singleton])
                clear ho12 hgr12 hat12 hm10 HO10
                go_wp2_with (at_builtin; refine MarkerX.to ?_)
                unfold MarkerX
                refine wpList_pushGO rfl _ _ rfl rfl HG.out hm12 HOLD.out HPF.out ⟨A12, c12, xw ++ [x]⟩ (.slice A12 (k + 1) c12) hu.out hrow.out rfl (by omega) ?_
                intro A14 c14 w14 hG14 hO14 hgr14 hm14
                have HG2 := Lib.hid hG14
                have HO2 := Lib.hid hO14
                have HLT2 := Lib.hid ((owns_mid HLT.out hm12 (Or.inl (Nat.zero_le _))).kept hgr14 (owns_ne (owns_mid HLT.out hm12 (Or.inl (Nat.zero_le _))) (HG.out.mid hm12).out (by decide)))
                have hm2 := (hm.trans hm12).transNew hm14 (Or.inl (Nat.le_refl _))
                have HD4 : Hid (rowsD (rows3 ++ [(⟨A12, c12, xw ++ [x]⟩ : Row)]) = (pre okB (lets r) (k + 1) ++ layStep okB (lets r) ((lay okB (lets r) k).take j)) ++ oneW okB ((lets r).take (i + 1)) xw) := Lib.hid (by
                  rw [oneW_yes HX.out hokb, rowsD_append, HD3.out]
                  simp [rowsD])
                have HP2 : Hid (rows <+: rows3 ++ [(⟨A12, c12, xw ++ [x]⟩ : Row)]) := Lib.hid (HPF.out.trans (List.prefix_append _ _))
                have HM2 : Hid ((⟨Aw, cw, xw⟩ : Row) ∈ rows3 ++ [(⟨A12, c12, xw ++ [x]⟩ : Row)]) := Lib.hid (List.mem_append_left _ HMEM.out)
                clear hG14 hO14 hgr14 hm14 hm12 hrow hu HG HOLD HLT HD3 HPF HMEM hm
                go_wp2_with fail
                go_roundw
                case rel => exact ⟨i + 1, n3 + 1, _, A14, c14, by go_num, rfl, Lib.hid (by omega), HP2, HM2, HD4, HG2, HO2, HLT2, hm2⟩
                case measure => simp [intOf]; omega
              · have hkm : k = ws.length + 1 := by have := HWK.out; rw [hcc, List.length_concat] at this; exact this.symm
                have hkb : ((k : Int) == 0) = false := by simp; omega
                obtain ⟨m, hm'⟩ : ∃ m, ws.length = m := ⟨_, rfl⟩
                have hk1 : (k : Int) - 1 = (m : Int) := by omega
                have hym : y ∈ xw := by rw [hcc]; simp
                have hyl := mem_lets.1 (HWL.out y hym)
                have hgx : xw[m]? = some y := by rw [hcc, List.concat_eq_append, List.getElem?_append_right (by omega), ← hm']; simp
                obtain ⟨bw, ow, y', hAw, hbw, hgy, hcy⟩ := hrv.at (k := m) (by rw [HWK.out]; omega)
                subst hAw
                rw [hgx] at hgy
                injection hgy with hgy
                subst hgy
                have hbws : bw < wq.heap.size := Nat.lt_of_lt_of_le hbw hrv.1
                have hm0 : (0 : Int) ≤ (m : Int) := by omega
                have hm1 : (m : Int) < (k : Int) := by omega
                have hiv := okB_inv (w := ws) (y := y) (x := x) (by omega) (by omega) (by omega)
                rw [← List.concat_eq_append, ← hcc] at hiv
                have hA := impl_areInverse y x wq (by omega) (by omega)
                clear hcc hym hgx hm' hkm
                go_wp2_with fail
                with_reducible refine hA.mono ?_
                rintro en w9 ⟨rfl, rfl⟩
                obtain ⟨bb, hbb⟩ : ∃ bb, invB y x = bb := ⟨_, rfl⟩
                rw [hbb] at hiv ⊢
                clear hbb hA hcy
                cases bb with
                | true =>
                  have hokb : okB xw x = false := hiv
                  have HD4 : Hid (rowsD rows3 = (pre okB (lets r) (k + 1) ++ layStep okB (lets r) ((lay okB (lets r) k).take j)) ++ oneW okB ((lets r).take (i + 1)) xw) := Lib.hid (by rw [oneW_no HX.out hokb]; exact HD3.out)
                  clear HD3 hiv hokb
                  go_wp2_with fail
                  go_roundw
                  case rel => exact ⟨i + 1, n3, rows3, A4, c4, by go_num, rfl, Lib.hid (by omega), HPF, HMEM, HD4, HG, HOLD, HLT, hm⟩
                  case measure => simp [intOf]; omega
                | false =>
                  have hokb : okB xw x = true := hiv
                  clear hiv
                  have hCP := impl_copyInts (some ⟨bw, ow, none⟩) xw cw wq _ (hrv.rs) hrv.1 (by rw [HWK.out]; omega)
                  rw [HWK.out] at hCP
                  go_wp2_with fail
                  with_reducible refine hCP.mono ?_
                  rintro en w10 ⟨A10, c10, rfl, ho10, hbe10⟩
                  have hm10 : Mid 0 0 wq w10 := Mid.of_below hbe10
                  have hs10 := hm10.size
                  have HO10 := Lib.hid ho10
                  clear hCP ho10 hbe10 hrv
                  go_wp2_with (at_builtin; refine MarkerX.to ?_)
                  unfold MarkerX
                  refine wpList_pushI2 rfl _ _ rfl wq.heap.size _ k _ xw rfl HO10.out x rfl (by omega) hs10 ?_
                  intro A12 c12 w12 ho12 hgr12 hat12
                  have hm12 : Mid 0 0 wq w12 := hm10.transNew (Mid.of_grownRow HO10.out hgr12) (Or.inl (Nat.le_refl _))
                  have hrow := Lib.hid (pushE ho12 HWK.out)
                  have hu : Hid (Row.v ⟨A12, c12, xw ++ [x]⟩ = .slice A12 (k + 1) c12) := Lib.hid (by simp only [Row.v, List.length_append, HWK.out, List.length_singleton])
                  clear ho12 hgr12 hat12 hm10 HO10
                  go_wp2_with (at_builtin; refine MarkerX.to ?_)
                  unfold MarkerX
                  refine wpList_pushGO rfl _ _ rfl rfl HG.out hm12 HOLD.out HPF.out ⟨A12, c12, xw ++ [x]⟩ (.slice A12 (k + 1) c12) hu.out hrow.out rfl (by omega) ?_
                  intro A14 c14 w14 hG14 hO14 hgr14 hm14
                  have HG2 := Lib.hid hG14
                  have HO2 := Lib.hid hO14
                  have HLT2 := Lib.hid ((owns_mid HLT.out hm12 (Or.inl (Nat.zero_le _))).kept hgr14 (owns_ne (owns_mid HLT.out hm12 (Or.inl (Nat.zero_le _))) (HG.out.mid hm12).out (by decide)))
                  have hm2 := (hm.trans hm12).transNew hm14 (Or.inl (Nat.le_refl _))
                  have HD4 : Hid (rowsD (rows3 ++ [(⟨A12, c12, xw ++ [x]⟩ : Row)]) = (pre okB (lets r) (k + 1) ++ layStep okB (lets r) ((lay okB (lets r) k).take j)) ++ oneW okB ((lets r).take (i + 1)) xw) := Lib.hid (by
                    rw [oneW_yes HX.out hokb, rowsD_append, HD3.out]
                    simp [rowsD])
                  have HP2 : Hid (rows <+: rows3 ++ [(⟨A12, c12, xw ++ [x]⟩ : Row)]) := Lib.hid (HPF.out.trans (List.prefix_append _ _))
                  have HM2 : Hid ((⟨(some ⟨bw, ow, none⟩), cw, xw⟩ : Row) ∈ rows3 ++ [(⟨A12, c12, xw ++ [x]⟩ : Row)]) := Lib.hid (List.mem_append_left _ HMEM.out)
                  clear hG14 hO14 hgr14 hm14 hm12 hrow hu HG HOLD HLT HD3 HPF HMEM hm
                  go_wp2_with fail
                  go_roundw
                  case rel => exact ⟨i + 1, n3 + 1, _, A14, c14, by go_num, rfl, Lib.hid (by omega), HP2, HM2, HD4, HG2, HO2, HLT2, hm2⟩
                  case measure => simp [intOf]; omega
            · obtain rfl : LL = i := by omega
              have HD4 : Hid (rowsD rows3 = pre okB (lets r) (k + 1) ++ layStep okB (lets r) ((lay okB (lets r) k).take (j + 1))) := Lib.hid (by have h : (lets r).take LL = lets r := List.take_of_length_le (by rw [HLe.out]; exact Nat.le_refl _); rw [HLS.out, ← List.append_assoc, HD3.out, h])
              clear HD3 hrv
              go_wp2_with fail
              go_roundw
              case rel => exact ⟨j + 1, n3, rows3, A4, c4, by go_num, rfl, Lib.hid (by omega), HPF, HD4, HG, HOLD, hm⟩
              case measure => simp [intOf]; omega
        · obtain rfl : ln = j := by omega
          have HD3 : Hid (rowsD rows2 = pre okB (lets r) (k + 1 + 1)) := Lib.hid (by rw [HD2.out, List.take_of_length_le (by rw [HLN.out]; exact Nat.le_refl _)]; rfl)
          have HF3 : Hid ((pre okB (lets r) (k + 1)).length = n1) := Lib.hid (by rw [pre, List.length_append, HF.out, HLN.out]; exact HN1.out.symm)
          clear HD2 HOLD HPF
          go_wp2_with fail
          go_roundw
          case rel => exact ⟨k + 1, n1, n2, rows2, A3, c3, by go_num, rfl, rfl, Lib.hid (by omega), HF3, HD3, HG, hm⟩
          case measure => simp [intOf]; omega
    · obtain rfl : n = k := by omega
      have hl1 := HG.out.len
      have hl2 : (pre okB (lets r) (n + 1)).length = n1 := by rw [← HD.out, rowsD_len, hl1]
      have HO := Lib.hid (OSS.mk' HG.out.out (HG.out.rows.wide HG.out.lob (Nat.le_refl _) (Nat.le_refl _)) HD.out)
      have HL2 := Lib.hid hl2
      clear hl1 hl2
      go_wp2_with fail
      go_ret
      exact ⟨A1, c1, by rw [HL2.out]; rfl, HO.out, hm⟩
end Go.Proofs.Ytimmnnncgnnkgaa

/- Words, letter by letter: what IsWord tests, in plain Lean. -/
namespace Go.Proofs.Ytimmnnncgnnkgaa
set_option linter.unusedVariables false
open Go.RowKit

/-- The first k letters are letters, and none is the inverse of the one ahead of it. -/
def WordTo (rank : Int) (xs : List Int) (k : Nat) : Prop :=
  ∀ j x, j < k → xs[j]? = some x → letB rank x = true ∧ ∀ y, 0 < j → xs[j - 1]? = some y → invB y x = false
theorem WordTo.zero (rank : Int) (xs : List Int) : WordTo rank xs 0 := fun j x h => absurd h (Nat.not_lt_zero j)
theorem WordTo.succ {rank : Int} {xs : List Int} {k : Nat} {x : Int} (h : WordTo rank xs k) (hx : xs[k]? = some x) (hl : letB rank x = true) (hp : ∀ y, 0 < k → xs[k - 1]? = some y → invB y x = false) : WordTo rank xs (k + 1) := by
  intro j z hj hz
  rcases Nat.lt_or_eq_of_le (Nat.le_of_lt_succ hj) with h1 | rfl
  · exact h j z h1 hz
  · rw [hx] at hz
    obtain rfl := Option.some.inj hz
    exact ⟨hl, hp⟩
theorem wordTo_all {rank : Int} {xs : List Int} (h1 : 1 ≤ rank) (h3 : rank ≤ 3) : WordTo rank xs xs.length ↔ WordP rank xs := by
  constructor
  · intro h
    refine ⟨fun x hx => ?_, fun k x y hx hy he => ?_⟩
    · obtain ⟨j, hj⟩ := List.mem_iff_getElem?.1 hx
      have := (h j x (List.getElem?_eq_some_iff.1 hj).1 hj).1
      simpa [letB] using this
    · have hl := (List.getElem?_eq_some_iff.1 hy).1
      have h2 := (h (k + 1) y hl hy).2 x (Nat.succ_pos k) (by simpa using hx)
      have h4 := (h k x (by omega) hx).1
      simp [letB] at h4
      have : invB x y = true := (invB_iff x y).2 ⟨h4.1, by unfold minI; omega, he⟩
      rw [this] at h2
      cases h2
  · rintro ⟨ha, hb⟩ j x hj hx
    refine ⟨by simpa [letB] using ha x (List.mem_of_getElem? hx), fun y h0 hy => ?_⟩
    cases hv : invB y x with
    | false => rfl
    | true => exact absurd ((invB_iff y x).1 hv).2.2 (hb (j - 1) y x hy (by rw [Nat.sub_add_cancel h0]; exact hx))

/-- What the reference tests of one letter. -/
def RawAt (rank : Int) (xs : List Int) (j : Nat) (x : Int) : Prop := (x == 0) = false ∧ inB x (wrap64 (-rank)) rank = true ∧ ∀ y, 0 < j → xs[j - 1]? = some y → (x == wrap64 (-y)) = false
def RawTo (rank : Int) (xs : List Int) (k : Nat) : Prop := ∀ j x, j < k → xs[j]? = some x → RawAt rank xs j x
theorem RawTo.zero (rank : Int) (xs : List Int) : RawTo rank xs 0 := fun j x h => absurd h (Nat.not_lt_zero j)
theorem RawTo.succ {rank : Int} {xs : List Int} {k : Nat} {x : Int} (h : RawTo rank xs k) (hx : xs[k]? = some x) (hp : RawAt rank xs k x) : RawTo rank xs (k + 1) := by
  intro j z hj hz
  rcases Nat.lt_or_eq_of_le (Nat.le_of_lt_succ hj) with h1 | rfl
  · exact h j z h1 hz
  · rw [hx] at hz
    obtain rfl := Option.some.inj hz
    exact hp
theorem rawTo_all {rank : Int} {xs : List Int} (h1 : 1 ≤ rank) (h3 : rank ≤ 3) : RawTo rank xs xs.length ↔ WordP rank xs := by
  have hw : wrap64 (-rank) = -rank := by rw [wrap_neg (by omega) (by omega)]; unfold negI minI; rw [if_neg (by omega)]
  have hwy : ∀ y, -rank ≤ y → y ≤ rank → wrap64 (-y) = -y := fun y ha hb => by rw [wrap_neg (by omega) (by omega)]; unfold negI minI; rw [if_neg (by omega)]
  unfold RawTo RawAt
  rw [hw]
  constructor
  · intro h
    refine ⟨fun x hx => ?_, fun k x y hx hy he => ?_⟩
    · obtain ⟨j, hj⟩ := List.mem_iff_getElem?.1 hx
      have := h j x (List.getElem?_eq_some_iff.1 hj).1 hj
      simp [inB] at this
      exact ⟨this.1, this.2.1⟩
    · have hl := (List.getElem?_eq_some_iff.1 hy).1
      have h2 := (h (k + 1) y hl hy).2.2 x (Nat.succ_pos k) (by simpa using hx)
      have h4 := (h k x (by omega) hx).2.1
      simp [inB] at h4
      rw [hwy x h4.1 h4.2, he] at h2
      simp at h2
  · rintro ⟨ha, hb⟩ j x hj hx
    have h0 := ha x (List.mem_of_getElem? hx)
    refine ⟨by simpa using h0.1, by simpa [inB] using h0.2, fun y hp hy => ?_⟩
    have h5 := ha y (List.mem_of_getElem? hy)
    rw [hwy y h5.2.1 h5.2.2]
    have := hb (j - 1) y x hy (by rw [Nat.sub_add_cancel hp]; exact hx)
    simpa using this
end Go.Proofs.Ytimmnnncgnnkgaa

/- IsWord, both sides. -/
namespace Go.Proofs.Ytimmnnncgnnkgaa
set_option linter.unusedVariables false
set_option linter.unusedSimpArgs false
open Go.RowKit

set_option maxHeartbeats 1600000 in
theorem impl_IsWord (rank : Int) (A : Option Addr) (xs : List Int) (c : Nat) (w : World) (B : Nat) (hr : Rs w B A (ints xs)) (hok : OkI xs) (hl : xs.length ≤ 4194304) (r : Bool) (hres : r = true ↔ IsW rank xs) :
    Calls Try.prog 99 #[.int .i64 rank, .slice A xs.length c] w fun e w' => e = .returned (.bool r) ∧ w = w' := by
  have HOK := Lib.hid hok
  have HR := Lib.hid hres
  clear hok hres
  by_cases hb : inB rank 1 3 = false
  · have hf : r = false := by
      cases r with
      | false => rfl
      | true =>
        have h := HR.out.1 rfl
        simp [inB] at hb
        have := h.1
        have := h.2.1
        omega
    subst hf
    have HB := Lib.hid hb
    clear hb
    go_enter Try.func99, Try.ntmps99
    go_wp2_with fail
    refine (within_any _ _ _ _).mono ?_
    rintro e w' ⟨rfl, rfl⟩
    rw [HB.out]
    go_wp2_with fail
    go_ret
    exact ⟨rfl, rfl⟩
  · have hb' : inB rank 1 3 = true := by simpa using hb
    have h13 : 1 ≤ rank ∧ rank ≤ 3 := by simpa [inB] using hb'
    have HB := Lib.hid hb'
    clear hb hb'
    obtain ⟨h1, h3⟩ := h13
    by_cases h24 : 24 < xs.length
    · have hf : r = false := by
        cases r with
        | false => rfl
        | true =>
          have := (HR.out.1 rfl).2.2.1
          omega
      subst hf
      go_enter Try.func99, Try.ntmps99
      go_wp2_with fail
      refine (within_any _ _ _ _).mono ?_
      rintro e w' ⟨rfl, rfl⟩
      rw [HB.out]
      go_wp2_with fail
      go_ret
      exact ⟨rfl, rfl⟩
    · have hR2 : r = true ↔ WordTo rank xs xs.length := HR.out.trans ⟨fun h => (wordTo_all h1 h3).2 h.2.2.2, fun h => ⟨h1, h3, by omega, (wordTo_all h1 h3).1 h⟩⟩
      have HR2 := Lib.hid hR2
      clear hR2 HR
      go_enter Try.func99, Try.ntmps99
      go_wp2_with fail
      refine (within_any _ _ _ _).mono ?_
      rintro e w' ⟨rfl, rfl⟩
      rw [HB.out]
      go_wp2_with fail
      go_loop [5, 6, 17] (fun _ _ i => ∃ k : Nat, k ≤ xs.length ∧ i = .int .i64 k ∧ WordTo rank xs k) (fun _ _ i => xs.length - (intOf i).toNat)
      case atStart => exact ⟨0, Nat.zero_le _, rfl, WordTo.zero _ _⟩
      case round =>
        obtain ⟨k, hk, rfl, hto⟩ := hrel
        have HT := Lib.hid hto
        clear hto
        by_cases hlt : k < xs.length
        · obtain ⟨b, off, x, rfl, -, hx, hc⟩ := hr.int hlt
          have HX := Lib.hid hx
          clear hx
          by_cases hL : letB rank x = false
          · have hf : r = false := by
              cases r with
              | false => rfl
              | true =>
                have := (HR2.out.1 rfl k x hlt HX.out).1
                rw [hL] at this
                cases this
            subst hf
            have HL := Lib.hid hL
            clear hL
            go_wp2_with fail
            refine (impl_isLetter _ _ _ h1 h3).mono ?_
            rintro e w' ⟨rfl, rfl⟩
            rw [HL.out]
            go_wp2_with fail
            go_ret
            exact ⟨rfl, rfl⟩
          · have hL' : letB rank x = true := by simpa using hL
            have HL := Lib.hid hL'
            clear hL hL'
            cases k with
            | zero =>
              have hc0 : w.cell? ⟨b, off, none⟩ = some (.int .i64 x) := hc
              go_wp2_with fail
              refine (impl_isLetter _ _ _ h1 h3).mono ?_
              rintro e w' ⟨rfl, rfl⟩
              rw [HL.out]
              go_wp2_with fail
              go_round
              case rel => exact ⟨1, by omega, by go_num, HT.out.succ HX.out HL.out (fun y h => absurd h (Nat.lt_irrefl 0))⟩
              case measure => simp [intOf]; omega
            | succ m =>
              obtain ⟨b', off', y, he, -, hy, hcy⟩ := hr.int (show m < xs.length by omega)
              injection he with he
              injection he with he1 he2 _
              subst he1 he2
              have hby := HOK.out y (List.mem_of_getElem? hy)
              have HY := Lib.hid hy
              have hyl : -9223372036854775808 ≤ y ∧ y ≤ 9223372036854775807 := hby
              obtain ⟨hy1, hy2⟩ := hyl
              clear hy hby
              by_cases hI : invB y x = true
              · have hf : r = false := by
                  cases r with
                  | false => rfl
                  | true =>
                    have := (HR2.out.1 rfl (m + 1) x hlt HX.out).2 y (Nat.succ_pos m) HY.out
                    rw [hI] at this
                    cases this
                subst hf
                have HI := Lib.hid hI
                clear hI
                go_wp2_with fail
                refine (impl_isLetter _ _ _ h1 h3).mono ?_
                rintro e w' ⟨rfl, rfl⟩
                rw [HL.out]
                go_wp2_with fail
                refine (impl_areInverse _ _ _ hy1 hy2).mono ?_
                rintro e w' ⟨rfl, rfl⟩
                rw [HI.out]
                go_wp2_with fail
                go_ret
                exact ⟨rfl, rfl⟩
              · have hI' : invB y x = false := by simpa using hI
                have HI := Lib.hid hI'
                clear hI hI'
                go_wp2_with fail
                refine (impl_isLetter _ _ _ h1 h3).mono ?_
                rintro e w' ⟨rfl, rfl⟩
                rw [HL.out]
                go_wp2_with fail
                refine (impl_areInverse _ _ _ hy1 hy2).mono ?_
                rintro e w' ⟨rfl, rfl⟩
                rw [HI.out]
                go_wp2_with fail
                go_round
                case rel =>
                  refine ⟨m + 1 + 1, by omega, by go_num, HT.out.succ HX.out HL.out (fun z _ hz => ?_)⟩
                  rw [Nat.add_sub_cancel, HY.out] at hz
                  obtain rfl := Option.some.inj hz
                  exact HI.out
                case measure => simp [intOf]; omega
        · obtain rfl : k = xs.length := by omega
          obtain rfl : r = true := HR2.out.2 HT.out
          go_wp2_with fail
          go_ret
          exact ⟨rfl, rfl⟩
end Go.Proofs.Ytimmnnncgnnkgaa

/- IsWord of the reference. -/
namespace Go.Proofs.Ytimmnnncgnnkgaa
set_option linter.unusedVariables false
set_option linter.unusedSimpArgs false
open Go.RowKit

set_option maxHeartbeats 3200000 in
theorem spec_IsWord (rank : Int) (A : Option Addr) (xs : List Int) (c : Nat) (w : World) (B : Nat) (hr : Rs w B A (ints xs)) (hok : OkI xs) (hl : xs.length ≤ 4194304) (r : Bool) (hres : r = true ↔ IsW rank xs) :
    Calls Try.prog 96 #[.int .i64 rank, .slice A xs.length c] w fun e w' => e = .returned (.bool r) ∧ ∃ n, w' = w.drewN n := by
  have HOK := Lib.hid hok
  have hR2 : r = true ↔ (RawTo rank xs xs.length ∧ inB rank 1 3 = true ∧ xs.length ≤ 24) := hres.trans ⟨fun h => ⟨(rawTo_all h.1 h.2.1).2 h.2.2.2, by simp [inB]; exact ⟨h.1, h.2.1⟩, h.2.2.1⟩, fun h => by
    have h13 : 1 ≤ rank ∧ rank ≤ 3 := by simpa [inB] using h.2.1
    exact ⟨h13.1, h13.2, h.2.2, (rawTo_all h13.1 h13.2).1 h.1⟩⟩
  have HR := Lib.hid hR2
  clear hok hres hR2
  obtain ⟨nr, hnr⟩ : ∃ nr, wrap64 (-rank) = nr := ⟨_, rfl⟩
  go_enter Try.func96, Try.ntmps96
  go_wp2_with fail
  go_loopw [5] (fun i wr => ∃ k : Nat, k ≤ xs.length ∧ i = .int .i64 k ∧ (∃ n, wr = w.drewN n) ∧ RawTo rank xs k) (fun i _ => xs.length - (intOf i).toNat)
  case atStart => exact ⟨0, Nat.zero_le _, rfl, ⟨0, rfl⟩, RawTo.zero _ _⟩
  case round =>
    obtain ⟨k, hk, rfl, ⟨nd, rfl⟩, hto⟩ := hrel
    have HT := Lib.hid hto
    clear hto
    by_cases hlt : k < xs.length
    · obtain ⟨b, off, x, rfl, -, hx, hc⟩ := hr.int hlt
      have HX := Lib.hid hx
      clear hx
      have hlt3 : (k : Int) < (xs.length : Int) := by omega
      have hno : ∀ (P : Prop), (RawAt rank xs k x → P) → r = true → P := fun P h hr1 => h ((HR.out.1 hr1).1 k x hlt HX.out)
      have HNO := Lib.hid hno
      clear hno
      by_cases hx0 : (x == 0) = true
      · have hf : r = false := by
          cases r with
          | false => rfl
          | true =>
            refine (HNO.out False (fun h => ?_) rfl).elim
            rw [h.1] at hx0
            cases hx0
        subst hf
        go_wp2_with fail
        go_quiet (fail)
        go_wp2_with fail
        go_ret
        exact ⟨rfl, _, by first | rfl | exact dn _ _ _⟩
      · have hx0' : (x == 0) = false := by simpa using hx0
        clear hx0
        have hC := fun n : Nat => pq (l1In_any x nr rank (w.drewN n))
        by_cases hi : inB x nr rank = false
        · have hf : r = false := by
            cases r with
            | false => rfl
            | true =>
              refine (HNO.out False (fun h => ?_) rfl).elim
              have h2 := h.2.1
              rw [hnr, hi] at h2
              cases h2
          subst hf
          rw [hi] at hC
          have HC := Lib.hid hC
          clear hC hi
          go_wp2_with fail
          go_quiet ((go_at_call 41; first | exact qz0 (HC.out _) | exact qz1 (HC.out _)))
          go_wp2_with fail
          go_ret
          exact ⟨rfl, _, by first | rfl | exact dn _ _ _⟩
        · have hi' : inB x nr rank = true := by simpa using hi
          rw [hi'] at hC
          have HC := Lib.hid hC
          have HI := Lib.hid hi'
          clear hC hi hi'
          cases k with
          | zero =>
            have hc0 : w.cell? ⟨b, off, none⟩ = some (.int .i64 x) := hc
            go_wp2_with fail
            go_quiet ((go_at_call 41; first | exact qz0 (HC.out _) | exact qz1 (HC.out _)))
            go_wp2_with fail
            go_roundw
            case rel => exact ⟨1, by omega, by go_num, ⟨_, by first | rfl | exact dn _ _ _⟩, HT.out.succ HX.out ⟨hx0', by rw [hnr]; exact HI.out, fun y h => absurd h (Nat.lt_irrefl 0)⟩⟩
            case measure => simp [intOf]; omega
          | succ m =>
            obtain ⟨b', off', y, he, -, hy, hcy⟩ := hr.int (show m < xs.length by omega)
            injection he with he
            injection he with he1 he2 _
            subst he1 he2
            have HY := Lib.hid hy
            clear hy
            have hlm3 : (m : Int) < (xs.length : Int) := by omega
            have hm0 : (0 : Int) < (m : Int) + 1 := by omega
            have hp1 : (m : Int) + 1 - 1 = (m : Int) := by omega
            obtain ⟨ny, hny⟩ : ∃ ny, wrap64 (-y) = ny := ⟨_, rfl⟩
            by_cases hxy : (x == ny) = true
            · have hf : r = false := by
                cases r with
                | false => rfl
                | true =>
                  refine (HNO.out False (fun h => ?_) rfl).elim
                  have h2 := h.2.2 y (Nat.succ_pos m) HY.out
                  rw [hny, hxy] at h2
                  cases h2
              subst hf
              go_wp2_with fail
              go_quiet ((go_at_call 41; first | exact qz0 (HC.out _) | exact qz1 (HC.out _)))
              go_wp2_with fail
              go_ret
              exact ⟨rfl, _, by first | rfl | exact dn _ _ _⟩
            · have hxy' : (x == ny) = false := by simpa using hxy
              clear hxy
              go_wp2_with fail
              go_quiet ((go_at_call 41; first | exact qz0 (HC.out _) | exact qz1 (HC.out _)))
              go_wp2_with fail
              go_roundw
              case rel =>
                refine ⟨m + 1 + 1, by omega, by go_num, ⟨_, by first | rfl | exact dn _ _ _⟩, HT.out.succ HX.out ⟨hx0', by rw [hnr]; exact HI.out, fun z _ hz => ?_⟩⟩
                rw [Nat.add_sub_cancel, HY.out] at hz
                obtain rfl := Option.some.inj hz
                rw [hny]
                exact hxy'
              case measure => simp [intOf]; omega
    · obtain rfl : k = xs.length := by omega
      have hrv : r = (inB rank 1 3 && decide ((xs.length : Int) ≤ 24)) := by
        rw [Bool.eq_iff_iff, HR.out]
        simp only [Bool.and_eq_true, decide_eq_true_eq]
        exact ⟨fun h => ⟨h.2.1, by omega⟩, fun h => ⟨HT.out, h.1, by omega⟩⟩
      by_cases hib : inB rank 1 3 = false
      · rw [hib] at hrv
        have HI := Lib.hid hib
        clear hib
        simp only [Bool.false_and] at hrv
        subst hrv
        go_wp2_with fail
        refine (l1In_any _ _ _ _).mono ?_
        rintro e w' ⟨rfl, rfl⟩
        rw [HI.out]
        go_wp2_with fail
        go_ret
        exact ⟨rfl, _, rfl⟩
      · have hib' : inB rank 1 3 = true := by simpa using hib
        rw [hib'] at hrv
        have HI := Lib.hid hib'
        simp only [Bool.true_and] at hrv
        clear hib hib'
        subst hrv
        go_wp2_with fail
        refine (l1In_any _ _ _ _).mono ?_
        rintro e w' ⟨rfl, rfl⟩
        rw [HI.out]
        go_wp2_with fail
        go_ret
        exact ⟨rfl, _, rfl⟩
end Go.Proofs.Ytimmnnncgnnkgaa

/- IsMorphism, both sides, and in the laws' words. -/
namespace Go.Proofs.Ytimmnnncgnnkgaa
set_option linter.unusedVariables false
set_option linter.unusedSimpArgs false
open Go.RowKit

def IsMor (rk : Int) (d : List (List Int)) : Prop := 1 ≤ rk ∧ rk ≤ 3 ∧ (d.length : Int) = rk ∧ ∀ xs ∈ d, IsW rk xs
/-- The first k rows are words. -/
def WordsTo (rk : Int) (d : List (List Int)) (k : Nat) : Prop := ∀ j xs, j < k → d[j]? = some xs → IsW rk xs
theorem WordsTo.zero (rk : Int) (d : List (List Int)) : WordsTo rk d 0 := fun j x h => absurd h (Nat.not_lt_zero j)
theorem WordsTo.succ {rk : Int} {d : List (List Int)} {k : Nat} {x : List Int} (h : WordsTo rk d k) (hx : d[k]? = some x) (hl : IsW rk x) : WordsTo rk d (k + 1) := by
  intro j z hj hz
  rcases Nat.lt_or_eq_of_le (Nat.le_of_lt_succ hj) with h1 | rfl
  · exact h j z h1 hz
  · rw [hx] at hz
    obtain rfl := Option.some.inj hz
    exact hl
theorem wordsTo_all {rk : Int} {d : List (List Int)} : WordsTo rk d d.length ↔ ∀ xs ∈ d, IsW rk xs := by
  constructor
  · intro h x hx
    obtain ⟨j, hj⟩ := List.mem_iff_getElem?.1 hx
    exact h j x (List.getElem?_eq_some_iff.1 hj).1 hj
  · exact fun h j x _ hx => h x (List.mem_of_getElem? hx)
theorem bool_ofR (p : Prop) : ∃ r : Bool, r = true ↔ p := by
  by_cases h : p
  · exact ⟨true, by simp [h]⟩
  · exact ⟨false, by simp [h]⟩
theorem row_le {d : List (List Int)} {xs : List Int} (h : xs ∈ d) (hl : d.length + sumL d ≤ 1048576) : xs.length ≤ 4194304 := by
  have := len_le_sumL h
  omega

set_option maxHeartbeats 3200000 in
theorem spec_IsMorphism (rk : Int) (A : Option Addr) (d : List (List Int)) (c : Nat) (w : World) (lo hi : Nat) (hr : RSS w lo hi A d) (hok : OkSS d) (hl : d.length + sumL d ≤ 1048576) (r : Bool) (hres : r = true ↔ IsMor rk d) :
    Calls Try.prog 65 #[.agg #[.int .i64 rk, .slice A d.length c]] w (Stp (.bool r) w) := by
  have HOK := Lib.hid hok
  have HR := Lib.hid hres
  clear hok hres
  have hb0 : Mid 0 0 w (w.alloc (.cells #[.int .i64 rk, .slice A d.length c] 53)) := Mid.alloc _ _
  have hbx := Box.new w #[.int .i64 rk, .slice A d.length c] 53
  have hrb := hr.mid hb0 (Or.inl (Nat.zero_le _))
  go_enter Try.func65, Try.ntmps65
  go_wp2_with fail
  obtain ⟨wb, hwb⟩ : ∃ wb, wb = w.alloc (.cells #[.int .i64 rk, .slice A d.length c] 53) := ⟨_, rfl⟩
  rw [← hwb] at hb0 hbx hrb ⊢
  clear hwb hr
  have k0 := hbx.cell 0 rfl
  have k1 := hbx.cell 1 rfl
  go_loopw [3] (fun i wr => ∃ k : Nat, k ≤ d.length ∧ i = .int .i64 k ∧ (∃ n, wr = wb.drewN n) ∧ WordsTo rk d k) (fun i _ => d.length - (intOf i).toNat)
  case atStart => exact ⟨0, Nat.zero_le _, rfl, ⟨0, rfl⟩, WordsTo.zero _ _⟩
  case round =>
    obtain ⟨k, hk, rfl, ⟨nd, rfl⟩, hto⟩ := hrel
    have HT := Lib.hid hto
    clear hto
    by_cases hlt : k < d.length
    · obtain ⟨b, off, A', c', xs, rfl, -, -, hx, hc, hrx⟩ := hrb.row hlt
      have hm := List.mem_of_getElem? hx
      have hlx := row_le hm hl
      have hox := HOK.out.2 xs hm
      have HX := Lib.hid hx
      have HM := Lib.hid hm
      clear hx hm
      obtain ⟨v, hv⟩ := bool_ofR (IsW rk xs)
      have hC := fun n : Nat => spec_IsWord rk A' xs c' (wb.drewN n) _ (hrx.rs.drewN n) hox hlx v hv
      have HV := Lib.hid hv
      have HC := Lib.hid hC
      have HO := Lib.hid hox
      clear hC hv hox hrx
      have hlt3 : (k : Int) < (d.length : Int) := by omega
      cases v with
      | false =>
        have hf : r = false := by
          cases r with
          | false => rfl
          | true =>
            have := HV.out.2 ((HR.out.1 rfl).2.2.2 xs HM.out)
            cases this
        subst hf
        go_wp2_with fail
        go_quiet ((go_at_call 96; first | exact qz0 (HC.out _) | exact qz1 (HC.out _)))
        go_wp2_with fail
        go_ret
        exact ⟨rfl, (hb0.drewN nd).drewN _⟩
      | true =>
        have hw := HV.out.1 rfl
        have HW := Lib.hid hw
        clear hw HV
        go_wp2_with fail
        go_quiet ((go_at_call 96; first | exact qz0 (HC.out _) | exact qz1 (HC.out _)))
        go_wp2_with fail
        go_roundw
        case rel => exact ⟨k + 1, by omega, by go_num, ⟨_, by first | rfl | exact dn _ _ _⟩, HT.out.succ HX.out HW.out⟩
        case measure => simp [intOf]; omega
    · obtain rfl : k = d.length := by omega
      have hrv : r = (inB rk 1 3 && ((d.length : Int) == rk)) := by
        rw [Bool.eq_iff_iff, HR.out]
        simp only [Bool.and_eq_true, beq_iff_eq, inB, decide_eq_true_eq]
        exact ⟨fun h => ⟨⟨h.1, h.2.1⟩, h.2.2.1⟩, fun h => ⟨h.1.1, h.1.2, h.2, wordsTo_all.1 HT.out⟩⟩
      by_cases hib : inB rk 1 3 = false
      · rw [hib] at hrv
        have HI := Lib.hid hib
        clear hib
        simp only [Bool.false_and] at hrv
        subst hrv
        go_wp2_with fail
        refine (l1In_any _ _ _ _).mono ?_
        rintro e w' ⟨rfl, rfl⟩
        rw [HI.out]
        go_wp2_with fail
        go_ret
        exact ⟨rfl, hb0.drewN _⟩
      · have hib' : inB rk 1 3 = true := by simpa using hib
        rw [hib'] at hrv
        have HI := Lib.hid hib'
        simp only [Bool.true_and] at hrv
        clear hib hib'
        cases r with
        | true =>
          have hq : ((d.length : Int) == rk) = true := hrv.symm
          clear hrv
          go_wp2_with fail
          refine (l1In_any _ _ _ _).mono ?_
          rintro e w' ⟨rfl, rfl⟩
          rw [HI.out]
          go_wp2_with fail
          go_ret
          exact ⟨rfl, hb0.drewN _⟩
        | false =>
          have hq : ((d.length : Int) == rk) = false := hrv.symm
          clear hrv
          go_wp2_with fail
          refine (l1In_any _ _ _ _).mono ?_
          rintro e w' ⟨rfl, rfl⟩
          rw [HI.out]
          go_wp2_with fail
          go_ret
          exact ⟨rfl, hb0.drewN _⟩

set_option maxHeartbeats 3200000 in
theorem impl_IsMorphism (rk : Int) (A : Option Addr) (d : List (List Int)) (c : Nat) (w : World) (lo hi : Nat) (hr : RSS w lo hi A d) (hok : OkSS d) (hl : d.length + sumL d ≤ 1048576) (r : Bool) (hres : r = true ↔ IsMor rk d) :
    Calls Try.prog 69 #[.agg #[.int .i64 rk, .slice A d.length c]] w (Stp (.bool r) w) := by
  have HOK := Lib.hid hok
  have HR := Lib.hid hres
  clear hok hres
  have hb0 : Mid 0 0 w (w.alloc (.cells #[.int .i64 rk, .slice A d.length c] 53)) := Mid.alloc _ _
  have hbx := Box.new w #[.int .i64 rk, .slice A d.length c] 53
  have hrb := hr.mid hb0 (Or.inl (Nat.zero_le _))
  clear hr
  by_cases hib : inB rk 1 3 = false
  · have hf : r = false := by
      cases r with
      | false => rfl
      | true =>
        have h := HR.out.1 rfl
        simp [inB] at hib
        have := h.1
        have := h.2.1
        omega
    subst hf
    have HI := Lib.hid hib
    clear hib
    go_enter Try.func69, Try.ntmps69
    go_wp2_with fail
    refine (within_any _ _ _ _).mono ?_
    rintro e w' ⟨rfl, rfl⟩
    rw [HI.out]
    go_wp2_with fail
    go_ret
    exact ⟨rfl, hb0⟩
  · have hib' : inB rk 1 3 = true := by simpa using hib
    have HI := Lib.hid hib'
    clear hib hib'
    by_cases hq : ((d.length : Int) != rk) = true
    · have hf : r = false := by
        cases r with
        | false => rfl
        | true =>
          have h := HR.out.1 rfl
          simp at hq
          exact absurd h.2.2.1 hq
      subst hf
      go_enter Try.func69, Try.ntmps69
      go_wp2_with fail
      refine (within_any _ _ _ _).mono ?_
      rintro e w' ⟨rfl, rfl⟩
      rw [HI.out]
      go_wp2_with fail
      go_ret
      exact ⟨rfl, hb0⟩
    · have hq' : ((d.length : Int) != rk) = false := by simpa using hq
      have hrv : r = true ↔ WordsTo rk d d.length := HR.out.trans ⟨fun h => wordsTo_all.2 h.2.2.2, fun h => by
        have h13 : 1 ≤ rk ∧ rk ≤ 3 := by simpa [inB] using HI.out
        exact ⟨h13.1, h13.2, by simpa using hq', wordsTo_all.1 h⟩⟩
      have HR2 := Lib.hid hrv
      clear hrv HR hq
      go_enter Try.func69, Try.ntmps69
      go_wp2_with fail
      refine (within_any _ _ _ _).mono ?_
      rintro e w' ⟨rfl, rfl⟩
      rw [HI.out]
      go_wp2_with fail
      obtain ⟨wb, hwb⟩ : ∃ wb, wb = w.alloc (.cells #[.int .i64 rk, .slice A d.length c] 53) := ⟨_, rfl⟩
      rw [← hwb] at hb0 hbx hrb ⊢
      clear hwb
      have k0 := hbx.cell 0 rfl
      have k1 := hbx.cell 1 rfl
      go_loop [4, 20] (fun _ i => ∃ k : Nat, k ≤ d.length ∧ i = .int .i64 k ∧ WordsTo rk d k) (fun _ i => d.length - (intOf i).toNat)
      case atStart => exact ⟨0, Nat.zero_le _, rfl, WordsTo.zero _ _⟩
      case round =>
        obtain ⟨k, hk, rfl, hto⟩ := hrel
        have HT := Lib.hid hto
        clear hto
        by_cases hlt : k < d.length
        · obtain ⟨b, off, A', c', xs, rfl, -, -, hx, hc, hrx⟩ := hrb.row hlt
          have hm := List.mem_of_getElem? hx
          have hlx := row_le hm hl
          have hox := HOK.out.2 xs hm
          have HX := Lib.hid hx
          have HM := Lib.hid hm
          clear hx hm
          obtain ⟨v, hv⟩ := bool_ofR (IsW rk xs)
          have HV := Lib.hid hv
          have HO := Lib.hid hox
          clear hv hox
          cases v with
          | false =>
            have hf : r = false := by
              cases r with
              | false => rfl
              | true =>
                have := HV.out.2 (HR2.out.1 rfl k xs hlt HX.out)
                cases this
            subst hf
            go_wp2_with fail
            refine (impl_IsWord rk A' xs c' _ _ hrx.rs HO.out hlx _ HV.out).mono ?_
            rintro e w' ⟨rfl, rfl⟩
            go_wp2_with fail
            go_ret
            exact ⟨rfl, hb0⟩
          | true =>
            have hw := HV.out.1 rfl
            have HW := Lib.hid hw
            clear hw HV
            go_wp2_with fail
            refine (impl_IsWord rk A' xs c' _ _ hrx.rs HO.out hlx true (iff_of_true rfl HW.out)).mono ?_
            rintro e w' ⟨rfl, rfl⟩
            go_wp2_with fail
            go_round
            case rel => exact ⟨k + 1, by omega, by go_num, HT.out.succ HX.out HW.out⟩
            case measure => simp [intOf]; omega
        · obtain rfl : k = d.length := by omega
          obtain rfl : r = true := HR2.out.2 HT.out
          go_wp2_with fail
          go_ret
          exact ⟨rfl, hb0⟩

def IsMorphismIs (r : Int) (d : List (List Int)) (res : Bool) : Prop := res = true ↔ IsMor r d
end Go.Proofs.Ytimmnnncgnnkgaa

/- product of the program. -/
namespace Go.Proofs.Ytimmnnncgnnkgaa
set_option linter.unusedVariables false
set_option linter.unusedSimpArgs false
open Go.RowKit

/-- What holds of the product's list. -/
def PrOut (w wr : World) (v : Value) (out : List Int) : Prop := wr.ownsRow w.heap.size 3 1 v out.length (ints out) ∧ Below w.heap.size w wr
set_option maxHeartbeats 3200000 in
theorem impl_product (A : Option Addr) (d : List (List Int)) (c : Nat) (w : World) (lo hi : Nat) (hr : RSS w lo hi A d) (hok : ∀ xs ∈ d, OkI xs) (hl : d.length ≤ 4194304) (hs : sumL d ≤ 268435456) :
    Calls Try.prog 108 #[.slice A d.length c] w fun e w' => RetI 3 (red [] d.flatten) w e w' := by
  have HOK := Lib.hid hok
  clear hok
  have hb0 := (Below.refl w.heap.size w).alloc (Nat.le_refl _) (.cells #[] 3)
  have ho0 := owns_empty w 3 1
  go_enter Try.func108, Try.ntmps108
  go_wp2_with fail
  go_loopw [3, 5, 7, 11] (fun v _ _ i wr => ∃ k : Nat, k ≤ d.length ∧ i = .int .i64 k ∧ PrOut w wr v (red [] (d.take k).flatten)) (fun _ _ _ i _ => d.length - (intOf i).toNat)
  case atStart => exact ⟨0, Nat.zero_le _, rfl, by simpa [red, ints] using ho0, hb0⟩
  case round =>
    obtain ⟨k, hk, rfl, hown, hb⟩ := hrel
    by_cases hlt : k < d.length
    · obtain ⟨b, off, A', c', xs, rfl, -, hbh, hx, hc, hrx⟩ := hr.row hlt
      have hhi := hr.size
      have hcw : wr.cell? ⟨b, off + k, none⟩ = some (.slice A' xs.length c') := (hb.cell (by simp; omega)).trans hc
      have hm := List.mem_of_getElem? hx
      have hox := HOK.out xs hm
      have hlx := len_le_sumL hm
      have hlx1 : xs.length ≤ 268435456 := by omega
      obtain ⟨out0, hout0⟩ : ∃ o, o = red [] (d.take k).flatten := ⟨_, rfl⟩
      have hstep := red_flatten_step d hx
      rw [← hout0] at hown hstep
      have hok0 : OkI out0 := by
        rw [hout0]
        exact red_ok (okI_flatten fun ys hy => HOK.out ys (List.mem_of_mem_take hy))
      have hl0 : out0.length + xs.length ≤ 268435456 := by
        have h1 := red_nil_len (d.take k).flatten
        rw [← hout0, sumL_flatten] at h1
        have h2 := sumL_take_succ hx
        have h3 := sumL_take_le d (k + 1)
        omega
      have HX := Lib.hid hx
      have HS := Lib.hid hstep
      have HO0 := Lib.hid hok0
      have HOX := Lib.hid hox
      clear hx hm hox hout0 hstep hok0 hlx
      go_wp2_with fail
      go_loopw [3, 7, 17] (fun v _ j wr2 => ∃ l : Nat, l ≤ xs.length ∧ j = .int .i64 l ∧ PrOut w wr2 v (red out0 (xs.take l))) (fun _ _ j _ => xs.length - (intOf j).toNat)
      case atStart => exact ⟨0, Nat.zero_le _, rfl, hown, hb⟩
      case round =>
        clear hown hb hcw
        obtain ⟨l, hlk, rfl, hown, hb⟩ := hrel
        have hsz := hb.size
        by_cases hl2 : l < xs.length
        · obtain ⟨b', off', x, rfl, -, hxx, hcx⟩ := ((hrx.rs.more hhi).below hb).int hl2
          have hst := red_step xs hxx out0
          have hbx := HOX.out x (List.mem_of_getElem? hxx)
          have hlen := red_len out0 (xs.take l)
          rw [List.length_take] at hlen
          obtain ⟨out1, ho1⟩ : ∃ o, o = red out0 (xs.take l) := ⟨_, rfl⟩
          rw [← ho1] at hown hst hlen
          have hok1 : OkI out1 := fun y hy => by
            rw [ho1] at hy
            rcases red_mem hy with h1 | h1
            · exact HO0.out y h1
            · exact HOX.out y (List.mem_of_mem_take h1)
          clear ho1 hxx
          have HST := Lib.hid hst
          have HBX := Lib.hid hbx
          clear hst hbx
          rcases Nat.eq_zero_or_pos out1.length with he | hp
          · obtain rfl := List.eq_nil_of_length_eq_zero he
            clear he hok1 hlen
            obtain ⟨A1, c1, rfl, -, -⟩ := owns_shape hown
            go_wp2_with (at_builtin; refine wpList_push rfl _ _ 37 rfl w.heap.size 3 (.int .i64 0) 1 8 undSI infoI rfl (by decide) _ _ _ rfl hown 1 [.int .i64 x] rfl rfl (one_of_ints [x]) (by unfold maxLen; simp) (by simp) hsz ?n1)
            case n1 =>
              intro v' w1 hown1 hgr _
              go_wp2_with fail
              go_roundw
              case rel =>
                refine ⟨l + 1, by omega, by go_num, ?_, hb.grown hgr hsz (fun g hg => (hown.lt g hg).1)⟩
                rw [HST.out, redStep_empty]
                exact hown1
              case measure => simp [intOf]; omega
          · obtain ⟨ys, a, rfl⟩ := eq_concat out1 hp
            have hba := hok1 a (by simp)
            rw [List.length_append] at hown hlen
            simp only [List.length_cons, List.length_nil, Nat.zero_add] at hown hlen
            clear hp hok1
            obtain ⟨A1, c1, rfl, hnc, -⟩ := owns_shape hown
            obtain ⟨g, rfl, -, -⟩ := owns_addr hown (Nat.succ_pos _)
            have hca : wr.cell? ⟨g, ys.length, none⟩ = some (.int .i64 a) := by
              rw [hown.cellAt ys.length (by omega)]
              simp [ints]
            have HA := Lib.hid hba
            obtain ⟨ha1, ha2⟩ := hba
            by_cases hI : invB a x = true
            · have HI := Lib.hid hI
              clear hI
              have hys : ys.length ≤ c1 := by omega
              go_wp2_with fail
              refine (impl_areInverse _ _ _ ha1 ha2).mono ?_
              rintro e w' ⟨rfl, rfl⟩
              rw [HI.out]
              go_wp2_with fail
              go_roundw
              case rel =>
                refine ⟨l + 1, by omega, by go_num, ?_, hb⟩
                rw [HST.out, redStep_pop HI.out]
                have h1 := owns_cut hown (Nat.le_succ ys.length)
                rw [Nat.mul_one, ints_append, List.take_left' (ints_len ys)] at h1
                exact h1
              case measure => simp [intOf]; omega
            · have hI' : invB a x = false := by simpa using hI
              have HI := Lib.hid hI'
              clear hI hI'
              go_wp2_with fail
              refine (impl_areInverse _ _ _ ha1 ha2).mono ?_
              rintro e w' ⟨rfl, rfl⟩
              rw [HI.out]
              go_wp2_with (at_builtin; refine wpList_push rfl _ _ 37 rfl w.heap.size 3 (.int .i64 0) 1 8 undSI infoI rfl (by decide) _ _ _ rfl hown 1 [.int .i64 x] rfl rfl (one_of_ints [x]) (by unfold maxLen; omega) (by omega) hsz ?n2)
              case n2 =>
                intro v' w1 hown1 hgr _
                go_wp2_with fail
                go_roundw
                case rel =>
                  refine ⟨l + 1, by omega, by go_num, ?_, hb.grown hgr hsz (fun g hg => (hown.lt g hg).1)⟩
                  rw [HST.out, redStep_push HI.out, ints_append, List.length_append, List.length_append]
                  exact hown1
                case measure => simp [intOf]; omega
        · obtain rfl : l = xs.length := by omega
          rw [List.take_length] at hown
          go_wp2_with fail
          go_roundw
          case rel =>
            refine ⟨k + 1, by omega, by go_num, ?_, hb⟩
            rw [HS.out]
            exact hown
          case measure => simp [intOf]; omega
    · obtain rfl : k = d.length := by omega
      rw [List.take_length] at hown
      go_wp2_with fail
      go_ret
      exact RetI.mk rfl hown hb
end Go.Proofs.Ytimmnnncgnnkgaa

/- ReduceLetters and MultiplyWords of the reference. -/
namespace Go.Proofs.Ytimmnnncgnnkgaa
set_option linter.unusedVariables false
set_option linter.unusedSimpArgs false
open Go.RowKit

theorem invB_spec {a x : Int} (ha : -9223372036854775808 ≤ a ∧ a ≤ 9223372036854775807) (hx : -9223372036854775808 ≤ x ∧ x ≤ 9223372036854775807) :
    invB a x = true ↔ (x ≠ 0 ∧ a = wrap64 (-x) ∧ a ≠ x) := by
  rw [invB_iff, wrap_neg hx.1 hx.2]
  unfold negI minI
  split <;> omega

/-- What holds of the list so far. -/
def RdOut (w wr : World) (v : Value) (out : List Int) : Prop := wr.ownsRow w.heap.size 3 1 v out.length (ints out) ∧ Below w.heap.size w wr
set_option maxHeartbeats 6400000 in
theorem spec_ReduceLetters (A : Option Addr) (xs : List Int) (c : Nat) (w : World) (B : Nat) (hr : Rs w B A (ints xs)) (hB : B ≤ w.heap.size) (hok : OkI xs) (hl : xs.length ≤ 268435456) :
    Calls Try.prog 104 #[.slice A xs.length c] w fun e w' => RetI 3 (red [] xs) w e w' := by
  have HOK := Lib.hid hok
  clear hok
  have hb0 := (Below.refl w.heap.size w).alloc (Nat.le_refl _) (.cells #[] 3)
  have ho0 := owns_empty w 3 1
  go_enter Try.func104, Try.ntmps104
  go_wp2_with fail
  go_loopw [3, 4, 5] (fun v i _ wr => ∃ k : Nat, k ≤ xs.length ∧ i = .int .i64 k ∧ RdOut w wr v (red [] (xs.take k))) (fun _ i _ _ => xs.length - (intOf i).toNat)
  case atStart => exact ⟨0, Nat.zero_le _, rfl, ho0, hb0⟩
  case round =>
    obtain ⟨k, hk, rfl, hown, hb⟩ := hrel
    have hsz := hb.size
    by_cases hlt : k < xs.length
    · obtain ⟨b, off, x, rfl, -, hxx, hc⟩ := ((hr.more hB).below hb).int hlt
      have hlt3 : (k : Int) < (xs.length : Int) := by omega
      have hst := red_step xs hxx []
      have hbx := HOK.out x (List.mem_of_getElem? hxx)
      have hlen := red_len [] (xs.take k)
      rw [List.length_take, List.length_nil, Nat.zero_add] at hlen
      have hok1 : OkI (red [] (xs.take k)) := red_ok fun y hy => HOK.out y (List.mem_of_mem_take hy)
      obtain ⟨out1, ho1⟩ : ∃ o, o = red [] (xs.take k) := ⟨_, rfl⟩
      rw [← ho1] at hown hst hlen hok1
      have HBX := Lib.hid hbx
      have HST := Lib.hid hst
      clear ho1 hxx hbx hst
      rcases Nat.eq_zero_or_pos out1.length with he | hp
      · obtain rfl := List.eq_nil_of_length_eq_zero he
        clear he hok1 hlen
        obtain ⟨A1, c1, rfl, -, -⟩ := owns_shape hown
        go_wp2_with fail
        go_quiet (fail)
        go_wp2_with (at_builtin; refine wpList_push rfl _ _ 37 rfl w.heap.size 3 (.int .i64 0) 1 8 undSI infoI rfl (by decide) _ _ _ rfl (owns_drewN hown _) 1 [.int .i64 x] rfl rfl (one_of_ints [x]) (by unfold maxLen; simp) (by simp) hsz ?n1)
        case n1 =>
          intro v' w1 hown1 hgr _
          go_wp2_with fail
          go_roundw
          case rel =>
            refine ⟨k + 1, by omega, by go_num, ?_, hb.grown (owns_row hgr) hsz (fun g hg => (hown.lt g hg).1)⟩
            rw [HST.out, redStep_empty]
            exact hown1
          case measure => simp [intOf]; omega
      · obtain ⟨ys, a, rfl⟩ := eq_concat out1 hp
        have hba := hok1 a (by simp)
        rw [List.length_append] at hown hlen
        simp only [List.length_cons, List.length_nil, Nat.zero_add] at hown hlen
        clear hp hok1
        obtain ⟨A1, c1, rfl, hnc, -⟩ := owns_shape hown
        obtain ⟨g, rfl, -, -⟩ := owns_addr hown (Nat.succ_pos _)
        have hca : wr.cell? ⟨g, ys.length, none⟩ = some (.int .i64 a) := by
          rw [hown.cellAt ys.length (by omega)]
          simp [ints]
        have hiff := invB_spec hba HBX.out
        have HI := Lib.hid hiff
        clear hba hiff
        obtain ⟨nx, hnx⟩ : ∃ nx, wrap64 (-x) = nx := ⟨_, rfl⟩
        have hp0 : (0 : Int) < (ys.length : Int) + 1 := by omega
        have hp1 : (ys.length : Int) + 1 - 1 = (ys.length : Int) := by omega
        have hys : ys.length ≤ c1 := by omega
        by_cases hpop : invB a x = true
        · obtain ⟨h1, h2, h3⟩ := HI.out.1 hpop
          have hx0 : (x != 0) = true := by simpa using h1
          have hanx : (a == nx) = true := by rw [← hnx]; simpa using h2
          have hax : (a != x) = true := by simpa using h3
          have HP := Lib.hid hpop
          clear h1 h2 h3 hpop
          go_wp2_with fail
          go_quiet (fail)
          go_wp2_with fail
          go_roundw
          case rel =>
            refine ⟨k + 1, by omega, by go_num, ?_, by first | exact below_drewN hb _ | exact hb⟩
            rw [HST.out, redStep_pop HP.out]
            have h1 := owns_cut hown (Nat.le_succ ys.length)
            rw [Nat.mul_one, ints_append, List.take_left' (ints_len ys)] at h1
            exact owns_drewN h1 _
          case measure => simp [intOf]; omega
        · have hpf : invB a x = false := by simpa using hpop
          have HP := Lib.hid hpf
          have hcases : (x != 0) = false ∨ ((x != 0) = true ∧ (a == nx) = false) ∨ ((x != 0) = true ∧ (a == nx) = true ∧ (a != x) = false) := by
            rw [← hnx]
            by_cases h1 : x = 0
            · left; simpa using h1
            · by_cases h2 : a = wrap64 (-x)
              · right; right
                refine ⟨by simpa using h1, by simpa using h2, ?_⟩
                cases hv : (a != x) with
                | false => rfl
                | true => exact absurd (HI.out.2 ⟨h1, h2, by simpa using hv⟩) hpop
              · right; left
                exact ⟨by simpa using h1, by simpa using h2⟩
          clear hpop hpf
          rcases hcases with h1 | ⟨h1, h2⟩ | ⟨h1, h2, h3⟩
          · go_wp2_with fail
            go_quiet (fail)
            go_wp2_with (at_builtin; refine wpList_push rfl _ _ 37 rfl w.heap.size 3 (.int .i64 0) 1 8 undSI infoI rfl (by decide) _ _ _ rfl (owns_drewN hown _) 1 [.int .i64 x] rfl rfl (one_of_ints [x]) (by unfold maxLen; omega) (by omega) hsz ?n2)
            case n2 =>
              intro v' w1 hown1 hgr _
              go_wp2_with fail
              go_roundw
              case rel =>
                refine ⟨k + 1, by omega, by go_num, ?_, hb.grown (owns_row hgr) hsz (fun g hg => (hown.lt g hg).1)⟩
                rw [HST.out, redStep_push HP.out, ints_append, List.length_append, List.length_append]
                exact hown1
              case measure => simp [intOf]; omega
          · go_wp2_with fail
            go_quiet (fail)
            go_wp2_with (at_builtin; refine wpList_push rfl _ _ 37 rfl w.heap.size 3 (.int .i64 0) 1 8 undSI infoI rfl (by decide) _ _ _ rfl (owns_drewN hown _) 1 [.int .i64 x] rfl rfl (one_of_ints [x]) (by unfold maxLen; omega) (by omega) hsz ?n3)
            case n3 =>
              intro v' w1 hown1 hgr _
              go_wp2_with fail
              go_roundw
              case rel =>
                refine ⟨k + 1, by omega, by go_num, ?_, hb.grown (owns_row hgr) hsz (fun g hg => (hown.lt g hg).1)⟩
                rw [HST.out, redStep_push HP.out, ints_append, List.length_append, List.length_append]
                exact hown1
              case measure => simp [intOf]; omega
          · go_wp2_with fail
            go_quiet (fail)
            go_wp2_with (at_builtin; refine wpList_push rfl _ _ 37 rfl w.heap.size 3 (.int .i64 0) 1 8 undSI infoI rfl (by decide) _ _ _ rfl (owns_drewN hown _) 1 [.int .i64 x] rfl rfl (one_of_ints [x]) (by unfold maxLen; omega) (by omega) hsz ?n4)
            case n4 =>
              intro v' w1 hown1 hgr _
              go_wp2_with fail
              go_roundw
              case rel =>
                refine ⟨k + 1, by omega, by go_num, ?_, hb.grown (owns_row hgr) hsz (fun g hg => (hown.lt g hg).1)⟩
                rw [HST.out, redStep_push HP.out, ints_append, List.length_append, List.length_append]
                exact hown1
              case measure => simp [intOf]; omega
    · obtain rfl : k = xs.length := by omega
      rw [List.take_length] at hown
      have hlr := red_nil_len xs
      obtain ⟨out, hout⟩ : ∃ o, o = red [] xs := ⟨_, rfl⟩
      rw [← hout] at hown hlr
      have HO := Lib.hid hout
      clear hout
      obtain ⟨A1, c1, rfl, hnc, -⟩ := owns_shape hown
      have ho2 := owns_empty wr 3 1
      have ho2' : (wr.alloc (.cells #[] 3)).ownsRow w.heap.size 3 1 (.slice (some ⟨wr.heap.size, 0, none⟩) 0 0) 0 [] := owns_base ho2 hsz
      have hra : Rs (wr.alloc (.cells #[] 3)) wr.heap.size A1 (ints out) := (Rs.of_own hown).alloc (Nat.le_refl _) _
      have hla : (ints out).length = out.length * 1 := by rw [ints_len]; omega
      go_wp2_with (at_builtin; refine wpList_cat rfl _ _ 37 rfl w.heap.size 3 (.int .i64 0) 1 8 undSI infoI rfl (by decide) _ _ _ rfl ho2' A1 out.length c1 wr.heap.size (ints out) rfl hra hla (one_of_ints _) ?c2 ?c3 (by simp; omega) ?next)
      case c2 => unfold maxLen; omega
      case c3 => omega
      case next =>
        intro v1 w1 hown1 hgr1 _
        have hb1 : Below w.heap.size w w1 := (hb.grown (World.grownBy_alloc wr _ none) hsz (by intro g h; cases h)).grown hgr1 (by simp; omega) (fun g hg => (ho2'.lt g hg).1)
        go_wp2_with fail
        go_ret
        rw [← HO.out]
        exact RetI.mk rfl (by simpa using hown1) hb1
end Go.Proofs.Ytimmnnncgnnkgaa

/- ExpandBy, both sides. -/
namespace Go.Proofs.Ytimmnnncgnnkgaa
set_option linter.unusedVariables false
set_option linter.unusedSimpArgs false
open Go.RowKit

/-- The word that one number of a list over a basis stands for. -/
def pieceB (d : List (List Int)) (k : Int) : List Int := if 1 ≤ k ∧ k ≤ d.length then d.getD (k - 1).toNat [] else if -(d.length : Int) ≤ k ∧ k ≤ -1 then invW (d.getD (-k - 1).toNat []) else []
def pieces (d : List (List Int)) (l : List Int) : List (List Int) := l.map (pieceB d)
def expand (d : List (List Int)) (l : List Int) : List Int := red [] (pieces d (l.take 200)).flatten
theorem pieceB_pos {d : List (List Int)} {m : Nat} {xs : List Int} (h : d[m]? = some xs) : pieceB d ((m : Int) + 1) = xs := by
  have hm := (List.getElem?_eq_some_iff.1 h).1
  unfold pieceB
  rw [if_pos (by omega), show ((m : Int) + 1 - 1).toNat = m from by omega, List.getD_eq_getElem?_getD, h]
  rfl
theorem pieceB_neg {d : List (List Int)} {m : Nat} {xs : List Int} (h : d[m]? = some xs) : pieceB d (-((m : Int) + 1)) = invW xs := by
  have hm := (List.getElem?_eq_some_iff.1 h).1
  unfold pieceB
  rw [if_neg (by omega), if_pos (by omega), show (- -((m : Int) + 1) - 1).toNat = m from by omega, List.getD_eq_getElem?_getD, h]
  rfl
theorem pieceB_else {d : List (List Int)} {k : Int} (h1 : ¬ (1 ≤ k ∧ k ≤ d.length)) (h2 : ¬ (-(d.length : Int) ≤ k ∧ k ≤ -1)) : pieceB d k = [] := by
  unfold pieceB
  rw [if_neg h1, if_neg h2]
theorem getD_mem {d : List (List Int)} {m : Nat} : d.getD m [] = [] ∨ d.getD m [] ∈ d := by
  rw [List.getD_eq_getElem?_getD]
  cases h : d[m]? with
  | none => left; rfl
  | some xs => right; exact List.mem_of_getElem? h
theorem pieceB_props {d : List (List Int)} {b : Nat} (hb : ∀ xs ∈ d, xs.length ≤ b) (ho : ∀ xs ∈ d, OkI xs) (k : Int) : (pieceB d k).length ≤ b ∧ OkI (pieceB d k) := by
  have hn : OkI ([] : List Int) := fun x hx => by simp at hx
  have key : ∀ m : Nat, (d.getD m []).length ≤ b ∧ OkI (d.getD m []) := fun m => by
    rcases getD_mem (d := d) (m := m) with h | h
    · rw [h]; exact ⟨Nat.zero_le _, hn⟩
    · exact ⟨hb _ h, ho _ h⟩
  unfold pieceB
  split
  · exact key _
  · split
    · rw [invW_len]; exact ⟨(key _).1, okI_invW (key _).2⟩
    · exact ⟨Nat.zero_le _, hn⟩
theorem pieces_succ (d : List (List Int)) (l : List Int) {k : Nat} {x : Int} (h : l[k]? = some x) : (pieces d (l.take (k + 1))).flatten = (pieces d (l.take k)).flatten ++ pieceB d x := by
  rw [take_succ_of l h]
  simp [pieces]
theorem pieces_len {d : List (List Int)} {b : Nat} (hb : ∀ xs ∈ d, xs.length ≤ b) (ho : ∀ xs ∈ d, OkI xs) (l : List Int) : (pieces d l).flatten.length ≤ l.length * b := by
  induction l with
  | nil => simp [pieces]
  | cons x t ih =>
    have := (pieceB_props hb ho x).1
    simp only [pieces, List.map_cons, List.flatten_cons, List.length_append, List.length_cons]
    simp only [pieces] at ih
    rw [Nat.succ_mul]
    omega
theorem pieces_ok {d : List (List Int)} {b : Nat} (hb : ∀ xs ∈ d, xs.length ≤ b) (ho : ∀ xs ∈ d, OkI xs) (l : List Int) : OkI (pieces d l).flatten := okI_flatten fun xs hx => by
  obtain ⟨k, _, rfl⟩ := List.mem_map.1 hx
  exact (pieceB_props hb ho k).2
theorem pieces_take_len {d : List (List Int)} (hb : ∀ xs ∈ d, xs.length ≤ 24) (ho : ∀ xs ∈ d, OkI xs) (l : List Int) {k : Nat} (hk : k ≤ 200) : (pieces d (l.take k)).flatten.length ≤ 4800 := by
  have h1 := pieces_len hb ho (l.take k)
  have h2 : (l.take k).length ≤ k := by rw [List.length_take]; omega
  have h3 := Nat.mul_le_mul_right 24 (Nat.le_trans h2 hk)
  omega

theorem RetI.back {eI : TypeId} {xs : List Int} {w wr w' : World} {e : Ending} (h : RetI eI xs wr e w') (hb : Below w.heap.size w wr) : RetI eI xs w e w' := by
  obtain ⟨A, c, he, ho, hb2⟩ := h
  exact ⟨A, c, he, owns_base ho hb.size, hb.trans (hb2.mono hb.size)⟩
/-- What holds of the list in the reference. -/
def ExOut (w wr : World) (v : Value) (out : List Int) : Prop := wr.ownsRow w.heap.size 3 1 v out.length (ints out) ∧ Below w.heap.size w wr
set_option maxHeartbeats 6400000 in
set_option maxRecDepth 20000 in
theorem spec_ExpandBy (A : Option Addr) (d : List (List Int)) (c : Nat) (A' : Option Addr) (l : List Int) (c' : Nat) (w : World) (lo hi : Nat) (hr : RSS w lo hi A d) (hr' : Rs w w.heap.size A' (ints l)) (hb24 : ∀ xs ∈ d, xs.length ≤ 24) (hok : ∀ xs ∈ d, OkI xs) (hokl : OkI l) (hld : d.length ≤ 1048576) (hll : l.length ≤ 1048576) :
    Calls Try.prog 75 #[.slice A d.length c, .slice A' l.length c'] w fun e w' => RetI 3 (expand d l) w e w' := by
  have HOK := Lib.hid hok
  have HOL := Lib.hid hokl
  have H24 := Lib.hid hb24
  clear hok hokl hb24
  have hhi := hr.size
  have hb0 := (Below.refl w.heap.size w).alloc (Nat.le_refl _) (.cells #[] 3)
  have ho0 := owns_empty w 3 1
  go_enter Try.func75, Try.ntmps75
  go_wp2_with fail
  go_loopw [5, 6] (fun v i wr => ∃ k : Nat, k ≤ l.length ∧ k ≤ 200 ∧ i = .int .i64 k ∧ ExOut w wr v (pieces d (l.take k)).flatten) (fun _ i _ => l.length - (intOf i).toNat)
  case atStart => exact ⟨0, Nat.zero_le _, Nat.zero_le _, rfl, by simpa [pieces, ints] using ho0, hb0⟩
  case round =>
    obtain ⟨k, hk, hk200, rfl, hown, hb⟩ := hrel
    have hsz := hb.size
    have hlen := pieces_take_len H24.out HOK.out l hk200
    obtain ⟨out, hout⟩ : ∃ o, o = (pieces d (l.take k)).flatten := ⟨_, rfl⟩
    rw [← hout] at hown hlen
    have HOUT := Lib.hid hout
    clear hout
    by_cases hlt : k < l.length
    · by_cases hlt2 : k < 200
      · obtain ⟨b, off, x, rfl, -, hx, hc⟩ := (hr'.below hb).int hlt
        have hst := pieces_succ d l hx
        rw [← HOUT.out] at hst
        have hbx := HOL.out x (List.mem_of_getElem? hx)
        obtain ⟨hbx1, hbx2⟩ := hbx
        have HST := Lib.hid hst
        clear hx hst
        by_cases hp : 1 ≤ x ∧ x ≤ d.length
        · obtain ⟨m, hxm⟩ : ∃ m : Nat, x = (m : Int) + 1 := ⟨(x - 1).toNat, by omega⟩
          have hm : m < d.length := by omega
          obtain ⟨b2, off2, A2, c2, xs, rfl, -, hb2h, hxx, hcc, hrx⟩ := hr.row hm
          have hcw : wr.cell? ⟨b2, off2 + m, none⟩ = some (.slice A2 xs.length c2) := (hb.cell (by simp; omega)).trans hcc
          have hlx := H24.out xs (List.mem_of_getElem? hxx)
          have hpc := pieceB_pos hxx
          have hra : Rs wr w.heap.size A2 (ints xs) := (hrx.rs.more hhi).below hb
          have hla : (ints xs).length = xs.length * 1 := by rw [ints_len]; omega
          rw [← hxm] at hpc
          have HPC := Lib.hid hpc
          have hp1 : 0 < x := by omega
          have hp2 : x ≤ (d.length : Int) := by omega
          have hp3 : x - 1 = (m : Int) := by omega
          clear hpc hxx hcc hrx hp hxm hbx1 hbx2
          go_wp2_with (at_builtin; refine wpList_cat rfl _ _ 37 rfl w.heap.size 3 (.int .i64 0) 1 8 undSI infoI rfl (by decide) _ _ _ rfl hown A2 xs.length c2 w.heap.size (ints xs) rfl hra hla (one_of_ints _) ?c2 ?c3 hsz ?n1)
          case c2 => unfold maxLen; omega
          case c3 => omega
          case n1 =>
            intro v1 w1 hown1 hgr1 _
            go_wp2_with fail
            go_roundw
            case rel =>
              refine ⟨k + 1, by omega, by omega, by go_num, ?_, hb.grown hgr1 hsz (fun g hg => (hown.lt g hg).1)⟩
              rw [HST.out, HPC.out, List.length_append, ints_append]
              exact hown1
            case measure => simp [intOf]; omega
        · by_cases hn : -(d.length : Int) ≤ x ∧ x ≤ -1
          · obtain ⟨m, hxm⟩ : ∃ m : Nat, x = -((m : Int) + 1) := ⟨(-x - 1).toNat, by omega⟩
            have hm : m < d.length := by omega
            obtain ⟨b2, off2, A2, c2, xs, rfl, -, hb2h, hxx, hcc, hrx⟩ := hr.row hm
            have hcw : wr.cell? ⟨b2, off2 + m, none⟩ = some (.slice A2 xs.length c2) := (hb.cell (by simp; omega)).trans hcc
            have hlx := H24.out xs (List.mem_of_getElem? hxx)
            have hox := HOK.out xs (List.mem_of_getElem? hxx)
            have hpc := pieceB_neg hxx
            have hra : Rs wr w.heap.size A2 (ints xs) := (hrx.rs.more hhi).below hb
            rw [← hxm] at hpc
            have HPC := Lib.hid hpc
            have HOX := Lib.hid hox
            have hp1 : ¬ 0 < x := by omega
            have hp2 : x < 0 := by omega
            have hp4 : -(d.length : Int) ≤ x := by omega
            have hp5 : -9223372036854775807 ≤ x := by omega
            have hp3 : -x - 1 = (m : Int) := by omega
            clear hpc hxx hcc hrx hox hp hn hxm hbx1 hbx2
            go_wp2_with fail
            with_reducible refine (spec_InvertWord A2 xs c2 _ _ hra hsz HOX.out (by omega)).mono ?_
            rintro e w2 ⟨A3, c3, rfl, ho3, hb3⟩
            rw [invW_len] at ho3 ⊢
            have hown2 := owns_belowS hown hb3
            have hb2 : Below w.heap.size w w2 := hb.trans (hb3.mono hsz)
            have hsz2 := hb2.size
            have hra3 : Rs w2 w2.heap.size A3 (ints (invW xs)) := Rs.of_own ho3
            have hla3 : (ints (invW xs)).length = xs.length * 1 := by rw [ints_len, invW_len]; omega
            clear hra ho3 hcw
            go_wp2_with (at_builtin; refine wpList_cat rfl _ _ 37 rfl w.heap.size 3 (.int .i64 0) 1 8 undSI infoI rfl (by decide) _ _ _ rfl hown2 A3 xs.length c3 w2.heap.size (ints (invW xs)) rfl hra3 hla3 (one_of_ints _) ?c4 ?c5 hsz2 ?n2)
            case c4 => unfold maxLen; omega
            case c5 => omega
            case n2 =>
              intro v1 w3 hown3 hgr3 _
              go_wp2_with fail
              go_roundw
              case rel =>
                refine ⟨k + 1, by omega, by omega, by go_num, ?_, hb2.grown hgr3 hsz2 (fun g hg => (hown2.lt g hg).1)⟩
                rw [HST.out, HPC.out, List.length_append, ints_append, invW_len]
                exact hown3
              case measure => simp [intOf]; omega
          · have hpc := pieceB_else hp hn
            have HPC := Lib.hid hpc
            clear hpc
            go_wp2_with fail
            all_goals exact ⟨⟨k + 1, by omega, by omega, by go_num, by rw [HST.out, HPC.out, List.append_nil]; exact ⟨hown, hb⟩⟩, by simp [intOf]; omega⟩
      · have hexp : expand d l = red [] out := by
          have e : k = 200 := by omega
          rw [HOUT.out, e]
          rfl
        have hoko : OkI out := by rw [HOUT.out]; exact pieces_ok H24.out HOK.out _
        have HE := Lib.hid hexp
        have HO := Lib.hid hoko
        clear hexp hoko
        obtain ⟨A1, c1, rfl, -, -⟩ := owns_shape hown
        have hro : Rs wr wr.heap.size A1 (ints out) := Rs.of_own hown
        go_wp2_with fail
        with_reducible refine (spec_ReduceLetters A1 out c1 _ _ hro (Nat.le_refl _) HO.out (by omega)).mono ?_
        intro e w2 hret
        have hret2 := hret.back hb
        rw [← HE.out] at hret2
        obtain ⟨A2, c2, rfl, ho2, hb2⟩ := hret2
        go_wp2_with fail
        go_ret
        exact ⟨_, _, rfl, ho2, hb2⟩
    · have hexp : expand d l = red [] out := by
        have e : k = l.length := by omega
        rw [HOUT.out, e, List.take_length]
        unfold expand
        rw [List.take_of_length_le (by omega)]
      have hoko : OkI out := by rw [HOUT.out]; exact pieces_ok H24.out HOK.out _
      have HE := Lib.hid hexp
      have HO := Lib.hid hoko
      clear hexp hoko
      obtain ⟨A1, c1, rfl, -, -⟩ := owns_shape hown
      have hro : Rs wr wr.heap.size A1 (ints out) := Rs.of_own hown
      go_wp2_with fail
      with_reducible refine (spec_ReduceLetters A1 out c1 _ _ hro (Nat.le_refl _) HO.out (by omega)).mono ?_
      intro e w2 hret
      have hret2 := hret.back hb
      rw [← HE.out] at hret2
      obtain ⟨A2, c2, rfl, ho2, hb2⟩ := hret2
      go_wp2_with fail
      go_ret
      exact ⟨_, _, rfl, ho2, hb2⟩
end Go.Proofs.Ytimmnnncgnnkgaa

/- ExpandBy of the program. -/
namespace Go.Proofs.Ytimmnnncgnnkgaa
set_option linter.unusedVariables false
set_option linter.unusedSimpArgs false
open Go.RowKit

/-- A row that was there, or one of the call's own. -/
def PRow (w wr : World) (r : Row) : Prop := RV w 0 w.heap.size r.A (ints r.xs) ∨ wr.ownsRow w.heap.size 3 1 r.v r.xs.length (ints r.xs)
theorem PRow.grown {w wr w' : World} {r : Row} {base : Nat} {e' : TypeId} {s' : Nat} {v' : Value} {n' : Nat} {xs' : List Value} (h : PRow w wr r) (ho : wr.ownsRow base e' s' v' n' xs') (hne : 3 ≠ e') (hg : wr.grownBy w' v'.ownBlock) : PRow w w' r := by
  rcases h with h | h
  · exact .inl h
  · exact .inr (h.kept hg (owns_ne h ho hne))
theorem PRow.below {w wr w' : World} {r : Row} (h : PRow w wr r) (hb : Below wr.heap.size wr w') : PRow w w' r := by
  rcases h with h | h
  · exact .inl h
  · exact .inr (owns_belowS h hb)
theorem PRow.rv {w wr : World} {r : Row} (h : PRow w wr r) (hb : Below w.heap.size w wr) : RV wr 0 wr.heap.size r.A (ints r.xs) := by
  rcases h with h | h
  · exact (h.mid (Mid.of_below (lo := 0) (hi := 0) hb) (Or.inl (Nat.zero_le _))).wide (Nat.le_refl _) hb.size (Nat.le_refl _)
  · exact RV.of_rs (Rs.of_own h) (Nat.le_refl _)
/-- What holds of the parts. -/
structure Parts (w wr : World) (v : Value) (rows : List Row) (k : Nat) (d : List (List Int)) (l : List Int) : Prop where
  own : wr.ownsRow w.heap.size 37 1 v rows.length (rowsV rows)
  row : ∀ r ∈ rows, PRow w wr r
  dat : (rowsD rows).flatten = (pieces d (l.take k)).flatten
  ok : ∀ xs ∈ rowsD rows, OkI xs
  len : rows.length ≤ k
  bel : Below w.heap.size w wr
theorem Parts.push {w wr w1 : World} {v v' : Value} {rows : List Row} {k : Nat} {d : List (List Int)} {l : List Int} {x : Int} {r : Row} (h : Parts w wr v rows k d l) (hx : l[k]? = some x) (hp : pieceB d x = r.xs) (hr : PRow w wr r) (ho : OkI r.xs)
    (hown : w1.ownsRow w.heap.size 37 1 v' (rows.length + 1) (rowsV rows ++ [r.v])) (hg : wr.grownBy w1 v.ownBlock) : Parts w w1 v' (rows ++ [r]) (k + 1) d l := by
  refine ⟨?_, ?_, ?_, ?_, ?_, h.bel.grown hg h.bel.size (fun g hg => (h.own.lt g hg).1)⟩
  · rw [rowsV_append, List.length_append]
    exact hown
  · intro s hs
    rcases List.mem_append.1 hs with h1 | h1
    · exact (h.row s h1).grown h.own (by decide) hg
    · simp at h1
      subst h1
      exact hr.grown h.own (by decide) hg
  · rw [rowsD_append, List.flatten_append, h.dat, pieces_succ d l hx, hp]
    simp [rowsD]
  · intro xs hxs
    rw [rowsD_append] at hxs
    rcases List.mem_append.1 hxs with h1 | h1
    · exact h.ok xs h1
    · simp [rowsD] at h1
      subst h1
      exact ho
  · have := h.len
    simp
    omega
theorem Parts.skip {w wr : World} {v : Value} {rows : List Row} {k : Nat} {d : List (List Int)} {l : List Int} {x : Int} (h : Parts w wr v rows k d l) (hx : l[k]? = some x) (hp : pieceB d x = []) : Parts w wr v rows (k + 1) d l :=
  ⟨h.own, h.row, by rw [h.dat, pieces_succ d l hx, hp, List.append_nil], h.ok, by have := h.len; omega, h.bel⟩
theorem Parts.below {w wr w1 : World} {v : Value} {rows : List Row} {k : Nat} {d : List (List Int)} {l : List Int} (h : Parts w wr v rows k d l) (hb : Below wr.heap.size wr w1) : Parts w w1 v rows k d l :=
  ⟨owns_belowS h.own hb, fun r hr => (h.row r hr).below hb, h.dat, h.ok, h.len, h.bel.trans (hb.mono h.bel.size)⟩
theorem Parts.rss {w wr : World} {A : Option Addr} {n c : Nat} {rows : List Row} {k : Nat} {d : List (List Int)} {l : List Int} (h : Parts w wr (.slice A n c) rows k d l) : RSS wr 0 wr.heap.size A (rowsD rows) := by
  obtain ⟨A', c', he, -, -⟩ := owns_shape h.own
  injection he with e1 e2 e3
  subst e1 e2 e3
  exact ⟨rows, rfl, RV.of_rs (Rs.of_own h.own) (Nat.le_refl _), fun r hr => (h.row r hr).rv h.bel⟩

set_option maxRecDepth 20000 in
set_option maxHeartbeats 6400000 in
theorem impl_ExpandBy (A : Option Addr) (d : List (List Int)) (c : Nat) (A' : Option Addr) (l : List Int) (c' : Nat) (w : World) (lo hi : Nat) (hr : RSS w lo hi A d) (hr' : Rs w w.heap.size A' (ints l)) (hc : l.length ≤ c') (hb24 : ∀ xs ∈ d, xs.length ≤ 24) (hok : ∀ xs ∈ d, OkI xs) (hokl : OkI l) (hld : d.length ≤ 1048576) (hll : l.length ≤ 1048576) :
    Calls Try.prog 79 #[.slice A d.length c, .slice A' l.length c'] w fun e w' => RetI 3 (expand d l) w e w' := by
  have HOK := Lib.hid hok
  have HOL := Lib.hid hokl
  have H24 := Lib.hid hb24
  clear hok hokl hb24
  have hhi := hr.size
  have ho0 := owns_empty w 37 1
  have hb0 := (Below.refl w.heap.size w).alloc (Nat.le_refl _) (.cells #[] 37)
  have hp0 : Parts w (w.alloc (.cells #[] 37)) (.slice (some ⟨w.heap.size, 0, none⟩) 0 0) [] 0 d l := ⟨ho0, by simp, by simp [rowsD, pieces], by simp [rowsD], Nat.le_refl _, hb0⟩
  by_cases hle : l.length ≤ 200
  · have hmin : min (l.length : Int) 200 = (l.length : Int) := by omega
    go_enter Try.func79, Try.ntmps79
    go_wp2_with fail
    go_loopw [5, 7, 15] (fun v _ i wr => ∃ k : Nat, ∃ rows : List Row, k ≤ l.length ∧ i = .int .i64 k ∧ Parts w wr v rows k d l) (fun _ _ i _ => l.length - (intOf i).toNat)
    case atStart => exact ⟨0, [], Nat.zero_le _, rfl, hp0⟩
    case round =>
      obtain ⟨k, rows, hk, rfl, hown⟩ := hrel
      have hsz := hown.bel.size
      have hrl := hown.len
      by_cases hlt : k < l.length
      · obtain ⟨b, off, x, rfl, -, hx, hcx⟩ := (hr'.below hown.bel).int (show k < l.length by omega)
        have hbx := HOL.out x (List.mem_of_getElem? hx)
        obtain ⟨hbx1, hbx2⟩ := hbx
        have HX := Lib.hid hx
        clear hx
        by_cases hp : 1 ≤ x ∧ x ≤ d.length
        · obtain ⟨m, hxm⟩ : ∃ m : Nat, x = (m : Int) + 1 := ⟨(x - 1).toNat, by omega⟩
          have hm : m < d.length := by omega
          obtain ⟨b2, off2, A2, c2, xs, rfl, -, hb2h, hxx, hcc, hrx⟩ := hr.row hm
          have hcw : wr.cell? ⟨b2, off2 + m, none⟩ = some (.slice A2 xs.length c2) := (hown.bel.cell (by simp; omega)).trans hcc
          have hpc := pieceB_pos hxx
          rw [← hxm] at hpc
          have hox := HOK.out xs (List.mem_of_getElem? hxx)
          have hpr : PRow w wr ⟨A2, c2, xs⟩ := .inl (hrx.wide (Nat.zero_le _) hhi (Nat.le_refl _))
          have HPC := Lib.hid hpc
          have HOX := Lib.hid hox
          have HPR := Lib.hid hpr
          have hin : inB x 1 (d.length : Int) = true := by simp [inB]; omega
          have HIN := Lib.hid hin
          have hp3 : x - 1 = (m : Int) := by omega
          clear hpc hxx hcc hrx hp hxm hbx1 hbx2 hox hpr hin
          go_wp2_with fail
          refine (within_any _ _ _ _).mono ?_
          rintro e w' ⟨rfl, rfl⟩
          rw [HIN.out]
          go_wp2_with (at_builtin; refine wpList_push rfl _ _ 48 rfl w.heap.size 37 (.slice none 0 0) 1 24 undSSI infoSI rfl (by decide) _ _ _ rfl hown.own 1 [.slice A2 xs.length c2] rfl rfl (one_of_rows [⟨A2, c2, xs⟩]) (by unfold maxLen; omega) (by omega) hsz ?n1)
          case n1 =>
            intro v' w1 hown1 hgr _
            go_wp2_with fail
            go_roundw
            case rel => exact ⟨k + 1, rows ++ [⟨A2, c2, xs⟩], by omega, by go_num, hown.push (r := ⟨A2, c2, xs⟩) HX.out HPC.out HPR.out HOX.out hown1 hgr⟩
            case measure => simp [intOf]; omega
        · have hin : inB x 1 (d.length : Int) = false := by
            cases hv : inB x 1 (d.length : Int) with
            | false => rfl
            | true => exact absurd (by simpa [inB] using hv) hp
          have HIN := Lib.hid hin
          clear hin
          by_cases hn : -(d.length : Int) ≤ x ∧ x ≤ -1
          · obtain ⟨m, hxm⟩ : ∃ m : Nat, x = -((m : Int) + 1) := ⟨(-x - 1).toNat, by omega⟩
            have hm : m < d.length := by omega
            obtain ⟨b2, off2, A2, c2, xs, rfl, -, hb2h, hxx, hcc, hrx⟩ := hr.row hm
            have hcw : wr.cell? ⟨b2, off2 + m, none⟩ = some (.slice A2 xs.length c2) := (hown.bel.cell (by simp; omega)).trans hcc
            have hpc := pieceB_neg hxx
            rw [← hxm] at hpc
            have hox := HOK.out xs (List.mem_of_getElem? hxx)
            have hlx := H24.out xs (List.mem_of_getElem? hxx)
            have hra : Rs wr w.heap.size A2 (ints xs) := (hrx.rs.more hhi).below hown.bel
            have HPC := Lib.hid hpc
            have HOX := Lib.hid hox
            have hin2 : inB x (-(d.length : Int)) (-1) = true := by simp [inB]; omega
            have HIN2 := Lib.hid hin2
            have hp5 : -9223372036854775807 ≤ x := by omega
            have hp6 : x ≤ 9223372036854775807 := by omega
            have hp3 : -x - 1 = (m : Int) := by omega
            clear hpc hxx hcc hrx hp hn hxm hbx1 hbx2 hox hin2
            go_wp2_with fail
            refine (within_any _ _ _ _).mono ?_
            rintro e w' ⟨rfl, rfl⟩
            rw [HIN.out]
            go_wp2_with fail
            refine (within_any _ _ _ _).mono ?_
            rintro e w' ⟨rfl, rfl⟩
            rw [HIN2.out]
            go_wp2_with fail
            refine (impl_InvertWordX A2 xs c2 _ _ hra hsz HOX.out (by omega)).mono ?_
            rintro e w2 ⟨A3, c3, rfl, hn3, ho3, hb3⟩
            have hown2 := hown.below hb3
            have hsz2 := hown2.bel.size
            have hpr : PRow w w2 ⟨A3, c3, invW xs⟩ := .inr (by
              show w2.ownsRow w.heap.size 3 1 (.slice A3 (invW xs).length c3) (invW xs).length (ints (invW xs))
              rw [invW_len]
              exact owns_base ho3 hsz)
            have HPR := Lib.hid hpr
            clear hpr ho3 hra hcw
            go_wp2_with (at_builtin; refine wpList_push rfl _ _ 48 rfl w.heap.size 37 (.slice none 0 0) 1 24 undSSI infoSI rfl (by decide) _ _ _ rfl hown2.own 1 [.slice A3 xs.length c3] rfl rfl (by simp [Value.oneCell']) (by unfold maxLen; omega) (by omega) hsz2 ?n2)
            case n2 =>
              intro v' w1 hown1 hgr _
              go_wp2_with fail
              go_roundw
              case rel =>
                refine ⟨k + 1, rows ++ [⟨A3, c3, invW xs⟩], by omega, by go_num, hown2.push HX.out HPC.out HPR.out (okI_invW HOX.out) ?_ hgr⟩
                show w1.ownsRow w.heap.size 37 1 v' (rows.length + 1) (rowsV rows ++ [.slice A3 (invW xs).length c3])
                rw [invW_len]
                exact hown1
              case measure => simp [intOf]; omega
          · have hin2 : inB x (-(d.length : Int)) (-1) = false := by
              cases hv : inB x (-(d.length : Int)) (-1) with
              | false => rfl
              | true => exact absurd (by simpa [inB] using hv) hn
            have HIN2 := Lib.hid hin2
            have hpc := pieceB_else hp hn
            have HPC := Lib.hid hpc
            clear hpc hin2
            go_wp2_with fail
            refine (within_any _ _ _ _).mono ?_
            rintro e w' ⟨rfl, rfl⟩
            rw [HIN.out]
            go_wp2_with fail
            refine (within_any _ _ _ _).mono ?_
            rintro e w' ⟨rfl, rfl⟩
            rw [HIN2.out]
            go_wp2_with fail
            go_roundw
            case rel => exact ⟨k + 1, rows, by omega, by go_num, hown.skip HX.out HPC.out⟩
            case measure => simp [intOf]; omega
      · have hexp : expand d l = red [] (rowsD rows).flatten := by
          rw [hown.dat, show k = l.length from by omega, List.take_length, expand, List.take_of_length_le hle]
        have hsum : sumL (rowsD rows) ≤ 268435456 := by
          rw [← sumL_flatten, hown.dat]
          have := pieces_take_len H24.out HOK.out l (show k ≤ 200 by omega)
          omega
        have hrd : (rowsD rows).length ≤ 4194304 := by rw [rowsD_len]; omega
        obtain ⟨A1, c1, rfl, -, -⟩ := owns_shape hown.own
        have hC := impl_product A1 (rowsD rows) c1 wr 0 wr.heap.size hown.rss hown.ok hrd hsum
        rw [rowsD_len, ← hexp] at hC
        have HC := Lib.hid hC
        clear hC hexp hsum hrd
        go_wp2_with fail
        refine HC.out.mono ?_
        intro e w2 hret
        have hret2 := hret.back hown.bel
        obtain ⟨A2, c2, rfl, ho2, hb2⟩ := hret2
        go_wp2_with fail
        go_ret
        exact ⟨_, _, rfl, ho2, hb2⟩
  · have hc200 : 200 ≤ c' := by omega
    go_enter Try.func79, Try.ntmps79
    go_wp2_with fail
    go_loopw [5, 7, 15] (fun v _ i wr => ∃ k : Nat, ∃ rows : List Row, k ≤ 200 ∧ i = .int .i64 k ∧ Parts w wr v rows k d l) (fun _ _ i _ => 200 - (intOf i).toNat)
    case atStart => exact ⟨0, [], Nat.zero_le _, rfl, hp0⟩
    case round =>
      obtain ⟨k, rows, hk, rfl, hown⟩ := hrel
      have hsz := hown.bel.size
      have hrl := hown.len
      by_cases hlt : k < 200
      · obtain ⟨b, off, x, rfl, -, hx, hcx⟩ := (hr'.below hown.bel).int (show k < l.length by omega)
        have hbx := HOL.out x (List.mem_of_getElem? hx)
        obtain ⟨hbx1, hbx2⟩ := hbx
        have HX := Lib.hid hx
        clear hx
        by_cases hp : 1 ≤ x ∧ x ≤ d.length
        · obtain ⟨m, hxm⟩ : ∃ m : Nat, x = (m : Int) + 1 := ⟨(x - 1).toNat, by omega⟩
          have hm : m < d.length := by omega
          obtain ⟨b2, off2, A2, c2, xs, rfl, -, hb2h, hxx, hcc, hrx⟩ := hr.row hm
          have hcw : wr.cell? ⟨b2, off2 + m, none⟩ = some (.slice A2 xs.length c2) := (hown.bel.cell (by simp; omega)).trans hcc
          have hpc := pieceB_pos hxx
          rw [← hxm] at hpc
          have hox := HOK.out xs (List.mem_of_getElem? hxx)
          have hpr : PRow w wr ⟨A2, c2, xs⟩ := .inl (hrx.wide (Nat.zero_le _) hhi (Nat.le_refl _))
          have HPC := Lib.hid hpc
          have HOX := Lib.hid hox
          have HPR := Lib.hid hpr
          have hin : inB x 1 (d.length : Int) = true := by simp [inB]; omega
          have HIN := Lib.hid hin
          have hp3 : x - 1 = (m : Int) := by omega
          clear hpc hxx hcc hrx hp hxm hbx1 hbx2 hox hpr hin
          go_wp2_with fail
          refine (within_any _ _ _ _).mono ?_
          rintro e w' ⟨rfl, rfl⟩
          rw [HIN.out]
          go_wp2_with (at_builtin; refine wpList_push rfl _ _ 48 rfl w.heap.size 37 (.slice none 0 0) 1 24 undSSI infoSI rfl (by decide) _ _ _ rfl hown.own 1 [.slice A2 xs.length c2] rfl rfl (one_of_rows [⟨A2, c2, xs⟩]) (by unfold maxLen; omega) (by omega) hsz ?n1)
          case n1 =>
            intro v' w1 hown1 hgr _
            go_wp2_with fail
            go_roundw
            case rel => exact ⟨k + 1, rows ++ [⟨A2, c2, xs⟩], by omega, by go_num, hown.push (r := ⟨A2, c2, xs⟩) HX.out HPC.out HPR.out HOX.out hown1 hgr⟩
            case measure => simp [intOf]; omega
        · have hin : inB x 1 (d.length : Int) = false := by
            cases hv : inB x 1 (d.length : Int) with
            | false => rfl
            | true => exact absurd (by simpa [inB] using hv) hp
          have HIN := Lib.hid hin
          clear hin
          by_cases hn : -(d.length : Int) ≤ x ∧ x ≤ -1
          · obtain ⟨m, hxm⟩ : ∃ m : Nat, x = -((m : Int) + 1) := ⟨(-x - 1).toNat, by omega⟩
            have hm : m < d.length := by omega
            obtain ⟨b2, off2, A2, c2, xs, rfl, -, hb2h, hxx, hcc, hrx⟩ := hr.row hm
            have hcw : wr.cell? ⟨b2, off2 + m, none⟩ = some (.slice A2 xs.length c2) := (hown.bel.cell (by simp; omega)).trans hcc
            have hpc := pieceB_neg hxx
            rw [← hxm] at hpc
            have hox := HOK.out xs (List.mem_of_getElem? hxx)
            have hlx := H24.out xs (List.mem_of_getElem? hxx)
            have hra : Rs wr w.heap.size A2 (ints xs) := (hrx.rs.more hhi).below hown.bel
            have HPC := Lib.hid hpc
            have HOX := Lib.hid hox
            have hin2 : inB x (-(d.length : Int)) (-1) = true := by simp [inB]; omega
            have HIN2 := Lib.hid hin2
            have hp5 : -9223372036854775807 ≤ x := by omega
            have hp6 : x ≤ 9223372036854775807 := by omega
            have hp3 : -x - 1 = (m : Int) := by omega
            clear hpc hxx hcc hrx hp hn hxm hbx1 hbx2 hox hin2
            go_wp2_with fail
            refine (within_any _ _ _ _).mono ?_
            rintro e w' ⟨rfl, rfl⟩
            rw [HIN.out]
            go_wp2_with fail
            refine (within_any _ _ _ _).mono ?_
            rintro e w' ⟨rfl, rfl⟩
            rw [HIN2.out]
            go_wp2_with fail
            refine (impl_InvertWordX A2 xs c2 _ _ hra hsz HOX.out (by omega)).mono ?_
            rintro e w2 ⟨A3, c3, rfl, hn3, ho3, hb3⟩
            have hown2 := hown.below hb3
            have hsz2 := hown2.bel.size
            have hpr : PRow w w2 ⟨A3, c3, invW xs⟩ := .inr (by
              show w2.ownsRow w.heap.size 3 1 (.slice A3 (invW xs).length c3) (invW xs).length (ints (invW xs))
              rw [invW_len]
              exact owns_base ho3 hsz)
            have HPR := Lib.hid hpr
            clear hpr ho3 hra hcw
            go_wp2_with (at_builtin; refine wpList_push rfl _ _ 48 rfl w.heap.size 37 (.slice none 0 0) 1 24 undSSI infoSI rfl (by decide) _ _ _ rfl hown2.own 1 [.slice A3 xs.length c3] rfl rfl (by simp [Value.oneCell']) (by unfold maxLen; omega) (by omega) hsz2 ?n2)
            case n2 =>
              intro v' w1 hown1 hgr _
              go_wp2_with fail
              go_roundw
              case rel =>
                refine ⟨k + 1, rows ++ [⟨A3, c3, invW xs⟩], by omega, by go_num, hown2.push HX.out HPC.out HPR.out (okI_invW HOX.out) ?_ hgr⟩
                show w1.ownsRow w.heap.size 37 1 v' (rows.length + 1) (rowsV rows ++ [.slice A3 (invW xs).length c3])
                rw [invW_len]
                exact hown1
              case measure => simp [intOf]; omega
          · have hin2 : inB x (-(d.length : Int)) (-1) = false := by
              cases hv : inB x (-(d.length : Int)) (-1) with
              | false => rfl
              | true => exact absurd (by simpa [inB] using hv) hn
            have HIN2 := Lib.hid hin2
            have hpc := pieceB_else hp hn
            have HPC := Lib.hid hpc
            clear hpc hin2
            go_wp2_with fail
            refine (within_any _ _ _ _).mono ?_
            rintro e w' ⟨rfl, rfl⟩
            rw [HIN.out]
            go_wp2_with fail
            refine (within_any _ _ _ _).mono ?_
            rintro e w' ⟨rfl, rfl⟩
            rw [HIN2.out]
            go_wp2_with fail
            go_roundw
            case rel => exact ⟨k + 1, rows, by omega, by go_num, hown.skip HX.out HPC.out⟩
            case measure => simp [intOf]; omega
      · have hexp : expand d l = red [] (rowsD rows).flatten := by
          rw [hown.dat, show k = 200 from by omega, expand]
        have hsum : sumL (rowsD rows) ≤ 268435456 := by
          rw [← sumL_flatten, hown.dat]
          have := pieces_take_len H24.out HOK.out l (show k ≤ 200 by omega)
          omega
        have hrd : (rowsD rows).length ≤ 4194304 := by rw [rowsD_len]; omega
        obtain ⟨A1, c1, rfl, -, -⟩ := owns_shape hown.own
        have hC := impl_product A1 (rowsD rows) c1 wr 0 wr.heap.size hown.rss hown.ok hrd hsum
        rw [rowsD_len, ← hexp] at hC
        have HC := Lib.hid hC
        clear hC hexp hsum hrd
        go_wp2_with fail
        refine HC.out.mono ?_
        intro e w2 hret
        have hret2 := hret.back hown.bel
        obtain ⟨A2, c2, rfl, ho2, hb2⟩ := hret2
        go_wp2_with fail
        go_ret
        exact ⟨_, _, rfl, ho2, hb2⟩
end Go.Proofs.Ytimmnnncgnnkgaa

/- FixedWords, the program. -/
namespace Go.Proofs.Ytimmnnncgnnkgaa
set_option linter.unusedVariables false
set_option linter.unusedSimpArgs false
open Go.RowKit

def fixW (d : List (List Int)) (l : List (List Int)) : List (List Int) := l.filter fun w => decide (expand d w = w)
def FixOk (rk : Int) (d : List (List Int)) (most : Int) : Prop := IsMor rk d ∧ 0 ≤ most ∧ most ≤ 4
def FixIs (rk : Int) (d : List (List Int)) (most : Int) (res : List (List Int)) : Prop := (FixOk rk d most ∧ res = fixW d (pre okB (lets rk.toNat) (most.toNat + 1))) ∨ (¬ FixOk rk d most ∧ res = [])
theorem FixIs_ex (rk : Int) (d : List (List Int)) (most : Int) : ∃ res, FixIs rk d most res := by
  by_cases h : FixOk rk d most
  · exact ⟨_, .inl ⟨h, rfl⟩⟩
  · exact ⟨_, .inr ⟨h, rfl⟩⟩
theorem FixIs.no {rk : Int} {d : List (List Int)} {most : Int} {res : List (List Int)} (h : FixIs rk d most res) (hn : ¬ FixOk rk d most) : res = [] := by
  rcases h with ⟨h, -⟩ | ⟨-, h⟩
  · exact absurd h hn
  · exact h
theorem FixIs.yes {rk : Int} {d : List (List Int)} {most : Int} {res : List (List Int)} (h : FixIs rk d most res) (hn : FixOk rk d most) : res = fixW d (pre okB (lets rk.toNat) (most.toNat + 1)) := by
  rcases h with ⟨-, h⟩ | ⟨h, -⟩
  · exact h
  · exact absurd hn h
theorem fixW_take {d l : List (List Int)} {k : Nat} {w : List Int} (h : l[k]? = some w) : fixW d (l.take (k + 1)) = fixW d (l.take k) ++ (if expand d w = w then [w] else []) := by
  obtain ⟨hk, h'⟩ := List.getElem?_eq_some_iff.1 h
  rw [List.take_succ_eq_append_getElem hk, h']
  unfold fixW
  rw [List.filter_append]
  by_cases h2 : expand d w = w
  · simp [h2]
  · simp [h2]
theorem FixIs.lens {rk : Int} {d : List (List Int)} {most : Int} {res : List (List Int)} (h : FixIs rk d most res) : res.length + sumL res ≤ 1048576 := by
  rcases h with ⟨h, rfl⟩ | ⟨-, rfl⟩
  · have hr : 1 ≤ rk := h.1.1
    have hr3 : rk ≤ 3 := h.1.2.1
    have hLL : (lets rk.toNat).length ≤ 6 := by rw [lets_len]; omega
    have h1 := pre_b (f := okB) hLL (n := most.toNat + 1) (by have := h.2; omega)
    have h2 : (fixW d (pre okB (lets rk.toNat) (most.toNat + 1))).length ≤ (pre okB (lets rk.toNat) (most.toNat + 1)).length := List.length_filter_le _ _
    have h3 := sumL_le (m := 5) (fixW d (pre okB (lets rk.toNat) (most.toNat + 1))) fun x hx => by
      have h4 := pre_ok (List.mem_filter.1 hx).1
      have := h.2
      omega
    have := h.2
    omega
  · simp [sumL]
/-- A row that lies among rows of the call's own is put behind others of them. -/
structure SubR (w : World) (lo b : Nat) (A : Option Addr) (n c : Nat) (rows all : List Row) : Prop where
  out : w.ownsRow lo 37 1 (.slice A n c) n (rowsV rows)
  own : OwnRows w b w.heap.size 3 all
  sub : List.Sublist rows all
theorem SubR.mid {w w' : World} {lo b : Nat} {A : Option Addr} {n c : Nat} {rows all : List Row} (h : SubR w lo b A n c rows all) (m : Mid 0 0 w w') : SubR w' lo b A n c rows all :=
  ⟨owns_mid h.out m (Or.inl (Nat.zero_le _)), (h.own.mid m (Or.inl (Nat.zero_le _))).wide (Nat.le_refl _) m.size (Nat.le_refl _), h.sub⟩
theorem SubR.len {w : World} {lo b : Nat} {A : Option Addr} {n c : Nat} {rows all : List Row} (h : SubR w lo b A n c rows all) : rows.length = n := by
  have := h.out.1
  rw [rowsV_len] at this
  omega
theorem SubR.oss {w : World} {lo b : Nat} {A : Option Addr} {n c : Nat} {rows all : List Row} (h : SubR w lo b A n c rows all) (hb : lo ≤ b) {xss : List (List Int)} (hd : rowsD rows = xss) : OSS w lo w.heap.size 37 3 A c xss :=
  OSS.mk' h.out ⟨fun r hr => (h.own.1 r (h.sub.subset hr)).wide hb (Nat.le_refl _) (Nat.le_refl _), h.own.2.sublist h.sub⟩ hd
section
variable {W : World} {ops : Array Oper} {rest : List Oper} {o : Oper} {ac : Act} {Q : Exit → Act → World → Prop}
theorem wpList_pushSub {lo b : Nat} {A : Option Addr} {n c : Nat} {rows all : List Row} (hgd : o.guard = none) (s x : Operand)
    (ho : o.op = .call { callee := .builtin .append, args := #[s, x], argTypes := #[48, 48] }) (hs : ac.eval s = .slice A n c)
    (h : SubR W lo b A n c rows all) (r : Row) (u : Value) (hu : r.v = u) (hsub : List.Sublist (rows ++ [r]) all) (hx : ac.eval x = .slice (some ⟨W.heap.size, 0, none⟩) 1 1) (hn : n ≤ 1048576) (hb : lo ≤ W.heap.size)
    (hk : ∀ A' c' w', SubR w' lo b A' (n + 1) c' (rows ++ [r]) all → W.grownBy w' (Value.ownBlock (.slice A n c)) → (Value.ownBlock (.slice A' (n + 1) c') = Value.ownBlock (.slice A n c) ∨ Value.ownBlock (.slice A' (n + 1) c') = some (W.heap.size + 1)) → wpList Try.prog ops Q rest (ac.put o.dst (.slice A' (n + 1) c')) w') :
    wpList Try.prog ops Q (o :: rest) ac (W.alloc (.cells #[u] 37)) := by
  subst hu
  refine wpList_push (news := [r.v]) hgd s x 48 ho lo 37 (.slice none 0 0) 1 24 undSSI infoSI rfl (by decide) (.slice A n c) n (rowsV rows) hs h.out 1 hx rfl ?_ (by unfold maxLen; omega) (by omega) hb ?_
  · intro u hu
    simp at hu
    subst hu
    rfl
  · intro v' w' h1 h2 h3
    obtain ⟨A', c', rfl, -, -⟩ := owns_shape h1
    refine hk A' c' w' ⟨by rw [rowsV_append]; exact h1, ?_, hsub⟩ h2 h3
    exact (h.own.grown h.out (by decide) h2).wide (Nat.le_refl _) h2.size (Nat.le_refl _)
end
theorem RetI.get {eI : TypeId} {xs : List Int} {w w' : World} {e : Ending} (h : RetI eI xs w e w') : ∃ A c, e = .returned (.slice A xs.length c) ∧ w'.ownsRow w.heap.size eI 1 (.slice A xs.length c) xs.length (ints xs) ∧ Mid 0 0 w w' := by
  obtain ⟨A, c, h1, h2, h3⟩ := h
  exact ⟨A, c, h1, h2, Mid.of_below h3⟩
end Go.Proofs.Ytimmnnncgnnkgaa

/- Lists of words with the rows' capacities. -/
namespace Go.Proofs.Ytimmnnncgnnkgaa
set_option linter.unusedVariables false
set_option linter.unusedSimpArgs false
open Go.RowKit
/-- The slice of slices at A reads xss, and each row has room for what it holds. -/
def RSC (w : World) (lo hi : Nat) (A : Option Addr) (xss : List (List Int)) : Prop :=
  ∃ rows, rowsD rows = xss ∧ RV w lo hi A (rowsV rows) ∧ ∀ r ∈ rows, RV w lo hi r.A (ints r.xs) ∧ r.xs.length ≤ r.c
section
variable {w w' : World} {lo hi a b : Nat} {A : Option Addr} {xss : List (List Int)}
theorem RSC.rss (h : RSC w lo hi A xss) : RSS w lo hi A xss := by
  obtain ⟨rows, h1, h2, h3⟩ := h
  exact ⟨rows, h1, h2, fun r hr => (h3 r hr).1⟩
theorem RSC.size (h : RSC w lo hi A xss) : hi ≤ w.heap.size := h.rss.size
theorem RSC.mid (h : RSC w lo hi A xss) (m : Mid a b w w') (hd : b ≤ lo ∨ hi ≤ a) : RSC w' lo hi A xss := by
  obtain ⟨rows, h1, h2, h3⟩ := h
  exact ⟨rows, h1, h2.mid m hd, fun r hr => ⟨(h3 r hr).1.mid m hd, (h3 r hr).2⟩⟩
theorem owns_cap {e : TypeId} {base size n c : Nat} {xs : List Value} (h : w.ownsRow base e size (.slice A n c) n xs) : n ≤ c := by
  obtain ⟨_, _, e, h1, _⟩ := owns_shape h
  injection e with _ _ e
  omega
theorem RSC.row (h : RSC w lo hi A xss) {k : Nat} (hk : k < xss.length) :
    ∃ b off A' c' xs, A = some ⟨b, off, none⟩ ∧ lo ≤ b ∧ b < hi ∧ xss[k]? = some xs ∧ w.cell? ⟨b, off + k, none⟩ = some (.slice A' xs.length c') ∧ RV w lo hi A' (ints xs) ∧ xs.length ≤ c' := by
  obtain ⟨rows, rfl, h2, h3⟩ := h
  rw [rowsD_len] at hk
  obtain ⟨b, off, e, hb, hb2, hc⟩ := h2.2 (by intro h0; have := congrArg List.length h0; rw [rowsV_len] at this; simp at this; subst this; simp at hk)
  obtain ⟨r, hr⟩ := get_of_lt rows hk
  refine ⟨b, off, r.A, r.c, r.xs, e, hb, hb2, by simp [rowsD, hr], hc k _ (by simp [rowsV, hr, Row.v]), (h3 r (List.mem_of_getElem? hr)).1, (h3 r (List.mem_of_getElem? hr)).2⟩
end
end Go.Proofs.Ytimmnnncgnnkgaa

/- Maps keyed by pairs of integers: a map that the call has made, which reads as the place of a pair in a list. -/
namespace Go.Proofs.Ytimmnnncgnnkgaa
set_option linter.unusedVariables false
set_option linter.unusedSimpArgs false
open Go.RowKit
open Go.Maps (Keyed)

theorem undP2 : Try.prog.underlying 73 = some (.array 2 3) := by kernel_rfl
theorem laidP : laidOutB Try.prog = true := by kernel_rfl
theorem rowP : (73 : TypeId) < Try.prog.types.size := of_decide_eq_true (by kernel_rfl)
theorem wideP : (match Try.prog.underlying 73 with | some (.array _ _) | some (.struct _) => true | _ => false) = true := by rw [undP2]
set_option maxRecDepth 100000 in
theorem keyedP : Keyed Try.prog 73 := Keyed.of_law (deep_law_laid laidP (m := 2) (by omega) rowP (by kernel_rfl) wideP)
theorem cellsP : Try.prog.cellsOf 73 = 2 := by kernel_rfl
theorem cellsI1 : Try.prog.cellsOf 3 = 1 := by kernel_rfl
theorem keyTP : Try.prog.keyType 73 = true := by kernel_rfl
theorem pos_succ {n : Nat} (h : 0 < n) : ∃ m, n = m + 1 := ⟨n - 1, by omega⟩
set_option maxRecDepth 100000 in
theorem sizeP : ∃ m, Try.prog.types.size = m + 1 := pos_succ (of_decide_eq_true (by kernel_rfl))

def pairV (p : Int × Int) : Value := .agg #[.int .i64 p.1, .int .i64 p.2]
def PairOk (p : Int × Int) : Prop := (Lit.int .i64 p.1).wf = true ∧ (Lit.int .i64 p.2).wf = true
theorem pair_key {p : Int × Int} (h : PairOk p) : ∃ l, keyOf Try.prog 73 (pairV p) = some l := by
  obtain ⟨a, b⟩ := p
  obtain ⟨h1, h2⟩ := h
  simp only at h1 h2
  have hf : (pairV (a, b)).formed Try.prog 73 = true := by simp [pairV, Value.formed, undP2, cellsP]
  obtain ⟨m, hm⟩ := sizeP
  have e1 : ∀ x : Int, (Lit.int .i64 x).wf = true → Try.prog.keyLits (m + 1) 3 [.int .i64 x] = some [.int .i64 x] := fun x hx => by simp [Program.keyLits, undI, hx]
  have hk : Try.prog.keyLits (m + 1 + 1) 73 (pairV (a, b)).cells.toList = some [.int .i64 a, .int .i64 b] := by
    unfold Program.keyLits
    rw [undP2]
    simp only [pairV, Value.cells, cellsP, cellsI1]
    simp [List.range, List.range.loop, e1 a h1, e1 b h2]
  unfold keyOf
  rw [undP2]
  simp only [keyTP, hf, Bool.and_self, if_true, hm, hk]
  exact ⟨_, rfl⟩
theorem pairK_ex : ∃ kf : Int × Int → Lit, (∀ p, PairOk p → keyOf Try.prog 73 (pairV p) = some (kf p)) ∧ (∀ p, PairOk p → WideAt.IsKeyLit (kf p)) ∧ ∀ p q, PairOk p → PairOk q → kf p = kf q → p = q := by
  have h0 : ∀ p : Int × Int, ∃ l, PairOk p → keyOf Try.prog 73 (pairV p) = some l := fun p => by
    by_cases hp : PairOk p
    · obtain ⟨l, hl⟩ := pair_key hp
      exact ⟨l, fun _ => hl⟩
    · exact ⟨.int .i64 0, fun h => absurd h hp⟩
  obtain ⟨kf, hkf⟩ := Classical.axiomOfChoice h0
  refine ⟨kf, hkf, fun p hp => keyedP.key (hkf p hp), fun p q hp hq h => ?_⟩
  have h1 := hkf p hp
  have h2 := hkf q hq
  rw [← h] at h2
  have h3 := keyedP.inj h1 h2
  obtain ⟨a, b⟩ := p
  obtain ⟨c, d⟩ := q
  simp only [pairV, Value.agg.injEq] at h3
  simp at h3
  rw [h3.1, h3.2]
noncomputable def pairK : Int × Int → Lit := Classical.choose pairK_ex
theorem pairK_key : ∀ p, PairOk p → WideAt.IsKeyLit (pairK p) := (Classical.choose_spec pairK_ex).2.1
theorem pairK_inj {p q : Int × Int} (hp : PairOk p) (hq : PairOk q) (h : pairK p = pairK q) : p = q := (Classical.choose_spec pairK_ex).2.2 p q hp hq h

/-- Block b is a map that gives the pairs of st their places. -/
def PMap (w : World) (b : Nat) (st : PS) : Prop := ∃ D : DataW Unit, w.ownsMap Try.prog 73 (plainElem Try.prog 3) b st.length D ∧
  (∀ p, PairOk p → Maps.has D (pairK p) = decide (p ∈ st)) ∧ ∀ p, PairOk p → p ∈ st → D.atKey (pairK p) (.lit (.int .i64 0)) = .lit (.int .i64 (st.idxOf p : Nat))
theorem PMap.lt {w : World} {b : Nat} {st : PS} (h : PMap w b st) : b < w.heap.size := by
  obtain ⟨D, h, -⟩ := h
  exact h.lt
theorem PMap.made (w : World) : PMap (w.alloc (.map #[] 0)) w.heap.size [] :=
  ⟨.map [], World.ownsMap_made w _ _ _, fun p hp => by simp [Maps.has], fun p hp h => by simp at h⟩
theorem PMap.mid {w w' : World} {b lo hi : Nat} {st : PS} (h : PMap w b st) (m : Mid lo hi w w') (hd : b < lo ∨ hi ≤ b) : PMap w' b st := by
  obtain ⟨D, h, h2⟩ := h
  have hlt := h.lt
  obtain ⟨es, clock, hb, F, hs, hD⟩ := h
  exact ⟨D, ⟨es, clock, (m.block b hlt (by omega)).trans hb, F, hs, hD⟩, h2⟩
theorem idxOf_new {st : PS} {p : Int × Int} (h : p ∉ st) : (st ++ [p]).idxOf p = st.length := by
  rw [List.idxOf_append, if_neg h]
  simp
theorem idxOf_old {st : PS} {p q : Int × Int} (h : q ∈ st) : (st ++ [p]).idxOf q = st.idxOf q := by
  rw [List.idxOf_append, if_pos h]
theorem put_law {kf : Int × Int → Lit} (hkey : ∀ q, PairOk q → WideAt.IsKeyLit (kf q)) (hinj : ∀ p q, PairOk p → PairOk q → kf p = kf q → p = q) {st : PS} {D : DataW Unit} {p : Int × Int} (hD : Maps.IsMap D) (h1 : ∀ q, PairOk q → Maps.has D (kf q) = decide (q ∈ st)) (h2 : ∀ q, PairOk q → q ∈ st → D.atKey (kf q) (.lit (.int .i64 0)) = .lit (.int .i64 (st.idxOf q : Nat)))
    (hp : PairOk p) (hn : p ∉ st) : (∀ q, PairOk q → Maps.has (D.put (kf p) (.lit (.int .i64 (st.length : Nat)))) (kf q) = decide (q ∈ st ++ [p])) ∧ ∀ q, PairOk q → q ∈ st ++ [p] → (D.put (kf p) (.lit (.int .i64 (st.length : Nat)))).atKey (kf q) (.lit (.int .i64 0)) = .lit (.int .i64 ((st ++ [p]).idxOf q : Nat)) := by
  refine ⟨fun q hq => ?_, fun q hq hm => ?_⟩
  · by_cases he : q = p
    · subst he
      rw [Maps.has_put_same hD (hkey q hq)]
      simp
    · rw [Maps.has_put_other (fun h => he (hinj q p hq hp h)), h1 q hq]
      simp [he]
  · by_cases he : q = p
    · subst he
      rw [Maps.atKey_put_same hD (hkey q hq), idxOf_new hn]
    · have hm2 : q ∈ st := by
        rcases List.mem_append.1 hm with h | h
        · exact h
        · simp at h; exact absurd h he
      rw [Maps.atKey_put_other (fun h => he (hinj q p hq hp h)), h2 q hq hm2, idxOf_old hm2]
theorem PMap.put {w' : World} {b : Nat} {st : PS} {D : DataW Unit} {p : Int × Int} (hD : Maps.IsMap D) (h1 : ∀ q, PairOk q → Maps.has D (pairK q) = decide (q ∈ st)) (h2 : ∀ q, PairOk q → q ∈ st → D.atKey (pairK q) (.lit (.int .i64 0)) = .lit (.int .i64 (st.idxOf q : Nat)))
    (hp : PairOk p) (hn : p ∉ st) (h : w'.ownsMap Try.prog 73 (plainElem Try.prog 3) b (st.length + 1) (D.put (pairK p) (.lit (.int .i64 (st.length : Nat))))) : PMap w' b (st ++ [p]) := by
  have hl := put_law (kf := pairK) pairK_key (fun _ _ => pairK_inj) hD h1 h2 hp hn
  exact ⟨_, by rw [List.length_append]; exact h, hl.1, hl.2⟩
section
variable {w : World} {ops : Array Oper} {rest : List Oper} {o : Oper} {a : Act} {Q : Exit → Act → World → Prop} {b : Nat} {st : PS}
end
end Go.Proofs.Ytimmnnncgnnkgaa
