
/- The library's SortFunc, Contains and Equal at slices of edges. -/
import Derived.Test.YtkcfbcbkokabdaaShelfE
import Derived.Laws.StructEq
import Derived.Lib.OwnBridge
import Derived.Test.YtkcfbcbkokabdaaG6
namespace Go.Proofs.Ytkcfbcbkokabdaa
set_option linter.unusedVariables false
set_option linter.unusedSimpArgs false
open Go.RowKit Go.Shelf Go.Lib Go.Sort

instance : Inhabited Ed := ⟨⟨0, 0, 0⟩⟩
/-- An edge's cells. -/
def encE (e : Ed) : List Value := [.int .i64 e.a, .int .i64 e.l, .int .i64 e.b]
theorem encE_get {e : Ed} {i : Nat} {v : Value} (h : (encE e)[i]? = some v) : (i = 0 ∧ v = .int .i64 e.a) ∨ (i = 1 ∧ v = .int .i64 e.l) ∨ (i = 2 ∧ v = .int .i64 e.b) := by
  rcases i with _ | _ | _ | i
  · left; simp [encE] at h; exact ⟨rfl, h.symm⟩
  · right; left; simp [encE] at h; exact ⟨rfl, h.symm⟩
  · right; right; simp [encE] at h; exact ⟨rfl, h.symm⟩
  · simp [encE] at h
theorem eqB (x y : Ed) : (x.a == y.a && x.l == y.l && x.b == y.b) = decide (x = y) := by
  rw [Bool.eq_iff_iff]
  simp
  constructor
  · rintro ⟨⟨h1, h2⟩, h3⟩; exact Ed.ext' h1 h2 h3
  · rintro rfl; exact ⟨⟨rfl, rfl⟩, rfl⟩
theorem eqlEd : EqlAt Try.prog 48 (fun x => .agg (encE x).toArray) (fun x y => decide (x = y)) := by
  refine ⟨fun x y w => ?_, GuardAt.agg _ (by kernel_rfl)⟩
  have u3 := Try.underlying3
  have a3 := Try.isAgg3
  have z3 := Try.sizeOf3
  have hS : Try.prog.underlying 48 = some (.struct (Try.prog.fieldsOf 48)) := by kernel_rfl
  have hp : Try.prog.stoodInHeld 48 = false := by kernel_rfl
  simp only [← eqB, encE]
  rw [run_eql_struct, show (10000 : Nat) = 9999 + 1 from rfl, run_equalIn_agg w 9999 48 _ _ hS hp]
  simp only [Program.fieldsOf, Try.underlying48]
  go_simp
  by_cases h1 : x.a = y.a <;> by_cases h2 : x.l = y.l <;> by_cases h3 : x.b = y.b <;> simp [h1, h2, h3]
theorem neqEd : NeqAt Try.prog 48 (fun x => .agg (encE x).toArray) (fun x y => decide (x = y)) := by
  refine ⟨fun x y w => ?_, GuardAt.agg _ (by kernel_rfl)⟩
  have u3 := Try.underlying3
  have a3 := Try.isAgg3
  have z3 := Try.sizeOf3
  have hS : Try.prog.underlying 48 = some (.struct (Try.prog.fieldsOf 48)) := by kernel_rfl
  have hp : Try.prog.stoodInHeld 48 = false := by kernel_rfl
  simp only [← eqB, encE]
  rw [run_neq_struct, show (10000 : Nat) = 9999 + 1 from rfl, run_equalIn_agg w 9999 48 _ _ hS hp]
  simp only [Program.fieldsOf, Try.underlying48]
  go_simp
  by_cases h1 : x.a = y.a <;> by_cases h2 : x.l = y.l <;> by_cases h3 : x.b = y.b <;> simp [h1, h2, h3]
/-- '==' at two edges, as a walk meets it. -/
theorem eqlEd_run (e f : Ed) {v : Bool} (h : decide (e = f) = v) (w : World) : Sem.run Try.prog (binOp .eql 48 e.v f.v) w = .ok (.bool v) w := h ▸ eqlEd.1 e f w
theorem guardEd (e f : Ed) (op : BinOp) (a b : Operand) (w : World) : Sem.run Try.prog (eqGuard op 48 a b e.v f.v) w = .ok () w := eqlEd.2 op a b e f w
theorem neqEd_run (e f : Ed) {v : Bool} (h : decide (e ≠ f) = v) (w : World) : Sem.run Try.prog (binOp .neq 48 e.v f.v) w = .ok (.bool v) w := by
  have h1 : (!decide (e = f)) = v := by rw [← h]; simp
  exact h1 ▸ neqEd.1 e f w
theorem RG.encs {w : World} {lo hi b off : Nat} {es : List Ed} (h : RG w lo hi (some ⟨b, off, none⟩) es) : ∀ j, j < es.length → ∀ i v, (encE es[j]!)[i]? = some v → w.cell? ⟨b, off + j * 3 + i, none⟩ = some v := by
  intro j hj i v hv
  obtain ⟨b', off', e, hA, -, -, he, c0, c1, c2⟩ := h.ed hj
  injection hA with hA
  injection hA with h1 h2
  subst h1 h2
  rw [List.getElem!_eq_getElem?_getD, he] at hv
  rcases encE_get hv with ⟨rfl, rfl⟩ | ⟨rfl, rfl⟩ | ⟨rfl, rfl⟩
  · exact c0
  · exact c1
  · exact c2
theorem RG.addr {w : World} {lo hi : Nat} {A : Option Addr} {es : List Ed} (h : RG w lo hi A es) (hn : es ≠ []) : ∃ b off, A = some ⟨b, off, none⟩ := by
  obtain ⟨b, off, hA, -⟩ := h.2 (by intro h0; have := congrArg List.length h0; rw [ints_len, edI_len] at this; simp at this; exact hn (List.eq_nil_of_length_eq_zero (by omega)))
  exact ⟨b, off, hA⟩

theorem index_nil (A : Option Addr) (c : Nat) (e : Ed) (w : World) :
    Calls Try.prog 66 #[.slice A 0 c, e.v] w fun en w' => en = .returned (.int .i64 (-1)) ∧ Mid 0 0 w w' := by
  obtain ⟨a, l, b⟩ := e
  go_enter Try.func66, Try.ntmps66
  go_wp2_with fail
  go_loop [8] (fun i => i = .int .i64 0) (fun _ => 0)
  case atStart => rfl
  case round =>
    subst hrel
    go_wp2_with fail
    go_ret
    exact ⟨rfl, Mid.alloc _ _⟩
theorem contains_nil (A : Option Addr) (c : Nat) (e : Ed) (w : World) :
    Calls Try.prog 36 #[.slice A 0 c, e.v] w fun en w' => en = .returned (.bool false) ∧ Mid 0 0 w w' := by
  obtain ⟨a, l, b⟩ := e
  go_enter Try.func36, Try.ntmps36
  go_wp2_with fail
  with_reducible refine (index_nil A c ⟨a, l, b⟩ _).mono ?_
  rintro en w1 ⟨rfl, hm⟩
  go_wp2_with fail
  go_ret
  exact ⟨rfl, (Mid.alloc _ _).trans hm⟩
/-- slices.Contains. -/
theorem containsE (A : Option Addr) (es : List Ed) (c : Nat) (e : Ed) (w : World) (lo hi : Nat) (hr : RG w lo hi A es) (hl : es.length ≤ 1048576) :
    Calls Try.prog 36 #[.slice A es.length c, e.v] w fun en w' => en = .returned (.bool (decide (e ∈ es))) ∧ Mid 0 0 w w' := by
  by_cases hn : es = []
  · subst hn
    exact contains_nil A c e w
  · obtain ⟨b, off, rfl⟩ := hr.addr hn
    refine (AnyQ.slices_Contains Try.containsEd 3 Try.isAgg48 Try.sizeOf48 encE (fun _ => rfl) _ eqlEd b off es.length c es e w (Nat.le_refl _) (by omega) hr.encs).mono ?_
    rintro en w' ⟨he, hb⟩
    refine ⟨he.trans ?_, Mid.of_below hb⟩
    rw [List.take_length]
    congr 2
    rw [Bool.eq_iff_iff]
    simp
theorem allEq_iff (xs ys : List Ed) : Lib.allEq (fun x y => decide (x = y)) xs ys = decide (xs = ys) := by
  rw [Bool.eq_iff_iff, decide_eq_true_iff]
  induction xs generalizing ys with
  | nil => cases ys <;> simp [Lib.allEq]
  | cons x t ih =>
    cases ys with
    | nil => simp [Lib.allEq]
    | cons y s =>
      have := ih s
      simp [Lib.allEq, this]
theorem equal_nil (A A' : Option Addr) (n c c' : Nat) (es : List Ed) (w : World) (lo hi : Nat) (hr : RG w lo hi A es) (hn : es.length ≤ 1048576) :
    Calls Try.prog 89 #[.slice A es.length c, .slice A' 0 c'] w fun en w' => en = .returned (.bool (decide (es.length = 0))) ∧ Mid 0 0 w w' := by
  by_cases h0 : es.length = 0
  · have hd : decide (es.length = 0) = true := by simp [h0]
    rw [hd, h0]
    go_enter Try.func89, Try.ntmps89
    go_wp2_with fail
    go_loop [13] (fun i => i = .int .i64 0) (fun _ => 0)
    case atStart => rfl
    case round =>
      subst hrel
      go_wp2_with fail
      go_ret
      exact ⟨rfl, Mid.refl _ _ _⟩
  · have hd : decide (es.length = 0) = false := by simp [h0]
    rw [hd]
    have h1 : ((es.length : Int) != 0) = true := by first | (simp only [bne_iff_ne, ne_eq]; omega) | (simp only [beq_eq_false_iff_ne, ne_eq]; omega)
    go_enter Try.func89, Try.ntmps89
    go_wp2_with fail
    go_ret
    exact ⟨rfl, Mid.refl _ _ _⟩
theorem equal_nil' (A A' : Option Addr) (c c' : Nat) (es : List Ed) (w : World) (hn : es ≠ []) (hl : es.length ≤ 1048576) :
    Calls Try.prog 89 #[.slice A 0 c, .slice A' es.length c'] w fun en w' => en = .returned (.bool false) ∧ Mid 0 0 w w' := by
  have h0 : 0 < es.length := List.length_pos_iff.2 hn
  have h1 : ((0 : Int) != (es.length : Int)) = true := by first | (simp only [bne_iff_ne, ne_eq]; omega) | (simp only [beq_eq_false_iff_ne, ne_eq]; omega)
  have h2 : ((0 : Int) == (es.length : Int)) = false := by first | (simp only [bne_iff_ne, ne_eq]; omega) | (simp only [beq_eq_false_iff_ne, ne_eq]; omega)
  go_enter Try.func89, Try.ntmps89
  go_wp2_with fail
  go_ret
  exact ⟨rfl, Mid.refl _ _ _⟩
/-- slices.Equal. -/
theorem equalE (A A' : Option Addr) (es fs : List Ed) (c c' : Nat) (w : World) (lo hi lo' hi' : Nat) (hr : RG w lo hi A es) (hr' : RG w lo' hi' A' fs) (hl : es.length ≤ 1048576) (hl' : fs.length ≤ 1048576) :
    Calls Try.prog 89 #[.slice A es.length c, .slice A' fs.length c'] w fun en w' => en = .returned (.bool (decide (es = fs))) ∧ Mid 0 0 w w' := by
  by_cases hf : fs = []
  · subst hf
    have := equal_nil A A' 0 c c' es w lo hi hr hl
    have hd : decide (es.length = 0) = decide (es = []) := by simp [List.length_eq_zero_iff]
    rw [hd] at this
    exact this
  · by_cases hn : es = []
    · subst hn
      have hd : decide ([] = fs) = false := by simpa using fun h => hf h
      rw [hd]
      exact equal_nil' A A' c c' fs w hf hl'
    · obtain ⟨b, off, rfl⟩ := hr.addr hn
      obtain ⟨b', off', rfl⟩ := hr'.addr hf
      refine (AnyQ.slices_Equal Try.equalEd 3 Try.isAgg48 Try.sizeOf48 encE (fun _ => rfl) _ neqEd b off es.length c b' off' fs.length c' es fs w (Nat.le_refl _) (Nat.le_refl _) (by omega) (by omega) hr.encs hr'.encs).mono ?_
      rintro en w' ⟨he, q, rfl⟩
      refine ⟨he.trans ?_, (Mid.refl 0 0 w).drewN q⟩
      rw [List.take_length, List.take_length, allEq_iff]

/-! ### SortFunc -/
theorem alloc2_grow (W : World) (o1 o2 : Obj) : (W.alloc o1).alloc o2 = grow (W.drewN 0) (#[o1] ++ #[o2]) := by
  rw [alloc_eq_grow, alloc_eq_grow, grow_grow]
  rfl
theorem cmpE_call (x y : Ed) (W : World) :
    Calls Try.prog 65 #[.agg (encE x).toArray, .agg (encE y).toArray] W fun e w' => e = .returned (.int .i64 (cmpE x y)) ∧ ∃ q os', w' = grow (W.drewN q) os' :=
  (impl_CompareEdgesW x y W).mono fun _ _ ⟨h, hw⟩ => ⟨h, 0, _, hw.symm.trans (alloc2_grow _ _ _)⟩
theorem cmpE_swo : SWO (ltOf cmpE) where
  irrefl x := by
    simp only [ltOf, decide_eq_false_iff_not]
    exact fun h => LtE.irrefl x (cmpE_neg.1 h)
  trans x y z h1 h2 := by
    simp only [ltOf, decide_eq_true_iff] at *
    exact cmpE_neg.2 ((cmpE_neg.1 h1).trans (cmpE_neg.1 h2))
  ntrans x y z h1 h2 := by
    simp only [ltOf, decide_eq_false_iff_not] at *
    have n1 : ¬ LtE x y := fun h => h1 (cmpE_neg.2 h)
    have n2 : ¬ LtE y z := fun h => h2 (cmpE_neg.2 h)
    have : ¬ LtE x z := by
      intro h
      rcases LtE.tri x y with h3 | rfl | h3
      · exact n1 h3
      · exact n2 h
      · exact n2 (h3.trans h)
    exact fun h => this (cmpE_neg.1 h)
theorem flatE (d : Array Ed) : (flatK encE 3 d).toList = ints (edI d.toList) := by
  apply List.ext_getElem?
  intro t
  by_cases ht : t < d.size * 3
  · obtain ⟨k, r, hr, rfl⟩ : ∃ k r, r < 3 ∧ t = k * 3 + r := ⟨t / 3, t % 3, by omega, by omega⟩
    have hk : k < d.size := by omega
    have h1 : (k * 3 + r) / 3 = k := by omega
    have h2 : (k * 3 + r) % 3 = r := by omega
    obtain ⟨g0, g1, g2⟩ := edI_at (es := d.toList) (k := k) (e := d[k]) (by simp)
    rw [Array.getElem?_toList, ints_get]
    simp only [flatK, Array.getElem?_map, Array.getElem?_range, if_pos ht, Option.map_some, h1, h2, getElem!_pos d k hk]
    rcases r with _ | _ | _ | r
    · rw [Nat.add_zero, g0]; rfl
    · rw [g1]; rfl
    · rw [g2]; rfl
    · omega
  · rw [List.getElem?_eq_none (by simp; omega), List.getElem?_eq_none (by rw [ints_len, edI_len]; simp; omega)]
theorem owns_putV {w : World} {base : Nat} {e : TypeId} {size g n cap q : Nat} {xs : List Value} {d : Array Value} (h : w.ownsRow base e size (.slice (some ⟨g, 0, none⟩) n cap) n xs) (hd : d.size = n * size) :
    (putRow id (Sort.ahead w q) g 0 d).ownsRow base e size (.slice (some ⟨g, 0, none⟩) n cap) n d.toList := by
  rcases h.2 with ⟨e0, _⟩ | ⟨g', cap', cur, e0, hb, hg, hn, hm, hs, ht⟩
  · cases e0
  · injection e0 with e1 _ e3
    injection e1 with e1
    injection e1 with e1
    subst e1; subst e3
    have hle : n * size ≤ cap * size := Nat.mul_le_mul_right _ hn
    refine ⟨by simpa using hd, .inr ⟨g, cap, putCells id 0 d cur, rfl, hb, ?_, hn, hm, by simpa [putCells] using hs, ?_⟩⟩
    · simp [putRow, mapBlock, Sort.ahead, Array.getElem?_modify, hg, onCells]
    · apply List.ext_getElem?
      intro j
      rw [List.getElem?_take, Array.getElem?_toList, Array.getElem?_toList]
      by_cases hj : j < n * size
      · have hjc : j < cur.size := by omega
        simp only [if_pos hj, putCells, Array.getElem?_mapIdx, Array.getElem?_eq_getElem hjc, Option.map_some]
        rw [if_pos (by simp; omega), Array.getElem?_eq_getElem (by omega)]
        simp [getElem!_pos, show j < d.size by omega]
      · rw [if_neg hj, Array.getElem?_eq_none (by omega)]
theorem put_grown {w : World} {g n : Nat} {d : Array Value} {os : Array Obj} : w.grownBy (grow (putRow id (Sort.ahead w n) g 0 d) os) (some g) := by
  refine ⟨rfl, rfl, rfl, by simp, fun k hk hne => ?_⟩
  rw [heap_grow_old _ _ (by simpa using hk)]
  have : g ≠ k := fun e => hne (by rw [e])
  simp [putRow, mapBlock, Sort.ahead, Array.getElem?_modify, this]
theorem owns_growV {w : World} {base : Nat} {e : TypeId} {size : Nat} {v : Value} {n : Nat} {xs : List Value} (h : w.ownsRow base e size v n xs) (os : Array Obj) : (grow w os).ownsRow base e size v n xs := by
  refine ⟨h.1, ?_⟩
  rcases h.2 with hn | ⟨g, cap, cur, rfl, hb, hh, rest⟩
  · exact .inl hn
  · refine .inr ⟨g, cap, cur, rfl, hb, ?_, rest⟩
    rw [heap_grow_old _ _ (Array.getElem?_eq_some_iff.1 hh).1]
    exact hh
/-- slices.SortFunc by CompareEdges, on a row of the call's own. -/
theorem sortE (g : Nat) (es : List Ed) (c : Nat) (w : World) (lo : Nat) (ho : w.ownsRow lo 48 3 (.slice (some ⟨g, 0, none⟩) es.length c) es.length (ints (edI es))) (hl : es.length ≤ 1048576) :
    Calls Try.prog 68 #[.slice (some ⟨g, 0, none⟩) es.length c, .func (.func 65) #[] #[]] w fun e w' =>
      e = .returned (.tuple #[]) ∧ ∃ fs, fs.length = es.length ∧ fs.Perm es ∧ fs.Pairwise (fun x y => ¬ LtE y x) ∧ w'.ownsRow lo 48 3 (.slice (some ⟨g, 0, none⟩) es.length c) es.length (ints (edI fs)) ∧ w.grownBy w' (some g) := by
  have hg := ho.lt g rfl
  have hH : HoldsK encE 3 w g 0 es.toArray := by
    intro j hj
    rw [size_flatK] at hj
    have hj' : j < es.length * 3 := by simpa using hj
    refine ⟨?_, ho.frozenAt _⟩
    rw [Nat.zero_add, ho.cellAt j hj']
    have := flatE es.toArray
    rw [show es.toArray.toList = es from rfl] at this
    rw [← this, Array.getElem?_toList, Array.getElem?_eq_getElem (by rw [size_flatK]; exact hj)]
    rw [getElem!_pos _ _ (by rw [size_flatK]; exact hj)]
    rfl
  have eg : ∀ args w, (callFunc 65 args).run Try.prog w = .ok (.enter 65 args) w := enters_of Try.func65 (by kernel_rfl) rfl
  have hcon := AnyQ.slices_SortFunc Try.sortEd 3 Try.isAgg48 Try.sizeOf48 encE (fun _ => rfl) (fun x v hv => by simp [encE] at hv; rcases hv with rfl | rfl | rfl <;> rfl) cmpE cmpE_swo 65 #[] g 0 c es.toArray w eg (fun _ _ _ _ x y => cmpE_call x y _) hH hg.2 (by simp; omega)
  refine (show Calls Try.prog 68 _ _ _ from hcon).mono ?_
  rintro e w' ⟨he, d, n, os, hp, hs, rfl⟩
  obtain ⟨hsz, -, hperm⟩ := hp
  have hsz' : d.size = es.length := by simpa using hsz
  have hperm' : d.toList.Perm es := by
    rw [show d.extract 0 es.toArray.size = d by rw [show es.toArray.size = d.size by simp [hsz']]; simp] at hperm
    simpa using hperm
  refine ⟨he, d.toList, by simpa using hsz', hperm', ?_, ?_, put_grown⟩
  · refine List.pairwise_iff_getElem.2 fun i j hi hj hij => ?_
    have h := hs i j (Nat.zero_le _) hij (by simpa [hsz'] using hj)
    have hi' : i < d.size := by simpa using hi
    have hj' : j < d.size := by simpa using hj
    rw [getElem!_pos d i hi', getElem!_pos d j hj'] at h
    simp only [ltOf, decide_eq_false_iff_not] at h
    intro hlt
    exact h (cmpE_neg.2 (by simpa using hlt))
  · have h2 := owns_putV (q := n) (d := flatK encE 3 d) ho (by rw [size_flatK, hsz'])
    rw [flatE] at h2
    exact owns_growV h2 os
end Go.Proofs.Ytkcfbcbkokabdaa
