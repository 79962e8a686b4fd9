
/- StepsFrom and NextVertex, the program. -/
import Derived.Test.YtkcfbcbkokabdaaL42
import Derived.Test.YtkcfbcbkokabdaaG15
namespace Go.Proofs.Ytkcfbcbkokabdaa
set_option linter.unusedVariables false
set_option linter.unusedSimpArgs false
open Go.RowKit Go.Sort

section
variable {W : World} {ops : Array Oper} {rest : List Oper} {o : Oper} {a : Act} {Q : Exit → Act → World → Prop}
theorem wpList_pushI (hgd : o.guard = none) (s x : Operand)
    (ho : o.op = .call { callee := .builtin .append, args := #[s, x], argTypes := #[41, 41] }) (lo : Nat) (A : Option Addr) (n c : Nat) (xs : List Int) (hs : a.eval s = .slice A n c)
    (hown : W.ownsRow lo 3 1 (.slice A n c) n (ints xs)) (y : Int) (hx : a.eval x = .slice (some ⟨W.heap.size, 0, none⟩) 1 1) (hn : n ≤ 1048576) (hb : lo ≤ W.heap.size)
    (h : ∀ A' c' w', w'.ownsRow lo 3 1 (.slice A' (n + 1) c') (n + 1) (ints (xs ++ [y])) → Mid lo W.heap.size W w' → wpList Try.prog ops Q rest (a.put o.dst (.slice A' (n + 1) c')) w') :
    wpList Try.prog ops Q (o :: rest) a (W.alloc (.cells #[.int .i64 y] 3)) := by
  refine wpList_push (news := [.int .i64 y]) hgd s x 41 ho lo 3 (.int .i64 0) 1 8 undSI infoI rfl (by decide) (.slice A n c) n (ints xs) hs hown 1 hx rfl ?_ (by unfold maxLen; omega) (by omega) hb ?_
  · intro u hu
    simp at hu
    subst hu
    rfl
  · intro v' w' h1 h2 _
    obtain ⟨A', c', rfl, -, -⟩ := owns_shape h1
    refine h A' c' w' ?_ (Mid.of_grownRow hown h2)
    rw [ints_append]
    exact h1
end
theorem ends_take {es : List Ed} {k : Nat} {e : Ed} (h : es[k]? = some e) (v x : Int) : ends (es.take (k + 1)) v x = ends (es.take k) v x ++ (endOf v x e).toList := by
  rw [take_snoc h, ends, List.filterMap_append]
  cases hd : endOf v x e <;> simp [ends, hd]
theorem endOf_cases (v x : Int) (e : Ed) : (endOf v x e = some e.b ∧ (0 < x ∧ e.l = x ∧ e.a = v)) ∨ (endOf v x e = some e.a ∧ ¬ (0 < x ∧ e.l = x ∧ e.a = v) ∧ (x < 0 ∧ e.l = -x ∧ e.b = v)) ∨ (endOf v x e = none ∧ ¬ (0 < x ∧ e.l = x ∧ e.a = v) ∧ ¬ (x < 0 ∧ e.l = -x ∧ e.b = v)) := by
  unfold endOf
  split
  · rename_i h1
    exact Or.inl ⟨rfl, h1⟩
  · rename_i h1
    split
    · rename_i h2
      exact Or.inr (Or.inl ⟨rfl, h1, h2⟩)
    · rename_i h2
      exact Or.inr (Or.inr ⟨rfl, h1, h2⟩)
theorem compact_head (x : Int) (t : List Int) : ∃ t', Lib.compact (x :: t) = x :: t' := by
  refine ⟨((List.range' 1 t.length).filter (Lib.keeps (x :: t).toArray)).map ((x :: t).toArray[·]!), ?_⟩
  unfold Lib.compact Lib.compactUpTo
  rw [show (x :: t).length = t.length + 1 from rfl, List.range_eq_range', List.range'_succ, List.filter_cons, if_pos (Lib.keeps_lt_one _ 0 (by omega)), List.map_cons]
  rfl
theorem compact_len (zs : List Int) : (Lib.compact zs).length ≤ zs.length := by
  unfold Lib.compact Lib.compactUpTo
  rw [List.length_map]
  exact Nat.le_trans (List.length_filter_le _ _) (by simp)
/-- The ends in order, each once: what is asked of them. -/
def StepsIs (es : List Ed) (v x : Int) (zs : List Int) : Prop := (ends es v x = [] → zs = []) ∧ (ends es v x ≠ [] → ∃ t, zs = nextV es v x :: t) ∧ zs.length ≤ es.length
theorem sorted_head {l zs : List Int} (hp : zs.Perm l) (hs : zs.Pairwise (· ≤ ·)) (hn : l ≠ []) : ∃ t, zs = leastI l :: t := by
  cases zs with
  | nil => exact absurd hp.symm.eq_nil hn
  | cons z t =>
    refine ⟨t, ?_⟩
    obtain ⟨h1, -⟩ := List.pairwise_cons.1 hs
    rw [leastI_eq (x := z) (hp.mem_iff.1 (by simp)) fun y hy => ?_]
    rcases List.mem_cons.1 (hp.mem_iff.2 hy) with rfl | h
    · exact Int.le_refl _
    · exact h1 y h
theorem stepsIs_sort (es : List Ed) (v x : Int) : StepsIs es v x (Lib.compact ((ends es v x).mergeSort fun x y => decide (x ≤ y))) := by
  have hp := List.mergeSort_perm (ends es v x) (fun x y => decide (x ≤ y))
  have hs : ((ends es v x).mergeSort fun x y => decide (x ≤ y)).Pairwise (· ≤ ·) := by
    have := List.pairwise_mergeSort (le := fun x y : Int => decide (x ≤ y)) (by intro a b c h1 h2; simp at *; omega) (by intro a b; simp; omega) (ends es v x)
    exact this.imp fun h => by simpa using h
  refine ⟨fun h => ?_, fun h => ?_, ?_⟩
  · rw [h]
    simp [Lib.compact, Lib.compactUpTo]
  · obtain ⟨t, ht⟩ := sorted_head hp hs h
    rw [ht]
    exact compact_head _ _
  · have h1 := compact_len ((ends es v x).mergeSort fun x y => decide (x ≤ y))
    have h2 := ends_len es v x
    rw [hp.length_eq] at h1
    omega
theorem compactI (A : Option Addr) (xs : List Int) (n c : Nat) (w : World) (lo : Nat) (hn : xs.length = n) (ho : w.ownsRow lo 3 1 (.slice A n c) n (ints xs)) (hl : n ≤ 1048576) :
    Calls Try.prog 82 #[.slice A n c] w fun e w' => e = .returned (.slice A (Lib.compact xs).length c) ∧ w'.ownsRow lo 3 1 (.slice A (Lib.compact xs).length c) (Lib.compact xs).length (ints (Lib.compact xs)) ∧ w.grownBy w' (Value.ownBlock (.slice A n c)) := by
  subst hn
  by_cases hv : Value.slice A xs.length c = .slice none 0 0
  · injection hv with h1 h2 h3
    obtain rfl := List.eq_nil_of_length_eq_zero h2
    subst h1 h3
    refine (Try.slices_Compact_int_empty none 0 w).mono ?_
    rintro e w' ⟨rfl, rfl⟩
    exact ⟨rfl, ho, World.grownBy.refl _ _⟩
  · obtain ⟨g, cap, he, hb, hg, hn, hm, hz, hH⟩ := Lib.holds_of_ownsRow (enc := Value.int .i64) (zs := xs) ho hv
    injection he with h1 _ h3
    subst h1 h3
    refine (Try.slices_Compact_int g 0 c xs w hH (by omega) hn).mono ?_
    rintro e w' ⟨rfl, q, rfl⟩
    have hle := compact_len xs
    have hlen : (Lib.compact xs ++ List.replicate (xs.length - (Lib.compact xs).length) 0).length = xs.length := by simp; omega
    have h2 := Lib.ownsRow_putRow (enc := Value.int .i64) (q := q) (k := (Lib.compact xs).length) (ys := Lib.compact xs ++ List.replicate (xs.length - (Lib.compact xs).length) 0) ho hlen hle
    rw [List.take_left] at h2
    refine ⟨rfl, h2, ?_⟩
    refine ⟨rfl, rfl, rfl, by simp [putRow, mapBlock, Sort.ahead], fun k hk hne => ?_⟩
    have : g ≠ k := fun e => hne (by rw [e]; rfl)
    simp [putRow, mapBlock, Sort.ahead, Array.getElem?_modify, this]
theorem sortN (A : Option Addr) (xs : List Int) (n c : Nat) (w : World) (lo : Nat) (hn : xs.length = n) (ho : w.ownsRow lo 3 1 (.slice A n c) n (ints xs)) (hl : n ≤ 1048576) :
    Calls Try.prog 81 #[.slice A n c] w fun e w' => e = .returned (.tuple #[]) ∧ w'.ownsRow lo 3 1 (.slice A n c) n (ints (xs.mergeSort fun x y => decide (x ≤ y))) ∧ w.grownBy w' (Value.ownBlock (.slice A n c)) := by
  subst hn
  refine (sortI A xs c w lo ho hl).mono ?_
  rintro e w' ⟨he, h1, h2⟩
  rw [List.length_mergeSort] at h1 h2
  exact ⟨he, h1, h2⟩

set_option maxHeartbeats 3200000 in
theorem impl_StepsFrom (r s : Int) (A : Option Addr) (es : List Ed) (c : Nat) (v x : Int) (w : World) (lo hi : Nat) (hr : RG w lo hi A es) (hl : es.length ≤ 1000000) (hg : ∀ e ∈ es, 1 ≤ e.l ∧ e.l ≤ 3) (hx1 : -9223372036854775808 ≤ x) (hx2 : x ≤ 9223372036854775807) :
    Calls Try.prog 71 #[.agg #[.int .i64 r, .int .i64 s, .slice A es.length c], .int .i64 v, .int .i64 x] w fun e w' => ∃ A' c' zs, e = .returned (.slice A' zs.length c') ∧ RV w' 0 w'.heap.size A' (ints zs) ∧ StepsIs es v x zs ∧ Mid 0 0 w w' := by
  have hm0 : Mid 0 0 w ((w.alloc (.cells #[.int .i64 r, .int .i64 s, .slice A es.length c] 29)).alloc (.cells #[] 3)) := (Mid.alloc _ _).trans (Mid.alloc _ _)
  have B0 := (Box.new w #[.int .i64 r, .int .i64 s, .slice A es.length c] 29).mid (Mid.alloc _ (.cells #[] 3)) (Or.inr (Nat.zero_le _))
  have O0 := owns_empty (w.alloc (.cells #[.int .i64 r, .int .i64 s, .slice A es.length c] 29)) 3 1
  rw [World.size_alloc] at O0
  go_enter Try.func71, Try.ntmps71
  go_wp2_with fail
  go_loopw [7, 14] (fun out i wr => ∃ (k : Nat) (A1 : Option Addr) (c1 n1 : Nat), k ≤ es.length ∧ i = .int .i64 k ∧ out = .slice A1 n1 c1 ∧ Hid ((ends (es.take k) v x).length = n1) ∧
      wr.ownsRow (w.heap.size + 1) 3 1 (.slice A1 n1 c1) n1 (ints (ends (es.take k) v x)) ∧ Mid 0 0 w wr ∧ w.heap.size + 1 ≤ wr.heap.size) (fun _ i _ => es.length - (intOf i).toNat)
  case atStart => exact ⟨0, _, 0, 0, Nat.zero_le _, rfl, rfl, Lib.hid (by simp [ends]), by simpa [ends, ints] using O0, hm0, by simp⟩
  case round =>
    obtain ⟨k, A1, c1, n1, hk, rfl, rfl, HN, hown, hm, hsz⟩ := hrel
    have hn1 : n1 ≤ 1000000 := by
      have h1 := ends_len (es.take k) v x
      have h2 := HN.out
      simp at h1
      omega
    by_cases hlt : k < es.length
    · obtain ⟨B, off, e, rfl, -, hbh, he, e0, e1, e2⟩ := (hr.mid hm (Or.inl (Nat.zero_le _))).ed hlt
      obtain ⟨l1, l3⟩ := hg e (List.mem_of_getElem? he)
      have het := ends_take he v x
      have hal := Mid.alloc wr (.cells #[.int .i64 e.a, .int .i64 e.l, .int .i64 e.b] 48)
      have hown1 := hown.alloc (.cells #[.int .i64 e.a, .int .i64 e.l, .int .i64 e.b] 48)
      have hm1 := hm.trans hal
      have hsz1 : w.heap.size + 1 ≤ (wr.alloc (.cells #[.int .i64 e.a, .int .i64 e.l, .int .i64 e.b] 48)).heap.size := by simp; omega
      have HET := Lib.hid het
      have hkn : (k : Int) < (es.length : Int) := by omega
      clear he het
      rcases (endOf_cases v x e : (endOf v x e = some e.b ∧ (0 < x ∧ e.l = x ∧ e.a = v)) ∨ (endOf v x e = some e.a ∧ ¬ (0 < x ∧ e.l = x ∧ e.a = v) ∧ (x < 0 ∧ e.l = -x ∧ e.b = v)) ∨ (endOf v x e = none ∧ ¬ (0 < x ∧ e.l = x ∧ e.a = v) ∧ ¬ (x < 0 ∧ e.l = -x ∧ e.b = v))) with ⟨hv, h1⟩ | ⟨hv, h1, h2⟩ | ⟨hv, h1, h2⟩
      · have HW := Lib.hid hown1
        clear hown hown1
        obtain ⟨p1, p2, p3⟩ := h1
        have b1 : decide (0 < x) = true := by simpa using p1
        have b2 : (e.l == x) = true := by simpa using p2
        have b3 : (e.a == v) = true := by simpa using p3
        clear p1 p2 p3
        go_wp2_with (at_builtin; refine wpList_pushI rfl _ _ rfl (w.heap.size + 1) A1 n1 c1 _ rfl HW.out e.b (by rw [World.size_alloc]; rfl) (by omega) hsz1 ?_; intro A2 c2 w2 hown2 hm2)
        go_roundw
        case rel => exact ⟨k + 1, A2, c2, n1 + 1, by omega, by go_num, rfl, Lib.hid (by rw [HET.out, hv, List.length_append, HN.out]; rfl), (by rw [HET.out, hv]; exact hown2), hm1.transNew hm2 (Or.inl (Nat.le_succ _)), Nat.le_trans hsz1 hm2.size⟩
        case measure => simp [intOf]; omega
      · have HW := Lib.hid hown1
        clear hown hown1
        obtain ⟨p1, p2, p3⟩ := h2
        have b1 : decide (0 < x) = false := by simp; omega
        have b0 : decide (x < 0) = true := by simpa using p1
        have b2 : (x == -9223372036854775808) = false := by simp only [beq_eq_false_iff_ne]; omega
        have b2n : (x != -9223372036854775808) = true := by simp only [bne_iff_ne, ne_eq]; omega
        have b4 : wrap64 (-x) = -x := by unfold wrap64; omega
        have b5 : (e.l == -x) = true := by simpa using p2
        have b3 : (e.b == v) = true := by simpa using p3
        clear h1 p1 p2 p3
        go_wp2_with (at_builtin; refine wpList_pushI rfl _ _ rfl (w.heap.size + 1) A1 n1 c1 _ rfl HW.out e.a (by rw [World.size_alloc]; rfl) (by omega) hsz1 ?_; intro A2 c2 w2 hown2 hm2)
        go_roundw
        case rel => exact ⟨k + 1, A2, c2, n1 + 1, by omega, by go_num, rfl, Lib.hid (by rw [HET.out, hv, List.length_append, HN.out]; rfl), (by rw [HET.out, hv]; exact hown2), hm1.transNew hm2 (Or.inl (Nat.le_succ _)), Nat.le_trans hsz1 hm2.size⟩
        case measure => simp [intOf]; omega
      · have HW := Lib.hid hown1
        clear hown hown1
        rcases (by omega : 0 < x ∨ x < 0 ∨ x = 0) with p1 | p1 | p1
        · have b1 : decide (0 < x) = true := by simpa using p1
          have b0 : decide (x < 0) = false := by simp; omega
          by_cases p2 : e.l = x
          · have b2 : (e.l == x) = true := by simpa using p2
            have b3 : (e.a == v) = false := by simp only [beq_eq_false_iff_ne]; exact fun h => h1 ⟨p1, p2, h⟩
            clear h1 h2 p1 p2
            go_wp2_with fail
            go_roundw
            case rel => exact ⟨k + 1, A1, c1, n1, by omega, by go_num, rfl, Lib.hid (by rw [HET.out, hv]; simpa using HN.out), (by rw [HET.out, hv]; simpa using HW.out), hm1, hsz1⟩
            case measure => simp [intOf]; omega
          · have b2 : (e.l == x) = false := by simpa only [beq_eq_false_iff_ne] using p2
            clear h1 h2 p1 p2
            go_wp2_with fail
            go_roundw
            case rel => exact ⟨k + 1, A1, c1, n1, by omega, by go_num, rfl, Lib.hid (by rw [HET.out, hv]; simpa using HN.out), (by rw [HET.out, hv]; simpa using HW.out), hm1, hsz1⟩
            case measure => simp [intOf]; omega
        · have b1 : decide (0 < x) = false := by simp; omega
          have b0 : decide (x < 0) = true := by simpa using p1
          by_cases p4 : x = -9223372036854775808
          · subst p4
            clear h1 h2 p1
            go_wp2_with fail
            go_roundw
            case rel => exact ⟨k + 1, A1, c1, n1, by omega, by go_num, rfl, Lib.hid (by rw [HET.out, hv]; simpa using HN.out), (by rw [HET.out, hv]; simpa using HW.out), hm1, hsz1⟩
            case measure => simp [intOf]; omega
          · have b2 : (x == -9223372036854775808) = false := by simpa only [beq_eq_false_iff_ne] using p4
            have b2n : (x != -9223372036854775808) = true := by simpa only [bne_iff_ne, ne_eq] using p4
            have b4 : wrap64 (-x) = -x := by unfold wrap64; omega
            by_cases p2 : e.l = -x
            · have b5 : (e.l == -x) = true := by simpa using p2
              have b3 : (e.b == v) = false := by simp only [beq_eq_false_iff_ne]; exact fun h => h2 ⟨p1, p2, h⟩
              clear h1 h2 p1 p2
              go_wp2_with fail
              go_roundw
              case rel => exact ⟨k + 1, A1, c1, n1, by omega, by go_num, rfl, Lib.hid (by rw [HET.out, hv]; simpa using HN.out), (by rw [HET.out, hv]; simpa using HW.out), hm1, hsz1⟩
              case measure => simp [intOf]; omega
            · have b5 : (e.l == -x) = false := by simpa only [beq_eq_false_iff_ne] using p2
              clear h1 h2 p1 p2
              go_wp2_with fail
              go_roundw
              case rel => exact ⟨k + 1, A1, c1, n1, by omega, by go_num, rfl, Lib.hid (by rw [HET.out, hv]; simpa using HN.out), (by rw [HET.out, hv]; simpa using HW.out), hm1, hsz1⟩
              case measure => simp [intOf]; omega
        · subst p1
          clear h1 h2
          go_wp2_with fail
          go_roundw
          case rel => exact ⟨k + 1, A1, c1, n1, by omega, by go_num, rfl, Lib.hid (by rw [HET.out, hv]; simpa using HN.out), (by rw [HET.out, hv]; simpa using HW.out), hm1, hsz1⟩
          case measure => simp [intOf]; omega
    · obtain rfl : k = es.length := by omega
      rw [List.take_length] at HN hown
      have hq := sortN A1 _ n1 c1 wr _ HN.out hown (by omega)
      have hlen : ((ends es v x).mergeSort fun x y => decide (x ≤ y)).length = n1 := by rw [List.length_mergeSort]; exact HN.out
      have hst := stepsIs_sort es v x
      go_wp2_with fail
      with_reducible refine (hq).mono ?_
      rintro en w2 ⟨rfl, hown2, hm2⟩
      go_wp2_with fail
      with_reducible refine (compactI A1 _ n1 c1 w2 _ hlen hown2 (by omega)).mono ?_
      rintro en w3 ⟨rfl, hown3, hm3⟩
      have hmm := hm.transNew (Mid.of_grownRow hown hm2) (Or.inl (by omega))
      go_wp2_with fail
      go_ret
      exact ⟨A1, c1, _, rfl, (OV.rv (lo := w.heap.size + 1) ⟨Nat.le_refl _, hown3, fun g hg => (hown3.lt g hg).2⟩).wide (Nat.zero_le _) (Nat.le_refl _) (Nat.le_refl _), hst, hmm.transNew (Mid.of_grownRow hown2 hm3) (Or.inl (by omega))⟩
set_option maxHeartbeats 1600000 in
theorem impl_NextVertex (r s : Int) (A : Option Addr) (es : List Ed) (c : Nat) (v x : Int) (w : World) (lo hi : Nat) (hr : RG w lo hi A es) (hl : es.length ≤ 1000000) (hg : ∀ e ∈ es, 1 ≤ e.l ∧ e.l ≤ 3) (hx1 : -9223372036854775808 ≤ x) (hx2 : x ≤ 9223372036854775807) :
    Calls Try.prog 48 #[.agg #[.int .i64 r, .int .i64 s, .slice A es.length c], .int .i64 v, .int .i64 x] w fun e w' => e = .returned (.int .i64 (nextV es v x)) ∧ Mid 0 0 w w' := by
  go_enter Try.func48, Try.ntmps48
  have hal := Mid.alloc w (.cells #[.int .i64 r, .int .i64 s, .slice A es.length c] 29)
  go_wp2_with fail
  with_reducible refine (impl_StepsFrom r s A es c v x _ lo hi (hr.mid hal (Or.inl (Nat.zero_le _))) hl hg hx1 hx2).mono ?_
  rintro en w2 ⟨A2, c2, zs, rfl, hrv, ⟨h1, h2, h3⟩, hm⟩
  have hm := hal.trans hm
  generalize hn : zs.length = n
  by_cases h0 : ends es v x = []
  · obtain rfl : n = 0 := by rw [← hn, h1 h0]; rfl
    go_wp2_with fail
    go_ret
    exact ⟨by rw [nextV_none h0]; rfl, hm⟩
  · obtain ⟨t, ht⟩ := h2 h0
    obtain ⟨g, off, rfl, -, -, hc⟩ := hrv.2 (by rw [ht]; simp [ints])
    have c0 := hc 0 (.int .i64 (nextV es v x)) (by rw [ht]; simp [ints])
    rw [Nat.add_zero] at c0
    have hn0 : 0 < n := by rw [← hn, ht]; simp
    have hz : ((n : Int) == 0) = false := by simp only [beq_eq_false_iff_ne]; omega
    have hp : (0 : Int) < (n : Int) := by omega
    clear hn ht hc h1 h2 h3 hrv
    go_wp2_with fail
    go_ret
    exact ⟨rfl, hm⟩
end Go.Proofs.Ytkcfbcbkokabdaa