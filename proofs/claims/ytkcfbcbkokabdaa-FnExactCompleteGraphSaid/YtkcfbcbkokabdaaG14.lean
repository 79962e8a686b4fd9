
/- append of one edge; l4Put. -/
import Derived.Test.YtkcfbcbkokabdaaG13
namespace Go.Proofs.Ytkcfbcbkokabdaa
set_option linter.unusedVariables false
set_option linter.unusedSimpArgs false
open Go.RowKit

section
variable {W : World} {ops : Array Oper} {rest : List Oper} {o : Oper} {a : Act} {Q : Exit → Act → World → Prop}
theorem wpList_pushE (hgd : o.guard = none) (s x : Operand)
    (ho : o.op = .call { callee := .builtin .append, args := #[s, x], argTypes := #[27, 27] }) (lo : Nat) (A : Option Addr) (n c : Nat) (es : List Ed) (hs : a.eval s = .slice A n c)
    (hown : W.ownsRow lo 48 3 (.slice A n c) n (ints (edI es))) (e : Ed) (hx : a.eval x = .slice (some ⟨W.heap.size, 0, none⟩) 1 1) (hn : n ≤ 1048576) (hb : lo ≤ W.heap.size)
    (h : ∀ A' c' w', w'.ownsRow lo 48 3 (.slice A' (n + 1) c') (n + 1) (ints (edI (es ++ [e]))) → Mid lo W.heap.size W w' → wpList Try.prog ops Q rest (a.put o.dst (.slice A' (n + 1) c')) w') :
    wpList Try.prog ops Q (o :: rest) a (W.alloc (.cells #[.int .i64 e.a, .int .i64 e.l, .int .i64 e.b] 48)) := by
  refine wpList_push (news := [.int .i64 e.a, .int .i64 e.l, .int .i64 e.b]) hgd s x 27 ho lo 48 (.agg #[.int .i64 0, .int .i64 0, .int .i64 0]) 3 24 undSE infoE rfl (by decide) (.slice A n c) n (ints (edI es)) hs hown 1 hx rfl ?_ (by unfold maxLen; omega) (by omega) hb ?_
  · intro u hu
    simp at hu
    rcases hu with rfl | rfl | rfl <;> rfl
  · intro v' w' h1 h2 _
    obtain ⟨A', c', rfl, -, -⟩ := owns_shape h1
    refine h A' c' w' ?_ (Mid.of_grownRow hown h2)
    rw [edI_append, ints_append, edI_one]
    exact h1
end

theorem putE_all {e : Ed} {xs : List Ed} (h : ∀ g ∈ xs, LtE g e) : putE e xs = xs ++ [e] := by
  induction xs with
  | nil => rfl
  | cons g t ih =>
    have hg := h g (by simp)
    have h1 : ¬ cmpE e g < 0 := fun h => (cmpE_neg.1 h).asymm hg
    have h2 : ¬ cmpE e g = 0 := fun h => by have := cmpE_zero.1 h; subst this; exact LtE.irrefl _ hg
    rw [putE, if_neg h1, if_neg h2, ih fun f hf => h f (by simp [hf])]
    rfl
theorem putE_same {e f : Ed} {xs : List Ed} (h : ∀ g ∈ xs, LtE g e) (hf : cmpE e f = 0) : putE e (xs ++ [f]) = xs ++ [f] := by
  induction xs with
  | nil => simp [putE, hf]
  | cons g t ih =>
    have hg := h g (by simp)
    have h1 : ¬ cmpE e g < 0 := fun h => (cmpE_neg.1 h).asymm hg
    have h2 : ¬ cmpE e g = 0 := fun h => by have := cmpE_zero.1 h; subst this; exact LtE.irrefl _ hg
    rw [List.cons_append, putE, if_neg h1, if_neg h2, ih fun f hf => h f (by simp [hf])]
theorem putE_ahead {e f : Ed} {xs : List Ed} (h : ∀ g ∈ xs, LtE g e) (hf : cmpE e f < 0) : putE e (xs ++ [f]) = xs ++ [e] ++ [f] := by
  induction xs with
  | nil => simp [putE, hf]
  | cons g t ih =>
    have hg := h g (by simp)
    have h1 : ¬ cmpE e g < 0 := fun h => (cmpE_neg.1 h).asymm hg
    have h2 : ¬ cmpE e g = 0 := fun h => by have := cmpE_zero.1 h; subst this; exact LtE.irrefl _ hg
    rw [List.cons_append, putE, if_neg h1, if_neg h2, ih fun f hf => h f (by simp [hf])]
    simp
theorem putE_done {e f : Ed} {xs : List Ed} (h : ∃ g ∈ xs, ¬ LtE g e) : putE e (xs ++ [f]) = putE e xs ++ [f] := by
  induction xs with
  | nil => obtain ⟨g, hg, -⟩ := h; simp at hg
  | cons g t ih =>
    rw [List.cons_append, putE, putE]
    split
    · simp
    · split
      · simp
      · rename_i h1 h2
        rw [ih]
        · simp
        · obtain ⟨g', hg', hn⟩ := h
          rcases List.mem_cons.1 hg' with rfl | hg'
          · exfalso
            rcases LtE.tri e g' with h3 | rfl | h3
            · exact h1 (cmpE_neg.2 h3)
            · exact h2 (cmpE_zero.2 rfl)
            · exact hn h3
          · exact ⟨g', hg', hn⟩
/-- The loop's state behind the first i. -/
def PutAt (e : Ed) (es : List Ed) (i : Nat) (p : Bool) (xs : List Ed) : Prop :=
  if p = true then xs = putE e (es.take i) ∧ ∃ g ∈ es.take i, ¬ LtE g e else xs = es.take i ∧ ∀ g ∈ es.take i, LtE g e
theorem PutAt.zero (e : Ed) (es : List Ed) : PutAt e es 0 false [] := ⟨by simp, by simp⟩
theorem PutAt.on {e f : Ed} {es xs : List Ed} {i : Nat} (h : PutAt e es i true xs) (hf : es[i]? = some f) : PutAt e es (i + 1) true (xs ++ [f]) := by
  obtain ⟨h1, h2⟩ := h
  refine ⟨by rw [take_snoc hf, putE_done h2, h1], ?_⟩
  obtain ⟨g, hg, hn⟩ := h2
  exact ⟨g, by rw [take_snoc hf]; simp [hg], hn⟩
theorem PutAt.eq {e f : Ed} {es xs : List Ed} {i : Nat} (h : PutAt e es i false xs) (hf : es[i]? = some f) (hc : cmpE e f = 0) : PutAt e es (i + 1) true (xs ++ [f]) := by
  obtain ⟨h1, h2⟩ := h
  refine ⟨by rw [take_snoc hf, putE_same h2 hc, h1], f, by rw [take_snoc hf]; simp, ?_⟩
  have := cmpE_zero.1 hc
  subst this
  exact LtE.irrefl _
theorem PutAt.lt {e f : Ed} {es xs : List Ed} {i : Nat} (h : PutAt e es i false xs) (hf : es[i]? = some f) (hc : cmpE e f < 0) : PutAt e es (i + 1) true (xs ++ [e] ++ [f]) := by
  obtain ⟨h1, h2⟩ := h
  exact ⟨by rw [take_snoc hf, putE_ahead h2 hc, h1], f, by rw [take_snoc hf]; simp, (cmpE_neg.1 hc).asymm⟩
theorem PutAt.gt {e f : Ed} {es xs : List Ed} {i : Nat} (h : PutAt e es i false xs) (hf : es[i]? = some f) (hc : 0 < cmpE e f) : PutAt e es (i + 1) false (xs ++ [f]) := by
  obtain ⟨h1, h2⟩ := h
  have hfe : LtE f e := by
    rcases LtE.tri f e with h3 | rfl | h3
    · exact h3
    · have := cmpE_zero.2 (rfl : f = f); omega
    · have := cmpE_neg.2 h3; omega
  refine ⟨by rw [take_snoc hf, h1], fun g hg => ?_⟩
  rw [take_snoc hf] at hg
  rcases List.mem_append.1 hg with hg | hg
  · exact h2 g hg
  · simp at hg; subst hg; exact hfe
theorem PutAt.len {e : Ed} {es xs : List Ed} {i : Nat} {p : Bool} (h : PutAt e es i p xs) : xs.length ≤ es.length + 1 := by
  have h3 : (es.take i).length ≤ es.length := by simp; omega
  cases p with
  | false => have h1 : xs = es.take i := h.1; rw [h1]; omega
  | true => have h1 : xs = putE e (es.take i) := h.1; have := putE_len e (es.take i); rw [h1]; omega
theorem PutAt.fin {e : Ed} {es xs : List Ed} (h : PutAt e es es.length true xs) : xs = putE e es := by
  have h1 : xs = putE e (es.take es.length) := h.1
  rwa [List.take_length] at h1
theorem PutAt.fin' {e : Ed} {es xs : List Ed} (h : PutAt e es es.length false xs) : xs ++ [e] = putE e es := by
  have h1 : xs = es.take es.length := h.1
  have h2 : ∀ g ∈ es.take es.length, LtE g e := h.2
  rw [List.take_length] at h1 h2
  rw [h1, putE_all h2]

set_option maxHeartbeats 4000000 in
theorem spec_l4Put (A : Option Addr) (es : List Ed) (c : Nat) (e : Ed) (w : World) (lo hi : Nat) (hr : RG w lo hi A es) (hl : es.length ≤ 1000000) :
    Calls Try.prog 39 #[.slice A es.length c, e.v] w fun en w' => ∃ A' c', en = .returned (.slice A' (putE e es).length c') ∧ OG w' w.heap.size w'.heap.size A' c' (putE e es) ∧ Mid 0 0 w w' := by
  have hm0 : Mid 0 0 w ((w.alloc (.cells #[.int .i64 e.a, .int .i64 e.l, .int .i64 e.b] 48)).alloc (.cells #[] 48)) := (Mid.alloc _ _).trans (Mid.alloc _ _)
  have B0 := (Box.new w #[.int .i64 e.a, .int .i64 e.l, .int .i64 e.b] 48).mid (Mid.alloc _ (.cells #[] 48)) (Or.inr (Nat.zero_le _))
  have O0 := owns_empty (w.alloc (.cells #[.int .i64 e.a, .int .i64 e.l, .int .i64 e.b] 48)) 48 3
  rw [World.size_alloc] at O0
  go_enter Try.func39, Try.ntmps39
  go_wp2_with fail
  go_loopw [5, 6, 7, 8] (fun out pl i _ wr => ∃ (k : Nat) (p : Bool) (A1 : Option Addr) (c1 n1 : Nat) (xs : List Ed), k ≤ es.length ∧ i = .int .i64 k ∧ pl = .bool p ∧ out = .slice A1 n1 c1 ∧ Hid (PutAt e es k p xs) ∧ Hid (xs.length = n1) ∧
      wr.ownsRow (w.heap.size + 1) 48 3 (.slice A1 n1 c1) n1 (ints (edI xs)) ∧ Box wr w.heap.size [.int .i64 e.a, .int .i64 e.l, .int .i64 e.b] ∧ Mid 0 0 w wr ∧ w.heap.size + 1 ≤ wr.heap.size) (fun _ _ i _ _ => es.length - (intOf i).toNat)
  case atStart => exact ⟨0, false, _, 0, 0, [], Nat.zero_le _, rfl, rfl, rfl, Lib.hid (PutAt.zero e es), Lib.hid rfl, O0, B0, hm0, by simp⟩
  case round =>
    obtain ⟨k, p, A1, c1, n1, xs, hk, rfl, rfl, rfl, HP, HN, hown, bx, hm, hsz⟩ := hrel
    have hn1 : n1 ≤ 1000001 := by have := HP.out.len; have := HN.out; omega
    have E0 := bx.cell 0 rfl
    have E1 := bx.cell 1 rfl
    have E2 := bx.cell 2 rfl
    by_cases hlt : k < es.length
    · have hrm := hr.mid hm (Or.inl (Nat.zero_le _))
      obtain ⟨B, off, f, rfl, -, hbh, he, c0, cc1, c2⟩ := hrm.ed hlt
      have zb : B < wr.heap.size := Nat.lt_of_lt_of_le hbh hrm.1
      have e0 := wg_cell bx.1 E0
      have e1 := wg_cell bx.1 E1
      have e2 := wg_cell bx.1 E2
      have f0 := wg_cell zb c0
      have f1 := wg_cell zb cc1
      have f2 := wg_cell zb c2
      have hk0 : (0 : Int) ≤ (k : Int) := by omega
      have hkn : (k : Int) < (es.length : Int) := by omega
      obtain ⟨v, hv⟩ : ∃ v, cmpE e f = v := ⟨_, rfl⟩
      have hQ := fun W => spec_CompareEdges e f W
      rw [hv] at hQ
      have HV := Lib.hid hv
      have HE := Lib.hid he
      have HB : Hid (B < wr.heap.size ∧ B < w.heap.size + 1) := Lib.hid ⟨zb, by have := hr.1; omega⟩
      have C0 := Lib.hid c0
      have C1 := Lib.hid cc1
      have C2 := Lib.hid c2
      clear hv he c0 cc1 c2 E0 E1 E2
      go_wp2_with fail
      refine wp_region_quiet_wg (by kernel_rfl) (by kernel_rfl) ?_
      repeat
        (with_reducible refine wpQuiet_step (fun K hK => ?_))
        go_simp
        first
          | ((with_reducible refine hK _ ?_); clear hK K)
          | (rw [if_neg (by decide)]; (with_reducible refine hK _ ?_); clear hK K)
          | (apply Exists.intro; refine ⟨fun _ => ?_, hK _ ?_⟩; ((go_at_call 61; exact Calls.wg_of (hQ _))); clear hK K)
      with_reducible refine wpQuiet_nil ?_
      intro _ hw'
      obtain ⟨⟨nq, osq⟩, hw''⟩ := hw'
      subst hw''
      have hw := Mid.ofWg wr nq osq
      have hw2 := wg_size wr nq osq
      have hmw := hm.trans hw
      have bxw := bx.mid hw (Or.inr (Nat.zero_le _))
      have hownw := owns_mid hown hw (Or.inl (Nat.zero_le _))
      have hszw : w.heap.size + 1 ≤ (wg wr nq osq).heap.size := by omega
      have g0 := cell_keep hw zb (Or.inr (Nat.zero_le _)) C0.out
      have g1 := cell_keep hw zb (Or.inr (Nat.zero_le _)) C1.out
      have g2 := cell_keep hw zb (Or.inr (Nat.zero_le _)) C2.out
      clear hw2 e0 e1 e2 f0 f1 f2 hQ hrm hown bx hm zb hw C0 C1 C2
      have HB := Lib.hid (show B < (wg wr nq osq).heap.size ∧ B < w.heap.size + 1 from ⟨by have := HB.out.1; have := wg_size wr nq osq; omega, HB.out.2⟩)
      generalize wg wr nq osq = wx at hmw bxw hownw hszw g0 g1 g2 HB ⊢
      have e0 := bxw.cell 0 rfl
      have e1 := bxw.cell 1 rfl
      have e2 := bxw.cell 2 rfl
      cases p with
      | true =>
        have HW := Lib.hid hownw
        clear hownw
        rcases (by omega : v = 0 ∨ v < 0 ∨ 0 < v) with hv | hv | hv
        · subst hv
          go_wp2_with (at_builtin; refine wpList_pushE rfl _ _ rfl (w.heap.size + 1) A1 n1 c1 xs rfl HW.out f rfl (by omega) hszw ?_; intro A2 c2 w2 hown2 hm2)
          go_roundw
          case rel => exact ⟨k + 1, true, A2, c2, n1 + 1, xs ++ [f], by omega, by go_num, rfl, rfl, Lib.hid (HP.out.on HE.out), Lib.hid (by rw [List.length_append, HN.out]; rfl), hown2, bxw.mid hm2 (Or.inl (Nat.lt_succ_self _)), hmw.transNew hm2 (Or.inl (Nat.le_succ _)), Nat.le_trans hszw hm2.size⟩
          case measure => simp [intOf]; omega
        · have hv1 : (v == 0) = false := by simp only [beq_eq_false_iff_ne]; omega
          go_wp2_with (at_builtin; refine wpList_pushE rfl _ _ rfl (w.heap.size + 1) A1 n1 c1 xs rfl HW.out f rfl (by omega) hszw ?_; intro A2 c2 w2 hown2 hm2)
          go_roundw
          case rel => exact ⟨k + 1, true, A2, c2, n1 + 1, xs ++ [f], by omega, by go_num, rfl, rfl, Lib.hid (HP.out.on HE.out), Lib.hid (by rw [List.length_append, HN.out]; rfl), hown2, bxw.mid hm2 (Or.inl (Nat.lt_succ_self _)), hmw.transNew hm2 (Or.inl (Nat.le_succ _)), Nat.le_trans hszw hm2.size⟩
          case measure => simp [intOf]; omega
        · have hv1 : (v == 0) = false := by simp only [beq_eq_false_iff_ne]; omega
          go_wp2_with (at_builtin; refine wpList_pushE rfl _ _ rfl (w.heap.size + 1) A1 n1 c1 xs rfl HW.out f rfl (by omega) hszw ?_; intro A2 c2 w2 hown2 hm2)
          go_roundw
          case rel => exact ⟨k + 1, true, A2, c2, n1 + 1, xs ++ [f], by omega, by go_num, rfl, rfl, Lib.hid (HP.out.on HE.out), Lib.hid (by rw [List.length_append, HN.out]; rfl), hown2, bxw.mid hm2 (Or.inl (Nat.lt_succ_self _)), hmw.transNew hm2 (Or.inl (Nat.le_succ _)), Nat.le_trans hszw hm2.size⟩
          case measure => simp [intOf]; omega
      | false =>
        have HW := Lib.hid hownw
        clear hownw
        rcases (by omega : v = 0 ∨ v < 0 ∨ 0 < v) with hv | hv | hv
        · subst hv
          go_wp2_with (at_builtin; refine wpList_pushE rfl _ _ rfl (w.heap.size + 1) A1 n1 c1 xs rfl HW.out f rfl (by omega) hszw ?_; intro A2 c2 w2 hown2 hm2)
          go_roundw
          case rel => exact ⟨k + 1, true, A2, c2, n1 + 1, xs ++ [f], by omega, by go_num, rfl, rfl, Lib.hid (HP.out.eq HE.out HV.out), Lib.hid (by rw [List.length_append, HN.out]; rfl), hown2, bxw.mid hm2 (Or.inl (Nat.lt_succ_self _)), hmw.transNew hm2 (Or.inl (Nat.le_succ _)), Nat.le_trans hszw hm2.size⟩
          case measure => simp [intOf]; omega
        · have hv1 : (v == 0) = false := by simp only [beq_eq_false_iff_ne]; omega
          have hvl : decide (v < 0) = true := by simpa using hv
          go_wp2_with (first | (at_builtin; refine wpList_pushE rfl _ _ rfl (w.heap.size + 1) A1 n1 c1 xs rfl HW.out e rfl (by omega) hszw ?_; intro A2 c2 w2 hown2 hm2; have g0' := cell_keep hm2 HB.out.1 (Or.inl HB.out.2) g0; have g1' := cell_keep hm2 HB.out.1 (Or.inl HB.out.2) g1; have g2' := cell_keep hm2 HB.out.1 (Or.inl HB.out.2) g2; have hsz2 := Nat.le_trans hszw hm2.size; have HW2 := Lib.hid hown2; clear hown2) | (at_builtin; refine wpList_pushE rfl _ _ rfl (w.heap.size + 1) A2 (n1 + 1) c2 (xs ++ [e]) rfl HW2.out f rfl (by omega) hsz2 ?_; intro A3 c3 w3 hown3 hm3))
          go_roundw
          case rel => exact ⟨k + 1, true, A3, c3, n1 + 1 + 1, xs ++ [e] ++ [f], by omega, by go_num, rfl, rfl, Lib.hid (HP.out.lt HE.out (by rw [HV.out]; exact hv)), Lib.hid (by rw [List.length_append, List.length_append, HN.out]; rfl), hown3, (bxw.mid hm2 (Or.inl (Nat.lt_succ_self _))).mid hm3 (Or.inl (Nat.lt_succ_self _)), (hmw.transNew hm2 (Or.inl (Nat.le_succ _))).transNew hm3 (Or.inl (Nat.le_succ _)), Nat.le_trans hsz2 hm3.size⟩
          case measure => simp [intOf]; omega
        · have hv1 : (v == 0) = false := by simp only [beq_eq_false_iff_ne]; omega
          have hvl : decide (v < 0) = false := by simp; omega
          go_wp2_with (at_builtin; refine wpList_pushE rfl _ _ rfl (w.heap.size + 1) A1 n1 c1 xs rfl HW.out f rfl (by omega) hszw ?_; intro A2 c2 w2 hown2 hm2)
          go_roundw
          case rel => exact ⟨k + 1, false, A2, c2, n1 + 1, xs ++ [f], by omega, by go_num, rfl, rfl, Lib.hid (HP.out.gt HE.out (by rw [HV.out]; exact hv)), Lib.hid (by rw [List.length_append, HN.out]; rfl), hown2, bxw.mid hm2 (Or.inl (Nat.lt_succ_self _)), hmw.transNew hm2 (Or.inl (Nat.le_succ _)), Nat.le_trans hszw hm2.size⟩
          case measure => simp [intOf]; omega
    · obtain rfl : k = es.length := by omega
      cases p with
      | true =>
        go_wp2_with fail
        go_ret
        have hx := HP.out.fin
        obtain ⟨A2, c2, hv, hn, ho⟩ := OG.mk' hown
        injection hv with hv1 hv2 hv3
        subst hv1 hv3
        rw [hx] at ho hn
        exact ⟨_, _, (by rw [hn]; rfl), ho.wide (by omega) (Nat.le_refl _) (Nat.le_refl _), hm⟩
      | false =>
        have HW := Lib.hid hown
        go_wp2_with (at_builtin; refine wpList_pushE rfl _ _ rfl (w.heap.size + 1) A1 n1 c1 xs rfl HW.out e rfl (by omega) hsz ?_; intro A2 c2 w2 hown2 hm2)
        have hx := HP.out.fin'
        go_wp2_with fail
        go_ret
        obtain ⟨A3, c3, hv, hn, ho⟩ := OG.mk' hown2
        injection hv with hv1 hv2 hv3
        subst hv1 hv3
        rw [hx] at ho hn
        exact ⟨_, _, (by rw [hn]; rfl), ho.wide (by omega) (Nat.le_refl _) (Nat.le_refl _), hm.transNew hm2 (Or.inl (by omega))⟩
end Go.Proofs.Ytkcfbcbkokabdaa
