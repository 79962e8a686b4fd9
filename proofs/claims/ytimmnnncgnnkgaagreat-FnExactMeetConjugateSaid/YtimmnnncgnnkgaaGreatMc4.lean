/- Contracts and lemmas of this seat, many texts in one: see the words ahead of each. No condition beyond those typed in each lemma. -/
import Derived.Test.YtimmnnncgnnkgaaGreatMc2
import Derived.Test.YtimmnnncgnnkgaaGreatMc3
import Derived.Test.YtimmnnncgnnkgaaGreatMc1

/- AddPath, the program. -/
namespace Go.Proofs.YtimmnnncgnnkgaaGreat
set_option linter.unusedVariables false
set_option linter.unusedSimpArgs false
open Go.RowKit

/-- What AddPath gives. -/
def PathIs (r s : Int) (es : List Ed) (u : Int) (wd : List Int) (v : Int) (rs : Int) (res : List Ed) (b : Bool) : Prop :=
  (b = true ∧ PathOk r s es u wd v ∧ rs = s + (wd.length : Int) - 1 ∧ res = canon (es ++ pathE u s wd v wd.length)) ∨ (b = false ∧ ¬ PathOk r s es u wd v ∧ rs = s ∧ res = es)
theorem PathIs.no {r s : Int} {es : List Ed} {u : Int} {wd : List Int} {v rs : Int} {res : List Ed} {b : Bool} (h : PathIs r s es u wd v rs res b) (hn : ¬ PathOk r s es u wd v) : b = false ∧ rs = s ∧ res = es := by
  rcases h with ⟨-, h, -⟩ | ⟨h1, -, h2⟩
  · exact absurd h hn
  · exact ⟨h1, h2⟩
theorem PathIs.yes {r s : Int} {es : List Ed} {u : Int} {wd : List Int} {v rs : Int} {res : List Ed} {b : Bool} (h : PathIs r s es u wd v rs res b) (hn : PathOk r s es u wd v) : b = true ∧ rs = s + (wd.length : Int) - 1 ∧ res = canon (es ++ pathE u s wd v wd.length) := by
  rcases h with ⟨h1, -, h2⟩ | ⟨-, h, -⟩
  · exact ⟨h1, h2⟩
  · exact absurd hn h
theorem PathIs_ex (r s : Int) (es : List Ed) (u : Int) (wd : List Int) (v : Int) : ∃ rs res b, PathIs r s es u wd v rs res b := by
  by_cases h : PathOk r s es u wd v
  · exact ⟨_, _, _, .inl ⟨rfl, h, rfl, rfl⟩⟩
  · exact ⟨_, _, _, .inr ⟨rfl, h, rfl, rfl⟩⟩
theorem has_bool {x s : Int} (h1 : 1 ≤ s) (h2 : s ≤ 40) {b : Bool} (hb : b = true ↔ 0 ≤ x ∧ x < s) : inB x 0 (wrap64 (s - 1)) = b ∧ inB x 0 (s - 1) = b := by
  have hw : wrap64 (s - 1) = s - 1 := by unfold wrap64; omega
  rw [hw]
  have h3 : inB x 0 (s - 1) = b := by
    cases b with
    | true => have := hb.1 rfl; unfold inB; simp; omega
    | false =>
      have h : ¬ (0 ≤ x ∧ x < s) := fun h => by have := hb.2 h; cases this
      unfold inB
      simp
      omega
  exact ⟨h3, h3⟩

set_option maxHeartbeats 400000 in
theorem impl_step (u x v : Int) (w : World) (h1 : -9223372036854775808 < x) (h2 : x ≤ 9223372036854775807) :
    Calls Tryz.prog 125 #[.int .i64 u, .int .i64 x, .int .i64 v] w fun e w' => e = .returned (stepE u x v).v ∧ Mid 0 0 w w' := by
  by_cases h : x < 0
  · have d1 : decide (x < 0) = true := by simpa using h
    have he : stepE u x v = ⟨v, -x, u⟩ := by rw [stepE, if_pos h]
    rw [he]
    clear he
    go_enter Tryz.func125, Tryz.ntmps125
    go_wp2_with fail
    refine bodyPost_ret (v := .agg #[.int .i64 v, .int .i64 (-x), .int .i64 u]) (by simp [results, Tryz.results125, go_sem]) rfl ⟨rfl, ?_⟩
    repeat (first | exact Mid.alloc _ _ | refine Mid.storeNew ?_ (by simp) _)
  · have d1 : decide (x < 0) = false := by simpa using h
    have he : stepE u x v = ⟨u, x, v⟩ := by rw [stepE, if_neg h]
    rw [he]
    clear he
    go_enter Tryz.func125, Tryz.ntmps125
    go_wp2_with fail
    refine bodyPost_ret (v := .agg #[.int .i64 u, .int .i64 x, .int .i64 v]) (by simp [results, Tryz.results125, go_sem]) rfl ⟨rfl, ?_⟩
    repeat (first | exact Mid.alloc _ _ | refine Mid.storeNew ?_ (by simp) _)

set_option maxHeartbeats 6400000 in
set_option maxRecDepth 100000 in
theorem impl_AddPath (r s : Int) (A : Option Addr) (es : List Ed) (c : Nat) (u : Int) (Aw : Option Addr) (wd : List Int) (cw : Nat) (v : Int) (w : World) (lo hi lo' hi' : Nat)
    (hr : RG w lo hi A es) (hw : RV w lo' hi' Aw (ints wd)) (hl : es.length ≤ 1048576) (hwl : wd.length ≤ 1048576) (hok : OkI wd) (rs : Int) (res : List Ed) (b : Bool) (hres : PathIs r s es u wd v rs res b) :
    Calls Tryz.prog 104 #[graV r s A es.length c, .int .i64 u, .slice Aw wd.length cw, .int .i64 v] w fun e w' => ∃ A1 c1, e = .returned (.tuple #[graV r rs A1 res.length c1, .bool b]) ∧ OG w' w.heap.size w'.heap.size A1 c1 res ∧ Mid 0 0 w w' := by
  have HR := Lib.hid hres
  have HOK := Lib.hid hok
  clear hres hok
  obtain ⟨b1, hb1⟩ := bool_of (IsGr r s es)
  obtain ⟨b2, hb2⟩ := bool_of (0 ≤ u ∧ u < s)
  obtain ⟨b3, hb3⟩ := bool_of (0 ≤ v ∧ v < s)
  obtain ⟨b4, hb4⟩ := bool_of (IsW r wd)
  have H1 := Lib.hid hb1
  have H2 := Lib.hid hb2
  have H3 := Lib.hid hb3
  have H4 := Lib.hid hb4
  clear hb1 hb2 hb3 hb4
  have hm0 : Mid 0 0 w ((w.alloc (.cells #[.int .i64 r, .int .i64 s, .slice A es.length c] 29)).alloc (.cells #[.int .i64 0, .int .i64 0, .slice none 0 0] 29)) := (Mid.alloc _ _).trans (Mid.alloc _ _)
  have B0 := (Box.new w #[.int .i64 r, .int .i64 s, .slice A es.length c] 29).mid (Mid.alloc _ (.cells #[.int .i64 0, .int .i64 0, .slice none 0 0] 29)) (Or.inr (Nat.zero_le _))
  have B2 := Box.new (w.alloc (.cells #[.int .i64 r, .int .i64 s, .slice A es.length c] 29)) #[.int .i64 0, .int .i64 0, .slice none 0 0] 29
  simp only [World.size_alloc] at B2
  go_enter Tryz.func104, Tryz.ntmps104
  go_wp2_with fail
  generalize hw1 : ((w.alloc (.cells #[.int .i64 r, .int .i64 s, .slice A es.length c] 29)).alloc (.cells #[.int .i64 0, .int .i64 0, .slice none 0 0] 29)) = w1 at hm0 B0 B2 ⊢
  have hs1 : w1.heap.size = w.heap.size + 1 + 1 := by rw [← hw1]; simp
  have HS := Lib.hid hs1
  clear hw1 hs1
  with_reducible refine (impl_copyGraph r s A es c _ _ _ (hr.mid hm0 (Or.inl (Nat.zero_le _))) hl).mono ?_
  rintro en w2 ⟨A1, c1, rfl, ho2, hm2⟩
  have hal := Mid.alloc w2 (.cells #[.int .i64 r, .int .i64 s, .slice A1 es.length c1] 29)
  have Y3 := Box.new w2 #[.int .i64 r, .int .i64 s, .slice A1 es.length c1] 29
  replace B0 := B0.mid hm2 (Or.inr (Nat.zero_le _))
  replace B2 := B2.mid hm2 (Or.inr (Nat.zero_le _))
  replace hm0 := hm0.trans hm2
  replace B0 := B0.mid hal (Or.inr (Nat.zero_le _))
  replace B2 := B2.mid hal (Or.inr (Nat.zero_le _))
  replace hm0 := hm0.trans hal
  have hG2 : w.heap.size + 1 < w2.heap.size := by have := HS.out; have := hm2.size; omega
  have ho5 := (ho2.mid hal (Or.inl (Nat.zero_le _)))
  have hlt2 := ho2.ov.2.2
  have hb2k : Value.ownBlock (.slice A1 es.length c1) ≠ some w2.heap.size := fun h => by have := hlt2 _ h; omega
  have p0 := B0.cell 0 rfl
  have p1 := B0.cell 1 rfl
  have p2 := B0.cell 2 rfl
  go_wp2_with fail
  generalize w2.alloc (.cells #[.int .i64 r, .int .i64 s, .slice A1 es.length c1] 29) = w3 at hm0 B0 B2 Y3 ho5 p0 p1 p2 ⊢
  have hG3 : w2.heap.size < w3.heap.size := Y3.1
  have HOW := Lib.hid ho5.ov.2.1
  have HBK := Lib.hid hb2k
  have ho6 := ho5.wide (Nat.le_refl _) (Nat.le_refl _) (Nat.le_of_lt hG3)
  generalize hG : w2.heap.size = G at Y3 hG2 hG3 ho5 HBK ⊢
  have HGW := Lib.hid (show w1.heap.size ≤ G by rw [← hG]; exact hm2.size)
  clear hG hal hm2 hlt2 hb2k ho2 ho6

  with_reducible refine (impl_IsGraph r s A es c _ _ _ (hr.mid hm0 (Or.inl (Nat.zero_le _))).rv hl b1 H1.out).mono ?_
  rintro en w4 ⟨rfl, hm4⟩
  replace B0 := B0.mid hm4 (Or.inr (Nat.zero_le _))
  replace B2 := B2.mid hm4 (Or.inr (Nat.zero_le _))
  replace Y3 := Y3.mid hm4 (Or.inr (Nat.zero_le _))
  replace ho5 := ho5.mid hm4 (Or.inl (Nat.zero_le _))
  replace hm0 := hm0.trans hm4
  replace HOW := Lib.hid (owns_mid HOW.out hm4 (Or.inl (Nat.zero_le _)))
  clear hm4
  cases b1 with
  | false =>
    have hno : ¬ PathOk r s es u wd v := fun h => by have := H1.out.2 h.gr; cases this
    clear p0 p1 p2
    obtain ⟨rfl, rfl, rfl⟩ := HR.out.no hno
    have a0 := B2.cell 0 rfl
    have a1 := B2.cell 1 rfl
    have a2 := B2.cell 2 rfl
    have q0 := Y3.cell 0 rfl
    have q1 := Y3.cell 1 rfl
    have q2 := Y3.cell 2 rfl
    have af := B2.2.2
    go_wp2_with fail
    refine bodyPost_ret (v := .tuple #[.agg #[.int .i64 r, .int .i64 rs, .slice A1 res.length c1], .bool false]) (by simp [results, Tryz.results104, go_sem, a0, a1, a2, af, q0, q1, q2]) rfl ⟨A1, c1, rfl, ?_, ?_⟩
    · refine OG.wide (OG.mid ho5 (a := w.heap.size) (b := w.heap.size + 2) ?_ (Or.inl (by have := HS.out; omega))) (by have := HS.out; omega) (by have := ho5.size; simp; omega) (Nat.le_refl _)
      repeat (first | exact Mid.refl _ _ _ | refine Mid.stored ?_ _ (by simp; try omega) (by simp; try omega))
    · repeat (first | exact hm0 | refine Mid.storeNew ?_ (by simp; try omega) _)
  | true =>
  have hgr := H1.out.1 rfl
  have hsz := hgr.size
  have hln := hgr.len
  have hrk := hgr.rank
  have GR := Lib.hid hgr
  clear hgr H1
  clear p0 p1 p2
  have p0 := B0.cell 0 rfl
  have p1 := B0.cell 1 rfl
  have p2 := B0.cell 2 rfl
  go_wp2_with fail
  with_reducible refine (impl_has r s A es.length c u _ b2 (has_bool hsz.1 hsz.2 H2.out).1).mono ?_
  rintro en w5 ⟨rfl, hm5⟩
  replace B0 := B0.mid hm5 (Or.inr (Nat.zero_le _))
  replace B2 := B2.mid hm5 (Or.inr (Nat.zero_le _))
  replace Y3 := Y3.mid hm5 (Or.inr (Nat.zero_le _))
  replace ho5 := ho5.mid hm5 (Or.inl (Nat.zero_le _))
  replace hm0 := hm0.trans hm5
  replace HOW := Lib.hid (owns_mid HOW.out hm5 (Or.inl (Nat.zero_le _)))
  clear hm5
  cases b2 with
  | false =>
    have hno : ¬ PathOk r s es u wd v := fun h => by have := H2.out.2 h.u0; cases this
    clear p0 p1 p2
    obtain ⟨rfl, rfl, rfl⟩ := HR.out.no hno
    have a0 := B2.cell 0 rfl
    have a1 := B2.cell 1 rfl
    have a2 := B2.cell 2 rfl
    have q0 := Y3.cell 0 rfl
    have q1 := Y3.cell 1 rfl
    have q2 := Y3.cell 2 rfl
    have af := B2.2.2
    go_wp2_with fail
    refine bodyPost_ret (v := .tuple #[.agg #[.int .i64 r, .int .i64 rs, .slice A1 res.length c1], .bool false]) (by simp [results, Tryz.results104, go_sem, a0, a1, a2, af, q0, q1, q2]) rfl ⟨A1, c1, rfl, ?_, ?_⟩
    · refine OG.wide (OG.mid ho5 (a := w.heap.size) (b := w.heap.size + 2) ?_ (Or.inl (by have := HS.out; omega))) (by have := HS.out; omega) (by have := ho5.size; simp; omega) (Nat.le_refl _)
      repeat (first | exact Mid.refl _ _ _ | refine Mid.stored ?_ _ (by simp; try omega) (by simp; try omega))
    · repeat (first | exact hm0 | refine Mid.storeNew ?_ (by simp; try omega) _)
  | true =>
  have hxu := H2.out.1 rfl
  clear H2
  clear p0 p1 p2
  have p0 := B0.cell 0 rfl
  have p1 := B0.cell 1 rfl
  have p2 := B0.cell 2 rfl
  go_wp2_with fail
  with_reducible refine (impl_has r s A es.length c v _ b3 (has_bool hsz.1 hsz.2 H3.out).1).mono ?_
  rintro en w6 ⟨rfl, hm6⟩
  replace B0 := B0.mid hm6 (Or.inr (Nat.zero_le _))
  replace B2 := B2.mid hm6 (Or.inr (Nat.zero_le _))
  replace Y3 := Y3.mid hm6 (Or.inr (Nat.zero_le _))
  replace ho5 := ho5.mid hm6 (Or.inl (Nat.zero_le _))
  replace hm0 := hm0.trans hm6
  replace HOW := Lib.hid (owns_mid HOW.out hm6 (Or.inl (Nat.zero_le _)))
  clear hm6
  cases b3 with
  | false =>
    have hno : ¬ PathOk r s es u wd v := fun h => by have := H3.out.2 h.v0; cases this
    clear p0 p1 p2
    obtain ⟨rfl, rfl, rfl⟩ := HR.out.no hno
    have a0 := B2.cell 0 rfl
    have a1 := B2.cell 1 rfl
    have a2 := B2.cell 2 rfl
    have q0 := Y3.cell 0 rfl
    have q1 := Y3.cell 1 rfl
    have q2 := Y3.cell 2 rfl
    have af := B2.2.2
    go_wp2_with fail
    refine bodyPost_ret (v := .tuple #[.agg #[.int .i64 r, .int .i64 rs, .slice A1 res.length c1], .bool false]) (by simp [results, Tryz.results104, go_sem, a0, a1, a2, af, q0, q1, q2]) rfl ⟨A1, c1, rfl, ?_, ?_⟩
    · refine OG.wide (OG.mid ho5 (a := w.heap.size) (b := w.heap.size + 2) ?_ (Or.inl (by have := HS.out; omega))) (by have := HS.out; omega) (by have := ho5.size; simp; omega) (Nat.le_refl _)
      repeat (first | exact Mid.refl _ _ _ | refine Mid.stored ?_ _ (by simp; try omega) (by simp; try omega))
    · repeat (first | exact hm0 | refine Mid.storeNew ?_ (by simp; try omega) _)
  | true =>
  have hxv := H3.out.1 rfl
  clear H3
  clear p0 p1 p2
  have p0 := B0.cell 0 rfl
  have p1 := B0.cell 1 rfl
  have p2 := B0.cell 2 rfl
  by_cases hne : wd = []
  · subst hne
    have hno : ¬ PathOk r s es u [] v := fun h => h.ne rfl
    clear p0 p1 p2
    obtain ⟨rfl, rfl, rfl⟩ := HR.out.no hno
    have a0 := B2.cell 0 rfl
    have a1 := B2.cell 1 rfl
    have a2 := B2.cell 2 rfl
    have q0 := Y3.cell 0 rfl
    have q1 := Y3.cell 1 rfl
    have q2 := Y3.cell 2 rfl
    have af := B2.2.2
    go_wp2_with fail
    refine bodyPost_ret (v := .tuple #[.agg #[.int .i64 r, .int .i64 rs, .slice A1 res.length c1], .bool false]) (by simp [results, Tryz.results104, go_sem, a0, a1, a2, af, q0, q1, q2]) rfl ⟨A1, c1, rfl, ?_, ?_⟩
    · refine OG.wide (OG.mid ho5 (a := w.heap.size) (b := w.heap.size + 2) ?_ (Or.inl (by have := HS.out; omega))) (by have := HS.out; omega) (by have := ho5.size; simp; omega) (Nat.le_refl _)
      repeat (first | exact Mid.refl _ _ _ | refine Mid.stored ?_ _ (by simp; try omega) (by simp; try omega))
    · repeat (first | exact hm0 | refine Mid.storeNew ?_ (by simp; try omega) _)
  have hpos : 0 < wd.length := List.length_pos_iff.2 hne
  have d4 : ((wd.length : Int) == 0) = false := by simp only [beq_eq_false_iff_ne]; omega
  have HNE := Lib.hid hne
  clear hne
  clear p0 p1 p2
  have p0 := B0.cell 0 rfl
  have p1 := B0.cell 1 rfl
  have p2 := B0.cell 2 rfl
  go_wp2_with fail
  with_reducible refine (impl_IsWord r Aw wd cw _ _ ((hw.mid hm0 (Or.inl (Nat.zero_le _))).rs) HOK.out (by omega) b4 H4.out).mono ?_
  rintro en w7 ⟨rfl, rfl⟩
  cases b4 with
  | false =>
    have hno : ¬ PathOk r s es u wd v := fun h => by have := H4.out.2 h.word; cases this
    clear p0 p1 p2
    obtain ⟨rfl, rfl, rfl⟩ := HR.out.no hno
    have a0 := B2.cell 0 rfl
    have a1 := B2.cell 1 rfl
    have a2 := B2.cell 2 rfl
    have q0 := Y3.cell 0 rfl
    have q1 := Y3.cell 1 rfl
    have q2 := Y3.cell 2 rfl
    have af := B2.2.2
    go_wp2_with fail
    refine bodyPost_ret (v := .tuple #[.agg #[.int .i64 r, .int .i64 rs, .slice A1 res.length c1], .bool false]) (by simp [results, Tryz.results104, go_sem, a0, a1, a2, af, q0, q1, q2]) rfl ⟨A1, c1, rfl, ?_, ?_⟩
    · refine OG.wide (OG.mid ho5 (a := w.heap.size) (b := w.heap.size + 2) ?_ (Or.inl (by have := HS.out; omega))) (by have := HS.out; omega) (by have := ho5.size; simp; omega) (Nat.le_refl _)
      repeat (first | exact Mid.refl _ _ _ | refine Mid.stored ?_ _ (by simp; try omega) (by simp; try omega))
    · repeat (first | exact hm0 | refine Mid.storeNew ?_ (by simp; try omega) _)
  | true =>
  have hwd := H4.out.1 rfl
  have hwd24 := hwd.2.2.1
  have HWD := Lib.hid hwd
  clear hwd H4
  clear p0 p1 p2
  have p0 := B0.cell 0 rfl
  have p1 := B0.cell 1 rfl
  have p2 := B0.cell 2 rfl
  have d5' : IntKind.i64.wrap (s + (wd.length : Int)) = s + (wd.length : Int) := IntWalk.i64_in _ (by omega)
  have d5'' : IntKind.i64.wrap (s + (wd.length : Int) - 1) = s + (wd.length : Int) - 1 := IntWalk.i64_in _ (by omega)
  by_cases hsl : 40 < s + (wd.length : Int) - 1
  · have hno : ¬ PathOk r s es u wd v := fun h => by have := h.sz; omega
    have d5 : decide (40 < s + (wd.length : Int) - 1) = true := by simpa using hsl
    clear p1
    clear p0 p2
    have p0 := B0.cell 0 rfl
    have p1 := B0.cell 1 rfl
    have p2 := B0.cell 2 rfl
    obtain ⟨rfl, rfl, rfl⟩ := HR.out.no hno
    have a0 := B2.cell 0 rfl
    have a1 := B2.cell 1 rfl
    have a2 := B2.cell 2 rfl
    have q0 := Y3.cell 0 rfl
    have q1 := Y3.cell 1 rfl
    have q2 := Y3.cell 2 rfl
    have af := B2.2.2
    go_wp2_with fail
    refine bodyPost_ret (v := .tuple #[.agg #[.int .i64 r, .int .i64 rs, .slice A1 res.length c1], .bool false]) (by simp [results, Tryz.results104, go_sem, a0, a1, a2, af, q0, q1, q2]) rfl ⟨A1, c1, rfl, ?_, ?_⟩
    · refine OG.wide (OG.mid ho5 (a := w.heap.size) (b := w.heap.size + 2) ?_ (Or.inl (by have := HS.out; omega))) (by have := HS.out; omega) (by have := ho5.size; simp; omega) (Nat.le_refl _)
      repeat (first | exact Mid.refl _ _ _ | refine Mid.stored ?_ _ (by simp; try omega) (by simp; try omega))
    · repeat (first | exact hm0 | refine Mid.storeNew ?_ (by simp; try omega) _)
  have d5 : decide (40 < s + (wd.length : Int) - 1) = false := by simpa using hsl
  by_cases hll : 120 < es.length + wd.length
  · have hno : ¬ PathOk r s es u wd v := fun h => by have := h.ln; omega
    have d6 : decide (120 < (es.length : Int) + (wd.length : Int)) = true := by simp; omega
    obtain ⟨rfl, rfl, rfl⟩ := HR.out.no hno
    have a0 := B2.cell 0 rfl
    have a1 := B2.cell 1 rfl
    have a2 := B2.cell 2 rfl
    have q0 := Y3.cell 0 rfl
    have q1 := Y3.cell 1 rfl
    have q2 := Y3.cell 2 rfl
    have af := B2.2.2
    go_wp2_with fail
    refine bodyPost_ret (v := .tuple #[.agg #[.int .i64 r, .int .i64 rs, .slice A1 res.length c1], .bool false]) (by simp [results, Tryz.results104, go_sem, a0, a1, a2, af, q0, q1, q2]) rfl ⟨A1, c1, rfl, ?_, ?_⟩
    · refine OG.wide (OG.mid ho5 (a := w.heap.size) (b := w.heap.size + 2) ?_ (Or.inl (by have := HS.out; omega))) (by have := HS.out; omega) (by have := ho5.size; simp; omega) (Nat.le_refl _)
      repeat (first | exact Mid.refl _ _ _ | refine Mid.stored ?_ _ (by simp; try omega) (by simp; try omega))
    · repeat (first | exact hm0 | refine Mid.storeNew ?_ (by simp; try omega) _)
  have d6 : decide (120 < (es.length : Int) + (wd.length : Int)) = false := by simp; omega
  obtain ⟨rfl, hrs, hre⟩ := HR.out.yes ⟨GR.out, hxu, hxv, HWD.out, HNE.out, by omega, by omega⟩
  have HRS := Lib.hid hrs
  have HRE := Lib.hid hre
  have hasc := Lib.hid GR.out.asc
  clear hrs hre HR
  have hwn : IntKind.i64.wrap ((wd.length : Int) - 1) = (wd.length : Int) - 1 := IntWalk.i64_in _ (by omega)
  have hletb := Lib.hid HWD.out.2.2.2.1
  have q0 := Y3.cell 0 rfl
  have q1 := Y3.cell 1 rfl
  have q2 := Y3.cell 2 rfl
  go_wp2_with fail
  clear p0 p1 p2 q0 q1 q2
  go_loopw [11, 66] (fun at_ i wr => ∃ (k : Nat) (A2 : Option Addr) (n2 c2 : Nat) (sz : Int), k ≤ wd.length ∧ i = .int .i64 k ∧ at_ = .int .i64 (pathV u s wd.length v k) ∧ Hid (sz = s + ((min k (wd.length - 1) : Nat) : Int)) ∧ Hid (n2 = es.length + k) ∧
    wr.ownsRow w1.heap.size 78 3 (.slice A2 n2 c2) n2 (ints (edI (es ++ pathE u s wd v k))) ∧ Value.ownBlock (.slice A2 n2 c2) ≠ some G ∧
    Box wr w.heap.size [.int .i64 r, .int .i64 s, .slice A es.length c] ∧ Box wr (w.heap.size + 1) [.int .i64 0, .int .i64 0, .slice none 0 0] ∧
    Box wr G [.int .i64 r, .int .i64 sz, .slice A2 n2 c2] ∧ Mid 0 0 w wr) (fun _ i _ => wd.length - (intOf i).toNat)
  case atStart => exact ⟨0, A1, es.length, c1, s, Nat.zero_le _, rfl, rfl, Lib.hid (by simp), Lib.hid rfl, by simpa [pathE] using HOW.out, HBK.out, B0, B2, Y3, hm0⟩
  case round =>
    clear B0 B2 Y3 hm0 ho5 HOW HBK hG3
    obtain ⟨k, A2, n2, c2, sz, hk, rfl, rfl, HSZ, HN, hown, hbk, Z0, Z2, Z3, hmr⟩ := hrel
    have hszv := HSZ.out
    have hn2 : n2 ≤ 240 := by have := HN.out; omega
    by_cases hlt : k < wd.length
    · obtain ⟨B, off, x, rfl, hbh, hx, hcx⟩ := (hw.mid hmr (Or.inl (Nat.zero_le _))).at hlt
      have hxl := hletb.out x (List.mem_of_getElem? hx)
      have hkn : (k : Int) < (wd.length : Int) := by omega
      have hk0 : (0 : Int) ≤ (k : Int) := by omega
      have hpe := pathE_succ (u := u) (s := s) (v := v) hx
      have HPE := Lib.hid hpe
      have hGr : G < wr.heap.size := Z3.1
      have hw1r : w1.heap.size ≤ wr.heap.size := by have := HGW.out; omega
      clear hx hpe
      generalize hat : pathV u s wd.length v k = at0 at HPE ⊢
      clear hat
      by_cases hlast : k + 1 < wd.length
      · have hmin : ((min k (wd.length - 1) : Nat) : Int) = (k : Int) := by rw [Nat.min_eq_left (by omega)]
        have hmin2 : ((min (k + 1) (wd.length - 1) : Nat) : Int) = (k : Int) + 1 := by rw [Nat.min_eq_left (by omega)]; rfl
        rw [hmin] at hszv
        subst hszv
        have hto : pathV u s wd.length v (k + 1) = s + (k : Int) := by
          rw [pathV, if_neg (by omega), if_pos hlast]
          omega
        rw [hto] at HPE
        have dk : decide ((k : Int) < (wd.length : Int) - 1) = true := by simp; omega
        have hws : IntKind.i64.wrap (s + (k : Int) + 1) = s + (k : Int) + 1 := IntWalk.i64_in _ (by omega)
        have q1 := Z3.cell 1 rfl
        have qf := Z3.2.2
        have hst := Mid.setCell wr (lo := G) (hi := G + 1) (p := ⟨G, 1, none⟩) (.int .i64 (s + (k : Int) + 1)) (Nat.le_refl _) (Nat.lt_succ_self _)
        have V0 := Z0.mid hst (Or.inl (by omega))
        have V2 := Z2.mid hst (Or.inl (by omega))
        have V3 := Z3.set 1 (.int .i64 (s + (k : Int) + 1)) (by simp) rfl
        have hownV := owns_other hown (k := G) (grown_setCell (World.grownBy.refl _ (some G)) 1 (.int .i64 (s + (k : Int) + 1))) hbk
        have hmv := hmr.storeNew (p := ⟨G, 1, none⟩) (by show w.heap.size ≤ G; omega) (.int .i64 (s + (k : Int) + 1))
        have hsV : (wr.setCell ⟨G, 1, none⟩ (.int .i64 (s + (k : Int) + 1))).heap.size = wr.heap.size := by simp
        go_wp2_with fail
        generalize wr.setCell ⟨G, 1, none⟩ (.int .i64 (s + (k : Int) + 1)) = wx at V0 V2 V3 hownV hmv hsV ⊢
        have hnsz : Hid (s + (k : Int) + 1 = s + ((min (k + 1) (wd.length - 1) : Nat) : Int)) := Lib.hid (by rw [hmin2]; omega)
        clear Z0 Z2 Z3 hown hmr q1 qf hst hcx hmin hmin2 HSZ
        simp only [List.set_cons_succ, List.set_cons_zero] at V3
        generalize s + (k : Int) + 1 = sz' at V3 hnsz
        generalize s + (k : Int) = to at HPE hto ⊢
        have hGx : G < wx.heap.size := V3.1
        have hmd := Mid.drew1 wx
        have U0 := V0.mid hmd (Or.inr (Nat.zero_le _))
        have U2 := V2.mid hmd (Or.inr (Nat.zero_le _))
        have U3 := V3.mid hmd (Or.inr (Nat.zero_le _))
        have hownU := owns_mid hownV hmd (Or.inl (Nat.zero_le _))
        have hmu := hmv.trans hmd
        have g2 := U3.cell 2 rfl
        have hsd := hmd.size
        have hP1 := fun W => impl_step at0 x to W (by omega) (by omega)
        clear V0 V2 V3 hownV hmv hmd
        refine wp_region_T (S := (fun w' => w'.cell? ⟨G, 2, none⟩ = some (.slice A2 n2 c2))) 9 (by kernel_rfl) g2 ?_
        generalize World.drew wx = wz at U0 U2 U3 hownU hmu g2 hsd ⊢
        refine wpAnyT_take (i := 0) (v := ?_) rfl (by kernel_rfl) (by kernel_rfl) (by kernel_rfl) (by kernel_rfl) (fun _ _ _ h => h) (Or.inl ⟨by rfl, ?_⟩) g2 ?_
        rotate_left
        focus (intro w hSw; (try dsimp only at hSw); go_simp; try with_reducible rfl)
        try simp only [Act.put, List.setIfInBounds_toArray, List.set_cons_zero, List.set_cons_succ, List.getElem_toArray, List.getElem_cons_zero, List.getElem_cons_succ]
        refine wpAnyT_take (i := 1) (v := ?_) rfl (by kernel_rfl) (by kernel_rfl) (by kernel_rfl) (by kernel_rfl) (fun _ _ _ h => h) (Or.inl ⟨by rfl, ?_⟩) g2 ?_
        rotate_left
        focus (intro w hSw; (try dsimp only at hSw); go_simp; try with_reducible rfl)
        try simp only [Act.put, List.setIfInBounds_toArray, List.set_cons_zero, List.set_cons_succ, List.getElem_toArray, List.getElem_cons_zero, List.getElem_cons_succ]
        refine wpAnyT_take (i := 2) (v := ?_) rfl (by kernel_rfl) (by kernel_rfl) (by kernel_rfl) (by kernel_rfl) (fun _ _ _ h => h) (Or.inl ⟨by rfl, ?_⟩) g2 ?_
        rotate_left
        focus (intro w hSw; (try dsimp only at hSw); go_simp; try with_reducible rfl)
        try simp only [Act.put, List.setIfInBounds_toArray, List.set_cons_zero, List.set_cons_succ, List.getElem_toArray, List.getElem_cons_zero, List.getElem_cons_succ]
        refine wpAnyT_take (i := 3) (v := ?_) rfl (by kernel_rfl) (by kernel_rfl) (by kernel_rfl) (by kernel_rfl) (fun _ _ _ h => h) (Or.inl ⟨by rfl, ?_⟩) g2 ?_
        rotate_left
        focus (intro w hSw; (try dsimp only at hSw); go_simp; try with_reducible rfl)
        try simp only [Act.put, List.setIfInBounds_toArray, List.set_cons_zero, List.set_cons_succ, List.getElem_toArray, List.getElem_cons_zero, List.getElem_cons_succ]
        refine wpAnyT_take (i := 4) (v := ?_) rfl (by kernel_rfl) (by kernel_rfl) (by kernel_rfl) (by kernel_rfl) (fun _ _ _ h => h) (Or.inl ⟨by rfl, ?_⟩) g2 ?_
        rotate_left
        focus (intro w hSw; (try dsimp only at hSw); go_simp; try with_reducible rfl)
        try simp only [Act.put, List.setIfInBounds_toArray, List.set_cons_zero, List.set_cons_succ, List.getElem_toArray, List.getElem_cons_zero, List.getElem_cons_succ]
        refine wpAnyT_ready (rs := [5]) (by kernel_rfl) (by simp) (AllReadyT.cons rfl (fun K hK => ?_) AllReadyT.nil)
        (go_simp; refine (hP1 _).mono ?_; rintro en w7 ⟨rfl, hm7⟩; have U3' := U3.mid hm7 (Or.inr (Nat.zero_le _)); go_wp2_with fail)
        refine hK.out _ _ (Or.inr (U3'.cell 2 rfl)) (fun _ => ?_)
        clear hK K
        try simp only [Act.put, List.setIfInBounds_toArray, List.set_cons_zero, List.set_cons_succ, List.getElem_toArray, List.getElem_cons_zero, List.getElem_cons_succ]
        have U0' := U0.mid hm7 (Or.inr (Nat.zero_le _))
        have U2' := U2.mid hm7 (Or.inr (Nat.zero_le _))
        have hownU' := owns_mid hownU hm7 (Or.inl (Nat.zero_le _))
        have hmu' := hmu.trans hm7
        have hs7 := hm7.size
        clear U0 U2 U3 hownU hmu g2 hP1 hm7
        generalize stepE at0 x to = ed at HPE ⊢
        have haz := Mid.alloc w7 (.cells #[.int .i64 ed.a, .int .i64 ed.l, .int .i64 ed.b] 78)
        have T0 := U0'.mid haz (Or.inr (Nat.zero_le _))
        have T2 := U2'.mid haz (Or.inr (Nat.zero_le _))
        have T3 := U3'.mid haz (Or.inr (Nat.zero_le _))
        have hownT := hownU'.alloc (.cells #[.int .i64 ed.a, .int .i64 ed.l, .int .i64 ed.b] 78)
        have hmt := hmu'.trans haz
        have hS2 := T3.cell 2 rfl
        have hrs : Rs (w7.alloc (.cells #[.int .i64 ed.a, .int .i64 ed.l, .int .i64 ed.b] 78)) (w7.heap.size + 1) (some ⟨w7.heap.size, 0, none⟩) [.int .i64 ed.a, .int .i64 ed.l, .int .i64 ed.b] := fun _ => ⟨w7.heap.size, 0, rfl, Nat.lt_succ_self _, fun j u hu => (World.cell?_alloc_at _ _ _ _ rfl).trans (by simpa using hu)⟩
        have hone : ∀ u ∈ [Value.int .i64 ed.a, .int .i64 ed.l, .int .i64 ed.b], u.oneCell' = true := by
          intro u hu
          simp at hu
          rcases hu with rfl | rfl | rfl <;> rfl
        have hmxl : n2 + 1 ≤ maxLen := by unfold maxLen; omega
        have hbyt : (n2 + 1) * 24 ≤ 140737488355328 := by omega
        have hbas : w1.heap.size ≤ (w7.alloc (.cells #[.int .i64 ed.a, .int .i64 ed.l, .int .i64 ed.b] 78)).heap.size := by simp; omega
        have hGz : G < w7.heap.size := U3'.1
        have HO := Lib.hid hone
        have HB0 := Lib.hid (fun (g : Nat) (h : Value.ownBlock (.slice A2 n2 c2) = some g) => (hownT.lt g h).1)
        have HBk := Lib.hid hbk
        clear hone hbk U0' U2' U3' hownU' hmu' haz
        refine wpAnyT_ready (rs := [6]) (by kernel_rfl) (by simp) (AllReadyT.cons rfl (fun K hK => ?_) AllReadyT.nil)
        go_simp
        refine hK.out _ _ (Or.inr hS2) (fun _ => ?_)
        clear hK K
        try simp only [Act.put, List.setIfInBounds_toArray, List.set_cons_zero, List.set_cons_succ, List.getElem_toArray, List.getElem_cons_zero, List.getElem_cons_succ]
        generalize hwt : w7.alloc (.cells #[.int .i64 ed.a, .int .i64 ed.l, .int .i64 ed.b] 78) = wt at T0 T2 T3 hownT hmt hS2 hrs hbas ⊢
        have hszt : wt.heap.size = w7.heap.size + 1 := by rw [← hwt]; simp
        have HZT := Lib.hid hszt
        clear hwt hszt
        refine wpAnyT_ready (rs := [7]) (by kernel_rfl) (by simp) (AllReadyT.cons rfl (fun K hK => ?_) AllReadyT.nil)
        (refine step_cat (by rfl) (.tmp 84) (.tmp 89) 27 (by rfl) w1.heap.size 78 (.agg #[.int .i64 0, .int .i64 0, .int .i64 0]) 3 24 undSE infoE rfl (by decide) (.slice A2 n2 c2) n2 _ (by rfl) hownT (some ⟨w7.heap.size, 0, none⟩) 1 1 _ [.int .i64 ed.a, .int .i64 ed.l, .int .i64 ed.b] (by rfl) hrs rfl HO.out hmxl hbyt hbas ?_; intro v2 w8 ho8 hgr8 hat8; obtain ⟨A3, c3, rfl, -, -⟩ := owns_shape ho8)
        refine hK.out _ _ (Or.inr ((T3.grown hgr8 HBk.out).cell 2 rfl)) (fun _ => ?_)
        clear hK K
        try simp only [Act.put, List.setIfInBounds_toArray, List.set_cons_zero, List.set_cons_succ, List.getElem_toArray, List.getElem_cons_zero, List.getElem_cons_succ]
        have R3 := T3.grown hgr8 HBk.out
        have R0 := T0.grown hgr8 (fun h => by have := HB0.out _ h; have := HS.out; omega)
        have R2 := T2.grown hgr8 (fun h => by have := HB0.out _ h; have := HS.out; omega)
        have hmr8 : Mid 0 0 w w8 := hmt.transNew (Mid.of_grownRow hownT hgr8) (Or.inl (by have := HS.out; omega))
        have hS3 := R3.cell 2 rfl
        have hne : Value.ownBlock (.slice A3 (n2 + 1) c3) ≠ some G := by
          rcases hat8 with h | h
          · rw [h]; exact HBk.out
          · rw [h]
            intro he
            injection he with he
            have := HZT.out
            omega
        have HNE2 := Lib.hid hne
        have hrf := R3.2.2
        clear hne hat8 hS2 hrs T0 T2 T3 hmt
        refine wpAnyT_take (i := 8) (v := ?_) rfl (by kernel_rfl) (by kernel_rfl) (by kernel_rfl) (by kernel_rfl) (fun _ _ _ h => h) (Or.inl ⟨by rfl, ?_⟩) hS3 ?_
        rotate_left
        focus (intro w hSw; (try dsimp only at hSw); go_simp; try with_reducible rfl)
        try simp only [Act.put, List.setIfInBounds_toArray, List.set_cons_zero, List.set_cons_succ, List.getElem_toArray, List.getElem_cons_zero, List.getElem_cons_succ]
        refine wpAnyT_ready (rs := [9]) (by kernel_rfl) (by simp) (AllReadyT.cons rfl (fun K hK => ?_) AllReadyT.nil)
        (go_simp)
        refine hK.out _ _ (Or.inl rfl) (fun _ => ?_)
        clear hK K
        try simp only [Act.put, List.setIfInBounds_toArray, List.set_cons_zero, List.set_cons_succ, List.getElem_toArray, List.getElem_cons_zero, List.getElem_cons_succ]
        refine wpAnyT_done (by kernel_rfl) ?_ _
        go_wp2_with fail
        go_roundw
        case rel =>
          have hst := Mid.setCell w8 (lo := G) (hi := G + 1) (p := ⟨G, 2, none⟩) (.slice A3 (n2 + 1) c3) (Nat.le_refl _) (Nat.lt_succ_self _)
          refine ⟨k + 1, A3, n2 + 1, c3, sz', by omega, by go_num, by rw [hto], hnsz, Lib.hid (by rw [HN.out]; omega), ?_, HNE2.out, R0.mid hst (Or.inl (by omega)), R2.mid hst (Or.inl (by omega)), R3.set 2 _ (by simp) rfl, hmr8.storeNew (by show w.heap.size ≤ G; omega) _⟩
          have h1 := owns_other ho8 (k := G) (grown_setCell (World.grownBy.refl _ (some G)) 2 (.slice A3 (n2 + 1) c3)) HNE2.out
          rw [HPE.out, ← List.append_assoc, edI_append, ints_append, edI_one]
          exact h1
        case measure => simp [intOf]; omega
      · have hkl : k + 1 = wd.length := by omega
        have hmin : min k (wd.length - 1) = min (k + 1) (wd.length - 1) := by omega
        have hnsz : Hid (sz = s + ((min (k + 1) (wd.length - 1) : Nat) : Int)) := Lib.hid (by rw [hszv, hmin])
        have hto : pathV u s wd.length v (k + 1) = v := by
          rw [pathV, if_neg (by omega), if_neg (by omega)]
        rw [hto] at HPE
        have dk : decide ((k : Int) < (wd.length : Int) - 1) = false := by simp; omega
        clear hszv hmin HSZ
        generalize sz = sz' at Z3 hnsz
        go_wp2_with fail
        have V0 := Z0
        have V2 := Z2
        have V3 := Z3
        have hownV := hown
        have hmv := hmr
        obtain ⟨wx, hwx⟩ : ∃ wx, wr = wx := ⟨_, rfl⟩
        have hsV : wx.heap.size = wr.heap.size := by rw [hwx]
        rw [hwx] at V0 V2 V3 hownV hmv ⊢
        clear Z0 Z2 Z3 hown hmr hcx
        have hGx : G < wx.heap.size := V3.1
        have hmd := Mid.drew1 wx
        have U0 := V0.mid hmd (Or.inr (Nat.zero_le _))
        have U2 := V2.mid hmd (Or.inr (Nat.zero_le _))
        have U3 := V3.mid hmd (Or.inr (Nat.zero_le _))
        have hownU := owns_mid hownV hmd (Or.inl (Nat.zero_le _))
        have hmu := hmv.trans hmd
        have g2 := U3.cell 2 rfl
        have hsd := hmd.size
        have hP1 := fun W => impl_step at0 x v W (by omega) (by omega)
        clear V0 V2 V3 hownV hmv hmd
        refine wp_region_T (S := (fun w' => w'.cell? ⟨G, 2, none⟩ = some (.slice A2 n2 c2))) 9 (by kernel_rfl) g2 ?_
        generalize World.drew wx = wz at U0 U2 U3 hownU hmu g2 hsd ⊢
        refine wpAnyT_take (i := 0) (v := ?_) rfl (by kernel_rfl) (by kernel_rfl) (by kernel_rfl) (by kernel_rfl) (fun _ _ _ h => h) (Or.inl ⟨by rfl, ?_⟩) g2 ?_
        rotate_left
        focus (intro w hSw; (try dsimp only at hSw); go_simp; try with_reducible rfl)
        try simp only [Act.put, List.setIfInBounds_toArray, List.set_cons_zero, List.set_cons_succ, List.getElem_toArray, List.getElem_cons_zero, List.getElem_cons_succ]
        refine wpAnyT_take (i := 1) (v := ?_) rfl (by kernel_rfl) (by kernel_rfl) (by kernel_rfl) (by kernel_rfl) (fun _ _ _ h => h) (Or.inl ⟨by rfl, ?_⟩) g2 ?_
        rotate_left
        focus (intro w hSw; (try dsimp only at hSw); go_simp; try with_reducible rfl)
        try simp only [Act.put, List.setIfInBounds_toArray, List.set_cons_zero, List.set_cons_succ, List.getElem_toArray, List.getElem_cons_zero, List.getElem_cons_succ]
        refine wpAnyT_take (i := 2) (v := ?_) rfl (by kernel_rfl) (by kernel_rfl) (by kernel_rfl) (by kernel_rfl) (fun _ _ _ h => h) (Or.inl ⟨by rfl, ?_⟩) g2 ?_
        rotate_left
        focus (intro w hSw; (try dsimp only at hSw); go_simp; try with_reducible rfl)
        try simp only [Act.put, List.setIfInBounds_toArray, List.set_cons_zero, List.set_cons_succ, List.getElem_toArray, List.getElem_cons_zero, List.getElem_cons_succ]
        refine wpAnyT_take (i := 3) (v := ?_) rfl (by kernel_rfl) (by kernel_rfl) (by kernel_rfl) (by kernel_rfl) (fun _ _ _ h => h) (Or.inl ⟨by rfl, ?_⟩) g2 ?_
        rotate_left
        focus (intro w hSw; (try dsimp only at hSw); go_simp; try with_reducible rfl)
        try simp only [Act.put, List.setIfInBounds_toArray, List.set_cons_zero, List.set_cons_succ, List.getElem_toArray, List.getElem_cons_zero, List.getElem_cons_succ]
        refine wpAnyT_take (i := 4) (v := ?_) rfl (by kernel_rfl) (by kernel_rfl) (by kernel_rfl) (by kernel_rfl) (fun _ _ _ h => h) (Or.inl ⟨by rfl, ?_⟩) g2 ?_
        rotate_left
        focus (intro w hSw; (try dsimp only at hSw); go_simp; try with_reducible rfl)
        try simp only [Act.put, List.setIfInBounds_toArray, List.set_cons_zero, List.set_cons_succ, List.getElem_toArray, List.getElem_cons_zero, List.getElem_cons_succ]
        refine wpAnyT_ready (rs := [5]) (by kernel_rfl) (by simp) (AllReadyT.cons rfl (fun K hK => ?_) AllReadyT.nil)
        (go_simp; refine (hP1 _).mono ?_; rintro en w7 ⟨rfl, hm7⟩; have U3' := U3.mid hm7 (Or.inr (Nat.zero_le _)); go_wp2_with fail)
        refine hK.out _ _ (Or.inr (U3'.cell 2 rfl)) (fun _ => ?_)
        clear hK K
        try simp only [Act.put, List.setIfInBounds_toArray, List.set_cons_zero, List.set_cons_succ, List.getElem_toArray, List.getElem_cons_zero, List.getElem_cons_succ]
        have U0' := U0.mid hm7 (Or.inr (Nat.zero_le _))
        have U2' := U2.mid hm7 (Or.inr (Nat.zero_le _))
        have hownU' := owns_mid hownU hm7 (Or.inl (Nat.zero_le _))
        have hmu' := hmu.trans hm7
        have hs7 := hm7.size
        clear U0 U2 U3 hownU hmu g2 hP1 hm7
        generalize stepE at0 x v = ed at HPE ⊢
        have haz := Mid.alloc w7 (.cells #[.int .i64 ed.a, .int .i64 ed.l, .int .i64 ed.b] 78)
        have T0 := U0'.mid haz (Or.inr (Nat.zero_le _))
        have T2 := U2'.mid haz (Or.inr (Nat.zero_le _))
        have T3 := U3'.mid haz (Or.inr (Nat.zero_le _))
        have hownT := hownU'.alloc (.cells #[.int .i64 ed.a, .int .i64 ed.l, .int .i64 ed.b] 78)
        have hmt := hmu'.trans haz
        have hS2 := T3.cell 2 rfl
        have hrs : Rs (w7.alloc (.cells #[.int .i64 ed.a, .int .i64 ed.l, .int .i64 ed.b] 78)) (w7.heap.size + 1) (some ⟨w7.heap.size, 0, none⟩) [.int .i64 ed.a, .int .i64 ed.l, .int .i64 ed.b] := fun _ => ⟨w7.heap.size, 0, rfl, Nat.lt_succ_self _, fun j u hu => (World.cell?_alloc_at _ _ _ _ rfl).trans (by simpa using hu)⟩
        have hone : ∀ u ∈ [Value.int .i64 ed.a, .int .i64 ed.l, .int .i64 ed.b], u.oneCell' = true := by
          intro u hu
          simp at hu
          rcases hu with rfl | rfl | rfl <;> rfl
        have hmxl : n2 + 1 ≤ maxLen := by unfold maxLen; omega
        have hbyt : (n2 + 1) * 24 ≤ 140737488355328 := by omega
        have hbas : w1.heap.size ≤ (w7.alloc (.cells #[.int .i64 ed.a, .int .i64 ed.l, .int .i64 ed.b] 78)).heap.size := by simp; omega
        have hGz : G < w7.heap.size := U3'.1
        have HO := Lib.hid hone
        have HB0 := Lib.hid (fun (g : Nat) (h : Value.ownBlock (.slice A2 n2 c2) = some g) => (hownT.lt g h).1)
        have HBk := Lib.hid hbk
        clear hone hbk U0' U2' U3' hownU' hmu' haz
        refine wpAnyT_ready (rs := [6]) (by kernel_rfl) (by simp) (AllReadyT.cons rfl (fun K hK => ?_) AllReadyT.nil)
        go_simp
        refine hK.out _ _ (Or.inr hS2) (fun _ => ?_)
        clear hK K
        try simp only [Act.put, List.setIfInBounds_toArray, List.set_cons_zero, List.set_cons_succ, List.getElem_toArray, List.getElem_cons_zero, List.getElem_cons_succ]
        generalize hwt : w7.alloc (.cells #[.int .i64 ed.a, .int .i64 ed.l, .int .i64 ed.b] 78) = wt at T0 T2 T3 hownT hmt hS2 hrs hbas ⊢
        have hszt : wt.heap.size = w7.heap.size + 1 := by rw [← hwt]; simp
        have HZT := Lib.hid hszt
        clear hwt hszt
        refine wpAnyT_ready (rs := [7]) (by kernel_rfl) (by simp) (AllReadyT.cons rfl (fun K hK => ?_) AllReadyT.nil)
        (refine step_cat (by rfl) (.tmp 84) (.tmp 89) 27 (by rfl) w1.heap.size 78 (.agg #[.int .i64 0, .int .i64 0, .int .i64 0]) 3 24 undSE infoE rfl (by decide) (.slice A2 n2 c2) n2 _ (by rfl) hownT (some ⟨w7.heap.size, 0, none⟩) 1 1 _ [.int .i64 ed.a, .int .i64 ed.l, .int .i64 ed.b] (by rfl) hrs rfl HO.out hmxl hbyt hbas ?_; intro v2 w8 ho8 hgr8 hat8; obtain ⟨A3, c3, rfl, -, -⟩ := owns_shape ho8)
        refine hK.out _ _ (Or.inr ((T3.grown hgr8 HBk.out).cell 2 rfl)) (fun _ => ?_)
        clear hK K
        try simp only [Act.put, List.setIfInBounds_toArray, List.set_cons_zero, List.set_cons_succ, List.getElem_toArray, List.getElem_cons_zero, List.getElem_cons_succ]
        have R3 := T3.grown hgr8 HBk.out
        have R0 := T0.grown hgr8 (fun h => by have := HB0.out _ h; have := HS.out; omega)
        have R2 := T2.grown hgr8 (fun h => by have := HB0.out _ h; have := HS.out; omega)
        have hmr8 : Mid 0 0 w w8 := hmt.transNew (Mid.of_grownRow hownT hgr8) (Or.inl (by have := HS.out; omega))
        have hS3 := R3.cell 2 rfl
        have hne : Value.ownBlock (.slice A3 (n2 + 1) c3) ≠ some G := by
          rcases hat8 with h | h
          · rw [h]; exact HBk.out
          · rw [h]
            intro he
            injection he with he
            have := HZT.out
            omega
        have HNE2 := Lib.hid hne
        have hrf := R3.2.2
        clear hne hat8 hS2 hrs T0 T2 T3 hmt
        refine wpAnyT_take (i := 8) (v := ?_) rfl (by kernel_rfl) (by kernel_rfl) (by kernel_rfl) (by kernel_rfl) (fun _ _ _ h => h) (Or.inl ⟨by rfl, ?_⟩) hS3 ?_
        rotate_left
        focus (intro w hSw; (try dsimp only at hSw); go_simp; try with_reducible rfl)
        try simp only [Act.put, List.setIfInBounds_toArray, List.set_cons_zero, List.set_cons_succ, List.getElem_toArray, List.getElem_cons_zero, List.getElem_cons_succ]
        refine wpAnyT_ready (rs := [9]) (by kernel_rfl) (by simp) (AllReadyT.cons rfl (fun K hK => ?_) AllReadyT.nil)
        (go_simp)
        refine hK.out _ _ (Or.inl rfl) (fun _ => ?_)
        clear hK K
        try simp only [Act.put, List.setIfInBounds_toArray, List.set_cons_zero, List.set_cons_succ, List.getElem_toArray, List.getElem_cons_zero, List.getElem_cons_succ]
        refine wpAnyT_done (by kernel_rfl) ?_ _
        go_wp2_with fail
        go_roundw
        case rel =>
          have hst := Mid.setCell w8 (lo := G) (hi := G + 1) (p := ⟨G, 2, none⟩) (.slice A3 (n2 + 1) c3) (Nat.le_refl _) (Nat.lt_succ_self _)
          refine ⟨k + 1, A3, n2 + 1, c3, sz', by omega, by go_num, by rw [hto], hnsz, Lib.hid (by rw [HN.out]; omega), ?_, HNE2.out, R0.mid hst (Or.inl (by omega)), R2.mid hst (Or.inl (by omega)), R3.set 2 _ (by simp) rfl, hmr8.storeNew (by show w.heap.size ≤ G; omega) _⟩
          have h1 := owns_other ho8 (k := G) (grown_setCell (World.grownBy.refl _ (some G)) 2 (.slice A3 (n2 + 1) c3)) HNE2.out
          rw [HPE.out, ← List.append_assoc, edI_append, ints_append, edI_one]
          exact h1
        case measure => simp [intOf]; omega
    · obtain rfl : k = wd.length := by omega
      have hszf : sz = s + (wd.length : Int) - 1 := by rw [hszv, Nat.min_eq_right (by omega)]; omega
      subst hszf
      have hrg : RG wr w1.heap.size wr.heap.size A2 (es ++ pathE u s wd v wd.length) := OV.rv (e := 78) (size := 3) (c := c2) (n := n2) ⟨Nat.le_refl _, hown, fun g hg => (hown.lt g hg).2⟩
      have hnl : (es ++ pathE u s wd v wd.length).length = n2 := by rw [HN.out, List.length_append, pathE_len]
      have HNL := Lib.hid hnl
      have z2 := Z3.cell 2 rfl
      clear hnl hszv
      go_wp2_with fail
      with_reducible refine (impl_sortedN A2 (es ++ pathE u s wd v wd.length) n2 c2 _ _ _ HNL.out hrg (by omega)).mono ?_
      rintro en w6 ⟨A4, c4, rfl, ho6, hm6⟩
      have Q2 := Z2.mid hm6 (Or.inr (Nat.zero_le _))
      have Q3 := Z3.mid hm6 (Or.inr (Nat.zero_le _))
      have hG6 : G < wr.heap.size := Z3.1
      have hsz6 := hm6.size
      clear z2
      have a0 := Q2.cell 0 rfl
      have a1 := Q2.cell 1 rfl
      have a2 := Q2.cell 2 rfl
      have b0 := Q3.cell 0 rfl
      have b1 := Q3.cell 1 rfl
      have b2 := Q3.cell 2 rfl
      have af := Q2.2.2
      have bf := Q3.2.2
      go_wp2_with fail
      have hcl : (w.heap.size + 1 == G) = false := by simp; omega
      refine bodyPost_ret (v := .tuple #[.agg #[.int .i64 r, .int .i64 (s + (wd.length : Int) - 1), .slice A4 (canon (es ++ pathE u s wd v wd.length)).length c4], .bool true]) (by simp [results, Tryz.results104, go_sem, a0, a1, a2, b0, b1, b2, af, bf]) rfl ⟨A4, c4, ?_, ?_, ?_⟩
      · rw [HRS.out, HRE.out]
      · rw [HRE.out]
        refine OG.wide (OG.mid ho6 (a := w.heap.size) (b := G + 1) ?_ (Or.inl hG6)) (by have := hmr.size; omega) (by simp) (Nat.le_refl _)
        repeat (first | exact Mid.refl _ _ _ | refine Mid.stored ?_ _ (by simp; try omega) (by simp; try omega))
      · have h := hmr.trans hm6
        repeat (first | exact h | refine Mid.storeNew ?_ (by simp; try omega) _)
end Go.Proofs.YtimmnnncgnnkgaaGreat

/- Plain: rows of pairs as the program walks them. -/
namespace Go.Proofs.YtimmnnncgnnkgaaGreat
set_option linter.unusedVariables false
set_option linter.unusedSimpArgs false
open Go.RowKit
theorem idx_prefix {l P : PS} {a : Int × Int} (h : a ∈ l) (hp : l <+: P) : P.idxOf a = l.idxOf a := by
  obtain ⟨t, rfl⟩ := hp
  rw [List.idxOf_append, if_pos h]
theorem pb_next_prefix {r r' sa sb : Int} {ea eb : List Ed} {L : List Int} (hga : IsGr r sa ea) (hgb : IsGr r' sb eb) {p0 p : Int × Int} (h0 : PIn sa sb p0) {i j : Nat} (h : (pbSt ea eb L p0 i)[i]? = some p) :
    pbRow ea eb (L.take j) p (pbSt ea eb L p0 i) <+: pairsOf ea eb L p0 := by
  have h1 : pbRow ea eb (L.take j) p (pbSt ea eb L p0 i) <+: pbSt ea eb L p0 (i + 1) := by
    have e : pbRow ea eb L p (pbSt ea eb L p0 i) = pbRow ea eb (L.drop j) p (pbRow ea eb (L.take j) p (pbSt ea eb L p0 i)) := by
      unfold pbRow
      rw [← List.foldl_append, List.take_append_drop]
    rw [pbSt_succ h, e]
    exact pbRow_pre ea eb (L.drop j) p _
  refine h1.trans (pbSt_prefix hga hgb h0 ?_)
  rw [pbSt_succ h]
  exact Nat.le_trans (List.getElem?_eq_some_iff.1 h).1 (pbRow_pre ea eb L p _).length_le
theorem pbEs_half_no {ea eb : List Ed} {P : PS} {i j : Nat} {p : Int × Int} {x : Int} (hx : (j % 2 = 0 ∧ x = ((j / 2 : Nat) : Int) + 1) ∨ (j % 2 = 1 ∧ x = -(((j / 2 : Nat) : Int) + 1))) (h : nextV ea p.1 x < 0 ∨ nextV eb p.2 x < 0) : pbEs ea eb P i p ((j + 1 + 1) / 2) = pbEs ea eb P i p ((j + 1) / 2) := by
  rcases hx with ⟨h1, h2⟩ | ⟨h1, h2⟩
  · rw [show (j + 1 + 1) / 2 = j / 2 + 1 by omega, show (j + 1) / 2 = j / 2 by omega]
    rw [h2] at h
    exact pbEs_no h
  · rw [show (j + 1 + 1) / 2 = (j + 1) / 2 by omega]
theorem pbEs_half_yes {ea eb : List Ed} {P : PS} {i j : Nat} {p : Int × Int} {x : Int} {k : Nat} (h1 : j % 2 = 0) (h2 : x = ((j / 2 : Nat) : Int) + 1) (t1 : ¬ nextV ea p.1 x < 0) (t2 : ¬ nextV eb p.2 x < 0) (hk : P.idxOf (pbNext ea eb p x) = k) :
    pbEs ea eb P i p ((j + 1 + 1) / 2) = pbEs ea eb P i p ((j + 1) / 2) ++ [⟨i, x, (k : Nat)⟩] := by
  rw [show (j + 1 + 1) / 2 = j / 2 + 1 by omega, show (j + 1) / 2 = j / 2 by omega]
  rw [h2] at t1 t2 hk
  rw [pbEs_yes t1 t2, hk, h2]
theorem pair_ok {sa sb : Nat} (ha : sa ≤ 40) (hb : sb ≤ 40) {p : Int × Int} (h : PIn sa sb p) : PairOk p := by
  obtain ⟨h1, h2, h3, h4⟩ := h
  exact ⟨wf_small (by omega) (by omega), wf_small (by omega) (by omega)⟩
end Go.Proofs.YtimmnnncgnnkgaaGreat

/- PullbackAt, the program. -/
namespace Go.Proofs.YtimmnnncgnnkgaaGreat
set_option linter.unusedVariables false
set_option linter.unusedSimpArgs false
open Go.RowKit

set_option maxHeartbeats 6400000 in
set_option maxRecDepth 100000 in
theorem impl_PullbackAt (r s : Int) (A : Option Addr) (es : List Ed) (c : Nat) (r' s' : Int) (B : Option Addr) (es' : List Ed) (d : Nat) (u v : Int) (w : World) (lo hi lo2 hi2 : Nat)
    (hr : RG w lo hi A es) (hr2 : RG w lo2 hi2 B es') (hl : es.length ≤ 1048576) (hl2 : es'.length ≤ 1048576) (hcl : es.length ≤ c) (hcl2 : es'.length ≤ d) (rr rs : Int) (res : List Ed) (b : Bool) (hres : PullIs r s es r' s' es' u v rr rs res b) :
    Calls Tryz.prog 74 #[graV r s A es.length c, graV r' s' B es'.length d, .int .i64 u, .int .i64 v] w fun e w' => ∃ A1 c1, e = .returned (.tuple #[graV rr rs A1 res.length c1, .bool b]) ∧ OG w' w.heap.size w'.heap.size A1 c1 res ∧ Mid 0 0 w w' := by
  have HR := Lib.hid hres
  clear hres
  obtain ⟨b1, hb1⟩ := bool_of (IsFol r s es)
  have H1 := Lib.hid hb1
  obtain ⟨b2, hb2⟩ := bool_of (IsFol r' s' es')
  have H2 := Lib.hid hb2
  clear hb1 hb2
  have hm0 : Mid 0 0 w (((w.alloc (.cells #[.int .i64 r, .int .i64 s, .slice A es.length c] 29)).alloc (.cells #[.int .i64 r', .int .i64 s', .slice B es'.length d] 29)).alloc (.cells #[.int .i64 0, .int .i64 0, .slice none 0 0] 29)) := ((Mid.alloc _ _).trans (Mid.alloc _ _)).trans (Mid.alloc _ _)
  have B0 := ((Box.new w #[.int .i64 r, .int .i64 s, .slice A es.length c] 29).mid (Mid.alloc _ (.cells #[.int .i64 r', .int .i64 s', .slice B es'.length d] 29)) (Or.inr (Nat.zero_le _))).mid (Mid.alloc _ (.cells #[.int .i64 0, .int .i64 0, .slice none 0 0] 29)) (Or.inr (Nat.zero_le _))
  have B1 := (Box.new (w.alloc (.cells #[.int .i64 r, .int .i64 s, .slice A es.length c] 29)) #[.int .i64 r', .int .i64 s', .slice B es'.length d] 29).mid (Mid.alloc _ (.cells #[.int .i64 0, .int .i64 0, .slice none 0 0] 29)) (Or.inr (Nat.zero_le _))
  have B2 := Box.new ((w.alloc (.cells #[.int .i64 r, .int .i64 s, .slice A es.length c] 29)).alloc (.cells #[.int .i64 r', .int .i64 s', .slice B es'.length d] 29)) #[.int .i64 0, .int .i64 0, .slice none 0 0] 29
  simp only [World.size_alloc] at B1 B2
  go_enter Tryz.func74, Tryz.ntmps74
  go_wp2_with fail
  generalize hw1 : ((w.alloc (.cells #[.int .i64 r, .int .i64 s, .slice A es.length c] 29)).alloc (.cells #[.int .i64 r', .int .i64 s', .slice B es'.length d] 29)).alloc (.cells #[.int .i64 0, .int .i64 0, .slice none 0 0] 29) = w1 at hm0 B0 B1 B2 ⊢
  have hs1 : w1.heap.size = w.heap.size + 1 + 1 + 1 := by rw [← hw1]; simp
  have HS := Lib.hid hs1
  clear hw1 hs1
  with_reducible refine (impl_IsFolded r s A es c _ _ _ (hr.mid hm0 (Or.inl (Nat.zero_le _))) hl hcl b1 H1.out).mono ?_
  rintro en w2 ⟨rfl, hm2⟩
  replace B0 := B0.mid hm2 (Or.inr (Nat.zero_le _))
  replace B1 := B1.mid hm2 (Or.inr (Nat.zero_le _))
  replace B2 := B2.mid hm2 (Or.inr (Nat.zero_le _))
  replace hm0 := hm0.trans hm2
  have p0 := B0.cell 0 rfl
  have p1 := B0.cell 1 rfl
  have p2 := B0.cell 2 rfl
  have k0 := B1.cell 0 rfl
  have k1 := B1.cell 1 rfl
  have k2 := B1.cell 2 rfl
  have z0 := B2.cell 0 rfl
  have z1 := B2.cell 1 rfl
  have z2 := B2.cell 2 rfl
  have zf := B2.2.2
  cases b1 with
  | false =>
    have hno : ¬ PullOk r s es r' s' es' u v := fun h => by
      have := H1.out.2 h.f1; cases this
    obtain ⟨rfl, rfl, rfl, rfl⟩ := HR.out.no hno
    go_wp2_with fail
    refine bodyPost_ret (v := .tuple #[.agg #[.int .i64 0, .int .i64 0, .slice none 0 0], .bool false]) (by simp [results, Tryz.results74, go_sem, z0, z1, z2, zf]) rfl ⟨none, 0, rfl, OG.nil, ?_⟩
    repeat (first | exact hm0 | refine Mid.storeNew ?_ (by simp; try omega) _)
  | true =>
  have F1 := Lib.hid (H1.out.1 rfl)
  clear H1
  go_wp2_with fail
  with_reducible refine (impl_IsFolded r' s' B es' d _ _ _ (hr2.mid hm0 (Or.inl (Nat.zero_le _))) hl2 hcl2 b2 H2.out).mono ?_
  rintro en w3 ⟨rfl, hm3⟩
  replace B0 := B0.mid hm3 (Or.inr (Nat.zero_le _))
  replace B1 := B1.mid hm3 (Or.inr (Nat.zero_le _))
  replace B2 := B2.mid hm3 (Or.inr (Nat.zero_le _))
  replace hm0 := hm0.trans hm3
  clear p0 p1 p2 k0 k1 k2 z0 z1 z2 zf
  have p0 := B0.cell 0 rfl
  have p1 := B0.cell 1 rfl
  have p2 := B0.cell 2 rfl
  have k0 := B1.cell 0 rfl
  have k1 := B1.cell 1 rfl
  have k2 := B1.cell 2 rfl
  have z0 := B2.cell 0 rfl
  have z1 := B2.cell 1 rfl
  have z2 := B2.cell 2 rfl
  have zf := B2.2.2
  cases b2 with
  | false =>
    have hno : ¬ PullOk r s es r' s' es' u v := fun h => by
      have := H2.out.2 h.f2; cases this
    obtain ⟨rfl, rfl, rfl, rfl⟩ := HR.out.no hno
    go_wp2_with fail
    refine bodyPost_ret (v := .tuple #[.agg #[.int .i64 0, .int .i64 0, .slice none 0 0], .bool false]) (by simp [results, Tryz.results74, go_sem, z0, z1, z2, zf]) rfl ⟨none, 0, rfl, OG.nil, ?_⟩
    repeat (first | exact hm0 | refine Mid.storeNew ?_ (by simp; try omega) _)
  | true =>
  have F2 := Lib.hid (H2.out.1 rfl)
  have g1 := F1.out.gr.rank
  have g2 := F1.out.gr.size
  have g3 := F2.out.gr.size
  have g4 := F1.out.gr.len
  have g5 := F2.out.gr.len
  clear H2
  have hws : wrap64 (s - 1) = s - 1 := by unfold wrap64; omega
  have hwt : wrap64 (s' - 1) = s' - 1 := by unfold wrap64; omega
  rcases (Decidable.em (r = r')).symm with hrk | hrk
  · have h1a : (r != r') = true := by simpa using hrk
    have hrk' := Lib.hid hrk
    have hno : ¬ PullOk r s es r' s' es' u v := fun h => by
      exact hrk'.out h.rk
    obtain ⟨rfl, rfl, rfl, rfl⟩ := HR.out.no hno
    go_wp2_with fail
    refine bodyPost_ret (v := .tuple #[.agg #[.int .i64 0, .int .i64 0, .slice none 0 0], .bool false]) (by simp [results, Tryz.results74, go_sem, z0, z1, z2, zf]) rfl ⟨none, 0, rfl, OG.nil, ?_⟩
    repeat (first | exact hm0 | refine Mid.storeNew ?_ (by simp; try omega) _)
  subst hrk
  rcases (Decidable.em (0 ≤ u ∧ u < s)).symm with hu | hu
  · have hib : inB u 0 (wrap64 (s - 1)) = false := by rw [hws]; unfold inB; simp; omega
    have HU := Lib.hid hu
    clear hu
    go_wp2_with fail
    with_reducible refine (impl_has r s A es.length c u _ false hib).mono ?_
    rintro en w4 ⟨rfl, hm4⟩
    replace B2 := B2.mid hm4 (Or.inr (Nat.zero_le _))
    replace hm0 := hm0.trans hm4
    clear p0 p1 p2 k0 k1 k2 z0 z1 z2 zf
    have z0 := B2.cell 0 rfl
    have z1 := B2.cell 1 rfl
    have z2 := B2.cell 2 rfl
    have zf := B2.2.2
    have hno : ¬ PullOk r s es r s' es' u v := fun h => by
      exact HU.out h.u0
    obtain ⟨rfl, rfl, rfl, rfl⟩ := HR.out.no hno
    go_wp2_with fail
    refine bodyPost_ret (v := .tuple #[.agg #[.int .i64 0, .int .i64 0, .slice none 0 0], .bool false]) (by simp [results, Tryz.results74, go_sem, z0, z1, z2, zf]) rfl ⟨none, 0, rfl, OG.nil, ?_⟩
    repeat (first | exact hm0 | refine Mid.storeNew ?_ (by simp; try omega) _)
  have hib : inB u 0 (wrap64 (s - 1)) = true := by rw [hws]; unfold inB; simp; omega
  go_wp2_with fail
  with_reducible refine (impl_has r s A es.length c u _ true hib).mono ?_
  rintro en w4 ⟨rfl, hm4⟩
  replace B0 := B0.mid hm4 (Or.inr (Nat.zero_le _))
  replace B1 := B1.mid hm4 (Or.inr (Nat.zero_le _))
  replace B2 := B2.mid hm4 (Or.inr (Nat.zero_le _))
  replace hm0 := hm0.trans hm4
  clear p0 p1 p2 k0 k1 k2 z0 z1 z2 zf
  have p0 := B0.cell 0 rfl
  have p1 := B0.cell 1 rfl
  have p2 := B0.cell 2 rfl
  have k0 := B1.cell 0 rfl
  have k1 := B1.cell 1 rfl
  have k2 := B1.cell 2 rfl
  rcases (Decidable.em (0 ≤ v ∧ v < s')).symm with hv | hv
  · have hib2 : inB v 0 (wrap64 (s' - 1)) = false := by rw [hwt]; unfold inB; simp; omega
    have HV := Lib.hid hv
    clear hv
    go_wp2_with fail
    with_reducible refine (impl_has r s' B es'.length d v _ false hib2).mono ?_
    rintro en w5 ⟨rfl, hm5⟩
    replace B2 := B2.mid hm5 (Or.inr (Nat.zero_le _))
    replace hm0 := hm0.trans hm5
    clear p0 p1 p2 k0 k1 k2
    have z0 := B2.cell 0 rfl
    have z1 := B2.cell 1 rfl
    have z2 := B2.cell 2 rfl
    have zf := B2.2.2
    have hno : ¬ PullOk r s es r s' es' u v := fun h => by
      exact HV.out h.v0
    obtain ⟨rfl, rfl, rfl, rfl⟩ := HR.out.no hno
    go_wp2_with fail
    refine bodyPost_ret (v := .tuple #[.agg #[.int .i64 0, .int .i64 0, .slice none 0 0], .bool false]) (by simp [results, Tryz.results74, go_sem, z0, z1, z2, zf]) rfl ⟨none, 0, rfl, OG.nil, ?_⟩
    repeat (first | exact hm0 | refine Mid.storeNew ?_ (by simp; try omega) _)
  have hib2 : inB v 0 (wrap64 (s' - 1)) = true := by rw [hwt]; unfold inB; simp; omega
  go_wp2_with fail
  with_reducible refine (impl_has r s' B es'.length d v _ true hib2).mono ?_
  rintro en w5 ⟨rfl, hm5⟩
  replace B0 := B0.mid hm5 (Or.inr (Nat.zero_le _))
  replace B1 := B1.mid hm5 (Or.inr (Nat.zero_le _))
  replace B2 := B2.mid hm5 (Or.inr (Nat.zero_le _))
  replace hm0 := hm0.trans hm5
  clear p0 p1 p2 k0 k1 k2
  clear hib hib2 hws hwt
  obtain ⟨rn, rfl⟩ : ∃ n : Nat, r = n := ⟨r.toNat, by omega⟩
  obtain ⟨sn, rfl⟩ : ∃ n : Nat, s = n := ⟨s.toNat, by omega⟩
  obtain ⟨tn, rfl⟩ : ∃ n : Nat, s' = n := ⟨s'.toNat, by omega⟩
  obtain ⟨un, rfl⟩ : ∃ n : Nat, u = n := ⟨u.toNat, by omega⟩
  obtain ⟨vn, rfl⟩ : ∃ n : Nat, v = n := ⟨v.toNat, by omega⟩
  have hun : un < sn := by omega
  have hvn : vn < tn := by omega
  have hp0 : PIn sn tn ((un : Int), (vn : Int)) := ⟨Int.natCast_nonneg _, Int.ofNat_lt.2 hun, Int.natCast_nonneg _, Int.ofNat_lt.2 hvn⟩
  have hpk0 := pair_ok (by omega) (by omega) hp0
  have HP0 := Lib.hid hp0
  have hs5 : w.heap.size + 3 ≤ w5.heap.size := by have h1 := HS.out; have h2 := hm2.size; have h3 := hm3.size; have h4 := hm4.size; have h5 := hm5.size; omega
  clear hm2 hm3 hm4 hm5 HS hp0
  have p0 := B0.cell 0 rfl
  have p1 := B0.cell 1 rfl
  have p2 := B0.cell 2 rfl
  have hmm := @run_makeMap Tryz.prog
  have hM0 := PMap.made w5
  have haM := Mid.alloc w5 (.map #[] 0)
  have hW0 : w.heap.size + 1 + 1 < w5.heap.size := B2.1
  go_wp2_with (first | (refine wpList_pmIns rfl _ _ _ rfl rfl hM0 ((un : Int), (vn : Int)) hpk0 (by simp) 0 rfl (by omega) rfl rfl ?_; intro w6 hM1 hm6; have hs6 := hm6.size; have B06 := (B0.mid haM (Or.inr (Nat.zero_le _))).mid hm6 (Or.inl (by omega)); have p06 := B06.cell 0 rfl; have hb6 := B06.1))
  have hord := owns_litP w6 ((un : Int), (vn : Int))
  have hsM := haM.size
  have hm7 := ((hm0.trans haM).transNew hm6 (Or.inl (by omega))).trans ((Mid.alloc w6 (.cells #[.int .i64 un, .int .i64 vn] 107)).trans (Mid.alloc _ (.cells #[.int .i64 rn, .int .i64 0, .slice none 0 0] 29)))
  have hmB := (Mid.alloc w6 (.cells #[.int .i64 un, .int .i64 vn] 107)).trans (Mid.alloc _ (.cells #[.int .i64 rn, .int .i64 0, .slice none 0 0] 29))
  have C0 := B06.mid hmB (Or.inr (Nat.zero_le _))
  have C1 := ((B1.mid haM (Or.inr (Nat.zero_le _))).mid hm6 (Or.inl (by omega))).mid hmB (Or.inr (Nat.zero_le _))
  have C2 := ((B2.mid haM (Or.inr (Nat.zero_le _))).mid hm6 (Or.inl (by omega))).mid hmB (Or.inr (Nat.zero_le _))
  have hGbox := Box.new (w6.alloc (.cells #[.int .i64 un, .int .i64 vn] 107)) #[.int .i64 rn, .int .i64 0, .slice none 0 0] 29
  have hPB0 : PB ((w6.alloc (.cells #[.int .i64 un, .int .i64 vn] 107)).alloc (.cells #[.int .i64 rn, .int .i64 0, .slice none 0 0] 29)) rn w6.heap.size w5.heap.size (w6.alloc (.cells #[.int .i64 un, .int .i64 vn] 107)).heap.size (some ⟨w6.heap.size, 0, none⟩) 1 1 [((un : Int), (vn : Int))] [((un : Int), (vn : Int))] none 0 0 [] :=
    ⟨owns_mid hord (Mid.alloc _ _) (Or.inl (Nat.zero_le _)), hM1.mid hmB (Or.inr (Nat.zero_le _)), ⟨rfl, .inl ⟨rfl, rfl⟩⟩, hGbox, by simp [Value.ownBlock], hM1.lt, by simp⟩
  generalize hw7 : (w6.alloc (.cells #[.int .i64 un, .int .i64 vn] 107)).alloc (.cells #[.int .i64 rn, .int .i64 0, .slice none 0 0] 29) = w7 at hm7 C0 C1 C2 hPB0 ⊢
  simp only [World.size_alloc] at hPB0
  generalize hG : w6.heap.size + 1 = G at hPB0 ⊢
  generalize hBo : w6.heap.size = Bo at hPB0 ⊢
  generalize hMM : w5.heap.size = M at hPB0 ⊢
  have hMw : w.heap.size + 3 ≤ M := by omega
  have hG1 : M < G := by omega
  clear hGbox hord hmB hw7 hG hBo hMM B06 p06 hb6 hs6 hsM haM hm6 hM1 hM0 hmm hW0 hs5 B0 B1 B2 hm0 p0 p1 p2
  obtain ⟨P, hPP⟩ : ∃ P, pairsOf es es' (lets rn) ((un : Int), (vn : Int)) = P := ⟨_, rfl⟩
  have HPP : Sec (pairsOf es es' (lets rn) ((un : Int), (vn : Int)) = P) := ⟨hPP⟩
  have hs0 : pbSt es es' (lets rn) ((un : Int), (vn : Int)) 0 = [((un : Int), (vn : Int))] := rfl
  have HGL : Hid (∀ e ∈ es, 1 ≤ e.l ∧ e.l ≤ 3) := Lib.hid (fun e he => by have := F1.out.gr.all e he; unfold InG at this; omega)
  have HGL2 : Hid (∀ e ∈ es', 1 ≤ e.l ∧ e.l ≤ 3) := Lib.hid (fun e he => by have := F2.out.gr.all e he; unfold InG at this; omega)
  clear hPP
  rw [← hs0] at hPB0
  clear hs0
  generalize (some (⟨Bo, 0, none⟩ : Addr)) = A0 at hPB0 ⊢
  go_loopw [11, 13] (fun ov iv wr => ∃ (i n1 : Nat) (A1 : Option Addr) (c1 n2 : Nat) (A2 : Option Addr) (c2 : Nat) (xs : List Ed), iv = .int .i64 i ∧ ov = .slice A1 n1 c1 ∧ Hid (i ≤ n1) ∧ Hid (xs = pbAll es es' rn P i) ∧ Hid (PB wr rn Bo M G A1 n1 c1 (pbSt es es' (lets rn) ((un : Int), (vn : Int)) i) (pbSt es es' (lets rn) ((un : Int), (vn : Int)) i) A2 n2 c2 xs) ∧ Box wr w.heap.size [.int .i64 rn, .int .i64 sn, .slice A es.length c] ∧ Box wr (w.heap.size + 1) [.int .i64 rn, .int .i64 tn, .slice B es'.length d] ∧ Box wr (w.heap.size + 1 + 1) [.int .i64 0, .int .i64 0, .slice none 0 0] ∧ Mid 0 0 w wr) (fun _ iv _ => 1601 - (intOf iv).toNat)
  case atStart => exact ⟨0, 1, A0, 1, 0, none, 0, [], rfl, rfl, Lib.hid (Nat.zero_le _), Lib.hid rfl, Lib.hid hPB0, C0, C1, C2, hm7⟩
  case round =>
    clear hPB0 C0 C1 C2 hm7
    obtain ⟨wo, hwo⟩ : ∃ wo, wo = wr := ⟨_, rfl⟩
    subst hwo
    obtain ⟨i, n1, A1, c1, n2, A2, c2, xs, rfl, rfl, HI, HX, HPB, B0, B1, B2, hm⟩ := hrel
    have hn1 := HPB.out.ln1
    have hn16 : n1 ≤ 1600 := by rw [← hn1]; exact pb_len (lets rn) F1.out.gr F2.out.gr HP0.out i
    have hin1 := HI.out
    by_cases hlt : i < n1
    · obtain ⟨p, hp⟩ := get_of_lt (pbSt es es' (lets rn) ((un : Int), (vn : Int)) i) (show i < _ by rw [hn1]; exact hlt)
      obtain ⟨a, b', rfl, ha, hb⟩ : ∃ a b' : Nat, p = ((a : Int), (b' : Int)) ∧ a < sn ∧ b' < tn := by
        obtain ⟨x, y⟩ := p
        obtain ⟨i1, i2, i3, i4⟩ := (pbSt_ok (lets rn) F1.out.gr.all F2.out.gr.all HP0.out i).rng _ (List.mem_of_getElem? hp)
        simp only at i1 i2 i3 i4
        exact ⟨x.toNat, y.toNat, Prod.ext (by simp only; omega) (by simp only; omega), by omega, by omega⟩
      have HPT := Lib.hid hp
      have hPi : P[i]? = some ((a : Int), (b' : Int)) := by rw [← HPP.out]; exact prefix_get (pbSt_prefix F1.out.gr F2.out.gr HP0.out (by rw [hn1]; exact hin1)) hp
      have HSU := Lib.hid (pbAll_succ (ea := es) (eb := es') (r := rn) hPi)
      have HSS := Lib.hid (pbSt_succ hp)
      have hi1 : (i : Int) < (n1 : Int) := by omega
      clear hp hPi hn1
      have p0 := B0.cell 0 rfl
      have p1 := B0.cell 1 rfl
      have p2 := B0.cell 2 rfl
      go_wp2_with fail
      with_reducible refine (impl_letters rn _ (by omega)).mono ?_
      rintro en w8 ⟨A8, c8, rfl, hL8, hm8⟩
      have hs8 := hm8.size
      have hd1 : ∀ g, Value.ownBlock (.slice A1 n1 c1) = some g → g < wo.heap.size ∨ w8.heap.size ≤ g := fun g hg => Or.inl (HPB.out.ord.lt g hg).2
      have hd2 : ∀ g, Value.ownBlock (.slice A2 n2 c2) = some g → g < wo.heap.size ∨ w8.heap.size ≤ g := fun g hg => Or.inl (HPB.out.edg.lt g hg).2
      have hGw : G < wo.heap.size := HPB.out.box.1
      have HPB8 := Lib.hid (HPB.out.mid hm8)
      replace B0 := B0.mid hm8 (Or.inr (Nat.zero_le _))
      replace B1 := B1.mid hm8 (Or.inr (Nat.zero_le _))
      replace B2 := B2.mid hm8 (Or.inr (Nat.zero_le _))
      replace hm := hm.trans hm8
      have HL8 := Lib.hid hL8
      have HD1 := Lib.hid hd1
      have HD2 := Lib.hid hd2
      obtain ⟨LL, hLL⟩ : ∃ n, (lets rn).length = n := ⟨_, rfl⟩
      have hL6 : LL ≤ 6 := by rw [← hLL, lets_len]; omega
      have HLL := Lib.hid hLL
      have hst0 : pbRow es es' ((lets rn).take 0) ((a : Int), (b' : Int)) (pbSt es es' (lets rn) ((un : Int), (vn : Int)) i) = pbSt es es' (lets rn) ((un : Int), (vn : Int)) i := rfl
      rw [← hst0] at HPB8
      rw [hLL]
      clear p0 p1 p2 hm8 hL8 hd1 hd2 hLL hst0 HPB
      generalize wo.heap.size = L8 at HL8 HD1 HD2 hGw hs8
      generalize w8.heap.size = H8 at HL8 HD1 HD2 hs8
      go_wp2_with fail
      go_loopw [11, 70] (fun ov jv wr => ∃ (j n1 : Nat) (A1 : Option Addr) (c1 n2 : Nat) (A2 : Option Addr) (c2 : Nat) (xs : List Ed), jv = .int .i64 j ∧ ov = .slice A1 n1 c1 ∧ j ≤ LL ∧ Hid (xs = pbAll es es' rn P i ++ pbEs es es' P i ((a : Int), (b' : Int)) ((j + 1) / 2)) ∧
          Hid (PB wr rn Bo M G A1 n1 c1 (pbRow es es' ((lets rn).take j) ((a : Int), (b' : Int)) (pbSt es es' (lets rn) ((un : Int), (vn : Int)) i)) (pbRow es es' ((lets rn).take j) ((a : Int), (b' : Int)) (pbSt es es' (lets rn) ((un : Int), (vn : Int)) i)) A2 n2 c2 xs) ∧
          Hid (RV wr L8 H8 A8 (ints (lets rn))) ∧ Hid (∀ g, Value.ownBlock (.slice A1 n1 c1) = some g → g < L8 ∨ H8 ≤ g) ∧ Hid (∀ g, Value.ownBlock (.slice A2 n2 c2) = some g → g < L8 ∨ H8 ≤ g) ∧ Box wr w.heap.size [.int .i64 rn, .int .i64 sn, .slice A es.length c] ∧ Box wr (w.heap.size + 1) [.int .i64 rn, .int .i64 tn, .slice B es'.length d] ∧ Box wr (w.heap.size + 1 + 1) [.int .i64 0, .int .i64 0, .slice none 0 0] ∧ Mid 0 0 w wr) (fun _ jv _ => LL - (intOf jv).toNat)
      case atStart => exact ⟨0, n1, A1, c1, n2, A2, c2, xs, rfl, rfl, Nat.zero_le _, Lib.hid (by rw [HX.out]; simp [pbEs]), HPB8, HL8, HD1, HD2, B0, B1, B2, hm⟩
      case round =>
        clear HPB8 HL8 HD1 HD2 B0 B1 B2 hm HX
        obtain ⟨wp, hwp⟩ : ∃ wp, wp = wr := ⟨_, rfl⟩
        subst hwp
        obtain ⟨j, n1, A1, c1, n2, A2, c2, xs, rfl, rfl, hj, HX, HPB, HL8, HD1, HD2, B0, B1, B2, hm⟩ := hrel
        obtain ⟨stj, hstj⟩ : ∃ st, pbRow es es' ((lets rn).take j) ((a : Int), (b' : Int)) (pbSt es es' (lets rn) ((un : Int), (vn : Int)) i) = st := ⟨_, rfl⟩
        have hokj : PbOk sn tn stj := by rw [← hstj]; exact PbOk.row F1.out.gr.all F2.out.gr.all _ _ (pbSt_ok (lets rn) F1.out.gr.all F2.out.gr.all HP0.out i)
        have hpj : stj[i]? = some ((a : Int), (b' : Int)) := by rw [← hstj]; exact prefix_get (pbRow_pre _ _ _ _ _) HPT.out
        rw [hstj] at HPB
        have hn1 := HPB.out.ln1
        have hn2 := HPB.out.ln2
        have hn1b : n1 ≤ 1600 := by
          rw [← hn1, ← hstj]
          have h1 := (pb_next_prefix F1.out.gr F2.out.gr HP0.out (j := j) HPT.out).length_le
          have h2 := pairs_len (lets rn) F1.out.gr F2.out.gr HP0.out
          omega
        have hn2b : n2 ≤ 4900 := by
          rw [← hn2, HX.out, List.length_append]
          have h2 := pbAll_len es es' rn P i
          have h3 := pbEs_len es es' P i ((a : Int), (b' : Int)) ((j + 1) / 2)
          have h4 : i * rn ≤ 1600 * 3 := Nat.mul_le_mul (by omega) (by omega)
          omega
        by_cases hlt2 : j < LL
        · obtain ⟨B4, o4, x, hA8, hB4, hx, hcx⟩ := HL8.out.at (k := j) (by rw [HLL.out]; exact hlt2)
          subst hA8
          have hxm := lets_le (List.mem_of_getElem? hx)
          have hnx := pbRow_take (ea := es) (eb := es') (p := ((a : Int), (b' : Int))) (st := pbSt es es' (lets rn) ((un : Int), (vn : Int)) i) hx
          rw [hstj] at hnx
          have hpar := lets_at hx
          have hpfx : pbRow es es' ((lets rn).take (j + 1)) ((a : Int), (b' : Int)) (pbSt es es' (lets rn) ((un : Int), (vn : Int)) i) <+: P := by rw [← HPP.out]; exact pb_next_prefix F1.out.gr F2.out.gr HP0.out HPT.out
          rw [hnx] at hpfx
          have HPFX := Lib.hid hpfx
          have HNX := Lib.hid hnx
          have HPAR := Lib.hid hpar
          have HOJ := Lib.hid hokj
          have hj0 : (0 : Int) ≤ (j : Int) := by omega
          have hj1 : (j : Int) < (LL : Int) := by omega
          have hi1' : (i : Int) < (n1 : Int) := by have h1 := (List.getElem?_eq_some_iff.1 hpj).1; omega
          have hi0 : (0 : Int) ≤ (i : Int) := by omega
          obtain ⟨g1, hA1, hg1, hg1s⟩ := owns_addr HPB.out.ord (show 0 < n1 by omega)
          subst hA1
          have hrvo := owns_rv HPB.out.ord
          have hc0 := hrvo.atI (prI_at hpj).1
          have hc1 := hrvo.atI (prI_at hpj).2
          rw [Nat.zero_add] at hc0 hc1
          have hB4s : B4 < wp.heap.size := Nat.lt_of_lt_of_le hB4 HL8.out.1
          have hGp : G < wp.heap.size := HPB.out.box.1
          clear hx hnx hpar hpfx hokj hpj hrvo
          have k0 := wg_cell B0.1 (B0.cell 0 rfl)
          have k1 := wg_cell B0.1 (B0.cell 1 rfl)
          have k2 := wg_cell B0.1 (B0.cell 2 rfl)
          have k3 := wg_cell hc0.1 hc0.2
          have k4 := wg_cell hc1.1 hc1.2
          have l0 := wg_cell B1.1 (B1.cell 0 rfl)
          have l1 := wg_cell B1.1 (B1.cell 1 rfl)
          have l2 := wg_cell B1.1 (B1.cell 2 rfl)
          have hA := fun m os => impl_NextVertex rn sn A es c a x (wg wp m os) lo hi (hr.mid (hm.trans (Mid.ofWg wp m os)) (Or.inl (Nat.zero_le _))) (by omega) HGL.out (by omega) (by omega)
          have hB := fun m os => impl_NextVertex rn tn B es' d b' x (wg wp m os) lo2 hi2 (hr2.mid (hm.trans (Mid.ofWg wp m os)) (Or.inl (Nat.zero_le _))) (by omega) HGL2.out (by omega) (by omega)
          go_wp2_with fail
          refine wp_region_quiet_wg (by kernel_rfl) (by kernel_rfl) ?_
          repeat
            (with_reducible refine wpQuiet_step (fun K hK => ?_))
            go_simp
            first
              | ((with_reducible refine hK _ ?_); clear hK K)
              | (rw [if_neg (by decide)]; (with_reducible refine hK _ ?_); clear hK K)
              | (apply Exists.intro; refine ⟨fun _ => ?_, hK _ ?_⟩; ((first | (go_at_call 106; with_reducible exact Calls.wg_of (hA _ _)) | (go_at_call 106; with_reducible exact Calls.wg_of (hB _ _)))); clear hK K)
          with_reducible refine wpQuiet_nil ?_
          intro _ hw'
          obtain ⟨⟨nq, osq⟩, hw''⟩ := hw'
          subst hw''
          have hwg := Mid.ofWg wp nq osq
          generalize wg wp nq osq = w9 at hwg ⊢
          replace HPB := Lib.hid (HPB.out.mid hwg)
          replace HL8 := Lib.hid (HL8.out.mid hwg (Or.inl (Nat.zero_le _)))
          replace B0 := B0.mid hwg (Or.inr (Nat.zero_le _))
          replace B1 := B1.mid hwg (Or.inr (Nat.zero_le _))
          replace B2 := B2.mid hwg (Or.inr (Nat.zero_le _))
          replace hm := hm.trans hwg
          have hG9 : G < w9.heap.size := HPB.out.box.1
          clear k0 k1 k2 k3 k4 l0 l1 l2 hA hB hc0 hc1 hcx hwg hB4 hB4s hg1 hg1s hGp
          by_cases ht1 : nextV es a x < 0
          · have d1 : decide (nextV es a x < 0) = true := by simpa using ht1
            have HNS := Lib.hid (pbStep_no1 (ea := es) (eb := es') (p := ((a : Int), (b' : Int))) (st := stj) ht1)
            have HPE : Hid (pbEs es es' P i ((a : Int), (b' : Int)) ((j + 1) / 2) = pbEs es es' P i ((a : Int), (b' : Int)) ((j + 1 + 1) / 2)) := Lib.hid (pbEs_half_no HPAR.out (Or.inl ht1)).symm
            clear ht1
            go_wp2_with fail
            go_roundw
            case rel => exact ⟨j + 1, n1, _, c1, n2, A2, c2, xs, by go_num, rfl, by omega, Lib.hid (by rw [HX.out, HPE.out]), by rw [HNX.out, HNS.out]; exact HPB, HL8, HD1, HD2, B0, B1, B2, hm⟩
            case measure => simp [intOf]; omega
          · have d1 : decide (nextV es a x < 0) = false := by simpa using ht1
            by_cases ht2 : nextV es' b' x < 0
            · have d2 : decide (nextV es' b' x < 0) = true := by simpa using ht2
              have HNS := Lib.hid (pbStep_no2 (ea := es) (eb := es') (p := ((a : Int), (b' : Int))) (st := stj) ht2)
              have HPE : Hid (pbEs es es' P i ((a : Int), (b' : Int)) ((j + 1) / 2) = pbEs es es' P i ((a : Int), (b' : Int)) ((j + 1 + 1) / 2)) := Lib.hid (pbEs_half_no HPAR.out (Or.inr ht2)).symm
              clear ht1 ht2
              go_wp2_with fail
              go_roundw
              case rel => exact ⟨j + 1, n1, _, c1, n2, A2, c2, xs, by go_num, rfl, by omega, Lib.hid (by rw [HX.out, HPE.out]), by rw [HNX.out, HNS.out]; exact HPB, HL8, HD1, HD2, B0, B1, B2, hm⟩
              case measure => simp [intOf]; omega
            · have d2 : decide (nextV es' b' x < 0) = false := by simpa using ht2
              have hpin2 := pbNext_in F1.out.gr.all F2.out.gr.all ((a : Int), (b' : Int)) ht1 ht2
              obtain ⟨x', y', hpe⟩ : ∃ x' y' : Nat, pbNext es es' ((a : Int), (b' : Int)) x = ((x' : Int), (y' : Int)) := by
                obtain ⟨i1, i2, i3, i4⟩ := hpin2
                exact ⟨(nextV es a x).toNat, (nextV es' b' x).toNat, Prod.ext (by simp only [pbNext] at i1 ⊢; omega) (by simp only [pbNext] at i3 ⊢; omega)⟩
              have hpok : PairOk ((x' : Int), (y' : Int)) := pair_ok (sa := sn) (sb := tn) (by omega) (by omega) (by rw [← hpe]; exact hpin2)
              have htx : nextV es a x = (x' : Int) := congrArg Prod.fst hpe
              have hty : nextV es' b' x = (y' : Int) := congrArg Prod.snd hpe
              have HT1 := Lib.hid ht1
              have HT2 := Lib.hid ht2
              have HPN := Lib.hid hpe
              simp only [htx, hty] at d1 d2 ⊢
              clear ht1 ht2 htx hty hpe hpin2
              by_cases hmem : ((x' : Int), (y' : Int)) ∈ stj
              · obtain ⟨kI, hkI⟩ : ∃ n : Nat, stj.idxOf ((x' : Int), (y' : Int)) = n := ⟨_, rfl⟩
                have HNS := Lib.hid (pbStep_no3 (ea := es) (eb := es') (p := ((a : Int), (b' : Int))) (st := stj) (x := x) (by rw [HPN.out]; exact hmem))
                have HKI : Hid (P.idxOf (pbNext es es' ((a : Int), (b' : Int)) x) = kI) := Lib.hid (by
                  rw [HPN.out, ← hkI]
                  have h1 := HPFX.out
                  rw [HNS.out] at h1
                  exact idx_prefix hmem h1)
                rcases HPAR.out with ⟨hev, hxv⟩ | ⟨hod, hxv⟩
                · have d3 : decide (0 < x) = true := by simp; omega
                  have HPE : Hid (pbEs es es' P i ((a : Int), (b' : Int)) ((j + 1) / 2) ++ [⟨i, x, kI⟩] = pbEs es es' P i ((a : Int), (b' : Int)) ((j + 1 + 1) / 2)) := Lib.hid (pbEs_half_yes hev hxv HT1.out HT2.out HKI.out).symm
                  clear hev hxv
                  go_wp2_with (first | (at_lookup; refine wpList_pmLookT rfl _ _ rfl rfl HPB.out.map ((x' : Int), (y' : Int)) hpok hmem kI hkI rfl ?_))
                  clear hmem hkI hpok
                  have hmd := Mid.drew1 w9
                  have hPBu := HPB.out.mid hmd
                  replace HL8 := Lib.hid (HL8.out.mid hmd (Or.inl (Nat.zero_le _)))
                  replace B0 := B0.mid hmd (Or.inr (Nat.zero_le _))
                  replace B1 := B1.mid hmd (Or.inr (Nat.zero_le _))
                  replace B2 := B2.mid hmd (Or.inr (Nat.zero_le _))
                  replace hm := hm.trans hmd
                  have g2 := hPBu.box.cell 2 rfl
                  have hP1 := fun W => impl_step (i : Int) x kI W (by omega) (by omega)
                  clear HPB hmd
                  refine wp_region_T (S := (fun w' => w'.cell? ⟨G, 2, none⟩ = some (.slice A2 n2 c2))) 9 (by kernel_rfl) g2 ?_
                  generalize World.drew w9 = wz at hPBu HL8 B0 B1 B2 hm g2 ⊢
                  refine wpAnyT_take (i := 0) (v := ?_) rfl (by kernel_rfl) (by kernel_rfl) (by kernel_rfl) (by kernel_rfl) (fun _ _ _ h => h) (Or.inl ⟨by rfl, ?_⟩) g2 ?_
                  rotate_left
                  focus (intro w hSw; (try dsimp only at hSw); go_simp; try with_reducible rfl)
                  try simp only [Act.put, List.setIfInBounds_toArray, List.set_cons_zero, List.set_cons_succ, List.getElem_toArray, List.getElem_cons_zero, List.getElem_cons_succ]
                  refine wpAnyT_take (i := 1) (v := ?_) rfl (by kernel_rfl) (by kernel_rfl) (by kernel_rfl) (by kernel_rfl) (fun _ _ _ h => h) (Or.inl ⟨by rfl, ?_⟩) g2 ?_
                  rotate_left
                  focus (intro w hSw; (try dsimp only at hSw); go_simp; try with_reducible rfl)
                  try simp only [Act.put, List.setIfInBounds_toArray, List.set_cons_zero, List.set_cons_succ, List.getElem_toArray, List.getElem_cons_zero, List.getElem_cons_succ]
                  refine wpAnyT_take (i := 2) (v := ?_) rfl (by kernel_rfl) (by kernel_rfl) (by kernel_rfl) (by kernel_rfl) (fun _ _ _ h => h) (Or.inl ⟨by rfl, ?_⟩) g2 ?_
                  rotate_left
                  focus (intro w hSw; (try dsimp only at hSw); go_simp; try with_reducible rfl)
                  try simp only [Act.put, List.setIfInBounds_toArray, List.set_cons_zero, List.set_cons_succ, List.getElem_toArray, List.getElem_cons_zero, List.getElem_cons_succ]
                  refine wpAnyT_take (i := 3) (v := ?_) rfl (by kernel_rfl) (by kernel_rfl) (by kernel_rfl) (by kernel_rfl) (fun _ _ _ h => h) (Or.inl ⟨by rfl, ?_⟩) g2 ?_
                  rotate_left
                  focus (intro w hSw; (try dsimp only at hSw); go_simp; try with_reducible rfl)
                  try simp only [Act.put, List.setIfInBounds_toArray, List.set_cons_zero, List.set_cons_succ, List.getElem_toArray, List.getElem_cons_zero, List.getElem_cons_succ]
                  refine wpAnyT_take (i := 4) (v := ?_) rfl (by kernel_rfl) (by kernel_rfl) (by kernel_rfl) (by kernel_rfl) (fun _ _ _ h => h) (Or.inl ⟨by rfl, ?_⟩) g2 ?_
                  rotate_left
                  focus (intro w hSw; (try dsimp only at hSw); go_simp; try with_reducible rfl)
                  try simp only [Act.put, List.setIfInBounds_toArray, List.set_cons_zero, List.set_cons_succ, List.getElem_toArray, List.getElem_cons_zero, List.getElem_cons_succ]
                  refine wpAnyT_ready (rs := [5]) (by kernel_rfl) (by simp) (AllReadyT.cons rfl (fun K hK => ?_) AllReadyT.nil)
                  (go_simp; (with_reducible refine (hP1 _).mono ?_); rintro en w15 ⟨rfl, hm15⟩; have U3' := hPBu.box.mid hm15 (Or.inr (Nat.zero_le _)); go_wp2_with fail)
                  refine hK.out _ _ (Or.inr (U3'.cell 2 rfl)) (fun _ => ?_)
                  clear hK K
                  try simp only [Act.put, List.setIfInBounds_toArray, List.set_cons_zero, List.set_cons_succ, List.getElem_toArray, List.getElem_cons_zero, List.getElem_cons_succ]
                  have hPB15 := hPBu.mid hm15
                  replace HL8 := Lib.hid (HL8.out.mid hm15 (Or.inl (Nat.zero_le _)))
                  have hH15 : H8 ≤ w15.heap.size := HL8.out.1
                  replace B0 := B0.mid hm15 (Or.inr (Nat.zero_le _))
                  replace B1 := B1.mid hm15 (Or.inr (Nat.zero_le _))
                  replace B2 := B2.mid hm15 (Or.inr (Nat.zero_le _))
                  replace hm := hm.trans hm15
                  clear hPBu g2 hP1 hm15 U3'
                  have hse : stepE (i : Int) x kI = ⟨i, x, kI⟩ := by unfold stepE; rw [if_neg (by have := of_decide_eq_true d3; omega)]
                  have HSE := Lib.hid hse
                  generalize stepE (i : Int) x kI = ed at HSE ⊢
                  clear hse
                  have haz := Mid.alloc w15 (.cells #[.int .i64 ed.a, .int .i64 ed.l, .int .i64 ed.b] 78)
                  have hPBt := hPB15.mid haz
                  replace HL8 := Lib.hid (HL8.out.mid haz (Or.inl (Nat.zero_le _)))
                  replace B0 := B0.mid haz (Or.inr (Nat.zero_le _))
                  replace B1 := B1.mid haz (Or.inr (Nat.zero_le _))
                  replace B2 := B2.mid haz (Or.inr (Nat.zero_le _))
                  replace hm := hm.trans haz
                  have hS2 := hPBt.box.cell 2 rfl
                  have hrs : Rs (w15.alloc (.cells #[.int .i64 ed.a, .int .i64 ed.l, .int .i64 ed.b] 78)) (w15.heap.size + 1) (some ⟨w15.heap.size, 0, none⟩) [.int .i64 ed.a, .int .i64 ed.l, .int .i64 ed.b] := fun _ => ⟨w15.heap.size, 0, rfl, Nat.lt_succ_self _, fun j u hu => (World.cell?_alloc_at _ _ _ _ rfl).trans (by simpa using hu)⟩
                  have hone : ∀ u ∈ [Value.int .i64 ed.a, .int .i64 ed.l, .int .i64 ed.b], u.oneCell' = true := by
                    intro u hu
                    simp at hu
                    rcases hu with rfl | rfl | rfl <;> rfl
                  have hmxl : n2 + 1 ≤ maxLen := by unfold maxLen; omega
                  have hbyt : (n2 + 1) * 24 ≤ 140737488355328 := by omega
                  have hG15 : G < w15.heap.size := hPB15.box.1
                  have hbas : G + 1 ≤ (w15.alloc (.cells #[.int .i64 ed.a, .int .i64 ed.l, .int .i64 ed.b] 78)).heap.size := by simp; omega
                  have HO := Lib.hid hone
                  clear hone hPB15 haz
                  refine wpAnyT_ready (rs := [6]) (by kernel_rfl) (by simp) (AllReadyT.cons rfl (fun K hK => ?_) AllReadyT.nil)
                  go_simp
                  refine hK.out _ _ (Or.inr hS2) (fun _ => ?_)
                  clear hK K
                  try simp only [Act.put, List.setIfInBounds_toArray, List.set_cons_zero, List.set_cons_succ, List.getElem_toArray, List.getElem_cons_zero, List.getElem_cons_succ]
                  generalize hwt : w15.alloc (.cells #[.int .i64 ed.a, .int .i64 ed.l, .int .i64 ed.b] 78) = wt at hPBt HL8 B0 B1 B2 hm hS2 hrs hbas ⊢
                  have hszt : wt.heap.size = w15.heap.size + 1 := by rw [← hwt]; simp
                  have HZT := Lib.hid hszt
                  have hnG : Value.ownBlock (.slice A2 n2 c2) ≠ some G := fun e => by have := (hPBt.edg.lt G e).1; omega
                  have HNG := Lib.hid hnG
                  clear hwt hszt hnG
                  refine wpAnyT_ready (rs := [7]) (by kernel_rfl) (by simp) (AllReadyT.cons rfl (fun K hK => ?_) AllReadyT.nil)
                  (refine step_cat (by rfl) (.tmp 122) (.tmp 127) 27 (by rfl) (G + 1) 78 (.agg #[.int .i64 0, .int .i64 0, .int .i64 0]) 3 24 undSE infoE rfl (by decide) (.slice A2 n2 c2) n2 _ (by rfl) hPBt.edg (some ⟨w15.heap.size, 0, none⟩) 1 1 _ [.int .i64 ed.a, .int .i64 ed.l, .int .i64 ed.b] (by rfl) hrs rfl HO.out hmxl hbyt hbas ?_; intro v2 w16 ho8 hgr8 hat8; obtain ⟨A3, c3, rfl, -, -⟩ := owns_shape ho8)
                  refine hK.out _ _ (Or.inr ((hPBt.box.grown hgr8 HNG.out).cell 2 rfl)) (fun _ => ?_)
                  clear hK K
                  try simp only [Act.put, List.setIfInBounds_toArray, List.set_cons_zero, List.set_cons_succ, List.getElem_toArray, List.getElem_cons_zero, List.getElem_cons_succ]
                  have hm16 := Mid.of_grownRow hPBt.edg hgr8
                  have hS3 := (hPBt.box.grown hgr8 HNG.out).cell 2 rfl
                  have hrf := (hPBt.box.grown hgr8 HNG.out).2.2
                  have ho8' : w16.ownsRow (G + 1) 78 3 (.slice A3 (n2 + 1) c3) (n2 + 1) (ints (edI (xs ++ [ed]))) := by
                    rw [edI_append, ints_append, edI_one]
                    exact ho8
                  have hPBn := hPBt.edge ho8' hgr8
                  have hst := Mid.setCell w16 (lo := G) (hi := G + 1) (p := ⟨G, 2, none⟩) (.slice A3 (n2 + 1) c3) (Nat.le_refl _) (Nat.lt_succ_self _)
                  have HL9 := Lib.hid ((HL8.out.grown hgr8 HD2.out).mid hst (Or.inl (by omega)))
                  have HD9 : Hid (∀ g, Value.ownBlock (.slice A3 (n2 + 1) c3) = some g → g < L8 ∨ H8 ≤ g) := Lib.hid (by
                    intro g hg
                    rcases hat8 with h | h
                    · exact HD2.out g (h.symm.trans hg)
                    · rw [h] at hg
                      injection hg with hg
                      have := HZT.out
                      omega)
                  have HPB9 := Lib.hid hPBn
                  have R0 := (B0.mid hm16 (Or.inl (by omega))).mid hst (Or.inl (by omega))
                  have R1 := (B1.mid hm16 (Or.inl (by omega))).mid hst (Or.inl (by omega))
                  have R2 := (B2.mid hm16 (Or.inl (by omega))).mid hst (Or.inl (by omega))
                  have hm17 := (hm.transNew hm16 (Or.inl (by omega))).storeNew (p := ⟨G, 2, none⟩) (by show w.heap.size ≤ G; omega) (.slice A3 (n2 + 1) c3)
                  clear hat8 hS2 hrs hPBt hPBn ho8 ho8' hst hm16 hgr8 HL8 B0 B1 B2 hm
                  refine wpAnyT_take (i := 8) (v := ?_) rfl (by kernel_rfl) (by kernel_rfl) (by kernel_rfl) (by kernel_rfl) (fun _ _ _ h => h) (Or.inl ⟨by rfl, ?_⟩) hS3 ?_
                  rotate_left
                  focus (intro w hSw; (try dsimp only at hSw); go_simp; try with_reducible rfl)
                  try simp only [Act.put, List.setIfInBounds_toArray, List.set_cons_zero, List.set_cons_succ, List.getElem_toArray, List.getElem_cons_zero, List.getElem_cons_succ]
                  refine wpAnyT_ready (rs := [9]) (by kernel_rfl) (by simp) (AllReadyT.cons rfl (fun K hK => ?_) AllReadyT.nil)
                  (go_simp)
                  refine hK.out _ _ (Or.inl rfl) (fun _ => ?_)
                  clear hK K
                  try simp only [Act.put, List.setIfInBounds_toArray, List.set_cons_zero, List.set_cons_succ, List.getElem_toArray, List.getElem_cons_zero, List.getElem_cons_succ]
                  refine wpAnyT_done (by kernel_rfl) ?_ _
                  go_wp2_with fail
                  go_roundw
                  case rel => exact ⟨j + 1, n1, _, c1, n2 + 1, A3, c3, xs ++ [ed], by go_num, rfl, by omega, Lib.hid (by rw [HX.out, List.append_assoc, HSE.out, HPE.out]), by rw [HNX.out, HNS.out]; exact HPB9, HL9, HD1, HD9, R0, R1, R2, hm17⟩
                  case measure => simp [intOf]; omega
                · have d3 : decide (0 < x) = false := by simp; omega
                  have HPE : Hid (pbEs es es' P i ((a : Int), (b' : Int)) ((j + 1) / 2) = pbEs es es' P i ((a : Int), (b' : Int)) ((j + 1 + 1) / 2)) := Lib.hid (by rw [show (j + 1 + 1) / 2 = (j + 1) / 2 by omega])
                  clear hod hxv
                  go_wp2_with (first | (at_lookup; refine wpList_pmLookT rfl _ _ rfl rfl HPB.out.map ((x' : Int), (y' : Int)) hpok hmem kI hkI rfl ?_))
                  go_roundw
                  case rel => exact ⟨j + 1, n1, _, c1, n2, A2, c2, xs, by go_num, rfl, by omega, Lib.hid (by rw [HX.out, HPE.out]), by rw [HNX.out, HNS.out]; exact HPB, HL8, HD1, HD2, B0, B1, B2, hm⟩
                  case measure => simp [intOf]; omega
              · have HNS : Hid (pbStep es es' ((a : Int), (b' : Int)) stj x = stj ++ [((x' : Int), (y' : Int))]) := Lib.hid (by rw [pbStep_yes HT1.out HT2.out (by rw [HPN.out]; exact hmem), HPN.out])
                have HKI : Hid (P.idxOf (pbNext es es' ((a : Int), (b' : Int)) x) = n1) := Lib.hid (by
                  rw [HPN.out, ← hn1, ← idxOf_new hmem]
                  have h1 := HPFX.out
                  rw [HNS.out] at h1
                  exact idx_prefix (by simp) h1)
                have HMEM := Lib.hid hmem
                have hn1m : n1 ≤ 1048576 := by omega
                rcases HPAR.out with ⟨hev, hxv⟩ | ⟨hod, hxv⟩
                · have d3 : decide (0 < x) = true := by simp; omega
                  have HPE : Hid (pbEs es es' P i ((a : Int), (b' : Int)) ((j + 1) / 2) ++ [⟨i, x, n1⟩] = pbEs es es' P i ((a : Int), (b' : Int)) ((j + 1 + 1) / 2)) := Lib.hid (pbEs_half_yes hev hxv HT1.out HT2.out HKI.out).symm
                  clear hev hxv
                  go_wp2_with (first | (at_lookup; refine wpList_pmLookF rfl _ _ rfl rfl HPB.out.map ((x' : Int), (y' : Int)) hpok HMEM.out rfl ?_; intro c0) | (at_mapUpdate; refine wpList_pmPut rfl _ _ _ rfl rfl HPB.out.map ((x' : Int), (y' : Int)) hpok HMEM.out n1 hn1 hn1m rfl rfl ?_; intro w11 hM11 hm11; have HPB11 := Lib.hid (HPB.out.put hM11 hm11); have hBo11 : Bo ≤ w11.heap.size := by (have h1 := HPB11.out.le; have h2 := HPB11.out.box.1; omega)) | (at_builtin; refine wpList_pushP rfl _ _ rfl _ _ n1 _ stj rfl HPB11.out.ord ((x' : Int), (y' : Int)) rfl hn1m hBo11 ?_; intro A12 c12 w12 ho12 hgr12 hat12))
                  have hm12 := Mid.of_grownRow HPB11.out.ord hgr12
                  have HPB12 := Lib.hid (HPB11.out.push ho12 hgr12 hat12)
                  have hs11 := hm11.size
                  have hs12 := hm12.size
                  have hH8 : H8 ≤ w9.heap.size := HL8.out.1
                  have hMB := HPB.out.lt
                  have HL12 := Lib.hid ((HL8.out.mid hm11 (Or.inl (by omega))).grown hgr12 HD1.out)
                  have HD12 : Hid (∀ g, Value.ownBlock (.slice A12 (n1 + 1) c12) = some g → g < L8 ∨ H8 ≤ g) := Lib.hid (by
                    intro g hg
                    rcases hat12 with h | h
                    · exact HD1.out g (h.symm.trans hg)
                    · rw [h] at hg
                      injection hg with hg
                      omega)
                  replace B0 := (B0.mid hm11 (Or.inl (by omega))).mid hm12 (Or.inl (by omega))
                  replace B1 := (B1.mid hm11 (Or.inl (by omega))).mid hm12 (Or.inl (by omega))
                  replace B2 := (B2.mid hm11 (Or.inl (by omega))).mid hm12 (Or.inl (by omega))
                  replace hm := (hm.transNew hm11 (Or.inl (by omega))).transNew hm12 (Or.inl (by omega))
                  clear HPB HPB11 HL8 hm11 hm12 hM11 ho12 hgr12 hat12
                  have HPB := HPB12
                  have HL8 := HL12
                  clear HPB12 HL12
                  have hmd := Mid.drew1 w12
                  have hPBu := HPB.out.mid hmd
                  replace HL8 := Lib.hid (HL8.out.mid hmd (Or.inl (Nat.zero_le _)))
                  replace B0 := B0.mid hmd (Or.inr (Nat.zero_le _))
                  replace B1 := B1.mid hmd (Or.inr (Nat.zero_le _))
                  replace B2 := B2.mid hmd (Or.inr (Nat.zero_le _))
                  replace hm := hm.trans hmd
                  have g2 := hPBu.box.cell 2 rfl
                  have hP1 := fun W => impl_step (i : Int) x n1 W (by omega) (by omega)
                  clear HPB hmd
                  refine wp_region_T (S := (fun w' => w'.cell? ⟨G, 2, none⟩ = some (.slice A2 n2 c2))) 9 (by kernel_rfl) g2 ?_
                  generalize World.drew w12 = wz at hPBu HL8 B0 B1 B2 hm g2 ⊢
                  refine wpAnyT_take (i := 0) (v := ?_) rfl (by kernel_rfl) (by kernel_rfl) (by kernel_rfl) (by kernel_rfl) (fun _ _ _ h => h) (Or.inl ⟨by rfl, ?_⟩) g2 ?_
                  rotate_left
                  focus (intro w hSw; (try dsimp only at hSw); go_simp; try with_reducible rfl)
                  try simp only [Act.put, List.setIfInBounds_toArray, List.set_cons_zero, List.set_cons_succ, List.getElem_toArray, List.getElem_cons_zero, List.getElem_cons_succ]
                  refine wpAnyT_take (i := 1) (v := ?_) rfl (by kernel_rfl) (by kernel_rfl) (by kernel_rfl) (by kernel_rfl) (fun _ _ _ h => h) (Or.inl ⟨by rfl, ?_⟩) g2 ?_
                  rotate_left
                  focus (intro w hSw; (try dsimp only at hSw); go_simp; try with_reducible rfl)
                  try simp only [Act.put, List.setIfInBounds_toArray, List.set_cons_zero, List.set_cons_succ, List.getElem_toArray, List.getElem_cons_zero, List.getElem_cons_succ]
                  refine wpAnyT_take (i := 2) (v := ?_) rfl (by kernel_rfl) (by kernel_rfl) (by kernel_rfl) (by kernel_rfl) (fun _ _ _ h => h) (Or.inl ⟨by rfl, ?_⟩) g2 ?_
                  rotate_left
                  focus (intro w hSw; (try dsimp only at hSw); go_simp; try with_reducible rfl)
                  try simp only [Act.put, List.setIfInBounds_toArray, List.set_cons_zero, List.set_cons_succ, List.getElem_toArray, List.getElem_cons_zero, List.getElem_cons_succ]
                  refine wpAnyT_take (i := 3) (v := ?_) rfl (by kernel_rfl) (by kernel_rfl) (by kernel_rfl) (by kernel_rfl) (fun _ _ _ h => h) (Or.inl ⟨by rfl, ?_⟩) g2 ?_
                  rotate_left
                  focus (intro w hSw; (try dsimp only at hSw); go_simp; try with_reducible rfl)
                  try simp only [Act.put, List.setIfInBounds_toArray, List.set_cons_zero, List.set_cons_succ, List.getElem_toArray, List.getElem_cons_zero, List.getElem_cons_succ]
                  refine wpAnyT_take (i := 4) (v := ?_) rfl (by kernel_rfl) (by kernel_rfl) (by kernel_rfl) (by kernel_rfl) (fun _ _ _ h => h) (Or.inl ⟨by rfl, ?_⟩) g2 ?_
                  rotate_left
                  focus (intro w hSw; (try dsimp only at hSw); go_simp; try with_reducible rfl)
                  try simp only [Act.put, List.setIfInBounds_toArray, List.set_cons_zero, List.set_cons_succ, List.getElem_toArray, List.getElem_cons_zero, List.getElem_cons_succ]
                  refine wpAnyT_ready (rs := [5]) (by kernel_rfl) (by simp) (AllReadyT.cons rfl (fun K hK => ?_) AllReadyT.nil)
                  (go_simp; (with_reducible refine (hP1 _).mono ?_); rintro en w15 ⟨rfl, hm15⟩; have U3' := hPBu.box.mid hm15 (Or.inr (Nat.zero_le _)); go_wp2_with fail)
                  refine hK.out _ _ (Or.inr (U3'.cell 2 rfl)) (fun _ => ?_)
                  clear hK K
                  try simp only [Act.put, List.setIfInBounds_toArray, List.set_cons_zero, List.set_cons_succ, List.getElem_toArray, List.getElem_cons_zero, List.getElem_cons_succ]
                  have hPB15 := hPBu.mid hm15
                  replace HL8 := Lib.hid (HL8.out.mid hm15 (Or.inl (Nat.zero_le _)))
                  have hH15 : H8 ≤ w15.heap.size := HL8.out.1
                  replace B0 := B0.mid hm15 (Or.inr (Nat.zero_le _))
                  replace B1 := B1.mid hm15 (Or.inr (Nat.zero_le _))
                  replace B2 := B2.mid hm15 (Or.inr (Nat.zero_le _))
                  replace hm := hm.trans hm15
                  clear hPBu g2 hP1 hm15 U3'
                  have hse : stepE (i : Int) x n1 = ⟨i, x, n1⟩ := by unfold stepE; rw [if_neg (by have := of_decide_eq_true d3; omega)]
                  have HSE := Lib.hid hse
                  generalize stepE (i : Int) x n1 = ed at HSE ⊢
                  clear hse
                  have haz := Mid.alloc w15 (.cells #[.int .i64 ed.a, .int .i64 ed.l, .int .i64 ed.b] 78)
                  have hPBt := hPB15.mid haz
                  replace HL8 := Lib.hid (HL8.out.mid haz (Or.inl (Nat.zero_le _)))
                  replace B0 := B0.mid haz (Or.inr (Nat.zero_le _))
                  replace B1 := B1.mid haz (Or.inr (Nat.zero_le _))
                  replace B2 := B2.mid haz (Or.inr (Nat.zero_le _))
                  replace hm := hm.trans haz
                  have hS2 := hPBt.box.cell 2 rfl
                  have hrs : Rs (w15.alloc (.cells #[.int .i64 ed.a, .int .i64 ed.l, .int .i64 ed.b] 78)) (w15.heap.size + 1) (some ⟨w15.heap.size, 0, none⟩) [.int .i64 ed.a, .int .i64 ed.l, .int .i64 ed.b] := fun _ => ⟨w15.heap.size, 0, rfl, Nat.lt_succ_self _, fun j u hu => (World.cell?_alloc_at _ _ _ _ rfl).trans (by simpa using hu)⟩
                  have hone : ∀ u ∈ [Value.int .i64 ed.a, .int .i64 ed.l, .int .i64 ed.b], u.oneCell' = true := by
                    intro u hu
                    simp at hu
                    rcases hu with rfl | rfl | rfl <;> rfl
                  have hmxl : n2 + 1 ≤ maxLen := by unfold maxLen; omega
                  have hbyt : (n2 + 1) * 24 ≤ 140737488355328 := by omega
                  have hG15 : G < w15.heap.size := hPB15.box.1
                  have hbas : G + 1 ≤ (w15.alloc (.cells #[.int .i64 ed.a, .int .i64 ed.l, .int .i64 ed.b] 78)).heap.size := by simp; omega
                  have HO := Lib.hid hone
                  clear hone hPB15 haz
                  refine wpAnyT_ready (rs := [6]) (by kernel_rfl) (by simp) (AllReadyT.cons rfl (fun K hK => ?_) AllReadyT.nil)
                  go_simp
                  refine hK.out _ _ (Or.inr hS2) (fun _ => ?_)
                  clear hK K
                  try simp only [Act.put, List.setIfInBounds_toArray, List.set_cons_zero, List.set_cons_succ, List.getElem_toArray, List.getElem_cons_zero, List.getElem_cons_succ]
                  generalize hwt : w15.alloc (.cells #[.int .i64 ed.a, .int .i64 ed.l, .int .i64 ed.b] 78) = wt at hPBt HL8 B0 B1 B2 hm hS2 hrs hbas ⊢
                  have hszt : wt.heap.size = w15.heap.size + 1 := by rw [← hwt]; simp
                  have HZT := Lib.hid hszt
                  have hnG : Value.ownBlock (.slice A2 n2 c2) ≠ some G := fun e => by have := (hPBt.edg.lt G e).1; omega
                  have HNG := Lib.hid hnG
                  clear hwt hszt hnG
                  refine wpAnyT_ready (rs := [7]) (by kernel_rfl) (by simp) (AllReadyT.cons rfl (fun K hK => ?_) AllReadyT.nil)
                  (refine step_cat (by rfl) (.tmp 122) (.tmp 127) 27 (by rfl) (G + 1) 78 (.agg #[.int .i64 0, .int .i64 0, .int .i64 0]) 3 24 undSE infoE rfl (by decide) (.slice A2 n2 c2) n2 _ (by rfl) hPBt.edg (some ⟨w15.heap.size, 0, none⟩) 1 1 _ [.int .i64 ed.a, .int .i64 ed.l, .int .i64 ed.b] (by rfl) hrs rfl HO.out hmxl hbyt hbas ?_; intro v2 w16 ho8 hgr8 hat8; obtain ⟨A3, c3, rfl, -, -⟩ := owns_shape ho8)
                  refine hK.out _ _ (Or.inr ((hPBt.box.grown hgr8 HNG.out).cell 2 rfl)) (fun _ => ?_)
                  clear hK K
                  try simp only [Act.put, List.setIfInBounds_toArray, List.set_cons_zero, List.set_cons_succ, List.getElem_toArray, List.getElem_cons_zero, List.getElem_cons_succ]
                  have hm16 := Mid.of_grownRow hPBt.edg hgr8
                  have hS3 := (hPBt.box.grown hgr8 HNG.out).cell 2 rfl
                  have hrf := (hPBt.box.grown hgr8 HNG.out).2.2
                  have ho8' : w16.ownsRow (G + 1) 78 3 (.slice A3 (n2 + 1) c3) (n2 + 1) (ints (edI (xs ++ [ed]))) := by
                    rw [edI_append, ints_append, edI_one]
                    exact ho8
                  have hPBn := hPBt.edge ho8' hgr8
                  have hst := Mid.setCell w16 (lo := G) (hi := G + 1) (p := ⟨G, 2, none⟩) (.slice A3 (n2 + 1) c3) (Nat.le_refl _) (Nat.lt_succ_self _)
                  have HL9 := Lib.hid ((HL8.out.grown hgr8 HD2.out).mid hst (Or.inl (by omega)))
                  have HD9 : Hid (∀ g, Value.ownBlock (.slice A3 (n2 + 1) c3) = some g → g < L8 ∨ H8 ≤ g) := Lib.hid (by
                    intro g hg
                    rcases hat8 with h | h
                    · exact HD2.out g (h.symm.trans hg)
                    · rw [h] at hg
                      injection hg with hg
                      have := HZT.out
                      omega)
                  have HPB9 := Lib.hid hPBn
                  have R0 := (B0.mid hm16 (Or.inl (by omega))).mid hst (Or.inl (by omega))
                  have R1 := (B1.mid hm16 (Or.inl (by omega))).mid hst (Or.inl (by omega))
                  have R2 := (B2.mid hm16 (Or.inl (by omega))).mid hst (Or.inl (by omega))
                  have hm17 := (hm.transNew hm16 (Or.inl (by omega))).storeNew (p := ⟨G, 2, none⟩) (by show w.heap.size ≤ G; omega) (.slice A3 (n2 + 1) c3)
                  clear hat8 hS2 hrs hPBt hPBn ho8 ho8' hst hm16 hgr8 HL8 B0 B1 B2 hm
                  refine wpAnyT_take (i := 8) (v := ?_) rfl (by kernel_rfl) (by kernel_rfl) (by kernel_rfl) (by kernel_rfl) (fun _ _ _ h => h) (Or.inl ⟨by rfl, ?_⟩) hS3 ?_
                  rotate_left
                  focus (intro w hSw; (try dsimp only at hSw); go_simp; try with_reducible rfl)
                  try simp only [Act.put, List.setIfInBounds_toArray, List.set_cons_zero, List.set_cons_succ, List.getElem_toArray, List.getElem_cons_zero, List.getElem_cons_succ]
                  refine wpAnyT_ready (rs := [9]) (by kernel_rfl) (by simp) (AllReadyT.cons rfl (fun K hK => ?_) AllReadyT.nil)
                  (go_simp)
                  refine hK.out _ _ (Or.inl rfl) (fun _ => ?_)
                  clear hK K
                  try simp only [Act.put, List.setIfInBounds_toArray, List.set_cons_zero, List.set_cons_succ, List.getElem_toArray, List.getElem_cons_zero, List.getElem_cons_succ]
                  refine wpAnyT_done (by kernel_rfl) ?_ _
                  go_wp2_with fail
                  go_roundw
                  case rel => exact ⟨j + 1, n1 + 1, A12, c12, n2 + 1, A3, c3, xs ++ [ed], by go_num, rfl, by omega, Lib.hid (by rw [HX.out, List.append_assoc, HSE.out, HPE.out]), by rw [HNX.out, HNS.out]; exact HPB9, HL9, HD12, HD9, R0, R1, R2, hm17⟩
                  case measure => simp [intOf]; omega
                · have d3 : decide (0 < x) = false := by simp; omega
                  have HPE : Hid (pbEs es es' P i ((a : Int), (b' : Int)) ((j + 1) / 2) = pbEs es es' P i ((a : Int), (b' : Int)) ((j + 1 + 1) / 2)) := Lib.hid (by rw [show (j + 1 + 1) / 2 = (j + 1) / 2 by omega])
                  clear hod hxv
                  go_wp2_with (first | (at_lookup; refine wpList_pmLookF rfl _ _ rfl rfl HPB.out.map ((x' : Int), (y' : Int)) hpok HMEM.out rfl ?_; intro c0) | (at_mapUpdate; refine wpList_pmPut rfl _ _ _ rfl rfl HPB.out.map ((x' : Int), (y' : Int)) hpok HMEM.out n1 hn1 hn1m rfl rfl ?_; intro w11 hM11 hm11; have HPB11 := Lib.hid (HPB.out.put hM11 hm11); have hBo11 : Bo ≤ w11.heap.size := by (have h1 := HPB11.out.le; have h2 := HPB11.out.box.1; omega)) | (at_builtin; refine wpList_pushP rfl _ _ rfl _ _ n1 _ stj rfl HPB11.out.ord ((x' : Int), (y' : Int)) rfl hn1m hBo11 ?_; intro A12 c12 w12 ho12 hgr12 hat12))
                  have hm12 := Mid.of_grownRow HPB11.out.ord hgr12
                  have HPB12 := Lib.hid (HPB11.out.push ho12 hgr12 hat12)
                  have hs11 := hm11.size
                  have hs12 := hm12.size
                  have hH8 : H8 ≤ w9.heap.size := HL8.out.1
                  have hMB := HPB.out.lt
                  have HL12 := Lib.hid ((HL8.out.mid hm11 (Or.inl (by omega))).grown hgr12 HD1.out)
                  have HD12 : Hid (∀ g, Value.ownBlock (.slice A12 (n1 + 1) c12) = some g → g < L8 ∨ H8 ≤ g) := Lib.hid (by
                    intro g hg
                    rcases hat12 with h | h
                    · exact HD1.out g (h.symm.trans hg)
                    · rw [h] at hg
                      injection hg with hg
                      omega)
                  replace B0 := (B0.mid hm11 (Or.inl (by omega))).mid hm12 (Or.inl (by omega))
                  replace B1 := (B1.mid hm11 (Or.inl (by omega))).mid hm12 (Or.inl (by omega))
                  replace B2 := (B2.mid hm11 (Or.inl (by omega))).mid hm12 (Or.inl (by omega))
                  replace hm := (hm.transNew hm11 (Or.inl (by omega))).transNew hm12 (Or.inl (by omega))
                  clear HPB HPB11 HL8 hm11 hm12 hM11 ho12 hgr12 hat12
                  have HPB := HPB12
                  have HL8 := HL12
                  clear HPB12 HL12
                  go_roundw
                  case rel => exact ⟨j + 1, n1 + 1, A12, c12, n2, A2, c2, xs, by go_num, rfl, by omega, Lib.hid (by rw [HX.out, HPE.out]), by rw [HNX.out, HNS.out]; exact HPB, HL8, HD12, HD2, B0, B1, B2, hm⟩
                  case measure => simp [intOf]; omega
        · obtain rfl : j = LL := by omega
          have htk : (lets rn).take j = lets rn := List.take_of_length_le (by rw [HLL.out]; exact Nat.le_refl _)
          rw [htk] at hstj
          have hj2 : (j + 1) / 2 = rn := by have h1 := HLL.out; rw [lets_len] at h1; omega
          rw [hj2, ← HSU.out] at HX
          have hst2 : pbSt es es' (lets rn) ((un : Int), (vn : Int)) (i + 1) = stj := HSS.out.trans hstj
          have HST := Lib.hid hst2
          have hi1' : i < n1 := by have h1 := (List.getElem?_eq_some_iff.1 hpj).1; omega
          clear hst2 hstj htk hpj hokj
          go_wp2_with fail
          go_roundw
          case rel => exact ⟨i + 1, n1, A1, c1, n2, A2, c2, xs, by go_num, rfl, Lib.hid hi1', HX, by rw [HST.out]; exact HPB, B0, B1, B2, hm⟩
          case measure => simp [intOf]; omega
    · obtain rfl : i = n1 := by omega
      have hPeq := pairs_eq F1.out.gr F2.out.gr HP0.out hn1
      rw [HPP.out] at hPeq
      have hPL : P.length = i := by rw [hPeq]; exact hn1
      have HPL := Lib.hid hPL
      clear hPeq hn1
      have hGs : G < wo.heap.size := HPB.out.box.1
      have hln2 := HPB.out.ln2
      have hn2 : n2 ≤ 4900 := by
        have h2 := pbAll_len es es' rn P i
        have h3 := congrArg List.length HX.out
        have h4 : i * rn ≤ 1600 * 3 := Nat.mul_le_mul hn16 (by omega)
        omega
      have HLN2 := Lib.hid hln2
      have hcl : (w.heap.size + 1 + 1 == G) = false := by simp; omega
      have hcl2 : (G == w.heap.size + 1 + 1) = false := by simp; omega
      have hst := Mid.setCell wo (lo := G) (hi := G + 1) (p := ⟨G, 1, none⟩) (.int .i64 (i : Int)) (Nat.le_refl _) (Nat.lt_succ_self _)
      have hrg : RG (wo.setCell ⟨G, 1, none⟩ (.int .i64 (i : Int))) (G + 1) wo.heap.size A2 xs := RG.mid (OV.rv (e := 78) (size := 3) (c := c2) (n := n2) ⟨Nat.le_refl _, HPB.out.edg, fun g hg => (HPB.out.edg.lt g hg).2⟩) hst (Or.inl (Nat.le_refl _))
      have Z3 := HPB.out.box.set 1 (.int .i64 (i : Int)) (by simp) rfl
      have Z2 := B2.mid hst (Or.inl (by omega))
      have hmz := hm.storeNew (p := ⟨G, 1, none⟩) (by show w.heap.size ≤ G; omega) (.int .i64 (i : Int))
      have g1 := HPB.out.box.cell 1 rfl
      have g2 := HPB.out.box.cell 2 rfl
      have gf := HPB.out.box.2.2
      have y2 := Z3.cell 2 rfl
      have y1 := Z3.cell 1 rfl
      clear hln2
      rcases (Decidable.em (i ≤ 40)).symm with hsz | hsz
      · have b3 : decide (40 < (i : Int)) = true := by simp; omega
        have hno : ¬ PullOk (rn : Int) (sn : Int) es (rn : Int) (tn : Int) es' (un : Int) (vn : Int) := fun h => by
          have h1 := h.sz; rw [Int.toNat_natCast, HPP.out, HPL.out] at h1; omega
        obtain ⟨rfl, rfl, rfl, rfl⟩ := HR.out.no hno
        have z0 := Z2.cell 0 rfl
        have z1 := Z2.cell 1 rfl
        have z2 := Z2.cell 2 rfl
        have zf := Z2.2.2
        clear HPB hno
        go_wp2_with fail
        refine bodyPost_ret (v := .tuple #[.agg #[.int .i64 0, .int .i64 0, .slice none 0 0], .bool false]) (by simp [results, Tryz.results74, go_sem, z0, z1, z2, zf]) rfl ⟨none, 0, rfl, OG.nil, ?_⟩
        repeat (first | exact hmz | refine Mid.storeNew ?_ (by simp; try omega) _)
      have b3 : decide (40 < (i : Int)) = false := by simp; omega
      rcases (Decidable.em (n2 ≤ 120)).symm with hln | hln
      · have b4 : decide (120 < (n2 : Int)) = true := by simp; omega
        have hno : ¬ PullOk (rn : Int) (sn : Int) es (rn : Int) (tn : Int) es' (un : Int) (vn : Int) := fun h => by
          have h1 := h.ln; rw [Int.toNat_natCast, HPP.out, HPL.out] at h1; have h2 := congrArg List.length HX.out; have h3 := HLN2.out; omega
        obtain ⟨rfl, rfl, rfl, rfl⟩ := HR.out.no hno
        have z0 := Z2.cell 0 rfl
        have z1 := Z2.cell 1 rfl
        have z2 := Z2.cell 2 rfl
        have zf := Z2.2.2
        clear HPB hno
        go_wp2_with fail
        refine bodyPost_ret (v := .tuple #[.agg #[.int .i64 0, .int .i64 0, .slice none 0 0], .bool false]) (by simp [results, Tryz.results74, go_sem, z0, z1, z2, zf]) rfl ⟨none, 0, rfl, OG.nil, ?_⟩
        repeat (first | exact hmz | refine Mid.storeNew ?_ (by simp; try omega) _)
      have b4 : decide (120 < (n2 : Int)) = false := by simp; omega
      have hok : PullOk (rn : Int) (sn : Int) es (rn : Int) (tn : Int) es' (un : Int) (vn : Int) := ⟨F1.out, F2.out, rfl, ⟨HP0.out.1, HP0.out.2.1⟩, ⟨HP0.out.2.2.1, HP0.out.2.2.2⟩, by rw [Int.toNat_natCast, HPP.out, HPL.out]; exact hsz, by rw [Int.toNat_natCast, HPP.out, HPL.out]; have h2 := congrArg List.length HX.out; have h3 := HLN2.out; omega⟩
      obtain ⟨rfl, hrr, hrs, hre⟩ := HR.out.yes hok
      rw [Int.toNat_natCast, HPP.out, HPL.out] at hrs
      unfold pullE at hre
      rw [Int.toNat_natCast, HPP.out, HPL.out, ← HX.out] at hre
      have HRR := Lib.hid hrr
      have HRS := Lib.hid hrs
      have HRE := Lib.hid hre
      clear hrr hrs hre HR HPB hok
      go_wp2_with fail
      have HRG := hrg
      generalize wo.setCell ⟨G, 1, none⟩ (.int .i64 (i : Int)) = ws at HRG hrg Z2 Z3 hmz y1 y2 hst ⊢
      with_reducible refine (impl_sortedN A2 xs n2 c2 _ _ _ HLN2.out HRG (by omega)).mono ?_
      rintro en w6 ⟨A4, c4, rfl, ho6, hm6⟩
      have Q2 := Z2.mid hm6 (Or.inr (Nat.zero_le _))
      have Q3 := Z3.mid hm6 (Or.inr (Nat.zero_le _))
      have hsz6 := hm6.size
      have hszs := hst.size
      clear g1 g2 gf y1 y2 hst hrg HRG Z2 Z3
      have a0 := Q2.cell 0 rfl
      have a1 := Q2.cell 1 rfl
      have a2 := Q2.cell 2 rfl
      have b0 := Q3.cell 0 rfl
      have b1 := Q3.cell 1 rfl
      have b2 := Q3.cell 2 rfl
      have af := Q2.2.2
      have bf := Q3.2.2
      go_wp2_with fail
      refine bodyPost_ret (v := .tuple #[.agg #[.int .i64 rn, .int .i64 i, .slice A4 (canon xs).length c4], .bool true]) (by simp [results, Tryz.results74, go_sem, a0, a1, a2, b0, b1, b2, af, bf]) rfl ⟨A4, c4, ?_, ?_, ?_⟩
      · rw [HRR.out, HRS.out, HRE.out]
      · rw [HRE.out]
        refine OG.wide (OG.mid ho6 (a := w.heap.size) (b := G + 1) ?_ (Or.inl (by omega))) (by have := hmz.size; omega) (by simp) (Nat.le_refl _)
        repeat (first | exact Mid.refl _ _ _ | refine Mid.stored ?_ _ (by simp; try omega) (by simp; try omega))
      · have h := hmz.trans hm6
        repeat (first | exact h | refine Mid.storeNew ?_ (by simp; try omega) _)
  end Go.Proofs.YtimmnnncgnnkgaaGreat

/- PullbackAt, both sides: what it gives is always there. -/
namespace Go.Proofs.YtimmnnncgnnkgaaGreat
set_option linter.unusedVariables false
theorem PullIs.lens {r s : Int} {es : List Ed} {r' s' : Int} {es' : List Ed} {u v : Int} {rr rs : Int} {res : List Ed} {b : Bool} (h : PullIs r s es r' s' es' u v rr rs res b) : res.length ≤ 120 := by
  rcases h with ⟨-, h, -, -, e⟩ | ⟨-, -, -, -, e⟩
  · rw [e]
    exact (pull_gr h).len
  · rw [e]
    simp
end Go.Proofs.YtimmnnncgnnkgaaGreat

/- Plain: the folds of the first edges; their numbers. -/
namespace Go.Proofs.YtimmnnncgnnkgaaGreat
set_option linter.unusedVariables false
set_option linter.unusedSimpArgs false

/-- The folds of the first k edges with those behind them. -/
def foldsUp (es : List Ed) : Nat → List (Int × Int)
  | 0 => []
  | k + 1 => foldsUp es k ++ (match es[k]? with | none => [] | some e => (es.drop (k + 1)).flatMap (foldsAB e))
theorem foldsUp_succ {es : List Ed} {k : Nat} {e : Ed} (h : es[k]? = some e) : foldsUp es (k + 1) = foldsUp es k ++ (es.drop (k + 1)).flatMap (foldsAB e) := by
  rw [foldsUp, h]
theorem foldsUp_cons (f : Ed) (t : List Ed) : ∀ k, foldsUp (f :: t) (k + 1) = t.flatMap (foldsAB f) ++ foldsUp t k
  | 0 => by simp [foldsUp]
  | k + 1 => by
    rw [foldsUp, foldsUp_cons f t k, foldsUp, List.append_assoc]
    simp
theorem foldsUp_all : ∀ es : List Ed, foldsUp es es.length = folds es
  | [] => rfl
  | f :: t => by rw [List.length_cons, foldsUp_cons, foldsUp_all t, folds]
theorem foldsAB_len (e f : Ed) : (foldsAB e f).length ≤ 2 := by
  unfold foldsAB
  split
  · split <;> split <;> simp
  · simp
theorem flat_len (e : Ed) : ∀ t : List Ed, (t.flatMap (foldsAB e)).length ≤ 2 * t.length
  | [] => by simp
  | f :: t => by
    have := flat_len e t
    have := foldsAB_len e f
    rw [List.flatMap_cons, List.length_append, List.length_cons]
    omega
theorem foldsUp_len (es : List Ed) : ∀ k, (foldsUp es k).length ≤ k * (2 * es.length)
  | 0 => by simp [foldsUp]
  | k + 1 => by
    have := foldsUp_len es k
    rw [foldsUp, List.length_append, Nat.succ_mul]
    cases h : es[k]? with
    | none => simp; omega
    | some e =>
      have h1 := flat_len e (es.drop (k + 1))
      rw [List.length_drop] at h1
      simp only
      omega
/-- The numbers of a list of folds. -/
def fdI (ps : List (Int × Int)) : List Int := (ps.map fun p => [p.1, p.2]).flatten
theorem fdI_append (a b : List (Int × Int)) : fdI (a ++ b) = fdI a ++ fdI b := by simp [fdI]
theorem fdI_one (p : Int × Int) : fdI [p] = [p.1, p.2] := by simp [fdI]
theorem fdI_head (p : Int × Int) (t : List (Int × Int)) : fdI (p :: t) = p.1 :: p.2 :: fdI t := by simp [fdI]
theorem flat_take {e : Ed} {fs : List Ed} {j : Nat} {f : Ed} (h : fs[j]? = some f) : (fs.take (j + 1)).flatMap (foldsAB e) = (fs.take j).flatMap (foldsAB e) ++ foldsAB e f := by
  rw [take_snoc h, List.flatMap_append]
  simp
end Go.Proofs.YtimmnnncgnnkgaaGreat

/- part, the program. -/
namespace Go.Proofs.YtimmnnncgnnkgaaGreat
set_option linter.unusedVariables false
set_option linter.unusedSimpArgs false
open Go.RowKit

theorem fill_neg {n k : Nat} (h : k < n) : (ints (List.replicate k (-1)) ++ (List.replicate n (Value.int .i64 0)).drop k).set k (.int .i64 (-1)) = ints (List.replicate (k + 1) (-1)) ++ (List.replicate n (Value.int .i64 0)).drop (k + 1) := by
  rw [set_over _ _ _ (by rw [ints_len, List.length_replicate]) (by simpa using h), List.replicate_succ', ints_append]
  rfl

set_option maxHeartbeats 6400000 in
set_option maxRecDepth 100000 in
theorem impl_part (r : Int) (n : Nat) (A : Option Addr) (es : List Ed) (c : Nat) (Ao : Option Addr) (ord : List Int) (co : Nat) (w : World) (lo hi lo' hi' : Nat) (hr : RG w lo hi A es) (hro : RV w lo' hi' Ao (ints ord)) (hg : IsGr r n es)
    (hnd : ord.Nodup) (hin : ∀ x ∈ ord, 0 ≤ x ∧ x < (n : Int)) :
    Calls Tryz.prog 141 #[graV r n A es.length c, .slice Ao ord.length co] w fun e w' => ∃ A1 c1, e = .returned (graV r ord.length A1 (partE ord es).length c1) ∧ OG w' w.heap.size w'.heap.size A1 c1 (partE ord es) ∧ Mid 0 0 w w' := by
  have hn40 : n ≤ 40 := by have := hg.size; omega
  have hl := hg.len
  have hol : ord.length ≤ n := nodup_le n ord hnd hin
  have hmx : n ≤ maxLen := by unfold maxLen; omega
  have HG := Lib.hid hg
  have HND := Lib.hid hnd
  have HIN := Lib.hid hin
  have hm0 : Mid 0 0 w ((w.alloc (.cells #[.int .i64 r, .int .i64 n, .slice A es.length c] 29)).alloc (.cells #[.int .i64 0, .int .i64 0, .slice none 0 0] 29)) := (Mid.alloc _ _).trans (Mid.alloc _ _)
  have B0 := (Box.new w #[.int .i64 r, .int .i64 n, .slice A es.length c] 29).mid (Mid.alloc _ (.cells #[.int .i64 0, .int .i64 0, .slice none 0 0] 29)) (Or.inr (Nat.zero_le _))
  have B2 := Box.new (w.alloc (.cells #[.int .i64 r, .int .i64 n, .slice A es.length c] 29)) #[.int .i64 0, .int .i64 0, .slice none 0 0] 29
  simp only [World.size_alloc] at B2
  clear hg hnd hin
  go_enter Tryz.func141, Tryz.ntmps141
  go_wp2_with (at_make; refine wpList_mk rfl _ _ 25 rfl 3 (.int .i64 0) 8 undSI infoI rfl .i64 .i64 _ _ n rfl rfl rfl rfl (by omega) hmx ?_; intro w2 hown2 hgr2 hsz2)
  simp only [World.size_alloc, Nat.add_assoc, Nat.reduceAdd] at hown2 hsz2
  have hm2 := Mid.of_grown (lo := 0) (hi := 0) hgr2 (by intro g h; cases h)
  replace B0 := B0.mid hm2 (Or.inr (Nat.zero_le _))
  replace B2 := B2.mid hm2 (Or.inr (Nat.zero_le _))
  replace hm0 := hm0.trans hm2
  clear hgr2 hm2
  go_loopw [17] (fun i wr => ∃ k : Nat, k ≤ n ∧ i = .int .i64 k ∧ wr.ownsRow (w.heap.size + 2) 3 1 (.slice (some ⟨w.heap.size + 2, 0, none⟩) n n) n (ints (List.replicate k (-1)) ++ (List.replicate n (Value.int .i64 0)).drop k) ∧
      Box wr w.heap.size [.int .i64 r, .int .i64 n, .slice A es.length c] ∧ Box wr (w.heap.size + 1) [.int .i64 0, .int .i64 0, .slice none 0 0] ∧ Mid 0 0 w wr) (fun i _ => n - (intOf i).toNat)
  case atStart => exact ⟨0, Nat.zero_le _, rfl, by simpa [ints] using hown2, B0, B2, hm0⟩
  case round =>
    clear hown2 B0 B2 hm0 hsz2
    obtain ⟨wo, hwo⟩ : ∃ wo, wo = wr := ⟨_, rfl⟩
    subst hwo
    obtain ⟨k, hk, rfl, hown, b0, b2, hm⟩ := hrel
    by_cases hlt : k < n
    · obtain ⟨u, -, hcs⟩ := owns_cell hown hlt
      have hfz := hown.frozenAt k
      have hset := owns_set hown k (.int .i64 (-1)) (fill_neg hlt)
      have hst := Mid.setAt wo (w.heap.size + 2) k (.int .i64 (-1))
      have hms := hm.storeNew (p := ⟨w.heap.size + 2, k, none⟩) (by show w.heap.size ≤ w.heap.size + 2; omega) (.int .i64 (-1))
      have c0 := b0.mid hst (Or.inl (by omega))
      have c2 := b2.mid hst (Or.inl (by omega))
      have hk1 : (k : Int) < (n : Int) := by omega
      have hk0 : (0 : Int) ≤ (k : Int) := by omega
      clear hown b0 b2 hm hst
      go_wp2_with fail
      go_roundw
      case rel => exact ⟨k + 1, by omega, by go_num, hset, c0, c2, hms⟩
      case measure => simp [intOf]; omega
    · obtain rfl : k = n := by omega
      rw [List.drop_of_length_le (by simp), List.append_nil, ← placeL_nil] at hown
      go_wp2_with fail
      go_loopw [26] (fun i wr => ∃ j : Nat, j ≤ ord.length ∧ i = .int .i64 j ∧ wr.ownsRow (w.heap.size + 2) 3 1 (.slice (some ⟨w.heap.size + 2, 0, none⟩) k k) k (ints (placeL k (ord.take j))) ∧
          Box wr w.heap.size [.int .i64 r, .int .i64 k, .slice A es.length c] ∧ Box wr (w.heap.size + 1) [.int .i64 0, .int .i64 0, .slice none 0 0] ∧ Mid 0 0 w wr) (fun i _ => ord.length - (intOf i).toNat)
      case atStart => exact ⟨0, Nat.zero_le _, rfl, by rw [List.take_zero]; exact hown, b0, b2, hm⟩
      case round =>
        clear hown b0 b2 hm
        obtain ⟨wi, hwi⟩ : ∃ wi, wi = wr := ⟨_, rfl⟩
        subst hwi
        obtain ⟨j, hj, rfl, hown, b0, b2, hm⟩ := hrel
        by_cases hlt2 : j < ord.length
        · obtain ⟨B, off, x, rfl, hbh, hx, hcx⟩ := (hro.mid hm (Or.inl (Nat.zero_le _))).at hlt2
          have hxr := HIN.out x (List.mem_of_getElem? hx)
          obtain ⟨m, rfl⟩ : ∃ m : Nat, x = m := ⟨x.toNat, by omega⟩
          have hmk : m < k := by omega
          obtain ⟨u, -, hcs⟩ := owns_cell hown hmk
          have hfz := hown.frozenAt m
          have hset := owns_set (ys := ints (placeL k (ord.take (j + 1)))) hown m (.int .i64 j) (by rw [← placeL_set HND.out hx hmk]; simp [ints])
          have hst := Mid.setAt wi (w.heap.size + 2) m (.int .i64 j)
          have hms := hm.storeNew (p := ⟨w.heap.size + 2, m, none⟩) (by show w.heap.size ≤ w.heap.size + 2; omega) (.int .i64 j)
          have c0 := b0.mid hst (Or.inl (by omega))
          have c2 := b2.mid hst (Or.inl (by omega))
          have hm1 : (m : Int) < (k : Int) := by omega
          have hm0 : (0 : Int) ≤ (m : Int) := by omega
          have hj1 : (j : Int) < (ord.length : Int) := by omega
          have hj0 : (0 : Int) ≤ (j : Int) := by omega
          clear hown b0 b2 hm hst hx
          go_wp2_with fail
          go_roundw
          case rel => exact ⟨j + 1, by omega, by go_num, hset, c0, c2, hms⟩
          case measure => simp [intOf]; omega
        · obtain rfl : j = ord.length := by omega
          rw [List.take_length] at hown
          have p0 := b0.cell 0 rfl
          have p1 := b0.cell 1 rfl
          have p2 := b0.cell 2 rfl
          have hws := b2.1
          have hws0 := b0.1
          have hal := Mid.alloc wi (.cells #[.int .i64 r, .int .i64 ord.length, .slice none 0 0] 29)
          have Y3 := Box.new wi #[.int .i64 r, .int .i64 ord.length, .slice none 0 0] 29
          go_wp2_with fail
          have hpl : w.heap.size + 2 < wi.heap.size := (hown.lt _ rfl).2
          obtain ⟨G, hG⟩ : ∃ G, wi.heap.size = G := ⟨_, rfl⟩
          have O0 : (wi.alloc (.cells #[.int .i64 r, .int .i64 ord.length, .slice none 0 0] 29)).ownsRow (G + 1) 78 3 (.slice none 0 0) 0 [] := ⟨rfl, .inl ⟨rfl, rfl⟩⟩
          have hownP := hown.alloc (.cells #[.int .i64 r, .int .i64 ord.length, .slice none 0 0] 29)
          replace b0 := b0.mid hal (Or.inr (Nat.zero_le _))
          replace b2 := b2.mid hal (Or.inr (Nat.zero_le _))
          replace hm := hm.trans hal
          have hw5s : (wi.alloc (.cells #[.int .i64 r, .int .i64 ord.length, .slice none 0 0] 29)).heap.size = G + 1 := by rw [World.size_alloc, hG]
          generalize wi.alloc (.cells #[.int .i64 r, .int .i64 ord.length, .slice none 0 0] 29) = w5 at O0 hownP Y3 b0 b2 hm hw5s ⊢
          rw [hG] at Y3 hpl hws hws0 ⊢
          clear hown hG hal p0 p1 p2
          go_loopw [44] (fun i wr => ∃ (q : Nat) (A2 : Option Addr) (n2 c2 : Nat), q ≤ es.length ∧ i = .int .i64 q ∧ Hid (((es.take q).filterMap (partOf ord)).length = n2) ∧
              wr.ownsRow (G + 1) 78 3 (.slice A2 n2 c2) n2 (ints (edI ((es.take q).filterMap (partOf ord)))) ∧ wr.ownsRow (w.heap.size + 2) 3 1 (.slice (some ⟨w.heap.size + 2, 0, none⟩) k k) k (ints (placeL k ord)) ∧
              Box wr w.heap.size [.int .i64 r, .int .i64 k, .slice A es.length c] ∧ Box wr (w.heap.size + 1) [.int .i64 0, .int .i64 0, .slice none 0 0] ∧ Box wr G [.int .i64 r, .int .i64 ord.length, .slice A2 n2 c2] ∧ Mid 0 0 w wr) (fun i _ => es.length - (intOf i).toNat)
          case atStart => exact ⟨0, none, 0, 0, Nat.zero_le _, rfl, Lib.hid rfl, by simpa [edI, ints] using O0, hownP, b0, b2, Y3, hm⟩
          case round =>
            clear O0 hownP b0 b2 Y3 hm hw5s
            obtain ⟨q, A2, n2, c2, hq, rfl, HN, hown, hownP, b0, b2, Y3, hm⟩ := hrel
            have hn2 : n2 ≤ 120 := by have h1 := List.length_filterMap_le (partOf ord) (es.take q); have h2 := HN.out; simp at h1; omega
            by_cases hlt3 : q < es.length
            · obtain ⟨B, off, e, rfl, -, hbh, he, e0, e1, e2⟩ := (hr.mid hm (Or.inl (Nat.zero_le _))).ed hlt3
              have hin := HG.out.all e (List.mem_of_getElem? he)
              have htk : (es.take (q + 1)).filterMap (partOf ord) = (es.take q).filterMap (partOf ord) ++ (partOf ord e).toList := by
                rw [take_snoc he, List.filterMap_append]
                cases hd : partOf ord e <;> simp [hd]
              obtain ⟨i1, i2, i3, i4, i5, i6⟩ := hin
              obtain ⟨x, l, y⟩ := e
              simp only at i1 i2 i3 i4 i5 i6 e0 e1 e2 htk
              obtain ⟨ia, rfl⟩ : ∃ ia : Nat, x = ia := ⟨x.toNat, by omega⟩
              obtain ⟨ib, rfl⟩ : ∃ ib : Nat, y = ib := ⟨y.toNat, by omega⟩
              have hia : ia < k := by omega
              have hib : ib < k := by omega
              have hq0 : (0 : Int) ≤ (q : Int) := by omega
              have hq1 : (q : Int) < (es.length : Int) := by omega
              have hal := Mid.alloc wr (.cells #[.int .i64 ia, .int .i64 l, .int .i64 ib] 78)
              have ZE := Box.new wr #[.int .i64 ia, .int .i64 l, .int .i64 ib] 78
              have hgs : w.heap.size + 2 < wr.heap.size := (hownP.lt _ rfl).2
              have hGr : G < wr.heap.size := Y3.1
              have hbE : Value.ownBlock (.slice A2 n2 c2) ≠ some wr.heap.size := fun h => by have := (hown.lt _ h).2; omega
              have hbk : Value.ownBlock (.slice A2 n2 c2) ≠ some G := fun h => by have := (hown.lt _ h).1; omega
              have hownV := hown.alloc (.cells #[.int .i64 ia, .int .i64 l, .int .i64 ib] 78)
              replace b0 := b0.mid hal (Or.inr (Nat.zero_le _))
              replace b2 := b2.mid hal (Or.inr (Nat.zero_le _))
              replace Y3 := Y3.mid hal (Or.inr (Nat.zero_le _))
              replace hownP := owns_mid hownP hal (Or.inl (Nat.zero_le _))
              replace hm := hm.trans hal
              obtain ⟨pa, hpa⟩ : ∃ pa, idxI ord ia = pa := ⟨_, rfl⟩
              obtain ⟨pb, hpb⟩ : ∃ pb, idxI ord ib = pb := ⟨_, rfl⟩
              have hga : (ints (placeL k ord))[ia]? = some (.int .i64 pa) := by rw [ints_get, placeL_get ord hia, hpa]; rfl
              have hgb : (ints (placeL k ord))[ib]? = some (.int .i64 pb) := by rw [ints_get, placeL_get ord hib, hpb]; rfl
              have hca := (hownP.cellAt ia (by omega)).trans hga
              have hcb := (hownP.cellAt ib (by omega)).trans hgb
              have HTK := Lib.hid htk
              have HPA := Lib.hid hpa
              have HPB := Lib.hid hpb
              have HGA := Lib.hid hga
              have HGB := Lib.hid hgb
              clear he htk hpa hpb hown hga hgb
              by_cases hok : 0 ≤ pa ∧ 0 ≤ pb
              · have hpo : partOf ord ⟨(ia : Int), l, (ib : Int)⟩ = some ⟨pa, l, pb⟩ := by
                  unfold partOf
                  simp only [HPA.out, HPB.out]
                  rw [if_pos hok]
                have HT : Hid ((es.take (q + 1)).filterMap (partOf ord) = (es.take q).filterMap (partOf ord) ++ [⟨pa, l, pb⟩]) := Lib.hid (by rw [HTK.out, hpo]; rfl)
                have d1 : decide (0 ≤ pa) = true := by simpa using hok.1
                have d2 : decide (0 ≤ pb) = true := by simpa using hok.2
                clear hpo hok
                go_wp2_with fail
                clear e0 e1 e2 hca hcb d1 d2
                generalize hwx : wr.alloc (.cells #[.int .i64 ia, .int .i64 l, .int .i64 ib] 78) = wx at ZE b0 b2 Y3 hownV hownP hm ⊢
                generalize hgE : wr.heap.size = E at ZE hgs hGr hbE ⊢
                clear hgE hwx hal
                have hmd := Mid.drew1 wx
                replace b0 := b0.mid hmd (Or.inr (Nat.zero_le _))
                replace b2 := b2.mid hmd (Or.inr (Nat.zero_le _))
                replace Y3 := Y3.mid hmd (Or.inr (Nat.zero_le _))
                replace ZE := ZE.mid hmd (Or.inr (Nat.zero_le _))
                replace hownV := owns_mid hownV hmd (Or.inl (Nat.zero_le _))
                replace hownP := owns_mid hownP hmd (Or.inl (Nat.zero_le _))
                replace hm := hm.trans hmd
                have hca := (hownP.cellAt ia (by omega)).trans HGA.out
                have hcb := (hownP.cellAt ib (by omega)).trans HGB.out
                have f0 := ZE.cell 0 rfl
                have f1 := ZE.cell 1 rfl
                have f2 := ZE.cell 2 rfl
                have g2 := Y3.cell 2 rfl
                clear hmd
                refine wp_region_T (S := (fun w' => w'.cell? ⟨E, 0, none⟩ = some (.int .i64 ia) ∧ w'.cell? ⟨E, 1, none⟩ = some (.int .i64 l) ∧ w'.cell? ⟨E, 2, none⟩ = some (.int .i64 ib) ∧ w'.cell? ⟨G, 2, none⟩ = some (.slice A2 n2 c2) ∧ w'.cell? ⟨w.heap.size + 2, ia, none⟩ = some (.int .i64 pa) ∧ w'.cell? ⟨w.heap.size + 2, ib, none⟩ = some (.int .i64 pb))) 18 (by kernel_rfl) ⟨f0, f1, f2, g2, hca, hcb⟩ ?_
                generalize World.drew wx = wz at b0 b2 Y3 ZE hownV hownP hm f0 f1 f2 g2 hca hcb ⊢
                have hS : wz.cell? ⟨E, 0, none⟩ = some (.int .i64 ia) ∧ wz.cell? ⟨E, 1, none⟩ = some (.int .i64 l) ∧ wz.cell? ⟨E, 2, none⟩ = some (.int .i64 ib) ∧ wz.cell? ⟨G, 2, none⟩ = some (.slice A2 n2 c2) ∧ wz.cell? ⟨w.heap.size + 2, ia, none⟩ = some (.int .i64 pa) ∧ wz.cell? ⟨w.heap.size + 2, ib, none⟩ = some (.int .i64 pb) := ⟨f0, f1, f2, g2, hca, hcb⟩
                refine wpAnyT_take (i := 0) (v := ?_) rfl (by kernel_rfl) (by kernel_rfl) (by kernel_rfl) (by kernel_rfl) (fun _ _ _ h => h) (Or.inl ⟨by rfl, ?_⟩) hS ?_
                rotate_left
                focus (intro w hSw; (try dsimp only at hSw); go_simp; try with_reducible rfl)
                try simp only [Act.put, List.setIfInBounds_toArray, List.set_cons_zero, List.set_cons_succ, List.getElem_toArray, List.getElem_cons_zero, List.getElem_cons_succ]
                refine wpAnyT_take (i := 1) (v := ?_) rfl (by kernel_rfl) (by kernel_rfl) (by kernel_rfl) (by kernel_rfl) (fun _ _ _ h => h) (Or.inl ⟨by rfl, ?_⟩) hS ?_
                rotate_left
                focus (intro w hSw; (try dsimp only at hSw); go_simp; try with_reducible rfl)
                try simp only [Act.put, List.setIfInBounds_toArray, List.set_cons_zero, List.set_cons_succ, List.getElem_toArray, List.getElem_cons_zero, List.getElem_cons_succ]
                refine wpAnyT_take (i := 2) (v := ?_) rfl (by kernel_rfl) (by kernel_rfl) (by kernel_rfl) (by kernel_rfl) (fun _ _ _ h => h) (Or.inl ⟨by rfl, ?_⟩) hS ?_
                rotate_left
                focus (intro w hSw; (try dsimp only at hSw); go_simp; try with_reducible rfl)
                try simp only [Act.put, List.setIfInBounds_toArray, List.set_cons_zero, List.set_cons_succ, List.getElem_toArray, List.getElem_cons_zero, List.getElem_cons_succ]
                refine wpAnyT_take (i := 3) (v := ?_) rfl (by kernel_rfl) (by kernel_rfl) (by kernel_rfl) (by kernel_rfl) (fun _ _ _ h => h) (Or.inl ⟨by rfl, ?_⟩) hS ?_
                rotate_left
                focus (intro w hSw; (try dsimp only at hSw); go_simp; try with_reducible rfl)
                try simp only [Act.put, List.setIfInBounds_toArray, List.set_cons_zero, List.set_cons_succ, List.getElem_toArray, List.getElem_cons_zero, List.getElem_cons_succ]
                refine wpAnyT_take (i := 4) (v := ?_) rfl (by kernel_rfl) (by kernel_rfl) (by kernel_rfl) (by kernel_rfl) (fun _ _ _ h => h) (Or.inl ⟨by rfl, ?_⟩) hS ?_
                rotate_left
                focus (intro w hSw; (try dsimp only at hSw); go_simp; try with_reducible rfl)
                try simp only [Act.put, List.setIfInBounds_toArray, List.set_cons_zero, List.set_cons_succ, List.getElem_toArray, List.getElem_cons_zero, List.getElem_cons_succ]
                refine wpAnyT_take (i := 5) (v := ?_) rfl (by kernel_rfl) (by kernel_rfl) (by kernel_rfl) (by kernel_rfl) (fun _ _ _ h => h) (Or.inl ⟨by rfl, ?_⟩) hS ?_
                rotate_left
                focus (intro w hSw; (try dsimp only at hSw); go_simp; try with_reducible rfl)
                try simp only [Act.put, List.setIfInBounds_toArray, List.set_cons_zero, List.set_cons_succ, List.getElem_toArray, List.getElem_cons_zero, List.getElem_cons_succ]
                refine wpAnyT_take (i := 6) (v := ?_) rfl (by kernel_rfl) (by kernel_rfl) (by kernel_rfl) (by kernel_rfl) (fun _ _ _ h => h) (Or.inl ⟨by rfl, ?_⟩) hS ?_
                rotate_left
                focus (intro w hSw; (try dsimp only at hSw); go_simp; try with_reducible rfl)
                try simp only [Act.put, List.setIfInBounds_toArray, List.set_cons_zero, List.set_cons_succ, List.getElem_toArray, List.getElem_cons_zero, List.getElem_cons_succ]
                refine wpAnyT_take (i := 7) (v := ?_) rfl (by kernel_rfl) (by kernel_rfl) (by kernel_rfl) (by kernel_rfl) (fun _ _ _ h => h) (Or.inl ⟨by rfl, ?_⟩) hS ?_
                rotate_left
                focus (intro w hSw; (try dsimp only at hSw); go_simp; try with_reducible rfl)
                try simp only [Act.put, List.setIfInBounds_toArray, List.set_cons_zero, List.set_cons_succ, List.getElem_toArray, List.getElem_cons_zero, List.getElem_cons_succ]
                refine wpAnyT_take (i := 8) (v := ?_) rfl (by kernel_rfl) (by kernel_rfl) (by kernel_rfl) (by kernel_rfl) (fun _ _ _ h => h) (Or.inl ⟨by rfl, ?_⟩) hS ?_
                rotate_left
                focus (intro w hSw; (try dsimp only at hSw); go_simp; try with_reducible rfl)
                try simp only [Act.put, List.setIfInBounds_toArray, List.set_cons_zero, List.set_cons_succ, List.getElem_toArray, List.getElem_cons_zero, List.getElem_cons_succ]
                refine wpAnyT_take (i := 9) (v := ?_) rfl (by kernel_rfl) (by kernel_rfl) (by kernel_rfl) (by kernel_rfl) (fun _ _ _ h => h) (Or.inl ⟨by rfl, ?_⟩) hS ?_
                rotate_left
                focus (intro w hSw; (try dsimp only at hSw); go_simp; try with_reducible rfl)
                try simp only [Act.put, List.setIfInBounds_toArray, List.set_cons_zero, List.set_cons_succ, List.getElem_toArray, List.getElem_cons_zero, List.getElem_cons_succ]
                refine wpAnyT_take (i := 10) (v := ?_) rfl (by kernel_rfl) (by kernel_rfl) (by kernel_rfl) (by kernel_rfl) (fun _ _ _ h => h) (Or.inl ⟨by rfl, ?_⟩) hS ?_
                rotate_left
                focus (intro w hSw; (try dsimp only at hSw); go_simp; try with_reducible rfl)
                try simp only [Act.put, List.setIfInBounds_toArray, List.set_cons_zero, List.set_cons_succ, List.getElem_toArray, List.getElem_cons_zero, List.getElem_cons_succ]
                refine wpAnyT_take (i := 11) (v := ?_) rfl (by kernel_rfl) (by kernel_rfl) (by kernel_rfl) (by kernel_rfl) (fun _ _ _ h => h) (Or.inl ⟨by rfl, ?_⟩) hS ?_
                rotate_left
                focus (intro w hSw; (try dsimp only at hSw); go_simp; try with_reducible rfl)
                try simp only [Act.put, List.setIfInBounds_toArray, List.set_cons_zero, List.set_cons_succ, List.getElem_toArray, List.getElem_cons_zero, List.getElem_cons_succ]
                refine wpAnyT_take (i := 12) (v := ?_) rfl (by kernel_rfl) (by kernel_rfl) (by kernel_rfl) (by kernel_rfl) (fun _ _ _ h => h) (Or.inl ⟨by rfl, ?_⟩) hS ?_
                rotate_left
                focus (intro w hSw; (try dsimp only at hSw); go_simp; try with_reducible rfl)
                try simp only [Act.put, List.setIfInBounds_toArray, List.set_cons_zero, List.set_cons_succ, List.getElem_toArray, List.getElem_cons_zero, List.getElem_cons_succ]
                refine wpAnyT_take (i := 13) (v := ?_) rfl (by kernel_rfl) (by kernel_rfl) (by kernel_rfl) (by kernel_rfl) (fun _ _ _ h => h) (Or.inl ⟨by rfl, ?_⟩) hS ?_
                rotate_left
                focus (intro w hSw; (try dsimp only at hSw); go_simp; try with_reducible rfl)
                try simp only [Act.put, List.setIfInBounds_toArray, List.set_cons_zero, List.set_cons_succ, List.getElem_toArray, List.getElem_cons_zero, List.getElem_cons_succ]
                refine wpAnyT_take (i := 14) (v := ?_) rfl (by kernel_rfl) (by kernel_rfl) (by kernel_rfl) (by kernel_rfl) (fun _ _ _ h => h) (Or.inl ⟨by rfl, ?_⟩) hS ?_
                rotate_left
                focus (intro w hSw; (try dsimp only at hSw); go_simp; try with_reducible rfl)
                try simp only [Act.put, List.setIfInBounds_toArray, List.set_cons_zero, List.set_cons_succ, List.getElem_toArray, List.getElem_cons_zero, List.getElem_cons_succ]
                have haz := Mid.alloc wz (.cells #[.int .i64 pa, .int .i64 l, .int .i64 pb] 78)
                have hGz : G < wz.heap.size := Y3.1
                have hownT := hownV.alloc (.cells #[.int .i64 pa, .int .i64 l, .int .i64 pb] 78)
                replace b0 := b0.mid haz (Or.inr (Nat.zero_le _))
                replace b2 := b2.mid haz (Or.inr (Nat.zero_le _))
                replace Y3 := Y3.mid haz (Or.inr (Nat.zero_le _))
                replace ZE := ZE.mid haz (Or.inr (Nat.zero_le _))
                replace hownP := owns_mid hownP haz (Or.inl (Nat.zero_le _))
                replace hm := hm.trans haz
                have hS2 := And.intro (ZE.cell 0 rfl) (And.intro (ZE.cell 1 rfl) (And.intro (ZE.cell 2 rfl) (And.intro (Y3.cell 2 rfl) (And.intro ((hownP.cellAt ia (by omega)).trans HGA.out) ((hownP.cellAt ib (by omega)).trans HGB.out)))))
                have hrs : Rs (wz.alloc (.cells #[.int .i64 pa, .int .i64 l, .int .i64 pb] 78)) (wz.heap.size + 1) (some ⟨wz.heap.size, 0, none⟩) [.int .i64 pa, .int .i64 l, .int .i64 pb] := fun _ => ⟨wz.heap.size, 0, rfl, Nat.lt_succ_self _, fun j u hu => (World.cell?_alloc_at _ _ _ _ rfl).trans (by simpa using hu)⟩
                have hone : ∀ u ∈ [Value.int .i64 pa, .int .i64 l, .int .i64 pb], u.oneCell' = true := by
                  intro u hu
                  simp at hu
                  rcases hu with rfl | rfl | rfl <;> rfl
                have hmxl : n2 + 1 ≤ maxLen := by unfold maxLen; omega
                have hbyt : (n2 + 1) * 24 ≤ 140737488355328 := by omega
                have hbas : G + 1 ≤ (wz.alloc (.cells #[.int .i64 pa, .int .i64 l, .int .i64 pb] 78)).heap.size := by have h1 := Y3.1; omega
                have HO := Lib.hid hone
                have HB0 := Lib.hid (fun (g : Nat) (h : Value.ownBlock (.slice A2 n2 c2) = some g) => (hownT.lt g h).1)
                have HBk := Lib.hid hbk
                have HBe := Lib.hid hbE
                clear hone hbk hbE hownV f0 f1 f2 g2 hca hcb hS haz
                refine wpAnyT_ready (rs := [15]) (by kernel_rfl) (by simp) (AllReadyT.cons rfl (fun K hK => ?_) AllReadyT.nil)
                go_simp
                refine hK.out _ _ (Or.inr hS2) (fun _ => ?_)
                clear hK K
                try simp only [Act.put, List.setIfInBounds_toArray, List.set_cons_zero, List.set_cons_succ, List.getElem_toArray, List.getElem_cons_zero, List.getElem_cons_succ]
                generalize hwt : wz.alloc (.cells #[.int .i64 pa, .int .i64 l, .int .i64 pb] 78) = wt at b0 b2 Y3 ZE hownT hownP hm hS2 hrs hbas ⊢
                have hszt : wt.heap.size = wz.heap.size + 1 := by rw [← hwt]; simp
                have HZT := Lib.hid hszt
                have HP := Lib.hid hownP
                clear hwt hszt hownP
                refine wpAnyT_ready (rs := [16]) (by kernel_rfl) (by simp) (AllReadyT.cons rfl (fun K hK => ?_) AllReadyT.nil)
                (refine step_cat (by rfl) (.tmp 63) (.tmp 77) 27 (by rfl) (G + 1) 78 (.agg #[.int .i64 0, .int .i64 0, .int .i64 0]) 3 24 undSE infoE rfl (by decide) (.slice A2 n2 c2) n2 _ (by rfl) hownT (some ⟨wz.heap.size, 0, none⟩) 1 1 _ [.int .i64 pa, .int .i64 l, .int .i64 pb] (by rfl) hrs rfl HO.out hmxl hbyt hbas ?_; intro v9 w9 ho9 hgr9 hat9; obtain ⟨A9, c9, rfl, -, -⟩ := owns_shape ho9; have hP9 := HP.out.kept hgr9 (owns_ne HP.out hownT (by decide)))
                refine hK.out _ _ (Or.inr ⟨(ZE.grown hgr9 HBe.out).cell 0 rfl, (ZE.grown hgr9 HBe.out).cell 1 rfl, (ZE.grown hgr9 HBe.out).cell 2 rfl, (Y3.grown hgr9 HBk.out).cell 2 rfl, (hP9.cellAt ia (by omega)).trans HGA.out, (hP9.cellAt ib (by omega)).trans HGB.out⟩) (fun _ => ?_)
                clear hK K
                try simp only [Act.put, List.setIfInBounds_toArray, List.set_cons_zero, List.set_cons_succ, List.getElem_toArray, List.getElem_cons_zero, List.getElem_cons_succ]
                replace Y3 := Y3.grown hgr9 HBk.out
                replace ZE := ZE.grown hgr9 HBe.out
                replace b0 := b0.grown hgr9 (fun h => by have := HB0.out _ h; omega)
                replace b2 := b2.grown hgr9 (fun h => by have := HB0.out _ h; omega)
                replace hm : Mid 0 0 w w9 := hm.transNew (Mid.of_grownRow hownT hgr9) (Or.inl (by omega))
                have hS3 := And.intro (ZE.cell 0 rfl) (And.intro (ZE.cell 1 rfl) (And.intro (ZE.cell 2 rfl) (And.intro (Y3.cell 2 rfl) (And.intro ((hP9.cellAt ia (by omega)).trans HGA.out) ((hP9.cellAt ib (by omega)).trans HGB.out)))))
                have hne : Value.ownBlock (.slice A9 (n2 + 1) c9) ≠ some G := by
                  rcases hat9 with h | h
                  · rw [h]; exact HBk.out
                  · rw [h]
                    intro he
                    injection he with he
                    have := HZT.out
                    omega
                have HNE := Lib.hid hne
                have hr2 := Y3.cell 2 rfl
                have hrf := Y3.2.2
                clear hne hat9 hS2 hrs hownT
                refine wpAnyT_take (i := 17) (v := ?_) rfl (by kernel_rfl) (by kernel_rfl) (by kernel_rfl) (by kernel_rfl) (fun _ _ _ h => h) (Or.inl ⟨by rfl, ?_⟩) hS3 ?_
                rotate_left
                focus (intro w hSw; (try dsimp only at hSw); go_simp; try with_reducible rfl)
                try simp only [Act.put, List.setIfInBounds_toArray, List.set_cons_zero, List.set_cons_succ, List.getElem_toArray, List.getElem_cons_zero, List.getElem_cons_succ]
                refine wpAnyT_ready (rs := [18]) (by kernel_rfl) (by simp) (AllReadyT.cons rfl (fun K hK => ?_) AllReadyT.nil)
                (go_simp)
                refine hK.out _ _ (Or.inl rfl) (fun _ => ?_)
                clear hK K
                try simp only [Act.put, List.setIfInBounds_toArray, List.set_cons_zero, List.set_cons_succ, List.getElem_toArray, List.getElem_cons_zero, List.getElem_cons_succ]
                refine wpAnyT_done (by kernel_rfl) ?_ _
                go_wp2_with fail
                go_roundw
                case rel =>
                  have hst := Mid.setAt w9 G 2 (.slice A9 (n2 + 1) c9)
                  refine ⟨q + 1, A9, n2 + 1, c9, by omega, by go_num, Lib.hid (by rw [HT.out, List.length_append, HN.out]; rfl), ?_, hP9.kept (grown_of_setCell w9 G 2 (.slice A9 (n2 + 1) c9)) (.inr ?_), b0.mid hst (Or.inl (by omega)), b2.mid hst (Or.inl (by omega)), Y3.set 2 _ (by simp) rfl, hm.storeNew (by show w.heap.size ≤ G; omega) _⟩
                  · have h1 := owns_other ho9 (k := G) (grown_setCell (World.grownBy.refl _ (some G)) 2 (.slice A9 (n2 + 1) c9)) HNE.out
                    rw [HT.out, edI_append, ints_append, edI_one]
                    exact h1
                  · intro h
                    injection h with h
                    simp at h
                    omega
                case measure => simp [intOf]; omega
              · have hpo : partOf ord ⟨(ia : Int), l, (ib : Int)⟩ = none := by
                  unfold partOf
                  simp only [HPA.out, HPB.out]
                  rw [if_neg hok]
                have HT : Hid ((es.take (q + 1)).filterMap (partOf ord) = (es.take q).filterMap (partOf ord)) := Lib.hid (by rw [HTK.out, hpo]; simp)
                by_cases h1 : 0 ≤ pa
                · have d1 : decide (0 ≤ pa) = true := by simpa using h1
                  have d2 : decide (0 ≤ pb) = false := by simp; omega
                  clear hpo hok h1
                  go_wp2_with fail
                  go_roundw
                  case rel => exact ⟨q + 1, A2, n2, c2, by omega, by go_num, by rw [HT.out]; exact HN, by rw [HT.out]; exact hownV, hownP, b0, b2, Y3, hm⟩
                  case measure => simp [intOf]; omega
                · have d1 : decide (0 ≤ pa) = false := by simp; omega
                  clear hpo hok h1
                  go_wp2_with fail
                  go_roundw
                  case rel => exact ⟨q + 1, A2, n2, c2, by omega, by go_num, by rw [HT.out]; exact HN, by rw [HT.out]; exact hownV, hownP, b0, b2, Y3, hm⟩
                  case measure => simp [intOf]; omega
            · obtain rfl : q = es.length := by omega
              rw [List.take_length] at hown HN
              have hGr : G < wr.heap.size := Y3.1
              have hrg : RG wr (G + 1) wr.heap.size A2 (es.filterMap (partOf ord)) := OV.rv (e := 78) (size := 3) (c := c2) (n := n2) ⟨Nat.le_refl _, hown, fun g hg => (hown.lt g hg).2⟩
              have z2 := Y3.cell 2 rfl
              go_wp2_with fail
              with_reducible refine (impl_sortedN A2 (es.filterMap (partOf ord)) n2 c2 _ _ _ HN.out hrg (by omega)).mono ?_
              rintro en w6 ⟨A4, c4, rfl, ho6, hm6⟩
              replace b2 := b2.mid hm6 (Or.inr (Nat.zero_le _))
              replace Y3 := Y3.mid hm6 (Or.inr (Nat.zero_le _))
              replace hm := hm.trans hm6
              have hsz6 := hm6.size
              clear z2
              have a0 := b2.cell 0 rfl
              have a1 := b2.cell 1 rfl
              have a2 := b2.cell 2 rfl
              have x0 := Y3.cell 0 rfl
              have x1 := Y3.cell 1 rfl
              have x2 := Y3.cell 2 rfl
              have af := b2.2.2
              have bf := Y3.2.2
              go_wp2_with fail
              have hcl : (w.heap.size + 1 == G) = false := by simp; omega
              refine bodyPost_ret (v := .agg #[.int .i64 r, .int .i64 ord.length, .slice A4 (canon (es.filterMap (partOf ord))).length c4]) (by simp [results, Tryz.results141, go_sem, a0, a1, a2, x0, x1, x2, af, bf]) rfl ⟨A4, c4, rfl, ?_, ?_⟩
              · refine OG.wide (OG.mid ho6 (a := w.heap.size) (b := G + 1) ?_ (Or.inl hGr)) (by omega) (by simp) (Nat.le_refl _)
                repeat (first | exact Mid.refl _ _ _ | refine Mid.stored ?_ _ (by simp; try omega) (by simp; try omega))
              · repeat (first | exact hm | refine Mid.storeNew ?_ (by simp; try omega) _)
end Go.Proofs.YtimmnnncgnnkgaaGreat

/- RenumberGraph, the reference, at an order that is one. -/
namespace Go.Proofs.YtimmnnncgnnkgaaGreat
set_option linter.unusedVariables false
set_option linter.unusedSimpArgs false
open Go.RowKit

set_option maxHeartbeats 6400000 in
set_option maxRecDepth 100000 in
theorem spec_RenumberGraph (r : Int) (n : Nat) (A : Option Addr) (es : List Ed) (c : Nat) (Ao : Option Addr) (ord : List Int) (co : Nat) (w : World) (lo hi lo' hi' : Nat) (hr : RG w lo hi A es) (hro : RV w lo' hi' Ao (ints ord)) (hg : IsGr r n es)
    (hnd : ord.Nodup) (hin : ∀ x ∈ ord, 0 ≤ x ∧ x < (n : Int)) (hne : 0 < ord.length) :
    Calls Tryz.prog 136 #[graV r n A es.length c, .slice Ao ord.length co] w fun e w' => ∃ A1 c1, e = .returned (.tuple #[graV r ord.length A1 (partE ord es).length c1, .bool true]) ∧ OG w' w.heap.size w'.heap.size A1 c1 (partE ord es) ∧ Mid 0 0 w w' := by
  have hn40 : n ≤ 40 := by have := hg.size; omega
  have hl := hg.len
  have hol : ord.length ≤ n := nodup_le n ord hnd hin
  have hmx : n ≤ maxLen := by unfold maxLen; omega
  have HG := Lib.hid hg
  have HND := Lib.hid hnd
  have HIN := Lib.hid hin
  have hm0 : Mid 0 0 w (((w.alloc (.cells #[.int .i64 r, .int .i64 n, .slice A es.length c] 29)).alloc (.cells #[.int .i64 0, .int .i64 0, .slice none 0 0] 29)).alloc (.cells #[.int .i64 r, .int .i64 ord.length, .slice none 0 0] 29)) := ((Mid.alloc _ _).trans (Mid.alloc _ _)).trans (Mid.alloc _ _)
  have b0 := ((Box.new w #[.int .i64 r, .int .i64 n, .slice A es.length c] 29).mid (Mid.alloc _ (.cells #[.int .i64 0, .int .i64 0, .slice none 0 0] 29)) (Or.inr (Nat.zero_le _))).mid (Mid.alloc _ (.cells #[.int .i64 r, .int .i64 ord.length, .slice none 0 0] 29)) (Or.inr (Nat.zero_le _))
  have b2 := (Box.new (w.alloc (.cells #[.int .i64 r, .int .i64 n, .slice A es.length c] 29)) #[.int .i64 0, .int .i64 0, .slice none 0 0] 29).mid (Mid.alloc _ (.cells #[.int .i64 r, .int .i64 ord.length, .slice none 0 0] 29)) (Or.inr (Nat.zero_le _))
  have Y3 := Box.new ((w.alloc (.cells #[.int .i64 r, .int .i64 n, .slice A es.length c] 29)).alloc (.cells #[.int .i64 0, .int .i64 0, .slice none 0 0] 29)) #[.int .i64 r, .int .i64 ord.length, .slice none 0 0] 29
  simp only [World.size_alloc, Nat.add_assoc, Nat.reduceAdd] at b2 Y3
  have e1 : ((ord.length : Int) == 0) = false := by simp only [beq_eq_false_iff_ne]; omega
  have e2 : decide ((n : Int) < (ord.length : Int)) = false := by simp; omega
  clear hg hnd hin
  go_enter Tryz.func136, Tryz.ntmps136
  go_wp2_with fail
  generalize hw1 : (((w.alloc (.cells #[.int .i64 r, .int .i64 n, .slice A es.length c] 29)).alloc (.cells #[.int .i64 0, .int .i64 0, .slice none 0 0] 29)).alloc (.cells #[.int .i64 r, .int .i64 ord.length, .slice none 0 0] 29)) = w1 at hm0 b0 b2 Y3 ⊢
  clear hw1
  with_reducible refine (spec_IsGraph r n A es c _ _ _ (hr.mid hm0 (Or.inl (Nat.zero_le _))).rv (by omega) true (iff_of_true rfl HG.out)).mono ?_
  rintro en w2 ⟨rfl, hm2⟩
  replace b0 := b0.mid hm2 (Or.inr (Nat.zero_le _))
  replace b2 := b2.mid hm2 (Or.inr (Nat.zero_le _))
  replace Y3 := Y3.mid hm2 (Or.inr (Nat.zero_le _))
  replace hm0 := hm0.trans hm2
  have p0 := b0.cell 0 rfl
  have p1 := b0.cell 1 rfl
  have p2 := b0.cell 2 rfl
  clear hm2
  go_wp2_with (at_make; refine wpList_mk rfl _ _ 25 rfl 3 (.int .i64 0) 8 undSI infoI rfl .i64 .i64 _ _ n rfl rfl rfl rfl (by omega) hmx ?_; intro w3 hown3 hgr3 hsz3)
  have hm3 := Mid.of_grown (lo := 0) (hi := 0) hgr3 (by intro g h; cases h)
  have hP3 : w.heap.size + 3 ≤ w2.heap.size := Y3.1
  replace b0 := b0.mid hm3 (Or.inr (Nat.zero_le _))
  replace b2 := b2.mid hm3 (Or.inr (Nat.zero_le _))
  replace Y3 := Y3.mid hm3 (Or.inr (Nat.zero_le _))
  replace hm0 := hm0.trans hm3
  obtain ⟨P, hP⟩ : ∃ P, w2.heap.size = P := ⟨_, rfl⟩
  rw [hP] at hown3 hsz3 hP3 ⊢
  clear hgr3 hm3 p0 p1 p2 hP
  go_loopw [8] (fun i wr => ∃ j : Nat, j ≤ ord.length ∧ i = .int .i64 j ∧ wr.ownsRow P 3 1 (.slice (some ⟨P, 0, none⟩) n n) n (ints (placeM n (ord.take j))) ∧
      Box wr w.heap.size [.int .i64 r, .int .i64 n, .slice A es.length c] ∧ Box wr (w.heap.size + 1) [.int .i64 0, .int .i64 0, .slice none 0 0] ∧ Box wr (w.heap.size + 2) [.int .i64 r, .int .i64 ord.length, .slice none 0 0] ∧ Mid 0 0 w wr) (fun i _ => ord.length - (intOf i).toNat)
  case atStart => exact ⟨0, Nat.zero_le _, rfl, by rw [List.take_zero, placeM_nil]; simpa [ints] using hown3, b0, b2, Y3, hm0⟩
  case round =>
    clear hown3 b0 b2 Y3 hm0 hsz3
    obtain ⟨wi, hwi⟩ : ∃ wi, wi = wr := ⟨_, rfl⟩
    subst hwi
    obtain ⟨j, hj, rfl, hown, b0, b2, Y3, hm⟩ := hrel
    by_cases hlt2 : j < ord.length
    · obtain ⟨B, off, x, rfl, hbh, hx, hcx⟩ := (hro.mid hm (Or.inl (Nat.zero_le _))).at hlt2
      have hxr := HIN.out x (List.mem_of_getElem? hx)
      obtain ⟨m, rfl⟩ : ∃ m : Nat, x = m := ⟨x.toNat, by omega⟩
      have hmk : m < n := by omega
      have hxn := not_in_take HND.out hx
      have hcs : wi.cell? ⟨P, m, none⟩ = some (.int .i64 0) := (hown.cellAt m (by omega)).trans (by rw [ints_get, placeM_get _ hmk, idxI_neg hxn]; rfl)
      have hfz := hown.frozenAt m
      have HX := Lib.hid hx
      have hPs : P < wi.heap.size := (hown.lt _ rfl).2
      have hBs : B < wi.heap.size := by have := hro.1; have := hm.size; omega
      have hib : inB (m : Int) 0 ((n : Int) - 1) = true := by unfold inB; simp; omega
      have hwr : IntKind.i64.wrap ((n : Int) - 1) = (n : Int) - 1 := IntWalk.i64_in _ (by omega)
      have u0 := wg_cell b0.1 (b0.cell 0 rfl)
      have u1 := wg_cell b0.1 (b0.cell 1 rfl)
      have u2 := wg_cell b0.1 (b0.cell 2 rfl)
      have u3 := wg_cell hBs hcx
      have u4 := wg_cell hPs hcs
      have hm1 : (m : Int) < (n : Int) := by omega
      have hm0 : (0 : Int) ≤ (m : Int) := by omega
      have hj1 : (j : Int) < (ord.length : Int) := by omega
      have hj0 : (0 : Int) ≤ (j : Int) := by omega
      clear hx hxn
      go_wp2_with fail
      refine wp_region_quiet_wg (by kernel_rfl) (by kernel_rfl) ?_
      repeat
        (with_reducible refine wpQuiet_step (fun K hK => ?_))
        go_simp
        first
          | ((with_reducible refine hK _ ?_); clear hK K)
          | (rw [if_neg (by decide)]; (with_reducible refine hK _ ?_); clear hK K)
          | (apply Exists.intro; refine ⟨fun _ => ?_, hK _ ?_⟩; ((go_at_call 77; exact Calls.wg_same (l1In_at hib _))); clear hK K)
      with_reducible refine wpQuiet_nil ?_
      intro _ hw'
      obtain ⟨⟨nq, osq⟩, hw''⟩ := hw'
      subst hw''
      have hwg := Mid.ofWg wi nq osq
      have hown2 := owns_mid hown hwg (Or.inl (Nat.zero_le _))
      have v4 := u4 nq osq
      have v3 := u3 nq osq
      have hfz2 := hown2.frozenAt m
      have hsv : (ints (placeM n (ord.take j))).set m (.int .i64 ((j : Int) + 1)) = ints (placeM n (ord.take (j + 1))) := by rw [← placeM_set HND.out HX.out hmk]; simp [ints]
      have hset2 := owns_set hown2 m (.int .i64 ((j : Int) + 1)) hsv
      have hst := Mid.setAt (wg wi nq osq) P m (.int .i64 ((j : Int) + 1))
      have hms := (hm.trans hwg).storeNew (p := ⟨P, m, none⟩) (by show w.heap.size ≤ P; omega) (.int .i64 ((j : Int) + 1))
      replace b0 := b0.mid hwg (Or.inr (Nat.zero_le _))
      replace b2 := b2.mid hwg (Or.inr (Nat.zero_le _))
      replace Y3 := Y3.mid hwg (Or.inr (Nat.zero_le _))
      replace b0 := b0.mid hst (Or.inl (by omega))
      replace b2 := b2.mid hst (Or.inl (by omega))
      replace Y3 := Y3.mid hst (Or.inl (by omega))
      clear hown hown2 hm u0 u1 u2 u3 u4 hwg hst hsv
      go_wp2_with fail
      go_roundw
      case rel => exact ⟨j + 1, by omega, by go_num, hset2, b0, b2, Y3, hms⟩
      case measure => simp [intOf]; omega
    · obtain rfl : j = ord.length := by omega
      rw [List.take_length] at hown
      have p0 := b0.cell 0 rfl
      have p1 := b0.cell 1 rfl
      have p2 := b0.cell 2 rfl
      go_wp2_with fail
      clear p0 p1 p2
      go_loopw [9] (fun i wr => ∃ (q : Nat) (A2 : Option Addr) (c2 lo2 hi2 : Nat) (xs : List Ed), q ≤ es.length ∧ i = .int .i64 q ∧ Hid (xs = putAll [] ((es.take q).filterMap (partOf ord))) ∧
          OG wr lo2 hi2 A2 c2 xs ∧ P ≤ lo2 ∧ wr.ownsRow P 3 1 (.slice (some ⟨P, 0, none⟩) n n) n (ints (placeM n ord)) ∧
          Box wr w.heap.size [.int .i64 r, .int .i64 n, .slice A es.length c] ∧ Box wr (w.heap.size + 1) [.int .i64 0, .int .i64 0, .slice none 0 0] ∧ Box wr (w.heap.size + 2) [.int .i64 r, .int .i64 ord.length, .slice A2 xs.length c2] ∧ Mid 0 0 w wr) (fun i _ => es.length - (intOf i).toNat)
      case atStart => exact ⟨0, none, 0, P, _, [], Nat.zero_le _, rfl, Lib.hid rfl, ⟨Nat.le_of_lt (show P < wi.heap.size from (hown.lt _ rfl).2), ⟨rfl, .inl ⟨rfl, rfl⟩⟩, fun g hg => by simp [Value.ownBlock] at hg⟩, Nat.le_refl _, hown, b0, b2, Y3, hm⟩
      case round =>
        clear hown b0 b2 Y3 hm
        obtain ⟨q, A2, c2, lo2, hi2, xs, hq, rfl, HX, hown, hlo2, hownP, b0, b2, Y3, hm⟩ := hrel
        have hxl : xs.length ≤ 120 := by
          have h1 := putAll_len [] ((es.take q).filterMap (partOf ord))
          have h2 := List.length_filterMap_le (partOf ord) (es.take q)
          rw [← HX.out] at h1
          simp at h1 h2
          omega
        by_cases hlt3 : q < es.length
        · obtain ⟨B, off, e, rfl, -, hbh, he, e0, e1, e2⟩ := (hr.mid hm (Or.inl (Nat.zero_le _))).ed hlt3
          have hin := HG.out.all e (List.mem_of_getElem? he)
          have htk : (es.take (q + 1)).filterMap (partOf ord) = (es.take q).filterMap (partOf ord) ++ (partOf ord e).toList := by
            rw [take_snoc he, List.filterMap_append]
            cases hd : partOf ord e <;> simp [hd]
          obtain ⟨i1, i2, i3, i4, i5, i6⟩ := hin
          obtain ⟨x, l, y⟩ := e
          simp only at i1 i2 i3 i4 i5 i6 e0 e1 e2 htk
          obtain ⟨ia, rfl⟩ : ∃ ia : Nat, x = ia := ⟨x.toNat, by omega⟩
          obtain ⟨ib, rfl⟩ : ∃ ib : Nat, y = ib := ⟨y.toNat, by omega⟩
          have hia : ia < n := by omega
          have hib : ib < n := by omega
          have hq0 : (0 : Int) ≤ (q : Int) := by omega
          have hq1 : (q : Int) < (es.length : Int) := by omega
          have hal := Mid.alloc wr (.cells #[.int .i64 ia, .int .i64 l, .int .i64 ib] 78)
          have ZE := Box.new wr #[.int .i64 ia, .int .i64 l, .int .i64 ib] 78
          have hgs : P < wr.heap.size := (hownP.lt _ rfl).2
          have p0 := b0.cell 0 rfl
          have p1 := b0.cell 1 rfl
          have p2 := b0.cell 2 rfl
          replace b0 := b0.mid hal (Or.inr (Nat.zero_le _))
          replace b2 := b2.mid hal (Or.inr (Nat.zero_le _))
          replace Y3 := Y3.mid hal (Or.inr (Nat.zero_le _))
          replace hownP := owns_mid hownP hal (Or.inl (Nat.zero_le _))
          replace hown := hown.mid hal (Or.inl (Nat.zero_le _))
          replace hm := hm.trans hal
          obtain ⟨pa, hpa⟩ : ∃ pa, idxI ord ia + 1 = pa := ⟨_, rfl⟩
          obtain ⟨pb, hpb⟩ : ∃ pb, idxI ord ib + 1 = pb := ⟨_, rfl⟩
          have hpa0 : pa ≤ 41 := by
            by_cases h : 0 ≤ idxI ord ia
            · have := idxI_lt h; omega
            · omega
          have hpb0 : pb ≤ 41 := by
            by_cases h : 0 ≤ idxI ord ib
            · have := idxI_lt h; omega
            · omega
          have hga : (ints (placeM n ord))[ia]? = some (.int .i64 pa) := by rw [ints_get, placeM_get ord hia, hpa]; rfl
          have hgb : (ints (placeM n ord))[ib]? = some (.int .i64 pb) := by rw [ints_get, placeM_get ord hib, hpb]; rfl
          have hca := (hownP.cellAt ia (by omega)).trans hga
          have hcb := (hownP.cellAt ib (by omega)).trans hgb
          have HTK := Lib.hid htk
          have HPA := Lib.hid hpa
          have HPB := Lib.hid hpb
          have HGA := Lib.hid hga
          have HGB := Lib.hid hgb
          clear he htk hpa hpb hga hgb
          by_cases hok : 0 < pa ∧ 0 < pb
          · have hpo : partOf ord ⟨(ia : Int), l, (ib : Int)⟩ = some ⟨pa - 1, l, pb - 1⟩ := by
              have h1 := HPA.out
              have h2 := HPB.out
              unfold partOf
              simp only
              rw [if_pos ⟨by omega, by omega⟩, ← h1, ← h2, Int.add_sub_cancel, Int.add_sub_cancel]
            have HT : Hid ((es.take (q + 1)).filterMap (partOf ord) = (es.take q).filterMap (partOf ord) ++ [⟨pa - 1, l, pb - 1⟩]) := Lib.hid (by rw [HTK.out, hpo]; rfl)
            have d1 : decide (0 < pa) = true := by simpa using hok.1
            have d2 : decide (0 < pb) = true := by simpa using hok.2
            have hpa1 := hok.1
            have hpb1 := hok.2
            clear hpo hok
            go_wp2_with fail
            clear e0 e1 e2 hca hcb d1 d2 p0 p1 p2
            generalize hwx : wr.alloc (.cells #[.int .i64 ia, .int .i64 l, .int .i64 ib] 78) = wx at ZE b0 b2 Y3 hown hownP hm ⊢
            generalize hgE : wr.heap.size = E at ZE hgs ⊢
            clear hgE hwx hal
            have hmd := Mid.drew1 wx
            replace b0 := b0.mid hmd (Or.inr (Nat.zero_le _))
            replace b2 := b2.mid hmd (Or.inr (Nat.zero_le _))
            replace Y3 := Y3.mid hmd (Or.inr (Nat.zero_le _))
            replace ZE := ZE.mid hmd (Or.inr (Nat.zero_le _))
            replace hownP := owns_mid hownP hmd (Or.inl (Nat.zero_le _))
            replace hown := hown.mid hmd (Or.inl (Nat.zero_le _))
            replace hm := hm.trans hmd
            have hca := (hownP.cellAt ia (by omega)).trans HGA.out
            have hcb := (hownP.cellAt ib (by omega)).trans HGB.out
            have f0 := ZE.cell 0 rfl
            have f1 := ZE.cell 1 rfl
            have f2 := ZE.cell 2 rfl
            have g2 := Y3.cell 2 rfl
            have hw1 : IntKind.i64.wrap (pa - 1) = pa - 1 := IntWalk.i64_in _ (by omega)
            have hw2 : IntKind.i64.wrap (pb - 1) = pb - 1 := IntWalk.i64_in _ (by omega)
            clear hmd
            refine wp_region_T (S := (fun w' => w'.cell? ⟨E, 0, none⟩ = some (.int .i64 ia) ∧ w'.cell? ⟨E, 1, none⟩ = some (.int .i64 l) ∧ w'.cell? ⟨E, 2, none⟩ = some (.int .i64 ib) ∧ w'.cell? ⟨w.heap.size + 2, 2, none⟩ = some (.slice A2 xs.length c2) ∧ w'.cell? ⟨P, ia, none⟩ = some (.int .i64 pa) ∧ w'.cell? ⟨P, ib, none⟩ = some (.int .i64 pb))) 19 (by kernel_rfl) ⟨f0, f1, f2, g2, hca, hcb⟩ ?_
            generalize World.drew wx = wz at b0 b2 Y3 ZE hown hownP hm f0 f1 f2 g2 hca hcb ⊢
            have hS : wz.cell? ⟨E, 0, none⟩ = some (.int .i64 ia) ∧ wz.cell? ⟨E, 1, none⟩ = some (.int .i64 l) ∧ wz.cell? ⟨E, 2, none⟩ = some (.int .i64 ib) ∧ wz.cell? ⟨w.heap.size + 2, 2, none⟩ = some (.slice A2 xs.length c2) ∧ wz.cell? ⟨P, ia, none⟩ = some (.int .i64 pa) ∧ wz.cell? ⟨P, ib, none⟩ = some (.int .i64 pb) := ⟨f0, f1, f2, g2, hca, hcb⟩
            refine wpAnyT_take (i := 0) (v := ?_) rfl (by kernel_rfl) (by kernel_rfl) (by kernel_rfl) (by kernel_rfl) (fun _ _ _ h => h) (Or.inl ⟨by rfl, ?_⟩) hS ?_
            rotate_left
            focus (intro w hSw; (try dsimp only at hSw); go_simp; try with_reducible rfl)
            try simp only [Act.put, List.setIfInBounds_toArray, List.set_cons_zero, List.set_cons_succ, List.getElem_toArray, List.getElem_cons_zero, List.getElem_cons_succ]
            refine wpAnyT_take (i := 1) (v := ?_) rfl (by kernel_rfl) (by kernel_rfl) (by kernel_rfl) (by kernel_rfl) (fun _ _ _ h => h) (Or.inl ⟨by rfl, ?_⟩) hS ?_
            rotate_left
            focus (intro w hSw; (try dsimp only at hSw); go_simp; try with_reducible rfl)
            try simp only [Act.put, List.setIfInBounds_toArray, List.set_cons_zero, List.set_cons_succ, List.getElem_toArray, List.getElem_cons_zero, List.getElem_cons_succ]
            refine wpAnyT_take (i := 2) (v := ?_) rfl (by kernel_rfl) (by kernel_rfl) (by kernel_rfl) (by kernel_rfl) (fun _ _ _ h => h) (Or.inl ⟨by rfl, ?_⟩) hS ?_
            rotate_left
            focus (intro w hSw; (try dsimp only at hSw); go_simp; try with_reducible rfl)
            try simp only [Act.put, List.setIfInBounds_toArray, List.set_cons_zero, List.set_cons_succ, List.getElem_toArray, List.getElem_cons_zero, List.getElem_cons_succ]
            refine wpAnyT_take (i := 3) (v := ?_) rfl (by kernel_rfl) (by kernel_rfl) (by kernel_rfl) (by kernel_rfl) (fun _ _ _ h => h) (Or.inl ⟨by rfl, ?_⟩) hS ?_
            rotate_left
            focus (intro w hSw; (try dsimp only at hSw); go_simp; try with_reducible rfl)
            try simp only [Act.put, List.setIfInBounds_toArray, List.set_cons_zero, List.set_cons_succ, List.getElem_toArray, List.getElem_cons_zero, List.getElem_cons_succ]
            refine wpAnyT_take (i := 4) (v := ?_) rfl (by kernel_rfl) (by kernel_rfl) (by kernel_rfl) (by kernel_rfl) (fun _ _ _ h => h) (Or.inl ⟨by rfl, ?_⟩) hS ?_
            rotate_left
            focus (intro w hSw; (try dsimp only at hSw); go_simp; try with_reducible rfl)
            try simp only [Act.put, List.setIfInBounds_toArray, List.set_cons_zero, List.set_cons_succ, List.getElem_toArray, List.getElem_cons_zero, List.getElem_cons_succ]
            refine wpAnyT_take (i := 5) (v := ?_) rfl (by kernel_rfl) (by kernel_rfl) (by kernel_rfl) (by kernel_rfl) (fun _ _ _ h => h) (Or.inl ⟨by rfl, ?_⟩) hS ?_
            rotate_left
            focus (intro w hSw; (try dsimp only at hSw); go_simp; try with_reducible rfl)
            try simp only [Act.put, List.setIfInBounds_toArray, List.set_cons_zero, List.set_cons_succ, List.getElem_toArray, List.getElem_cons_zero, List.getElem_cons_succ]
            refine wpAnyT_take (i := 6) (v := ?_) rfl (by kernel_rfl) (by kernel_rfl) (by kernel_rfl) (by kernel_rfl) (fun _ _ _ h => h) (Or.inl ⟨by rfl, ?_⟩) hS ?_
            rotate_left
            focus (intro w hSw; (try dsimp only at hSw); go_simp; try with_reducible rfl)
            try simp only [Act.put, List.setIfInBounds_toArray, List.set_cons_zero, List.set_cons_succ, List.getElem_toArray, List.getElem_cons_zero, List.getElem_cons_succ]
            refine wpAnyT_take (i := 7) (v := ?_) rfl (by kernel_rfl) (by kernel_rfl) (by kernel_rfl) (by kernel_rfl) (fun _ _ _ h => h) (Or.inl ⟨by rfl, ?_⟩) hS ?_
            rotate_left
            focus (intro w hSw; (try dsimp only at hSw); go_simp; try with_reducible rfl)
            try simp only [Act.put, List.setIfInBounds_toArray, List.set_cons_zero, List.set_cons_succ, List.getElem_toArray, List.getElem_cons_zero, List.getElem_cons_succ]
            refine wpAnyT_take (i := 8) (v := ?_) rfl (by kernel_rfl) (by kernel_rfl) (by kernel_rfl) (by kernel_rfl) (fun _ _ _ h => h) (Or.inl ⟨by rfl, ?_⟩) hS ?_
            rotate_left
            focus (intro w hSw; (try dsimp only at hSw); go_simp; try with_reducible rfl)
            try simp only [Act.put, List.setIfInBounds_toArray, List.set_cons_zero, List.set_cons_succ, List.getElem_toArray, List.getElem_cons_zero, List.getElem_cons_succ]
            refine wpAnyT_take (i := 9) (v := ?_) rfl (by kernel_rfl) (by kernel_rfl) (by kernel_rfl) (by kernel_rfl) (fun _ _ _ h => h) (Or.inl ⟨by rfl, ?_⟩) hS ?_
            rotate_left
            focus (intro w hSw; (try dsimp only at hSw); go_simp; try with_reducible rfl)
            try simp only [Act.put, List.setIfInBounds_toArray, List.set_cons_zero, List.set_cons_succ, List.getElem_toArray, List.getElem_cons_zero, List.getElem_cons_succ]
            refine wpAnyT_take (i := 10) (v := ?_) rfl (by kernel_rfl) (by kernel_rfl) (by kernel_rfl) (by kernel_rfl) (fun _ _ _ h => h) (Or.inl ⟨by rfl, ?_⟩) hS ?_
            rotate_left
            focus (intro w hSw; (try dsimp only at hSw); go_simp; try with_reducible rfl)
            try simp only [Act.put, List.setIfInBounds_toArray, List.set_cons_zero, List.set_cons_succ, List.getElem_toArray, List.getElem_cons_zero, List.getElem_cons_succ]
            refine wpAnyT_take (i := 11) (v := ?_) rfl (by kernel_rfl) (by kernel_rfl) (by kernel_rfl) (by kernel_rfl) (fun _ _ _ h => h) (Or.inl ⟨by rfl, ?_⟩) hS ?_
            rotate_left
            focus (intro w hSw; (try dsimp only at hSw); go_simp; try with_reducible rfl)
            try simp only [Act.put, List.setIfInBounds_toArray, List.set_cons_zero, List.set_cons_succ, List.getElem_toArray, List.getElem_cons_zero, List.getElem_cons_succ]
            refine wpAnyT_take (i := 12) (v := ?_) rfl (by kernel_rfl) (by kernel_rfl) (by kernel_rfl) (by kernel_rfl) (fun _ _ _ h => h) (Or.inl ⟨by rfl, ?_⟩) hS ?_
            rotate_left
            focus (intro w hSw; (try dsimp only at hSw); go_simp; try with_reducible rfl)
            try simp only [Act.put, List.setIfInBounds_toArray, List.set_cons_zero, List.set_cons_succ, List.getElem_toArray, List.getElem_cons_zero, List.getElem_cons_succ]
            refine wpAnyT_take (i := 13) (v := ?_) rfl (by kernel_rfl) (by kernel_rfl) (by kernel_rfl) (by kernel_rfl) (fun _ _ _ h => h) (Or.inl ⟨by rfl, ?_⟩) hS ?_
            rotate_left
            focus (intro w hSw; (try dsimp only at hSw); go_simp; try with_reducible rfl)
            try simp only [Act.put, List.setIfInBounds_toArray, List.set_cons_zero, List.set_cons_succ, List.getElem_toArray, List.getElem_cons_zero, List.getElem_cons_succ]
            refine wpAnyT_take (i := 14) (v := ?_) rfl (by kernel_rfl) (by kernel_rfl) (by kernel_rfl) (by kernel_rfl) (fun _ _ _ h => h) (Or.inl ⟨by rfl, ?_⟩) hS ?_
            rotate_left
            focus (intro w hSw; (try dsimp only at hSw); go_simp; try with_reducible rfl)
            try simp only [Act.put, List.setIfInBounds_toArray, List.set_cons_zero, List.set_cons_succ, List.getElem_toArray, List.getElem_cons_zero, List.getElem_cons_succ]
            refine wpAnyT_take (i := 15) (v := ?_) rfl (by kernel_rfl) (by kernel_rfl) (by kernel_rfl) (by kernel_rfl) (fun _ _ _ h => h) (Or.inl ⟨by rfl, ?_⟩) hS ?_
            rotate_left
            focus (intro w hSw; (try dsimp only at hSw); go_simp; try with_reducible rfl)
            try simp only [Act.put, List.setIfInBounds_toArray, List.set_cons_zero, List.set_cons_succ, List.getElem_toArray, List.getElem_cons_zero, List.getElem_cons_succ]
            refine wpAnyT_take (i := 16) (v := ?_) rfl (by kernel_rfl) (by kernel_rfl) (by kernel_rfl) (by kernel_rfl) (fun _ _ _ h => h) (Or.inl ⟨by rfl, ?_⟩) hS ?_
            rotate_left
            focus (intro w hSw; (try dsimp only at hSw); go_simp; try with_reducible rfl)
            try simp only [Act.put, List.setIfInBounds_toArray, List.set_cons_zero, List.set_cons_succ, List.getElem_toArray, List.getElem_cons_zero, List.getElem_cons_succ]
            have hQ := spec_l4Put A2 xs c2 ⟨pa - 1, l, pb - 1⟩ wz _ _ hown.rg (by omega)
            refine wpAnyT_ready (rs := [17]) (by kernel_rfl) (by simp) (AllReadyT.cons rfl (fun K hK => ?_) AllReadyT.nil)
            (go_simp; refine hQ.mono ?_; rintro en w9 ⟨A9, c9, rfl, ho9, hm9⟩; have b0' := b0.mid hm9 (Or.inr (Nat.zero_le _)); have b2' := b2.mid hm9 (Or.inr (Nat.zero_le _)); have Y3' := Y3.mid hm9 (Or.inr (Nat.zero_le _)); have ZE' := ZE.mid hm9 (Or.inr (Nat.zero_le _)); have hP9 := owns_mid hownP hm9 (Or.inl (Nat.zero_le _)); go_wp2_with fail)
            refine hK.out _ _ (Or.inr ⟨ZE'.cell 0 rfl, ZE'.cell 1 rfl, ZE'.cell 2 rfl, Y3'.cell 2 rfl, (hP9.cellAt ia (by omega)).trans HGA.out, (hP9.cellAt ib (by omega)).trans HGB.out⟩) (fun _ => ?_)
            clear hK K
            try simp only [Act.put, List.setIfInBounds_toArray, List.set_cons_zero, List.set_cons_succ, List.getElem_toArray, List.getElem_cons_zero, List.getElem_cons_succ]
            have hmr9 := hm.trans hm9
            have hPz : P ≤ wz.heap.size := Nat.le_of_lt (show P < wz.heap.size from (hownP.lt _ rfl).2)
            have hS3 := And.intro (ZE'.cell 0 rfl) (And.intro (ZE'.cell 1 rfl) (And.intro (ZE'.cell 2 rfl) (And.intro (Y3'.cell 2 rfl) (And.intro ((hP9.cellAt ia (by omega)).trans HGA.out) ((hP9.cellAt ib (by omega)).trans HGB.out)))))
            have hr2 := Y3'.cell 2 rfl
            have hrf := Y3'.2.2
            clear hS b0 b2 Y3 ZE hm hown hownP f0 f1 f2 g2 hca hcb hQ
            refine wpAnyT_take (i := 18) (v := ?_) rfl (by kernel_rfl) (by kernel_rfl) (by kernel_rfl) (by kernel_rfl) (fun _ _ _ h => h) (Or.inl ⟨by rfl, ?_⟩) hS3 ?_
            rotate_left
            focus (intro w hSw; (try dsimp only at hSw); go_simp; try with_reducible rfl)
            try simp only [Act.put, List.setIfInBounds_toArray, List.set_cons_zero, List.set_cons_succ, List.getElem_toArray, List.getElem_cons_zero, List.getElem_cons_succ]
            refine wpAnyT_ready (rs := [19]) (by kernel_rfl) (by simp) (AllReadyT.cons rfl (fun K hK => ?_) AllReadyT.nil)
            (go_simp)
            refine hK.out _ _ (Or.inl rfl) (fun _ => ?_)
            clear hK K
            try simp only [Act.put, List.setIfInBounds_toArray, List.set_cons_zero, List.set_cons_succ, List.getElem_toArray, List.getElem_cons_zero, List.getElem_cons_succ]
            refine wpAnyT_done (by kernel_rfl) ?_ _
            go_wp2_with fail
            go_roundw
            case rel =>
              have hst := Mid.setAt w9 (w.heap.size + 2) 2 (.slice A9 (putE ⟨pa - 1, l, pb - 1⟩ xs).length c9)
              refine ⟨q + 1, A9, c9, _, _, _, by omega, by go_num, Lib.hid ?_, ho9.mid hst (Or.inl (by omega)), hPz, owns_mid hP9 hst (Or.inl (by omega)), b0'.mid hst (Or.inl (by omega)), b2'.mid hst (Or.inl (by omega)), Y3'.set 2 _ (by simp) rfl, hmr9.storeNew (by show w.heap.size ≤ w.heap.size + 2; omega) _⟩
              rw [HT.out, putAll_snoc, ← HX.out]
            case measure => simp [intOf]; omega
          · have hpo : partOf ord ⟨(ia : Int), l, (ib : Int)⟩ = none := by
              have h1 := HPA.out
              have h2 := HPB.out
              unfold partOf
              simp only
              rw [if_neg (fun h => hok ⟨by omega, by omega⟩)]
            have HT : Hid ((es.take (q + 1)).filterMap (partOf ord) = (es.take q).filterMap (partOf ord)) := Lib.hid (by rw [HTK.out, hpo]; simp)
            by_cases h1 : 0 < pa
            · have d1 : decide (0 < pa) = true := by simpa using h1
              have d2 : decide (0 < pb) = false := by simp; omega
              clear hpo hok h1
              go_wp2_with fail
              go_roundw
              case rel => exact ⟨q + 1, A2, c2, lo2, hi2, xs, by omega, by go_num, by rw [HT.out]; exact HX, hown, hlo2, hownP, b0, b2, Y3, hm⟩
              case measure => simp [intOf]; omega
            · have d1 : decide (0 < pa) = false := by simp; omega
              clear hpo hok h1
              go_wp2_with fail
              go_roundw
              case rel => exact ⟨q + 1, A2, c2, lo2, hi2, xs, by omega, by go_num, by rw [HT.out]; exact HX, hown, hlo2, hownP, b0, b2, Y3, hm⟩
              case measure => simp [intOf]; omega
        · obtain rfl : q = es.length := by omega
          have hxx := HX.out
          rw [List.take_length] at hxx
          have HXX := Lib.hid (show xs = partE ord es from hxx)
          clear hxx
          have p0 := b0.cell 0 rfl
          have p1 := b0.cell 1 rfl
          have p2 := b0.cell 2 rfl
          have a0 := b2.cell 0 rfl
          have a1 := b2.cell 1 rfl
          have a2 := b2.cell 2 rfl
          have x0 := Y3.cell 0 rfl
          have x1 := Y3.cell 1 rfl
          have x2 := Y3.cell 2 rfl
          have af := b2.2.2
          have bf := Y3.2.2
          go_wp2_with fail
          refine bodyPost_ret (v := .tuple #[.agg #[.int .i64 r, .int .i64 ord.length, .slice A2 xs.length c2], .bool true]) (by simp [results, Tryz.results136, go_sem, a0, a1, a2, x0, x1, x2, af, bf]) rfl ⟨A2, c2, by rw [HXX.out], ?_, ?_⟩
          · rw [← HXX.out]
            refine OG.wide (OG.mid hown (a := w.heap.size) (b := w.heap.size + 3) ?_ (Or.inl (by omega))) (by omega) (by have := hown.size; simpa using this) (Nat.le_refl _)
            repeat (first | exact Mid.refl _ _ _ | refine Mid.stored ?_ _ (by simp; try omega) (by simp; try omega))
          · repeat (first | exact hm | refine Mid.storeNew ?_ (by simp; try omega) _)
end Go.Proofs.YtimmnnncgnnkgaaGreat

/- EqualGraphs, of both. -/
namespace Go.Proofs.YtimmnnncgnnkgaaGreat
set_option linter.unusedVariables false
set_option linter.unusedSimpArgs false
open Go.RowKit

set_option maxHeartbeats 3200000 in
theorem impl_EqualGraphs (r s : Int) (A : Option Addr) (es : List Ed) (c : Nat) (r' s' : Int) (A' : Option Addr) (es' : List Ed) (c' : Nat) (w : World) (lo hi lo' hi' : Nat) (hr : RG w lo hi A es) (hr' : RG w lo' hi' A' es') (hl : es.length ≤ 1048576) (hl' : es'.length ≤ 1048576) (b : Bool) (hb : b = true ↔ r = r' ∧ s = s' ∧ es = es') :
    Calls Tryz.prog 99 #[graV r s A es.length c, graV r' s' A' es'.length c'] w fun e w' => e = .returned (.bool b) ∧ Mid 0 0 w w' := by
  have HB := Lib.hid hb
  clear hb
  have hm0 : Mid 0 0 w ((w.alloc (.cells #[.int .i64 r, .int .i64 s, .slice A es.length c] 29)).alloc (.cells #[.int .i64 r', .int .i64 s', .slice A' es'.length c'] 29)) := (Mid.alloc _ _).trans (Mid.alloc _ _)
  by_cases h1 : r = r'
  · by_cases h2 : s = s'
    · subst h1 h2
      have hbd : decide (es = es') = b := by rw [Bool.eq_iff_iff, HB.out]; simp
      have HBD := Lib.hid hbd
      clear hbd
      clear HB
      go_enter Tryz.func99, Tryz.ntmps99
      go_wp2_with fail
      with_reducible refine (equalE A A' es es' c c' _ _ _ _ _ (hr.mid hm0 (Or.inl (Nat.zero_le _))) (hr'.mid hm0 (Or.inl (Nat.zero_le _))) hl hl').mono ?_
      rintro en w1 ⟨rfl, hm1⟩
      have hmm := hm0.trans hm1
      rw [HBD.out]
      clear HBD
      cases b with
      | false =>
        go_wp2_with fail
        go_ret
        exact ⟨rfl, hmm⟩
      | true =>
        go_wp2_with fail
        go_ret
        exact ⟨rfl, hmm⟩
    · have b2 : (s == s') = false := by simpa only [beq_eq_false_iff_ne] using h2
      obtain rfl : b = false := bool_no HB.out fun h => h2 h.2.1
      subst h1
      clear HB h2
      go_enter Tryz.func99, Tryz.ntmps99
      go_wp2_with fail
      go_ret
      exact ⟨rfl, hm0⟩
  · have b2 : (r == r') = false := by simpa only [beq_eq_false_iff_ne] using h1
    obtain rfl : b = false := bool_no HB.out fun h => h1 h.1
    clear HB h1
    go_enter Tryz.func99, Tryz.ntmps99
    go_wp2_with fail
    go_ret
    exact ⟨rfl, hm0⟩

set_option maxHeartbeats 3200000 in
set_option maxRecDepth 20000 in
theorem spec_EqualGraphs (r s : Int) (A : Option Addr) (es : List Ed) (c : Nat) (r' s' : Int) (A' : Option Addr) (es' : List Ed) (c' : Nat) (w : World) (lo hi lo' hi' : Nat) (hr : RG w lo hi A es) (hr' : RG w lo' hi' A' es') (hl : es.length ≤ 1048576) (hl' : es'.length ≤ 1048576) (b : Bool) (hb : b = true ↔ r = r' ∧ s = s' ∧ es = es') :
    Calls Tryz.prog 132 #[graV r s A es.length c, graV r' s' A' es'.length c'] w fun e w' => e = .returned (.bool b) ∧ Mid 0 0 w w' := by
  have HB := Lib.hid hb
  clear hb
  have hm0 : Mid 0 0 w ((w.alloc (.cells #[.int .i64 r, .int .i64 s, .slice A es.length c] 29)).alloc (.cells #[.int .i64 r', .int .i64 s', .slice A' es'.length c'] 29)) := (Mid.alloc _ _).trans (Mid.alloc _ _)
  by_cases h1 : r = r'
  · by_cases h2 : s = s'
    · by_cases h3 : es.length = es'.length
      · subst h1 h2
        have HL := Lib.hid h3
        have b0 : (r != r) = false := by simp
        have b1 : (s != s) = false := by simp
        have b2 : ((es.length : Int) != (es'.length : Int)) = false := by simp; omega
        have B0 := (Box.new w #[.int .i64 r, .int .i64 s, .slice A es.length c] 29).mid (Mid.alloc _ (.cells #[.int .i64 r, .int .i64 s, .slice A' es'.length c'] 29)) (Or.inr (Nat.zero_le _))
        have B1 := Box.new (w.alloc (.cells #[.int .i64 r, .int .i64 s, .slice A es.length c] 29)) #[.int .i64 r, .int .i64 s, .slice A' es'.length c'] 29
        rw [World.size_alloc] at B1
        have hle1 : es.length ≤ es'.length := by omega
        have hle2 : es'.length ≤ es.length := by omega
        clear h3
        go_enter Tryz.func132, Tryz.ntmps132
        go_wp2_with fail
        go_loopw [5] (fun i wr => ∃ (k : Nat), k ≤ es.length ∧ i = .int .i64 k ∧ Hid (∀ j, j < k → es[j]? = es'[j]?) ∧ Box wr w.heap.size [.int .i64 r, .int .i64 s, .slice A es.length c] ∧ Box wr (w.heap.size + 1) [.int .i64 r, .int .i64 s, .slice A' es'.length c'] ∧ Mid 0 0 w wr) (fun i _ => es.length - (intOf i).toNat)
        case atStart => exact ⟨0, Nat.zero_le _, rfl, Lib.hid (fun j h => absurd h (Nat.not_lt_zero _)), B0, B1, hm0⟩
        case round =>
          clear B0 B1 hm0
          obtain ⟨k, hk, rfl, HE, bx, by1, hm⟩ := hrel
          have p0 := bx.cell 0 rfl
          have p1 := bx.cell 1 rfl
          have p2 := bx.cell 2 rfl
          have q0 := by1.cell 0 rfl
          have q1 := by1.cell 1 rfl
          have q2 := by1.cell 2 rfl
          by_cases hlt : k < es.length
          · obtain ⟨B, off, e, rfl, -, hbh, he, e0, e1, e2⟩ := (hr.mid hm (Or.inl (Nat.zero_le _))).ed hlt
            obtain ⟨B', off', f, rfl, -, hbh', hf, f0, f1, f2⟩ := (hr'.mid hm (Or.inl (Nat.zero_le _))).ed (k := k) (by omega)
            have hs1 : B < wr.heap.size := Nat.lt_of_lt_of_le hbh (Nat.le_trans hr.1 hm.size)
            have hs2 : B' < wr.heap.size := Nat.lt_of_lt_of_le hbh' (Nat.le_trans hr'.1 hm.size)
            have x0 := wg_cell hs1 e0
            have x1 := wg_cell hs1 e1
            have x2 := wg_cell hs1 e2
            have y0 := wg_cell hs2 f0
            have y1 := wg_cell hs2 f1
            have y2 := wg_cell hs2 f2
            have u2 := wg_cell bx.1 p2
            have v2 := wg_cell by1.1 q2
            have hk0 : (0 : Int) ≤ (k : Int) := by omega
            have hkn : (k : Int) < (es.length : Int) := by omega
            have hkm : (k : Int) < (es'.length : Int) := by omega
            have hgd := guardEd e f
            have HE1 := Lib.hid he
            have HF1 := Lib.hid hf
            clear he hf
            by_cases hef : e = f
            · have hq := neqEd_run e f (show decide (e ≠ f) = false by simp [hef])
              have HEF := Lib.hid hef
              clear hef
              go_wp2_with fail
              refine wp_region_quiet_wg (by kernel_rfl) (by kernel_rfl) ?_
              repeat
                (with_reducible refine wpQuiet_step (fun K hK => ?_))
                go_simp
                first
                  | ((with_reducible refine hK _ ?_); clear hK K)
                  | (rw [if_neg (by decide)]; (with_reducible refine hK _ ?_); clear hK K)
                  | (apply Exists.intro; refine ⟨fun _ => ?_, hK _ ?_⟩; (fail); clear hK K)
              with_reducible refine wpQuiet_nil ?_
              intro _ hw'
              obtain ⟨⟨nq, osq⟩, hw''⟩ := hw'
              subst hw''
              go_wp2_with fail
              go_roundw
              case rel =>
                have hwg := Mid.ofWg wr nq osq
                refine ⟨k + 1, by omega, by go_num, Lib.hid fun j hj => ?_, bx.mid hwg (Or.inr (Nat.zero_le _)), by1.mid hwg (Or.inr (Nat.zero_le _)), hm.trans hwg⟩
                by_cases h : j < k
                · exact HE.out j h
                · obtain rfl : j = k := by omega
                  rw [HE1.out, HF1.out, HEF.out]
              case measure => simp [intOf]; omega
            · have hq := neqEd_run e f (show decide (e ≠ f) = true by simp [hef])
              obtain rfl : b = false := bool_no HB.out fun h => hef (by
                have h1 := HE1.out
                rw [h.2.2, HF1.out] at h1
                injection h1 with h1
                exact h1.symm)
              clear hef
              go_wp2_with fail
              refine wp_region_quiet_wg (by kernel_rfl) (by kernel_rfl) ?_
              repeat
                (with_reducible refine wpQuiet_step (fun K hK => ?_))
                go_simp
                first
                  | ((with_reducible refine hK _ ?_); clear hK K)
                  | (rw [if_neg (by decide)]; (with_reducible refine hK _ ?_); clear hK K)
                  | (apply Exists.intro; refine ⟨fun _ => ?_, hK _ ?_⟩; (fail); clear hK K)
              with_reducible refine wpQuiet_nil ?_
              intro _ hw'
              obtain ⟨⟨nq, osq⟩, hw''⟩ := hw'
              subst hw''
              go_wp2_with fail
              go_ret
              exact ⟨rfl, hm.trans (Mid.ofWg wr nq osq)⟩
          · obtain rfl : k = es.length := by omega
            obtain rfl : b = true := HB.out.2 ⟨by trivial, by trivial, List.ext_getElem? fun j => by
              by_cases h : j < es.length
              · exact HE.out j h
              · rw [List.getElem?_eq_none (by omega), List.getElem?_eq_none (by omega)]⟩
            go_wp2_with fail
            go_ret
            exact ⟨rfl, hm⟩
      · subst h1 h2
        have b0 : (r != r) = false := by simp
        have b1 : (s != s) = false := by simp
        have b2 : ((es.length : Int) != (es'.length : Int)) = true := by simp; omega
        obtain rfl : b = false := bool_no HB.out fun h => h3 (by rw [h.2.2])
        clear HB h3
        go_enter Tryz.func132, Tryz.ntmps132
        go_wp2_with fail
        go_ret
        exact ⟨rfl, hm0⟩
    · have b2 : (s != s') = true := by simpa using h2
      have b0 : (r != r') = false := by simpa using h1
      obtain rfl : b = false := bool_no HB.out fun h => h2 h.2.1
      clear HB h2 h1
      go_enter Tryz.func132, Tryz.ntmps132
      go_wp2_with fail
      go_ret
      exact ⟨rfl, hm0⟩
  · have b2 : (r != r') = true := by simpa using h1
    obtain rfl : b = false := bool_no HB.out fun h => h1 h.1
    clear HB h1
    go_enter Tryz.func132, Tryz.ntmps132
    go_wp2_with fail
    go_ret
    exact ⟨rfl, hm0⟩
end Go.Proofs.YtimmnnncgnnkgaaGreat

/- CanonicalOrder of the program, CanonicalGraph of both. -/
namespace Go.Proofs.YtimmnnncgnnkgaaGreat
set_option linter.unusedVariables false
set_option linter.unusedSimpArgs false
open Go.RowKit

set_option maxHeartbeats 1600000 in
theorem impl_CanonicalOrder (r n : Nat) (A : Option Addr) (es : List Ed) (c : Nat) (w : World) (lo hi : Nat) (hr : RG w lo hi A es) (hcl : es.length ≤ c) (hf : IsFol r n es) :
    Calls Tryz.prog 143 #[graV r n A es.length c] w fun e w' => ∃ A1 c1, e = .returned (.slice A1 (ordE r es 0).length c1) ∧ RV w' 0 w'.heap.size A1 (ints (ordE r es 0)) ∧ Mid 0 0 w w' := by
  have hl := hf.gr.len
  have hn1 : 0 < n := by have := hf.gr.size; omega
  have hm0 : Mid 0 0 w (w.alloc (.cells #[.int .i64 r, .int .i64 n, .slice A es.length c] 29)) := Mid.alloc _ _
  have B0 := Box.new w #[.int .i64 r, .int .i64 n, .slice A es.length c] 29
  have HF := Lib.hid hf
  clear hf
  go_enter Tryz.func143, Tryz.ntmps143
  go_wp2_with fail
  with_reducible refine (impl_IsFolded r n A es c _ _ _ (hr.mid hm0 (Or.inl (Nat.zero_le _))) (by omega) hcl true (iff_of_true rfl HF.out)).mono ?_
  rintro en w1 ⟨rfl, hm1⟩
  replace B0 := B0.mid hm1 (Or.inr (Nat.zero_le _))
  replace hm0 := hm0.trans hm1
  have p0 := B0.cell 0 rfl
  have p1 := B0.cell 1 rfl
  have p2 := B0.cell 2 rfl
  have hT := impl_tree r n 0 A es c w1 lo hi (hr.mid hm0 (Or.inl (Nat.zero_le _))) HF.out.gr hn1
  have h00 : ((0 : Nat) : Int) = 0 := rfl
  rw [h00] at hT
  go_wp2_with fail
  with_reducible refine (hT).mono ?_
  rintro en w2 ⟨A1, c1, rfl, hm2, hord, -⟩
  have hx := (owns_rv hord).wide (Nat.zero_le _) (Nat.le_refl _) (Nat.le_refl _)
  go_wp2_with fail
  go_ret
  exact ⟨A1, c1, rfl, hx, hm0.trans hm2⟩

theorem canonG_fol {r n : Nat} {es : List Ed} (h : IsFol r n es) : canonG r ((n : Int), es) = (((ordE r es 0).length : Int), partE (ordE r es 0) es) := if_pos h
theorem canonG_no {r s : Int} {es : List Ed} (h : ¬ IsFol r s es) : canonG r (s, es) = (s, es) := if_neg h
theorem ordE_ok {r n : Nat} {es : List Ed} (h : IsFol r n es) : 0 < (ordE r es 0).length ∧ (ordE r es 0).Nodup ∧ ∀ x ∈ ordE r es 0, 0 ≤ x ∧ x < (n : Int) := by
  have hs := h.gr.size
  obtain ⟨h1, -, h2, h3⟩ := ordE_len h.gr (v := 0) (Int.le_refl _) (by omega)
  exact ⟨h1, h2, h3⟩

set_option maxHeartbeats 1000000 in
set_option maxRecDepth 20000 in
theorem impl_CanonicalGraph (r n : Nat) (A : Option Addr) (es : List Ed) (c : Nat) (w : World) (lo hi : Nat) (hr : RG w lo hi A es) (hcl : es.length ≤ c) (hg : IsGr r n es) :
    Calls Tryz.prog 100 #[graV r n A es.length c] w fun e w' => ∃ A1 c1, e = .returned (graV r (canonG r ((n : Int), es)).1 A1 (canonG r ((n : Int), es)).2.length c1) ∧ OG w' w.heap.size w'.heap.size A1 c1 (canonG r ((n : Int), es)).2 ∧ Mid 0 0 w w' := by
  have hl := hg.len
  have hm0 : Mid 0 0 w ((w.alloc (.cells #[.int .i64 r, .int .i64 n, .slice A es.length c] 29)).alloc (.cells #[.int .i64 0, .int .i64 0, .slice none 0 0] 29)) := (Mid.alloc _ _).trans (Mid.alloc _ _)
  have b0 := (Box.new w #[.int .i64 r, .int .i64 n, .slice A es.length c] 29).mid (Mid.alloc _ (.cells #[.int .i64 0, .int .i64 0, .slice none 0 0] 29)) (Or.inr (Nat.zero_le _))
  have b2 := Box.new (w.alloc (.cells #[.int .i64 r, .int .i64 n, .slice A es.length c] 29)) #[.int .i64 0, .int .i64 0, .slice none 0 0] 29
  simp only [World.size_alloc] at b2
  have HG := Lib.hid hg
  clear hg
  by_cases hf : IsFol r n es
  · rw [canonG_fol hf]
    have HF := Lib.hid hf
    clear hf
    go_enter Tryz.func100, Tryz.ntmps100
    go_wp2_with fail
    with_reducible refine (impl_IsFolded r n A es c _ _ _ (hr.mid hm0 (Or.inl (Nat.zero_le _))) (by omega) hcl true (iff_of_true rfl HF.out)).mono ?_
    rintro en w1 ⟨rfl, hm1⟩
    replace b0 := b0.mid hm1 (Or.inr (Nat.zero_le _))
    replace b2 := b2.mid hm1 (Or.inr (Nat.zero_le _))
    replace hm0 := hm0.trans hm1
    go_wp2_with fail
    have hmd := Mid.drew1 w1
    replace b0 := b0.mid hmd (Or.inr (Nat.zero_le _))
    replace b2 := b2.mid hmd (Or.inr (Nat.zero_le _))
    replace hm0 := hm0.trans hmd
    have p0 := b0.cell 0 rfl
    have p1 := b0.cell 1 rfl
    have p2 := b0.cell 2 rfl
    refine wp_region_T (S := (fun w' => w'.cell? ⟨w.heap.size, 0, none⟩ = some (.int .i64 r) ∧ w'.cell? ⟨w.heap.size, 1, none⟩ = some (.int .i64 n) ∧ w'.cell? ⟨w.heap.size, 2, none⟩ = some (.slice A es.length c))) 4 (by kernel_rfl) ⟨p0, p1, p2⟩ ?_
    generalize World.drew w1 = wz at b0 b2 hm0 p0 p1 p2 ⊢
    have hS : wz.cell? ⟨w.heap.size, 0, none⟩ = some (.int .i64 r) ∧ wz.cell? ⟨w.heap.size, 1, none⟩ = some (.int .i64 n) ∧ wz.cell? ⟨w.heap.size, 2, none⟩ = some (.slice A es.length c) := ⟨p0, p1, p2⟩
    refine wpAnyT_take (i := 0) (v := ?_) rfl (by kernel_rfl) (by kernel_rfl) (by kernel_rfl) (by kernel_rfl) (fun _ _ _ h => h) (Or.inl ⟨by rfl, ?_⟩) hS ?_
    rotate_left
    focus (intro w hSw; (try dsimp only at hSw); go_simp; try with_reducible rfl)
    try simp only [Act.put, List.setIfInBounds_toArray, List.set_cons_zero, List.set_cons_succ, List.getElem_toArray, List.getElem_cons_zero, List.getElem_cons_succ]
    refine wpAnyT_take (i := 1) (v := ?_) rfl (by kernel_rfl) (by kernel_rfl) (by kernel_rfl) (by kernel_rfl) (fun _ _ _ h => h) (Or.inl ⟨by rfl, ?_⟩) hS ?_
    rotate_left
    focus (intro w hSw; (try dsimp only at hSw); go_simp; try with_reducible rfl)
    try simp only [Act.put, List.setIfInBounds_toArray, List.set_cons_zero, List.set_cons_succ, List.getElem_toArray, List.getElem_cons_zero, List.getElem_cons_succ]
    have hQ := impl_CanonicalOrder r n A es c wz lo hi (hr.mid hm0 (Or.inl (Nat.zero_le _))) hcl HF.out
    refine wpAnyT_ready (rs := [2]) (by kernel_rfl) (by simp) (AllReadyT.cons rfl (fun K hK => ?_) AllReadyT.nil)
    (go_simp; refine hQ.mono ?_; rintro en w2 ⟨A2, c2, rfl, hord, hm2⟩; have b0' := b0.mid hm2 (Or.inr (Nat.zero_le _)); have b2' := b2.mid hm2 (Or.inr (Nat.zero_le _)); go_wp2_with fail)
    refine hK.out _ _ (Or.inr ⟨b0'.cell 0 rfl, b0'.cell 1 rfl, b0'.cell 2 rfl⟩) (fun _ => ?_)
    clear hK K
    try simp only [Act.put, List.setIfInBounds_toArray, List.set_cons_zero, List.set_cons_succ, List.getElem_toArray, List.getElem_cons_zero, List.getElem_cons_succ]
    replace hm0 := hm0.trans hm2
    obtain ⟨ho1, ho2, ho3⟩ := ordE_ok HF.out
    have hR := impl_part r n A es c A2 (ordE r es 0) c2 w2 lo hi _ _ (hr.mid hm0 (Or.inl (Nat.zero_le _))) hord HG.out ho2 ho3
    have HR := Lib.hid hR
    clear hS hQ b0 b2 hm2 p0 p1 p2 hR ho1 ho2 ho3
    refine wpAnyT_ready (rs := [3]) (by kernel_rfl) (by simp) (AllReadyT.cons rfl (fun K hK => ?_) AllReadyT.nil)
    (go_simp; refine HR.out.mono ?_; rintro en w3 ⟨A3, c3, rfl, hog, hm3⟩; have b0 := b0'.mid hm3 (Or.inr (Nat.zero_le _)); have b2 := b2'.mid hm3 (Or.inr (Nat.zero_le _)); go_wp2_with fail)
    refine hK.out _ _ (Or.inr ⟨b0.cell 0 rfl, b0.cell 1 rfl, b0.cell 2 rfl⟩) (fun _ => ?_)
    clear hK K
    try simp only [Act.put, List.setIfInBounds_toArray, List.set_cons_zero, List.set_cons_succ, List.getElem_toArray, List.getElem_cons_zero, List.getElem_cons_succ]
    have hsz2 := hm0.size
    have hb2s := b2'.1
    replace hm0 := hm0.trans hm3
    have z0 := b2.cell 0 rfl
    have z1 := b2.cell 1 rfl
    have z2 := b2.cell 2 rfl
    have zf := b2.2.2
    clear b0' b2' hm3 HR hord
    refine wpAnyT_ready (rs := [4]) (by kernel_rfl) (by simp) (AllReadyT.cons rfl (fun K hK => ?_) AllReadyT.nil)
    (go_simp)
    refine hK.out _ _ (Or.inl rfl) (fun _ => ?_)
    clear hK K
    try simp only [Act.put, List.setIfInBounds_toArray, List.set_cons_zero, List.set_cons_succ, List.getElem_toArray, List.getElem_cons_zero, List.getElem_cons_succ]
    refine wpAnyT_done (by kernel_rfl) ?_ _
    go_wp2_with fail
    refine bodyPost_ret (v := .agg #[.int .i64 r, .int .i64 (ordE r es 0).length, .slice A3 (partE (ordE r es 0) es).length c3]) (by simp [results, Tryz.results100, go_sem, z0, z1, z2, zf]) rfl ⟨A3, c3, rfl, ?_, ?_⟩
    · refine OG.wide (OG.mid hog (a := w.heap.size + 1) (b := w.heap.size + 2) ?_ (Or.inl (by omega))) (by omega) (by simp) (Nat.le_refl _)
      repeat (first | exact Mid.refl _ _ _ | refine Mid.stored ?_ _ (by simp; try omega) (by simp; try omega))
    · repeat (first | exact hm0 | refine Mid.storeNew ?_ (by simp; try omega) _)
  · rw [canonG_no hf]
    have HF := Lib.hid hf
    clear hf
    go_enter Tryz.func100, Tryz.ntmps100
    go_wp2_with fail
    with_reducible refine (impl_IsFolded r n A es c _ _ _ (hr.mid hm0 (Or.inl (Nat.zero_le _))) (by omega) hcl false (iff_of_false Bool.false_ne_true HF.out)).mono ?_
    rintro en w1 ⟨rfl, hm1⟩
    have hsz1 : w.heap.size + 2 ≤ w1.heap.size := by have := hm1.size; simpa using this
    replace b0 := b0.mid hm1 (Or.inr (Nat.zero_le _))
    replace b2 := b2.mid hm1 (Or.inr (Nat.zero_le _))
    replace hm0 := hm0.trans hm1
    have p0 := b0.cell 0 rfl
    have p1 := b0.cell 1 rfl
    have p2 := b0.cell 2 rfl
    go_wp2_with fail
    with_reducible refine (impl_copyGraph r n A es c _ _ _ (hr.mid hm0 (Or.inl (Nat.zero_le _))) (by omega)).mono ?_
    rintro en w2 ⟨A2, c2, rfl, hog, hm2⟩
    have hsz2 := hm0.size
    replace b2 := b2.mid hm2 (Or.inr (Nat.zero_le _))
    replace hm0 := hm0.trans hm2
    have z0 := b2.cell 0 rfl
    have z1 := b2.cell 1 rfl
    have z2 := b2.cell 2 rfl
    have zf := b2.2.2
    clear p0 p1 p2
    go_wp2_with fail
    refine bodyPost_ret (v := .agg #[.int .i64 r, .int .i64 n, .slice A2 es.length c2]) (by simp [results, Tryz.results100, go_sem, z0, z1, z2, zf]) rfl ⟨A2, c2, rfl, ?_, ?_⟩
    · refine OG.wide (OG.mid hog (a := w.heap.size + 1) (b := w.heap.size + 2) ?_ (Or.inl (by omega))) (by omega) (by simp) (Nat.le_refl _)
      repeat (first | exact Mid.refl _ _ _ | refine Mid.stored ?_ _ (by simp; try omega) (by simp; try omega))
    · repeat (first | exact hm0 | refine Mid.storeNew ?_ (by simp; try omega) _)

set_option maxHeartbeats 1000000 in
set_option maxRecDepth 20000 in
theorem spec_CanonicalGraph (r n : Nat) (A : Option Addr) (es : List Ed) (c : Nat) (w : World) (lo hi : Nat) (hr : RG w lo hi A es) (hg : IsGr r n es) :
    Calls Tryz.prog 96 #[graV r n A es.length c] w fun e w' => ∃ A1 c1, e = .returned (graV r (canonG r ((n : Int), es)).1 A1 (canonG r ((n : Int), es)).2.length c1) ∧ OG w' w.heap.size w'.heap.size A1 c1 (canonG r ((n : Int), es)).2 ∧ Mid 0 0 w w' := by
  have hl := hg.len
  have hm0 : Mid 0 0 w ((w.alloc (.cells #[.int .i64 r, .int .i64 n, .slice A es.length c] 29)).alloc (.cells #[.int .i64 0, .int .i64 0, .slice none 0 0] 29)) := (Mid.alloc _ _).trans (Mid.alloc _ _)
  have b0 := (Box.new w #[.int .i64 r, .int .i64 n, .slice A es.length c] 29).mid (Mid.alloc _ (.cells #[.int .i64 0, .int .i64 0, .slice none 0 0] 29)) (Or.inr (Nat.zero_le _))
  have b2 := Box.new (w.alloc (.cells #[.int .i64 r, .int .i64 n, .slice A es.length c] 29)) #[.int .i64 0, .int .i64 0, .slice none 0 0] 29
  simp only [World.size_alloc] at b2
  have HG := Lib.hid hg
  clear hg
  by_cases hf : IsFol r n es
  · rw [canonG_fol hf]
    have HF := Lib.hid hf
    clear hf
    go_enter Tryz.func96, Tryz.ntmps96
    go_wp2_with fail
    with_reducible refine (spec_CanonicalOrder r n A es c _ _ _ (hr.mid hm0 (Or.inl (Nat.zero_le _))) HF.out).mono ?_
    rintro en w1 ⟨A1, c1, rfl, hord, hm1⟩
    replace b0 := b0.mid hm1 (Or.inr (Nat.zero_le _))
    replace b2 := b2.mid hm1 (Or.inr (Nat.zero_le _))
    replace hm0 := hm0.trans hm1
    have p0 := b0.cell 0 rfl
    have p1 := b0.cell 1 rfl
    have p2 := b0.cell 2 rfl
    obtain ⟨ho1, ho2, ho3⟩ := ordE_ok HF.out
    have e1 : (((ordE r es 0).length : Int) == 0) = false := by simp only [beq_eq_false_iff_ne]; omega
    have HR0 := Lib.hid (spec_RenumberGraph r n A es c A1 (ordE r es 0) c1 w1 lo hi _ _ (hr.mid hm0 (Or.inl (Nat.zero_le _))) hord HG.out ho2 ho3 ho1)
    have hsz1 : w.heap.size + 2 ≤ w1.heap.size := by have := hm1.size; simpa using this
    obtain ⟨os, hos⟩ : ∃ os, ordE r es 0 = os := ⟨_, rfl⟩
    obtain ⟨ps, hps⟩ : ∃ ps, partE os es = ps := ⟨_, rfl⟩
    rw [hos] at HR0 e1 ⊢
    rw [hps] at HR0
    have HOS := Lib.hid hos
    have HPS := Lib.hid hps
    have HR := HR0
    clear ho1 ho2 ho3 hord hm1 hos hps HR0
    go_wp2_with fail
    with_reducible refine (HR.out).mono ?_
    rintro en w2 ⟨A2, c2, rfl, hog, hm2⟩
    clear HR
    have hsz2 := hm2.size
    have hal := Mid.alloc w2 (.cells #[.int .i64 r, .int .i64 os.length, .slice A2 ps.length c2] 29)
    have Y3 := Box.new w2 #[.int .i64 r, .int .i64 os.length, .slice A2 ps.length c2] 29
    replace b2 := b2.mid hm2 (Or.inr (Nat.zero_le _))
    replace hm0 := hm0.trans hm2
    clear p0 p1 p2
    have z0 := b2.cell 0 rfl
    have z1 := b2.cell 1 rfl
    have z2 := b2.cell 2 rfl
    have zf := b2.2.2
    have hb22 : w.heap.size + 1 < w2.heap.size := b2.1
    go_wp2_with fail
    refine bodyPost_ret (v := .agg #[.int .i64 r, .int .i64 os.length, .slice A2 ps.length c2]) (by simp [results, Tryz.results96, go_sem, z0, z1, z2, zf, hb22, World.cell?_alloc_lt]) rfl ⟨A2, c2, by rw [HOS.out, HPS.out], ?_, ?_⟩
    · rw [HOS.out, HPS.out]
      refine OG.wide (OG.mid (OG.mid hog (a := w.heap.size + 1) (b := w.heap.size + 2) ?_ (Or.inl (by omega))) (Mid.alloc _ _) (Or.inl (Nat.zero_le _))) (by omega) (by simp) (Nat.le_refl _)
      repeat (first | exact Mid.refl _ _ _ | refine Mid.stored ?_ _ (by simp; try omega) (by simp; try omega))
    · refine Mid.trans ?_ (Mid.alloc _ _)
      repeat (first | exact hm0 | refine Mid.storeNew ?_ (by simp; try omega) _)
  · rw [canonG_no hf]
    have HF := Lib.hid hf
    clear hf
    go_enter Tryz.func96, Tryz.ntmps96
    go_wp2_with fail
    with_reducible refine (spec_CanonicalOrder_no r n A es c _ _ _ (hr.mid hm0 (Or.inl (Nat.zero_le _))) (by omega) HF.out).mono ?_
    rintro en w1 ⟨A1, c1, rfl, hm1⟩
    have hsz1 : w.heap.size + 2 ≤ w1.heap.size := by have := hm1.size; simpa using this
    replace b0 := b0.mid hm1 (Or.inr (Nat.zero_le _))
    replace b2 := b2.mid hm1 (Or.inr (Nat.zero_le _))
    replace hm0 := hm0.trans hm1
    have p0 := b0.cell 0 rfl
    have p1 := b0.cell 1 rfl
    have p2 := b0.cell 2 rfl
    go_wp2_with fail
    with_reducible refine (spec_l4Copy r n A es c _ _ _ (hr.mid hm0 (Or.inl (Nat.zero_le _))) (by omega)).mono ?_
    rintro en w2 ⟨A2, c2, rfl, hog, hm2⟩
    have hsz2 := hm0.size
    replace b2 := b2.mid hm2 (Or.inr (Nat.zero_le _))
    replace hm0 := hm0.trans hm2
    have z0 := b2.cell 0 rfl
    have z1 := b2.cell 1 rfl
    have z2 := b2.cell 2 rfl
    have zf := b2.2.2
    clear p0 p1 p2
    go_wp2_with fail
    refine bodyPost_ret (v := .agg #[.int .i64 r, .int .i64 n, .slice A2 es.length c2]) (by simp [results, Tryz.results96, go_sem, z0, z1, z2, zf]) rfl ⟨A2, c2, rfl, ?_, ?_⟩
    · refine OG.wide (OG.mid hog (a := w.heap.size + 1) (b := w.heap.size + 2) ?_ (Or.inl (by omega))) (by omega) (by simp) (Nat.le_refl _)
      repeat (first | exact Mid.refl _ _ _ | refine Mid.stored ?_ _ (by simp; try omega) (by simp; try omega))
    · repeat (first | exact hm0 | refine Mid.storeNew ?_ (by simp; try omega) _)
end Go.Proofs.YtimmnnncgnnkgaaGreat
