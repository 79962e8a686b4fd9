/- Contracts and lemmas of this seat, many texts in one: see the words ahead of each. No condition beyond those typed in each lemma. -/
import Derived.Test.YtimmnnncgnnkgaaGreatSw2
import Derived.Test.YtimmnnncgnnkgaaGreatSw1
import Derived.Lib.SliceRun

/- AddPath, the program. -/
namespace Go.Proofs.YtimmnnncgnnkgaaGreat
set_option linter.unusedVariables false
set_option linter.unusedSimpArgs false
open Go.RowKit

/-- What AddPath gives. -/
def PathIs (r s : Int) (es : List Ed) (u : Int) (wd : List Int) (v : Int) (rs : Int) (res : List Ed) (b : Bool) : Prop :=
  (b = true ∧ PathOk r s es u wd v ∧ rs = s + (wd.length : Int) - 1 ∧ res = canon (es ++ pathE u s wd v wd.length)) ∨ (b = false ∧ ¬ PathOk r s es u wd v ∧ rs = s ∧ res = es)
theorem PathIs.no {r s : Int} {es : List Ed} {u : Int} {wd : List Int} {v rs : Int} {res : List Ed} {b : Bool} (h : PathIs r s es u wd v rs res b) (hn : ¬ PathOk r s es u wd v) : b = false ∧ rs = s ∧ res = es := by
  rcases h with ⟨-, h, -⟩ | ⟨h1, -, h2⟩
  · exact absurd h hn
  · exact ⟨h1, h2⟩
theorem PathIs.yes {r s : Int} {es : List Ed} {u : Int} {wd : List Int} {v rs : Int} {res : List Ed} {b : Bool} (h : PathIs r s es u wd v rs res b) (hn : PathOk r s es u wd v) : b = true ∧ rs = s + (wd.length : Int) - 1 ∧ res = canon (es ++ pathE u s wd v wd.length) := by
  rcases h with ⟨h1, -, h2⟩ | ⟨-, h, -⟩
  · exact ⟨h1, h2⟩
  · exact absurd hn h
theorem PathIs_ex (r s : Int) (es : List Ed) (u : Int) (wd : List Int) (v : Int) : ∃ rs res b, PathIs r s es u wd v rs res b := by
  by_cases h : PathOk r s es u wd v
  · exact ⟨_, _, _, .inl ⟨rfl, h, rfl, rfl⟩⟩
  · exact ⟨_, _, _, .inr ⟨rfl, h, rfl, rfl⟩⟩
theorem has_bool {x s : Int} (h1 : 1 ≤ s) (h2 : s ≤ 40) {b : Bool} (hb : b = true ↔ 0 ≤ x ∧ x < s) : inB x 0 (wrap64 (s - 1)) = b ∧ inB x 0 (s - 1) = b := by
  have hw : wrap64 (s - 1) = s - 1 := by unfold wrap64; omega
  rw [hw]
  have h3 : inB x 0 (s - 1) = b := by
    cases b with
    | true => have := hb.1 rfl; unfold inB; simp; omega
    | false =>
      have h : ¬ (0 ≤ x ∧ x < s) := fun h => by have := hb.2 h; cases this
      unfold inB
      simp
      omega
  exact ⟨h3, h3⟩

set_option maxHeartbeats 400000 in
theorem impl_step (u x v : Int) (w : World) (h1 : -9223372036854775808 < x) (h2 : x ≤ 9223372036854775807) :
    Calls Tryz.prog 125 #[.int .i64 u, .int .i64 x, .int .i64 v] w fun e w' => e = .returned (stepE u x v).v ∧ Mid 0 0 w w' := by
  by_cases h : x < 0
  · have d1 : decide (x < 0) = true := by simpa using h
    have he : stepE u x v = ⟨v, -x, u⟩ := by rw [stepE, if_pos h]
    rw [he]
    clear he
    go_enter Tryz.func125, Tryz.ntmps125
    go_wp2_with fail
    refine bodyPost_ret (v := .agg #[.int .i64 v, .int .i64 (-x), .int .i64 u]) (by simp [results, Tryz.results125, go_sem]) rfl ⟨rfl, ?_⟩
    repeat (first | exact Mid.alloc _ _ | refine Mid.storeNew ?_ (by simp) _)
  · have d1 : decide (x < 0) = false := by simpa using h
    have he : stepE u x v = ⟨u, x, v⟩ := by rw [stepE, if_neg h]
    rw [he]
    clear he
    go_enter Tryz.func125, Tryz.ntmps125
    go_wp2_with fail
    refine bodyPost_ret (v := .agg #[.int .i64 u, .int .i64 x, .int .i64 v]) (by simp [results, Tryz.results125, go_sem]) rfl ⟨rfl, ?_⟩
    repeat (first | exact Mid.alloc _ _ | refine Mid.storeNew ?_ (by simp) _)

set_option maxHeartbeats 6400000 in
set_option maxRecDepth 100000 in
theorem impl_AddPath (r s : Int) (A : Option Addr) (es : List Ed) (c : Nat) (u : Int) (Aw : Option Addr) (wd : List Int) (cw : Nat) (v : Int) (w : World) (lo hi lo' hi' : Nat)
    (hr : RG w lo hi A es) (hw : RV w lo' hi' Aw (ints wd)) (hl : es.length ≤ 1048576) (hwl : wd.length ≤ 1048576) (hok : OkI wd) (rs : Int) (res : List Ed) (b : Bool) (hres : PathIs r s es u wd v rs res b) :
    Calls Tryz.prog 104 #[graV r s A es.length c, .int .i64 u, .slice Aw wd.length cw, .int .i64 v] w fun e w' => ∃ A1 c1, e = .returned (.tuple #[graV r rs A1 res.length c1, .bool b]) ∧ OG w' w.heap.size w'.heap.size A1 c1 res ∧ Mid 0 0 w w' := by
  have HR := Lib.hid hres
  have HOK := Lib.hid hok
  clear hres hok
  obtain ⟨b1, hb1⟩ := bool_of (IsGr r s es)
  obtain ⟨b2, hb2⟩ := bool_of (0 ≤ u ∧ u < s)
  obtain ⟨b3, hb3⟩ := bool_of (0 ≤ v ∧ v < s)
  obtain ⟨b4, hb4⟩ := bool_of (IsW r wd)
  have H1 := Lib.hid hb1
  have H2 := Lib.hid hb2
  have H3 := Lib.hid hb3
  have H4 := Lib.hid hb4
  clear hb1 hb2 hb3 hb4
  have hm0 : Mid 0 0 w ((w.alloc (.cells #[.int .i64 r, .int .i64 s, .slice A es.length c] 29)).alloc (.cells #[.int .i64 0, .int .i64 0, .slice none 0 0] 29)) := (Mid.alloc _ _).trans (Mid.alloc _ _)
  have B0 := (Box.new w #[.int .i64 r, .int .i64 s, .slice A es.length c] 29).mid (Mid.alloc _ (.cells #[.int .i64 0, .int .i64 0, .slice none 0 0] 29)) (Or.inr (Nat.zero_le _))
  have B2 := Box.new (w.alloc (.cells #[.int .i64 r, .int .i64 s, .slice A es.length c] 29)) #[.int .i64 0, .int .i64 0, .slice none 0 0] 29
  simp only [World.size_alloc] at B2
  go_enter Tryz.func104, Tryz.ntmps104
  go_wp2_with fail
  generalize hw1 : ((w.alloc (.cells #[.int .i64 r, .int .i64 s, .slice A es.length c] 29)).alloc (.cells #[.int .i64 0, .int .i64 0, .slice none 0 0] 29)) = w1 at hm0 B0 B2 ⊢
  have hs1 : w1.heap.size = w.heap.size + 1 + 1 := by rw [← hw1]; simp
  have HS := Lib.hid hs1
  clear hw1 hs1
  with_reducible refine (impl_copyGraph r s A es c _ _ _ (hr.mid hm0 (Or.inl (Nat.zero_le _))) hl).mono ?_
  rintro en w2 ⟨A1, c1, rfl, ho2, hm2⟩
  have hal := Mid.alloc w2 (.cells #[.int .i64 r, .int .i64 s, .slice A1 es.length c1] 29)
  have Y3 := Box.new w2 #[.int .i64 r, .int .i64 s, .slice A1 es.length c1] 29
  replace B0 := B0.mid hm2 (Or.inr (Nat.zero_le _))
  replace B2 := B2.mid hm2 (Or.inr (Nat.zero_le _))
  replace hm0 := hm0.trans hm2
  replace B0 := B0.mid hal (Or.inr (Nat.zero_le _))
  replace B2 := B2.mid hal (Or.inr (Nat.zero_le _))
  replace hm0 := hm0.trans hal
  have hG2 : w.heap.size + 1 < w2.heap.size := by have := HS.out; have := hm2.size; omega
  have ho5 := (ho2.mid hal (Or.inl (Nat.zero_le _)))
  have hlt2 := ho2.ov.2.2
  have hb2k : Value.ownBlock (.slice A1 es.length c1) ≠ some w2.heap.size := fun h => by have := hlt2 _ h; omega
  have p0 := B0.cell 0 rfl
  have p1 := B0.cell 1 rfl
  have p2 := B0.cell 2 rfl
  go_wp2_with fail
  generalize w2.alloc (.cells #[.int .i64 r, .int .i64 s, .slice A1 es.length c1] 29) = w3 at hm0 B0 B2 Y3 ho5 p0 p1 p2 ⊢
  have hG3 : w2.heap.size < w3.heap.size := Y3.1
  have HOW := Lib.hid ho5.ov.2.1
  have HBK := Lib.hid hb2k
  have ho6 := ho5.wide (Nat.le_refl _) (Nat.le_refl _) (Nat.le_of_lt hG3)
  generalize hG : w2.heap.size = G at Y3 hG2 hG3 ho5 HBK ⊢
  have HGW := Lib.hid (show w1.heap.size ≤ G by rw [← hG]; exact hm2.size)
  clear hG hal hm2 hlt2 hb2k ho2 ho6

  with_reducible refine (impl_IsGraph r s A es c _ _ _ (hr.mid hm0 (Or.inl (Nat.zero_le _))).rv hl b1 H1.out).mono ?_
  rintro en w4 ⟨rfl, hm4⟩
  replace B0 := B0.mid hm4 (Or.inr (Nat.zero_le _))
  replace B2 := B2.mid hm4 (Or.inr (Nat.zero_le _))
  replace Y3 := Y3.mid hm4 (Or.inr (Nat.zero_le _))
  replace ho5 := ho5.mid hm4 (Or.inl (Nat.zero_le _))
  replace hm0 := hm0.trans hm4
  replace HOW := Lib.hid (owns_mid HOW.out hm4 (Or.inl (Nat.zero_le _)))
  clear hm4
  cases b1 with
  | false =>
    have hno : ¬ PathOk r s es u wd v := fun h => by have := H1.out.2 h.gr; cases this
    clear p0 p1 p2
    obtain ⟨rfl, rfl, rfl⟩ := HR.out.no hno
    have a0 := B2.cell 0 rfl
    have a1 := B2.cell 1 rfl
    have a2 := B2.cell 2 rfl
    have q0 := Y3.cell 0 rfl
    have q1 := Y3.cell 1 rfl
    have q2 := Y3.cell 2 rfl
    have af := B2.2.2
    go_wp2_with fail
    refine bodyPost_ret (v := .tuple #[.agg #[.int .i64 r, .int .i64 rs, .slice A1 res.length c1], .bool false]) (by simp [results, Tryz.results104, go_sem, a0, a1, a2, af, q0, q1, q2]) rfl ⟨A1, c1, rfl, ?_, ?_⟩
    · refine OG.wide (OG.mid ho5 (a := w.heap.size) (b := w.heap.size + 2) ?_ (Or.inl (by have := HS.out; omega))) (by have := HS.out; omega) (by have := ho5.size; simp; omega) (Nat.le_refl _)
      repeat (first | exact Mid.refl _ _ _ | refine Mid.stored ?_ _ (by simp; try omega) (by simp; try omega))
    · repeat (first | exact hm0 | refine Mid.storeNew ?_ (by simp; try omega) _)
  | true =>
  have hgr := H1.out.1 rfl
  have hsz := hgr.size
  have hln := hgr.len
  have hrk := hgr.rank
  have GR := Lib.hid hgr
  clear hgr H1
  clear p0 p1 p2
  have p0 := B0.cell 0 rfl
  have p1 := B0.cell 1 rfl
  have p2 := B0.cell 2 rfl
  go_wp2_with fail
  with_reducible refine (impl_has r s A es.length c u _ b2 (has_bool hsz.1 hsz.2 H2.out).1).mono ?_
  rintro en w5 ⟨rfl, hm5⟩
  replace B0 := B0.mid hm5 (Or.inr (Nat.zero_le _))
  replace B2 := B2.mid hm5 (Or.inr (Nat.zero_le _))
  replace Y3 := Y3.mid hm5 (Or.inr (Nat.zero_le _))
  replace ho5 := ho5.mid hm5 (Or.inl (Nat.zero_le _))
  replace hm0 := hm0.trans hm5
  replace HOW := Lib.hid (owns_mid HOW.out hm5 (Or.inl (Nat.zero_le _)))
  clear hm5
  cases b2 with
  | false =>
    have hno : ¬ PathOk r s es u wd v := fun h => by have := H2.out.2 h.u0; cases this
    clear p0 p1 p2
    obtain ⟨rfl, rfl, rfl⟩ := HR.out.no hno
    have a0 := B2.cell 0 rfl
    have a1 := B2.cell 1 rfl
    have a2 := B2.cell 2 rfl
    have q0 := Y3.cell 0 rfl
    have q1 := Y3.cell 1 rfl
    have q2 := Y3.cell 2 rfl
    have af := B2.2.2
    go_wp2_with fail
    refine bodyPost_ret (v := .tuple #[.agg #[.int .i64 r, .int .i64 rs, .slice A1 res.length c1], .bool false]) (by simp [results, Tryz.results104, go_sem, a0, a1, a2, af, q0, q1, q2]) rfl ⟨A1, c1, rfl, ?_, ?_⟩
    · refine OG.wide (OG.mid ho5 (a := w.heap.size) (b := w.heap.size + 2) ?_ (Or.inl (by have := HS.out; omega))) (by have := HS.out; omega) (by have := ho5.size; simp; omega) (Nat.le_refl _)
      repeat (first | exact Mid.refl _ _ _ | refine Mid.stored ?_ _ (by simp; try omega) (by simp; try omega))
    · repeat (first | exact hm0 | refine Mid.storeNew ?_ (by simp; try omega) _)
  | true =>
  have hxu := H2.out.1 rfl
  clear H2
  clear p0 p1 p2
  have p0 := B0.cell 0 rfl
  have p1 := B0.cell 1 rfl
  have p2 := B0.cell 2 rfl
  go_wp2_with fail
  with_reducible refine (impl_has r s A es.length c v _ b3 (has_bool hsz.1 hsz.2 H3.out).1).mono ?_
  rintro en w6 ⟨rfl, hm6⟩
  replace B0 := B0.mid hm6 (Or.inr (Nat.zero_le _))
  replace B2 := B2.mid hm6 (Or.inr (Nat.zero_le _))
  replace Y3 := Y3.mid hm6 (Or.inr (Nat.zero_le _))
  replace ho5 := ho5.mid hm6 (Or.inl (Nat.zero_le _))
  replace hm0 := hm0.trans hm6
  replace HOW := Lib.hid (owns_mid HOW.out hm6 (Or.inl (Nat.zero_le _)))
  clear hm6
  cases b3 with
  | false =>
    have hno : ¬ PathOk r s es u wd v := fun h => by have := H3.out.2 h.v0; cases this
    clear p0 p1 p2
    obtain ⟨rfl, rfl, rfl⟩ := HR.out.no hno
    have a0 := B2.cell 0 rfl
    have a1 := B2.cell 1 rfl
    have a2 := B2.cell 2 rfl
    have q0 := Y3.cell 0 rfl
    have q1 := Y3.cell 1 rfl
    have q2 := Y3.cell 2 rfl
    have af := B2.2.2
    go_wp2_with fail
    refine bodyPost_ret (v := .tuple #[.agg #[.int .i64 r, .int .i64 rs, .slice A1 res.length c1], .bool false]) (by simp [results, Tryz.results104, go_sem, a0, a1, a2, af, q0, q1, q2]) rfl ⟨A1, c1, rfl, ?_, ?_⟩
    · refine OG.wide (OG.mid ho5 (a := w.heap.size) (b := w.heap.size + 2) ?_ (Or.inl (by have := HS.out; omega))) (by have := HS.out; omega) (by have := ho5.size; simp; omega) (Nat.le_refl _)
      repeat (first | exact Mid.refl _ _ _ | refine Mid.stored ?_ _ (by simp; try omega) (by simp; try omega))
    · repeat (first | exact hm0 | refine Mid.storeNew ?_ (by simp; try omega) _)
  | true =>
  have hxv := H3.out.1 rfl
  clear H3
  clear p0 p1 p2
  have p0 := B0.cell 0 rfl
  have p1 := B0.cell 1 rfl
  have p2 := B0.cell 2 rfl
  by_cases hne : wd = []
  · subst hne
    have hno : ¬ PathOk r s es u [] v := fun h => h.ne rfl
    clear p0 p1 p2
    obtain ⟨rfl, rfl, rfl⟩ := HR.out.no hno
    have a0 := B2.cell 0 rfl
    have a1 := B2.cell 1 rfl
    have a2 := B2.cell 2 rfl
    have q0 := Y3.cell 0 rfl
    have q1 := Y3.cell 1 rfl
    have q2 := Y3.cell 2 rfl
    have af := B2.2.2
    go_wp2_with fail
    refine bodyPost_ret (v := .tuple #[.agg #[.int .i64 r, .int .i64 rs, .slice A1 res.length c1], .bool false]) (by simp [results, Tryz.results104, go_sem, a0, a1, a2, af, q0, q1, q2]) rfl ⟨A1, c1, rfl, ?_, ?_⟩
    · refine OG.wide (OG.mid ho5 (a := w.heap.size) (b := w.heap.size + 2) ?_ (Or.inl (by have := HS.out; omega))) (by have := HS.out; omega) (by have := ho5.size; simp; omega) (Nat.le_refl _)
      repeat (first | exact Mid.refl _ _ _ | refine Mid.stored ?_ _ (by simp; try omega) (by simp; try omega))
    · repeat (first | exact hm0 | refine Mid.storeNew ?_ (by simp; try omega) _)
  have hpos : 0 < wd.length := List.length_pos_iff.2 hne
  have d4 : ((wd.length : Int) == 0) = false := by simp only [beq_eq_false_iff_ne]; omega
  have HNE := Lib.hid hne
  clear hne
  clear p0 p1 p2
  have p0 := B0.cell 0 rfl
  have p1 := B0.cell 1 rfl
  have p2 := B0.cell 2 rfl
  go_wp2_with fail
  with_reducible refine (impl_IsWord r Aw wd cw _ _ ((hw.mid hm0 (Or.inl (Nat.zero_le _))).rs) HOK.out (by omega) b4 H4.out).mono ?_
  rintro en w7 ⟨rfl, rfl⟩
  cases b4 with
  | false =>
    have hno : ¬ PathOk r s es u wd v := fun h => by have := H4.out.2 h.word; cases this
    clear p0 p1 p2
    obtain ⟨rfl, rfl, rfl⟩ := HR.out.no hno
    have a0 := B2.cell 0 rfl
    have a1 := B2.cell 1 rfl
    have a2 := B2.cell 2 rfl
    have q0 := Y3.cell 0 rfl
    have q1 := Y3.cell 1 rfl
    have q2 := Y3.cell 2 rfl
    have af := B2.2.2
    go_wp2_with fail
    refine bodyPost_ret (v := .tuple #[.agg #[.int .i64 r, .int .i64 rs, .slice A1 res.length c1], .bool false]) (by simp [results, Tryz.results104, go_sem, a0, a1, a2, af, q0, q1, q2]) rfl ⟨A1, c1, rfl, ?_, ?_⟩
    · refine OG.wide (OG.mid ho5 (a := w.heap.size) (b := w.heap.size + 2) ?_ (Or.inl (by have := HS.out; omega))) (by have := HS.out; omega) (by have := ho5.size; simp; omega) (Nat.le_refl _)
      repeat (first | exact Mid.refl _ _ _ | refine Mid.stored ?_ _ (by simp; try omega) (by simp; try omega))
    · repeat (first | exact hm0 | refine Mid.storeNew ?_ (by simp; try omega) _)
  | true =>
  have hwd := H4.out.1 rfl
  have hwd24 := hwd.2.2.1
  have HWD := Lib.hid hwd
  clear hwd H4
  clear p0 p1 p2
  have p0 := B0.cell 0 rfl
  have p1 := B0.cell 1 rfl
  have p2 := B0.cell 2 rfl
  have d5' : IntKind.i64.wrap (s + (wd.length : Int)) = s + (wd.length : Int) := IntWalk.i64_in _ (by omega)
  have d5'' : IntKind.i64.wrap (s + (wd.length : Int) - 1) = s + (wd.length : Int) - 1 := IntWalk.i64_in _ (by omega)
  by_cases hsl : 40 < s + (wd.length : Int) - 1
  · have hno : ¬ PathOk r s es u wd v := fun h => by have := h.sz; omega
    have d5 : decide (40 < s + (wd.length : Int) - 1) = true := by simpa using hsl
    clear p1
    clear p0 p2
    have p0 := B0.cell 0 rfl
    have p1 := B0.cell 1 rfl
    have p2 := B0.cell 2 rfl
    obtain ⟨rfl, rfl, rfl⟩ := HR.out.no hno
    have a0 := B2.cell 0 rfl
    have a1 := B2.cell 1 rfl
    have a2 := B2.cell 2 rfl
    have q0 := Y3.cell 0 rfl
    have q1 := Y3.cell 1 rfl
    have q2 := Y3.cell 2 rfl
    have af := B2.2.2
    go_wp2_with fail
    refine bodyPost_ret (v := .tuple #[.agg #[.int .i64 r, .int .i64 rs, .slice A1 res.length c1], .bool false]) (by simp [results, Tryz.results104, go_sem, a0, a1, a2, af, q0, q1, q2]) rfl ⟨A1, c1, rfl, ?_, ?_⟩
    · refine OG.wide (OG.mid ho5 (a := w.heap.size) (b := w.heap.size + 2) ?_ (Or.inl (by have := HS.out; omega))) (by have := HS.out; omega) (by have := ho5.size; simp; omega) (Nat.le_refl _)
      repeat (first | exact Mid.refl _ _ _ | refine Mid.stored ?_ _ (by simp; try omega) (by simp; try omega))
    · repeat (first | exact hm0 | refine Mid.storeNew ?_ (by simp; try omega) _)
  have d5 : decide (40 < s + (wd.length : Int) - 1) = false := by simpa using hsl
  by_cases hll : 120 < es.length + wd.length
  · have hno : ¬ PathOk r s es u wd v := fun h => by have := h.ln; omega
    have d6 : decide (120 < (es.length : Int) + (wd.length : Int)) = true := by simp; omega
    obtain ⟨rfl, rfl, rfl⟩ := HR.out.no hno
    have a0 := B2.cell 0 rfl
    have a1 := B2.cell 1 rfl
    have a2 := B2.cell 2 rfl
    have q0 := Y3.cell 0 rfl
    have q1 := Y3.cell 1 rfl
    have q2 := Y3.cell 2 rfl
    have af := B2.2.2
    go_wp2_with fail
    refine bodyPost_ret (v := .tuple #[.agg #[.int .i64 r, .int .i64 rs, .slice A1 res.length c1], .bool false]) (by simp [results, Tryz.results104, go_sem, a0, a1, a2, af, q0, q1, q2]) rfl ⟨A1, c1, rfl, ?_, ?_⟩
    · refine OG.wide (OG.mid ho5 (a := w.heap.size) (b := w.heap.size + 2) ?_ (Or.inl (by have := HS.out; omega))) (by have := HS.out; omega) (by have := ho5.size; simp; omega) (Nat.le_refl _)
      repeat (first | exact Mid.refl _ _ _ | refine Mid.stored ?_ _ (by simp; try omega) (by simp; try omega))
    · repeat (first | exact hm0 | refine Mid.storeNew ?_ (by simp; try omega) _)
  have d6 : decide (120 < (es.length : Int) + (wd.length : Int)) = false := by simp; omega
  obtain ⟨rfl, hrs, hre⟩ := HR.out.yes ⟨GR.out, hxu, hxv, HWD.out, HNE.out, by omega, by omega⟩
  have HRS := Lib.hid hrs
  have HRE := Lib.hid hre
  have hasc := Lib.hid GR.out.asc
  clear hrs hre HR
  have hwn : IntKind.i64.wrap ((wd.length : Int) - 1) = (wd.length : Int) - 1 := IntWalk.i64_in _ (by omega)
  have hletb := Lib.hid HWD.out.2.2.2.1
  have q0 := Y3.cell 0 rfl
  have q1 := Y3.cell 1 rfl
  have q2 := Y3.cell 2 rfl
  go_wp2_with fail
  clear p0 p1 p2 q0 q1 q2
  go_loopw [11, 66] (fun at_ i wr => ∃ (k : Nat) (A2 : Option Addr) (n2 c2 : Nat) (sz : Int), k ≤ wd.length ∧ i = .int .i64 k ∧ at_ = .int .i64 (pathV u s wd.length v k) ∧ Hid (sz = s + ((min k (wd.length - 1) : Nat) : Int)) ∧ Hid (n2 = es.length + k) ∧
    wr.ownsRow w1.heap.size 78 3 (.slice A2 n2 c2) n2 (ints (edI (es ++ pathE u s wd v k))) ∧ Value.ownBlock (.slice A2 n2 c2) ≠ some G ∧
    Box wr w.heap.size [.int .i64 r, .int .i64 s, .slice A es.length c] ∧ Box wr (w.heap.size + 1) [.int .i64 0, .int .i64 0, .slice none 0 0] ∧
    Box wr G [.int .i64 r, .int .i64 sz, .slice A2 n2 c2] ∧ Mid 0 0 w wr) (fun _ i _ => wd.length - (intOf i).toNat)
  case atStart => exact ⟨0, A1, es.length, c1, s, Nat.zero_le _, rfl, rfl, Lib.hid (by simp), Lib.hid rfl, by simpa [pathE] using HOW.out, HBK.out, B0, B2, Y3, hm0⟩
  case round =>
    clear B0 B2 Y3 hm0 ho5 HOW HBK hG3
    obtain ⟨k, A2, n2, c2, sz, hk, rfl, rfl, HSZ, HN, hown, hbk, Z0, Z2, Z3, hmr⟩ := hrel
    have hszv := HSZ.out
    have hn2 : n2 ≤ 240 := by have := HN.out; omega
    by_cases hlt : k < wd.length
    · obtain ⟨B, off, x, rfl, hbh, hx, hcx⟩ := (hw.mid hmr (Or.inl (Nat.zero_le _))).at hlt
      have hxl := hletb.out x (List.mem_of_getElem? hx)
      have hkn : (k : Int) < (wd.length : Int) := by omega
      have hk0 : (0 : Int) ≤ (k : Int) := by omega
      have hpe := pathE_succ (u := u) (s := s) (v := v) hx
      have HPE := Lib.hid hpe
      have hGr : G < wr.heap.size := Z3.1
      have hw1r : w1.heap.size ≤ wr.heap.size := by have := HGW.out; omega
      clear hx hpe
      generalize hat : pathV u s wd.length v k = at0 at HPE ⊢
      clear hat
      by_cases hlast : k + 1 < wd.length
      · have hmin : ((min k (wd.length - 1) : Nat) : Int) = (k : Int) := by rw [Nat.min_eq_left (by omega)]
        have hmin2 : ((min (k + 1) (wd.length - 1) : Nat) : Int) = (k : Int) + 1 := by rw [Nat.min_eq_left (by omega)]; rfl
        rw [hmin] at hszv
        subst hszv
        have hto : pathV u s wd.length v (k + 1) = s + (k : Int) := by
          rw [pathV, if_neg (by omega), if_pos hlast]
          omega
        rw [hto] at HPE
        have dk : decide ((k : Int) < (wd.length : Int) - 1) = true := by simp; omega
        have hws : IntKind.i64.wrap (s + (k : Int) + 1) = s + (k : Int) + 1 := IntWalk.i64_in _ (by omega)
        have q1 := Z3.cell 1 rfl
        have qf := Z3.2.2
        have hst := Mid.setCell wr (lo := G) (hi := G + 1) (p := ⟨G, 1, none⟩) (.int .i64 (s + (k : Int) + 1)) (Nat.le_refl _) (Nat.lt_succ_self _)
        have V0 := Z0.mid hst (Or.inl (by omega))
        have V2 := Z2.mid hst (Or.inl (by omega))
        have V3 := Z3.set 1 (.int .i64 (s + (k : Int) + 1)) (by simp) rfl
        have hownV := owns_other hown (k := G) (grown_setCell (World.grownBy.refl _ (some G)) 1 (.int .i64 (s + (k : Int) + 1))) hbk
        have hmv := hmr.storeNew (p := ⟨G, 1, none⟩) (by show w.heap.size ≤ G; omega) (.int .i64 (s + (k : Int) + 1))
        have hsV : (wr.setCell ⟨G, 1, none⟩ (.int .i64 (s + (k : Int) + 1))).heap.size = wr.heap.size := by simp
        go_wp2_with fail
        generalize wr.setCell ⟨G, 1, none⟩ (.int .i64 (s + (k : Int) + 1)) = wx at V0 V2 V3 hownV hmv hsV ⊢
        have hnsz : Hid (s + (k : Int) + 1 = s + ((min (k + 1) (wd.length - 1) : Nat) : Int)) := Lib.hid (by rw [hmin2]; omega)
        clear Z0 Z2 Z3 hown hmr q1 qf hst hcx hmin hmin2 HSZ
        simp only [List.set_cons_succ, List.set_cons_zero] at V3
        generalize s + (k : Int) + 1 = sz' at V3 hnsz
        generalize s + (k : Int) = to at HPE hto ⊢
        have hGx : G < wx.heap.size := V3.1
        have hmd := Mid.drew1 wx
        have U0 := V0.mid hmd (Or.inr (Nat.zero_le _))
        have U2 := V2.mid hmd (Or.inr (Nat.zero_le _))
        have U3 := V3.mid hmd (Or.inr (Nat.zero_le _))
        have hownU := owns_mid hownV hmd (Or.inl (Nat.zero_le _))
        have hmu := hmv.trans hmd
        have g2 := U3.cell 2 rfl
        have hsd := hmd.size
        have hP1 := fun W => impl_step at0 x to W (by omega) (by omega)
        clear V0 V2 V3 hownV hmv hmd
        refine wp_region_T (S := (fun w' => w'.cell? ⟨G, 2, none⟩ = some (.slice A2 n2 c2))) 9 (by kernel_rfl) g2 ?_
        generalize World.drew wx = wz at U0 U2 U3 hownU hmu g2 hsd ⊢
        refine wpAnyT_take (i := 0) (v := ?_) rfl (by kernel_rfl) (by kernel_rfl) (by kernel_rfl) (by kernel_rfl) (fun _ _ _ h => h) (Or.inl ⟨by rfl, ?_⟩) g2 ?_
        rotate_left
        focus (intro w hSw; (try dsimp only at hSw); go_simp; try with_reducible rfl)
        try simp only [Act.put, List.setIfInBounds_toArray, List.set_cons_zero, List.set_cons_succ, List.getElem_toArray, List.getElem_cons_zero, List.getElem_cons_succ]
        refine wpAnyT_take (i := 1) (v := ?_) rfl (by kernel_rfl) (by kernel_rfl) (by kernel_rfl) (by kernel_rfl) (fun _ _ _ h => h) (Or.inl ⟨by rfl, ?_⟩) g2 ?_
        rotate_left
        focus (intro w hSw; (try dsimp only at hSw); go_simp; try with_reducible rfl)
        try simp only [Act.put, List.setIfInBounds_toArray, List.set_cons_zero, List.set_cons_succ, List.getElem_toArray, List.getElem_cons_zero, List.getElem_cons_succ]
        refine wpAnyT_take (i := 2) (v := ?_) rfl (by kernel_rfl) (by kernel_rfl) (by kernel_rfl) (by kernel_rfl) (fun _ _ _ h => h) (Or.inl ⟨by rfl, ?_⟩) g2 ?_
        rotate_left
        focus (intro w hSw; (try dsimp only at hSw); go_simp; try with_reducible rfl)
        try simp only [Act.put, List.setIfInBounds_toArray, List.set_cons_zero, List.set_cons_succ, List.getElem_toArray, List.getElem_cons_zero, List.getElem_cons_succ]
        refine wpAnyT_take (i := 3) (v := ?_) rfl (by kernel_rfl) (by kernel_rfl) (by kernel_rfl) (by kernel_rfl) (fun _ _ _ h => h) (Or.inl ⟨by rfl, ?_⟩) g2 ?_
        rotate_left
        focus (intro w hSw; (try dsimp only at hSw); go_simp; try with_reducible rfl)
        try simp only [Act.put, List.setIfInBounds_toArray, List.set_cons_zero, List.set_cons_succ, List.getElem_toArray, List.getElem_cons_zero, List.getElem_cons_succ]
        refine wpAnyT_take (i := 4) (v := ?_) rfl (by kernel_rfl) (by kernel_rfl) (by kernel_rfl) (by kernel_rfl) (fun _ _ _ h => h) (Or.inl ⟨by rfl, ?_⟩) g2 ?_
        rotate_left
        focus (intro w hSw; (try dsimp only at hSw); go_simp; try with_reducible rfl)
        try simp only [Act.put, List.setIfInBounds_toArray, List.set_cons_zero, List.set_cons_succ, List.getElem_toArray, List.getElem_cons_zero, List.getElem_cons_succ]
        refine wpAnyT_ready (rs := [5]) (by kernel_rfl) (by simp) (AllReadyT.cons rfl (fun K hK => ?_) AllReadyT.nil)
        (go_simp; refine (hP1 _).mono ?_; rintro en w7 ⟨rfl, hm7⟩; have U3' := U3.mid hm7 (Or.inr (Nat.zero_le _)); go_wp2_with fail)
        refine hK.out _ _ (Or.inr (U3'.cell 2 rfl)) (fun _ => ?_)
        clear hK K
        try simp only [Act.put, List.setIfInBounds_toArray, List.set_cons_zero, List.set_cons_succ, List.getElem_toArray, List.getElem_cons_zero, List.getElem_cons_succ]
        have U0' := U0.mid hm7 (Or.inr (Nat.zero_le _))
        have U2' := U2.mid hm7 (Or.inr (Nat.zero_le _))
        have hownU' := owns_mid hownU hm7 (Or.inl (Nat.zero_le _))
        have hmu' := hmu.trans hm7
        have hs7 := hm7.size
        clear U0 U2 U3 hownU hmu g2 hP1 hm7
        generalize stepE at0 x to = ed at HPE ⊢
        have haz := Mid.alloc w7 (.cells #[.int .i64 ed.a, .int .i64 ed.l, .int .i64 ed.b] 78)
        have T0 := U0'.mid haz (Or.inr (Nat.zero_le _))
        have T2 := U2'.mid haz (Or.inr (Nat.zero_le _))
        have T3 := U3'.mid haz (Or.inr (Nat.zero_le _))
        have hownT := hownU'.alloc (.cells #[.int .i64 ed.a, .int .i64 ed.l, .int .i64 ed.b] 78)
        have hmt := hmu'.trans haz
        have hS2 := T3.cell 2 rfl
        have hrs : Rs (w7.alloc (.cells #[.int .i64 ed.a, .int .i64 ed.l, .int .i64 ed.b] 78)) (w7.heap.size + 1) (some ⟨w7.heap.size, 0, none⟩) [.int .i64 ed.a, .int .i64 ed.l, .int .i64 ed.b] := fun _ => ⟨w7.heap.size, 0, rfl, Nat.lt_succ_self _, fun j u hu => (World.cell?_alloc_at _ _ _ _ rfl).trans (by simpa using hu)⟩
        have hone : ∀ u ∈ [Value.int .i64 ed.a, .int .i64 ed.l, .int .i64 ed.b], u.oneCell' = true := by
          intro u hu
          simp at hu
          rcases hu with rfl | rfl | rfl <;> rfl
        have hmxl : n2 + 1 ≤ maxLen := by unfold maxLen; omega
        have hbyt : (n2 + 1) * 24 ≤ 140737488355328 := by omega
        have hbas : w1.heap.size ≤ (w7.alloc (.cells #[.int .i64 ed.a, .int .i64 ed.l, .int .i64 ed.b] 78)).heap.size := by simp; omega
        have hGz : G < w7.heap.size := U3'.1
        have HO := Lib.hid hone
        have HB0 := Lib.hid (fun (g : Nat) (h : Value.ownBlock (.slice A2 n2 c2) = some g) => (hownT.lt g h).1)
        have HBk := Lib.hid hbk
        clear hone hbk U0' U2' U3' hownU' hmu' haz
        refine wpAnyT_ready (rs := [6]) (by kernel_rfl) (by simp) (AllReadyT.cons rfl (fun K hK => ?_) AllReadyT.nil)
        go_simp
        refine hK.out _ _ (Or.inr hS2) (fun _ => ?_)
        clear hK K
        try simp only [Act.put, List.setIfInBounds_toArray, List.set_cons_zero, List.set_cons_succ, List.getElem_toArray, List.getElem_cons_zero, List.getElem_cons_succ]
        generalize hwt : w7.alloc (.cells #[.int .i64 ed.a, .int .i64 ed.l, .int .i64 ed.b] 78) = wt at T0 T2 T3 hownT hmt hS2 hrs hbas ⊢
        have hszt : wt.heap.size = w7.heap.size + 1 := by rw [← hwt]; simp
        have HZT := Lib.hid hszt
        clear hwt hszt
        refine wpAnyT_ready (rs := [7]) (by kernel_rfl) (by simp) (AllReadyT.cons rfl (fun K hK => ?_) AllReadyT.nil)
        (refine step_cat (by rfl) (.tmp 84) (.tmp 89) 27 (by rfl) w1.heap.size 78 (.agg #[.int .i64 0, .int .i64 0, .int .i64 0]) 3 24 undSE infoE rfl (by decide) (.slice A2 n2 c2) n2 _ (by rfl) hownT (some ⟨w7.heap.size, 0, none⟩) 1 1 _ [.int .i64 ed.a, .int .i64 ed.l, .int .i64 ed.b] (by rfl) hrs rfl HO.out hmxl hbyt hbas ?_; intro v2 w8 ho8 hgr8 hat8; obtain ⟨A3, c3, rfl, -, -⟩ := owns_shape ho8)
        refine hK.out _ _ (Or.inr ((T3.grown hgr8 HBk.out).cell 2 rfl)) (fun _ => ?_)
        clear hK K
        try simp only [Act.put, List.setIfInBounds_toArray, List.set_cons_zero, List.set_cons_succ, List.getElem_toArray, List.getElem_cons_zero, List.getElem_cons_succ]
        have R3 := T3.grown hgr8 HBk.out
        have R0 := T0.grown hgr8 (fun h => by have := HB0.out _ h; have := HS.out; omega)
        have R2 := T2.grown hgr8 (fun h => by have := HB0.out _ h; have := HS.out; omega)
        have hmr8 : Mid 0 0 w w8 := hmt.transNew (Mid.of_grownRow hownT hgr8) (Or.inl (by have := HS.out; omega))
        have hS3 := R3.cell 2 rfl
        have hne : Value.ownBlock (.slice A3 (n2 + 1) c3) ≠ some G := by
          rcases hat8 with h | h
          · rw [h]; exact HBk.out
          · rw [h]
            intro he
            injection he with he
            have := HZT.out
            omega
        have HNE2 := Lib.hid hne
        have hrf := R3.2.2
        clear hne hat8 hS2 hrs T0 T2 T3 hmt
        refine wpAnyT_take (i := 8) (v := ?_) rfl (by kernel_rfl) (by kernel_rfl) (by kernel_rfl) (by kernel_rfl) (fun _ _ _ h => h) (Or.inl ⟨by rfl, ?_⟩) hS3 ?_
        rotate_left
        focus (intro w hSw; (try dsimp only at hSw); go_simp; try with_reducible rfl)
        try simp only [Act.put, List.setIfInBounds_toArray, List.set_cons_zero, List.set_cons_succ, List.getElem_toArray, List.getElem_cons_zero, List.getElem_cons_succ]
        refine wpAnyT_ready (rs := [9]) (by kernel_rfl) (by simp) (AllReadyT.cons rfl (fun K hK => ?_) AllReadyT.nil)
        (go_simp)
        refine hK.out _ _ (Or.inl rfl) (fun _ => ?_)
        clear hK K
        try simp only [Act.put, List.setIfInBounds_toArray, List.set_cons_zero, List.set_cons_succ, List.getElem_toArray, List.getElem_cons_zero, List.getElem_cons_succ]
        refine wpAnyT_done (by kernel_rfl) ?_ _
        go_wp2_with fail
        go_roundw
        case rel =>
          have hst := Mid.setCell w8 (lo := G) (hi := G + 1) (p := ⟨G, 2, none⟩) (.slice A3 (n2 + 1) c3) (Nat.le_refl _) (Nat.lt_succ_self _)
          refine ⟨k + 1, A3, n2 + 1, c3, sz', by omega, by go_num, by rw [hto], hnsz, Lib.hid (by rw [HN.out]; omega), ?_, HNE2.out, R0.mid hst (Or.inl (by omega)), R2.mid hst (Or.inl (by omega)), R3.set 2 _ (by simp) rfl, hmr8.storeNew (by show w.heap.size ≤ G; omega) _⟩
          have h1 := owns_other ho8 (k := G) (grown_setCell (World.grownBy.refl _ (some G)) 2 (.slice A3 (n2 + 1) c3)) HNE2.out
          rw [HPE.out, ← List.append_assoc, edI_append, ints_append, edI_one]
          exact h1
        case measure => simp [intOf]; omega
      · have hkl : k + 1 = wd.length := by omega
        have hmin : min k (wd.length - 1) = min (k + 1) (wd.length - 1) := by omega
        have hnsz : Hid (sz = s + ((min (k + 1) (wd.length - 1) : Nat) : Int)) := Lib.hid (by rw [hszv, hmin])
        have hto : pathV u s wd.length v (k + 1) = v := by
          rw [pathV, if_neg (by omega), if_neg (by omega)]
        rw [hto] at HPE
        have dk : decide ((k : Int) < (wd.length : Int) - 1) = false := by simp; omega
        clear hszv hmin HSZ
        generalize sz = sz' at Z3 hnsz
        go_wp2_with fail
        have V0 := Z0
        have V2 := Z2
        have V3 := Z3
        have hownV := hown
        have hmv := hmr
        obtain ⟨wx, hwx⟩ : ∃ wx, wr = wx := ⟨_, rfl⟩
        have hsV : wx.heap.size = wr.heap.size := by rw [hwx]
        rw [hwx] at V0 V2 V3 hownV hmv ⊢
        clear Z0 Z2 Z3 hown hmr hcx
        have hGx : G < wx.heap.size := V3.1
        have hmd := Mid.drew1 wx
        have U0 := V0.mid hmd (Or.inr (Nat.zero_le _))
        have U2 := V2.mid hmd (Or.inr (Nat.zero_le _))
        have U3 := V3.mid hmd (Or.inr (Nat.zero_le _))
        have hownU := owns_mid hownV hmd (Or.inl (Nat.zero_le _))
        have hmu := hmv.trans hmd
        have g2 := U3.cell 2 rfl
        have hsd := hmd.size
        have hP1 := fun W => impl_step at0 x v W (by omega) (by omega)
        clear V0 V2 V3 hownV hmv hmd
        refine wp_region_T (S := (fun w' => w'.cell? ⟨G, 2, none⟩ = some (.slice A2 n2 c2))) 9 (by kernel_rfl) g2 ?_
        generalize World.drew wx = wz at U0 U2 U3 hownU hmu g2 hsd ⊢
        refine wpAnyT_take (i := 0) (v := ?_) rfl (by kernel_rfl) (by kernel_rfl) (by kernel_rfl) (by kernel_rfl) (fun _ _ _ h => h) (Or.inl ⟨by rfl, ?_⟩) g2 ?_
        rotate_left
        focus (intro w hSw; (try dsimp only at hSw); go_simp; try with_reducible rfl)
        try simp only [Act.put, List.setIfInBounds_toArray, List.set_cons_zero, List.set_cons_succ, List.getElem_toArray, List.getElem_cons_zero, List.getElem_cons_succ]
        refine wpAnyT_take (i := 1) (v := ?_) rfl (by kernel_rfl) (by kernel_rfl) (by kernel_rfl) (by kernel_rfl) (fun _ _ _ h => h) (Or.inl ⟨by rfl, ?_⟩) g2 ?_
        rotate_left
        focus (intro w hSw; (try dsimp only at hSw); go_simp; try with_reducible rfl)
        try simp only [Act.put, List.setIfInBounds_toArray, List.set_cons_zero, List.set_cons_succ, List.getElem_toArray, List.getElem_cons_zero, List.getElem_cons_succ]
        refine wpAnyT_take (i := 2) (v := ?_) rfl (by kernel_rfl) (by kernel_rfl) (by kernel_rfl) (by kernel_rfl) (fun _ _ _ h => h) (Or.inl ⟨by rfl, ?_⟩) g2 ?_
        rotate_left
        focus (intro w hSw; (try dsimp only at hSw); go_simp; try with_reducible rfl)
        try simp only [Act.put, List.setIfInBounds_toArray, List.set_cons_zero, List.set_cons_succ, List.getElem_toArray, List.getElem_cons_zero, List.getElem_cons_succ]
        refine wpAnyT_take (i := 3) (v := ?_) rfl (by kernel_rfl) (by kernel_rfl) (by kernel_rfl) (by kernel_rfl) (fun _ _ _ h => h) (Or.inl ⟨by rfl, ?_⟩) g2 ?_
        rotate_left
        focus (intro w hSw; (try dsimp only at hSw); go_simp; try with_reducible rfl)
        try simp only [Act.put, List.setIfInBounds_toArray, List.set_cons_zero, List.set_cons_succ, List.getElem_toArray, List.getElem_cons_zero, List.getElem_cons_succ]
        refine wpAnyT_take (i := 4) (v := ?_) rfl (by kernel_rfl) (by kernel_rfl) (by kernel_rfl) (by kernel_rfl) (fun _ _ _ h => h) (Or.inl ⟨by rfl, ?_⟩) g2 ?_
        rotate_left
        focus (intro w hSw; (try dsimp only at hSw); go_simp; try with_reducible rfl)
        try simp only [Act.put, List.setIfInBounds_toArray, List.set_cons_zero, List.set_cons_succ, List.getElem_toArray, List.getElem_cons_zero, List.getElem_cons_succ]
        refine wpAnyT_ready (rs := [5]) (by kernel_rfl) (by simp) (AllReadyT.cons rfl (fun K hK => ?_) AllReadyT.nil)
        (go_simp; refine (hP1 _).mono ?_; rintro en w7 ⟨rfl, hm7⟩; have U3' := U3.mid hm7 (Or.inr (Nat.zero_le _)); go_wp2_with fail)
        refine hK.out _ _ (Or.inr (U3'.cell 2 rfl)) (fun _ => ?_)
        clear hK K
        try simp only [Act.put, List.setIfInBounds_toArray, List.set_cons_zero, List.set_cons_succ, List.getElem_toArray, List.getElem_cons_zero, List.getElem_cons_succ]
        have U0' := U0.mid hm7 (Or.inr (Nat.zero_le _))
        have U2' := U2.mid hm7 (Or.inr (Nat.zero_le _))
        have hownU' := owns_mid hownU hm7 (Or.inl (Nat.zero_le _))
        have hmu' := hmu.trans hm7
        have hs7 := hm7.size
        clear U0 U2 U3 hownU hmu g2 hP1 hm7
        generalize stepE at0 x v = ed at HPE ⊢
        have haz := Mid.alloc w7 (.cells #[.int .i64 ed.a, .int .i64 ed.l, .int .i64 ed.b] 78)
        have T0 := U0'.mid haz (Or.inr (Nat.zero_le _))
        have T2 := U2'.mid haz (Or.inr (Nat.zero_le _))
        have T3 := U3'.mid haz (Or.inr (Nat.zero_le _))
        have hownT := hownU'.alloc (.cells #[.int .i64 ed.a, .int .i64 ed.l, .int .i64 ed.b] 78)
        have hmt := hmu'.trans haz
        have hS2 := T3.cell 2 rfl
        have hrs : Rs (w7.alloc (.cells #[.int .i64 ed.a, .int .i64 ed.l, .int .i64 ed.b] 78)) (w7.heap.size + 1) (some ⟨w7.heap.size, 0, none⟩) [.int .i64 ed.a, .int .i64 ed.l, .int .i64 ed.b] := fun _ => ⟨w7.heap.size, 0, rfl, Nat.lt_succ_self _, fun j u hu => (World.cell?_alloc_at _ _ _ _ rfl).trans (by simpa using hu)⟩
        have hone : ∀ u ∈ [Value.int .i64 ed.a, .int .i64 ed.l, .int .i64 ed.b], u.oneCell' = true := by
          intro u hu
          simp at hu
          rcases hu with rfl | rfl | rfl <;> rfl
        have hmxl : n2 + 1 ≤ maxLen := by unfold maxLen; omega
        have hbyt : (n2 + 1) * 24 ≤ 140737488355328 := by omega
        have hbas : w1.heap.size ≤ (w7.alloc (.cells #[.int .i64 ed.a, .int .i64 ed.l, .int .i64 ed.b] 78)).heap.size := by simp; omega
        have hGz : G < w7.heap.size := U3'.1
        have HO := Lib.hid hone
        have HB0 := Lib.hid (fun (g : Nat) (h : Value.ownBlock (.slice A2 n2 c2) = some g) => (hownT.lt g h).1)
        have HBk := Lib.hid hbk
        clear hone hbk U0' U2' U3' hownU' hmu' haz
        refine wpAnyT_ready (rs := [6]) (by kernel_rfl) (by simp) (AllReadyT.cons rfl (fun K hK => ?_) AllReadyT.nil)
        go_simp
        refine hK.out _ _ (Or.inr hS2) (fun _ => ?_)
        clear hK K
        try simp only [Act.put, List.setIfInBounds_toArray, List.set_cons_zero, List.set_cons_succ, List.getElem_toArray, List.getElem_cons_zero, List.getElem_cons_succ]
        generalize hwt : w7.alloc (.cells #[.int .i64 ed.a, .int .i64 ed.l, .int .i64 ed.b] 78) = wt at T0 T2 T3 hownT hmt hS2 hrs hbas ⊢
        have hszt : wt.heap.size = w7.heap.size + 1 := by rw [← hwt]; simp
        have HZT := Lib.hid hszt
        clear hwt hszt
        refine wpAnyT_ready (rs := [7]) (by kernel_rfl) (by simp) (AllReadyT.cons rfl (fun K hK => ?_) AllReadyT.nil)
        (refine step_cat (by rfl) (.tmp 84) (.tmp 89) 27 (by rfl) w1.heap.size 78 (.agg #[.int .i64 0, .int .i64 0, .int .i64 0]) 3 24 undSE infoE rfl (by decide) (.slice A2 n2 c2) n2 _ (by rfl) hownT (some ⟨w7.heap.size, 0, none⟩) 1 1 _ [.int .i64 ed.a, .int .i64 ed.l, .int .i64 ed.b] (by rfl) hrs rfl HO.out hmxl hbyt hbas ?_; intro v2 w8 ho8 hgr8 hat8; obtain ⟨A3, c3, rfl, -, -⟩ := owns_shape ho8)
        refine hK.out _ _ (Or.inr ((T3.grown hgr8 HBk.out).cell 2 rfl)) (fun _ => ?_)
        clear hK K
        try simp only [Act.put, List.setIfInBounds_toArray, List.set_cons_zero, List.set_cons_succ, List.getElem_toArray, List.getElem_cons_zero, List.getElem_cons_succ]
        have R3 := T3.grown hgr8 HBk.out
        have R0 := T0.grown hgr8 (fun h => by have := HB0.out _ h; have := HS.out; omega)
        have R2 := T2.grown hgr8 (fun h => by have := HB0.out _ h; have := HS.out; omega)
        have hmr8 : Mid 0 0 w w8 := hmt.transNew (Mid.of_grownRow hownT hgr8) (Or.inl (by have := HS.out; omega))
        have hS3 := R3.cell 2 rfl
        have hne : Value.ownBlock (.slice A3 (n2 + 1) c3) ≠ some G := by
          rcases hat8 with h | h
          · rw [h]; exact HBk.out
          · rw [h]
            intro he
            injection he with he
            have := HZT.out
            omega
        have HNE2 := Lib.hid hne
        have hrf := R3.2.2
        clear hne hat8 hS2 hrs T0 T2 T3 hmt
        refine wpAnyT_take (i := 8) (v := ?_) rfl (by kernel_rfl) (by kernel_rfl) (by kernel_rfl) (by kernel_rfl) (fun _ _ _ h => h) (Or.inl ⟨by rfl, ?_⟩) hS3 ?_
        rotate_left
        focus (intro w hSw; (try dsimp only at hSw); go_simp; try with_reducible rfl)
        try simp only [Act.put, List.setIfInBounds_toArray, List.set_cons_zero, List.set_cons_succ, List.getElem_toArray, List.getElem_cons_zero, List.getElem_cons_succ]
        refine wpAnyT_ready (rs := [9]) (by kernel_rfl) (by simp) (AllReadyT.cons rfl (fun K hK => ?_) AllReadyT.nil)
        (go_simp)
        refine hK.out _ _ (Or.inl rfl) (fun _ => ?_)
        clear hK K
        try simp only [Act.put, List.setIfInBounds_toArray, List.set_cons_zero, List.set_cons_succ, List.getElem_toArray, List.getElem_cons_zero, List.getElem_cons_succ]
        refine wpAnyT_done (by kernel_rfl) ?_ _
        go_wp2_with fail
        go_roundw
        case rel =>
          have hst := Mid.setCell w8 (lo := G) (hi := G + 1) (p := ⟨G, 2, none⟩) (.slice A3 (n2 + 1) c3) (Nat.le_refl _) (Nat.lt_succ_self _)
          refine ⟨k + 1, A3, n2 + 1, c3, sz', by omega, by go_num, by rw [hto], hnsz, Lib.hid (by rw [HN.out]; omega), ?_, HNE2.out, R0.mid hst (Or.inl (by omega)), R2.mid hst (Or.inl (by omega)), R3.set 2 _ (by simp) rfl, hmr8.storeNew (by show w.heap.size ≤ G; omega) _⟩
          have h1 := owns_other ho8 (k := G) (grown_setCell (World.grownBy.refl _ (some G)) 2 (.slice A3 (n2 + 1) c3)) HNE2.out
          rw [HPE.out, ← List.append_assoc, edI_append, ints_append, edI_one]
          exact h1
        case measure => simp [intOf]; omega
    · obtain rfl : k = wd.length := by omega
      have hszf : sz = s + (wd.length : Int) - 1 := by rw [hszv, Nat.min_eq_right (by omega)]; omega
      subst hszf
      have hrg : RG wr w1.heap.size wr.heap.size A2 (es ++ pathE u s wd v wd.length) := OV.rv (e := 78) (size := 3) (c := c2) (n := n2) ⟨Nat.le_refl _, hown, fun g hg => (hown.lt g hg).2⟩
      have hnl : (es ++ pathE u s wd v wd.length).length = n2 := by rw [HN.out, List.length_append, pathE_len]
      have HNL := Lib.hid hnl
      have z2 := Z3.cell 2 rfl
      clear hnl hszv
      go_wp2_with fail
      with_reducible refine (impl_sortedN A2 (es ++ pathE u s wd v wd.length) n2 c2 _ _ _ HNL.out hrg (by omega)).mono ?_
      rintro en w6 ⟨A4, c4, rfl, ho6, hm6⟩
      have Q2 := Z2.mid hm6 (Or.inr (Nat.zero_le _))
      have Q3 := Z3.mid hm6 (Or.inr (Nat.zero_le _))
      have hG6 : G < wr.heap.size := Z3.1
      have hsz6 := hm6.size
      clear z2
      have a0 := Q2.cell 0 rfl
      have a1 := Q2.cell 1 rfl
      have a2 := Q2.cell 2 rfl
      have b0 := Q3.cell 0 rfl
      have b1 := Q3.cell 1 rfl
      have b2 := Q3.cell 2 rfl
      have af := Q2.2.2
      have bf := Q3.2.2
      go_wp2_with fail
      have hcl : (w.heap.size + 1 == G) = false := by simp; omega
      refine bodyPost_ret (v := .tuple #[.agg #[.int .i64 r, .int .i64 (s + (wd.length : Int) - 1), .slice A4 (canon (es ++ pathE u s wd v wd.length)).length c4], .bool true]) (by simp [results, Tryz.results104, go_sem, a0, a1, a2, b0, b1, b2, af, bf]) rfl ⟨A4, c4, ?_, ?_, ?_⟩
      · rw [HRS.out, HRE.out]
      · rw [HRE.out]
        refine OG.wide (OG.mid ho6 (a := w.heap.size) (b := G + 1) ?_ (Or.inl hG6)) (by have := hmr.size; omega) (by simp) (Nat.le_refl _)
        repeat (first | exact Mid.refl _ _ _ | refine Mid.stored ?_ _ (by simp; try omega) (by simp; try omega))
      · have h := hmr.trans hm6
        repeat (first | exact h | refine Mid.storeNew ?_ (by simp; try omega) _)
end Go.Proofs.YtimmnnncgnnkgaaGreat

/- Plain: the folds of the first edges; their numbers. -/
namespace Go.Proofs.YtimmnnncgnnkgaaGreat
set_option linter.unusedVariables false
set_option linter.unusedSimpArgs false

/-- The folds of the first k edges with those behind them. -/
def foldsUp (es : List Ed) : Nat → List (Int × Int)
  | 0 => []
  | k + 1 => foldsUp es k ++ (match es[k]? with | none => [] | some e => (es.drop (k + 1)).flatMap (foldsAB e))
theorem foldsUp_succ {es : List Ed} {k : Nat} {e : Ed} (h : es[k]? = some e) : foldsUp es (k + 1) = foldsUp es k ++ (es.drop (k + 1)).flatMap (foldsAB e) := by
  rw [foldsUp, h]
theorem foldsUp_cons (f : Ed) (t : List Ed) : ∀ k, foldsUp (f :: t) (k + 1) = t.flatMap (foldsAB f) ++ foldsUp t k
  | 0 => by simp [foldsUp]
  | k + 1 => by
    rw [foldsUp, foldsUp_cons f t k, foldsUp, List.append_assoc]
    simp
theorem foldsUp_all : ∀ es : List Ed, foldsUp es es.length = folds es
  | [] => rfl
  | f :: t => by rw [List.length_cons, foldsUp_cons, foldsUp_all t, folds]
theorem foldsAB_len (e f : Ed) : (foldsAB e f).length ≤ 2 := by
  unfold foldsAB
  split
  · split <;> split <;> simp
  · simp
theorem flat_len (e : Ed) : ∀ t : List Ed, (t.flatMap (foldsAB e)).length ≤ 2 * t.length
  | [] => by simp
  | f :: t => by
    have := flat_len e t
    have := foldsAB_len e f
    rw [List.flatMap_cons, List.length_append, List.length_cons]
    omega
theorem foldsUp_len (es : List Ed) : ∀ k, (foldsUp es k).length ≤ k * (2 * es.length)
  | 0 => by simp [foldsUp]
  | k + 1 => by
    have := foldsUp_len es k
    rw [foldsUp, List.length_append, Nat.succ_mul]
    cases h : es[k]? with
    | none => simp; omega
    | some e =>
      have h1 := flat_len e (es.drop (k + 1))
      rw [List.length_drop] at h1
      simp only
      omega
/-- The numbers of a list of folds. -/
def fdI (ps : List (Int × Int)) : List Int := (ps.map fun p => [p.1, p.2]).flatten
theorem fdI_append (a b : List (Int × Int)) : fdI (a ++ b) = fdI a ++ fdI b := by simp [fdI]
theorem fdI_one (p : Int × Int) : fdI [p] = [p.1, p.2] := by simp [fdI]
theorem fdI_head (p : Int × Int) (t : List (Int × Int)) : fdI (p :: t) = p.1 :: p.2 :: fdI t := by simp [fdI]
theorem flat_take {e : Ed} {fs : List Ed} {j : Nat} {f : Ed} (h : fs[j]? = some f) : (fs.take (j + 1)).flatMap (foldsAB e) = (fs.take j).flatMap (foldsAB e) ++ foldsAB e f := by
  rw [take_snoc h, List.flatMap_append]
  simp
end Go.Proofs.YtimmnnncgnnkgaaGreat

/- IsFolded and DegreeOf. -/
namespace Go.Proofs.YtimmnnncgnnkgaaGreat
set_option linter.unusedVariables false
set_option linter.unusedSimpArgs false
open Go.RowKit

theorem pw_of_drop {R : Ed → Ed → Prop} : ∀ {es : List Ed}, (∀ i e, es[i]? = some e → ∀ f ∈ es.drop (i + 1), R e f) → es.Pairwise R
  | [], _ => List.Pairwise.nil
  | a :: t, h => List.pairwise_cons.2 ⟨fun f hf => h 0 a rfl f (by simpa using hf), pw_of_drop fun i e he f hf => h (i + 1) e (by simpa using he) f (by simpa using hf)⟩
theorem pw_drop {R : Ed → Ed → Prop} {es : List Ed} (h : es.Pairwise R) {i : Nat} {e : Ed} (he : es[i]? = some e) {f : Ed} (hf : f ∈ es.drop (i + 1)) : R e f := by
  induction es generalizing i with
  | nil => simp at he
  | cons a t ih =>
    obtain ⟨h1, h2⟩ := List.pairwise_cons.1 h
    cases i with
    | zero =>
      obtain rfl : a = e := by simpa using he
      exact h1 f (by simpa using hf)
    | succ i => exact ih h2 (by simpa using he) (by simpa using hf)
theorem RG.drop {w : World} {lo hi : Nat} {b off : Nat} {es : List Ed} (h : RG w lo hi (some ⟨b, off, none⟩) es) {k : Nat} : RG w lo hi (some ⟨b, off + k * 3, none⟩) (es.drop k) := by
  refine ⟨h.1, fun hn => ?_⟩
  obtain ⟨b', off', hA, h1, h2, hc⟩ := h.2 (fun he => hn (by
    rw [ints, List.map_eq_nil_iff] at he ⊢
    rw [edI_drop, he]
    exact List.drop_nil))
  injection hA with hA
  injection hA with hA1 hA2
  subst hA1 hA2
  refine ⟨b, off + k * 3, rfl, h1, h2, fun j u hu => ?_⟩
  have := hc (k * 3 + j) u (by
    rw [ints, edI_drop, List.map_drop, List.getElem?_drop] at hu
    rw [ints]
    exact hu)
  rw [show off + k * 3 + j = off + (k * 3 + j) by omega]
  exact this

set_option maxHeartbeats 3200000 in
theorem impl_IsFolded (r s : Int) (A : Option Addr) (es : List Ed) (c : Nat) (w : World) (lo hi : Nat) (hr : RG w lo hi A es) (hl : es.length ≤ 1048576) (hcl : es.length ≤ c) (b : Bool) (hb : b = true ↔ IsFol r s es) :
    Calls Tryz.prog 97 #[graV r s A es.length c] w fun e w' => e = .returned (.bool b) ∧ Mid 0 0 w w' := by
  have HB := Lib.hid hb
  clear hb
  have hm0 : Mid 0 0 w (w.alloc (.cells #[.int .i64 r, .int .i64 s, .slice A es.length c] 29)) := Mid.alloc _ _
  have B1 := (Box.new w #[.int .i64 r, .int .i64 s, .slice A es.length c] 29)
  obtain ⟨b1, hb1⟩ := bool_of (IsGr r s es)
  have H1 := Lib.hid hb1
  clear hb1
  go_enter Tryz.func97, Tryz.ntmps97
  go_wp2_with fail
  with_reducible refine (impl_IsGraph r s A es c _ _ _ (hr.mid hm0 (Or.inl (Nat.zero_le _))).rv hl b1 H1.out).mono ?_
  rintro en w1 ⟨rfl, hm1⟩
  have B1a := B1.mid hm1 (Or.inr (Nat.zero_le _))
  clear B1
  have p0 := B1a.cell 0 rfl
  have p1 := B1a.cell 1 rfl
  have p2 := B1a.cell 2 rfl
  have hm := hm0.trans hm1
  cases b1 with
  | false =>
    obtain rfl : b = false := bool_no HB.out fun h => by have := H1.out.2 h.gr; cases this
    go_wp2_with fail
    go_ret
    exact ⟨rfl, hm⟩
  | true =>
  have G1 := Lib.hid (H1.out.1 rfl)
  go_wp2_with fail
  go_loopw [13] (fun i wr => ∃ k : Nat, k ≤ es.length ∧ i = .int .i64 k ∧ Box wr w.heap.size [.int .i64 r, .int .i64 s, .slice A es.length c] ∧ (∀ i e, i < k → es[i]? = some e → ∀ f ∈ es.drop (i + 1), ¬ Clash e f) ∧ Mid 0 0 w wr) (fun i _ => es.length - (intOf i).toNat)
  case atStart => exact ⟨0, Nat.zero_le _, rfl, B1a, fun i e hi => absurd hi (Nat.not_lt_zero _), hm⟩
  case round =>
    obtain ⟨wo, hwo⟩ : ∃ wo, wo = wr := ⟨_, rfl⟩
    subst hwo
    obtain ⟨k, hk, rfl, bx, hall, hmr⟩ := hrel
    by_cases hlt : k < es.length
    · obtain ⟨B, off, e, rfl, -, hbh, he, e0, e1, e2⟩ := (hr.mid hmr (Or.inl (Nat.zero_le _))).ed hlt
      have hal := Mid.alloc wo (.cells #[.int .i64 e.a, .int .i64 e.l, .int .i64 e.b] 78)
      have E1 := Box.new wo #[.int .i64 e.a, .int .i64 e.l, .int .i64 e.b] 78
      have hmo := hmr.trans hal
      have B1 := bx.mid hal (Or.inr (Nat.zero_le _))
      have q0 := B1.cell 0 rfl
      have q1 := B1.cell 1 rfl
      have q2 := B1.cell 2 rfl
      have hkn : (k : Int) < (es.length : Int) := by omega
      by_cases hck : c = k + 1
      · subst hck
        go_wp2_with fail
        have hdl : (es.drop (k + 1)).length = es.length - (k + 1) := List.length_drop
        have HE := Lib.hid he
        have HA := Lib.hid hall
        clear he hall
        have HN : Hid (∀ i e', i < k + 1 → es[i]? = some e' → ∀ f ∈ es.drop (i + 1), ¬ Clash e' f) := Lib.hid (by
          intro i e' hi he' f hf
          by_cases h : i < k
          · exact HA.out i e' h he' f hf
          · obtain rfl : i = k := by omega
            have := List.length_pos_of_mem hf
            omega)
        go_loopw [24] (fun i wr => i = .int .i64 0 ∧ wr = wo.alloc (.cells #[.int .i64 e.a, .int .i64 e.l, .int .i64 e.b] 78)) (fun _ _ => 0)
        case atStart => exact ⟨rfl, rfl⟩
        case round =>
          obtain ⟨rfl, rfl⟩ := hrel
          go_wp2_with fail
          go_roundw
          case rel => exact ⟨k + 1, by omega, by go_num, B1, HN.out, hmo⟩
          case measure => simp [intOf]; omega
      · go_wp2_with fail
        have hrd := (hr.mid hmo (Or.inl (Nat.zero_le _))).drop (k := k + 1)
        have hdl : (es.drop (k + 1)).length = es.length - (k + 1) := List.length_drop
        have HE := Lib.hid he
        have HA := Lib.hid hall
        clear he hall
        go_loopw [24] (fun i wr => ∃ j : Nat, j ≤ es.length - (k + 1) ∧ i = .int .i64 j ∧ Box wr w.heap.size [.int .i64 r, .int .i64 s, .slice (some ⟨B, off, none⟩) es.length c] ∧ Box wr wo.heap.size [.int .i64 e.a, .int .i64 e.l, .int .i64 e.b] ∧ (∀ f ∈ (es.drop (k + 1)).take j, ¬ Clash e f) ∧ Mid 0 0 (wo.alloc (.cells #[.int .i64 e.a, .int .i64 e.l, .int .i64 e.b] 78)) wr) (fun i _ => es.length - (k + 1) - (intOf i).toNat)
        case atStart => exact ⟨0, Nat.zero_le _, rfl, B1, E1, by simp, Mid.refl _ _ _⟩
        case round =>
          obtain ⟨j, hj, rfl, bx2, bxe, hin, hmx⟩ := hrel
          by_cases hlt2 : j < es.length - (k + 1)
          · obtain ⟨B', off', f, hA, -, hbh2, hf, f0, f1, f2⟩ := (hrd.mid hmx (Or.inl (Nat.zero_le _))).ed (k := j) (by omega)
            injection hA with hA
            injection hA with hA1 hA2
            subst hA1 hA2
            have hal2 := Mid.alloc wr (.cells #[.int .i64 f.a, .int .i64 f.l, .int .i64 f.b] 78)
            have hmx2 := hmx.trans hal2
            have bx3 := bx2.mid hal2 (Or.inr (Nat.zero_le _))
            have bxe3 := bxe.mid hal2 (Or.inr (Nat.zero_le _))
            have g0 := bxe3.cell 0 rfl
            have g1 := bxe3.cell 1 rfl
            have g2 := bxe3.cell 2 rfl
            have hjn : (j : Int) < ((es.length - (k + 1) : Nat) : Int) := by omega
            have HF := Lib.hid hf
            have HI := Lib.hid hin
            clear hf hin
            by_cases hc : Clash e f
            · have hb : b = false := bool_no HB.out fun h => pw_drop h.fol HE.out (List.mem_of_getElem? HF.out) hc
              subst hb
              obtain ⟨c1, c2⟩ := hc
              have d1 : (e.l == f.l) = true := by simpa using c1
              by_cases c3 : e.a = f.a
              · have d2 : (e.a == f.a) = true := by simpa using c3
                clear c1 c2 c3
                go_wp2_with fail
                go_ret
                exact ⟨rfl, (hmo.trans hmx2)⟩
              · have d2 : (e.a == f.a) = false := by simpa only [beq_eq_false_iff_ne] using c3
                have d3 : (e.b == f.b) = true := by simpa using (c2.resolve_left c3)
                clear c1 c2 c3
                go_wp2_with fail
                go_ret
                exact ⟨rfl, (hmo.trans hmx2)⟩
            · have HN : Hid (∀ f' ∈ (es.drop (k + 1)).take (j + 1), ¬ Clash e f') := Lib.hid (by
                intro f' hf'
                rw [take_snoc HF.out] at hf'
                rcases List.mem_append.1 hf' with h | h
                · exact HI.out f' h
                · obtain rfl : f' = f := by simpa using h
                  exact hc)
              by_cases c1 : e.l = f.l
              · have d1 : (e.l == f.l) = true := by simpa using c1
                have d2 : (e.a == f.a) = false := by simp only [beq_eq_false_iff_ne]; exact fun h => hc ⟨c1, .inl h⟩
                have d3 : (e.b == f.b) = false := by simp only [beq_eq_false_iff_ne]; exact fun h => hc ⟨c1, .inr h⟩
                clear c1 hc
                go_wp2_with fail
                go_roundw
                case rel => exact ⟨j + 1, by omega, by go_num, bx3, bxe3, HN.out, hmx2⟩
                case measure => simp [intOf]; omega
              · have d1 : (e.l == f.l) = false := by simpa only [beq_eq_false_iff_ne] using c1
                clear c1 hc
                go_wp2_with fail
                go_roundw
                case rel => exact ⟨j + 1, by omega, by go_num, bx3, bxe3, HN.out, hmx2⟩
                case measure => simp [intOf]; omega
          · obtain rfl : j = es.length - (k + 1) := by omega
            have HN : Hid (∀ i e', i < k + 1 → es[i]? = some e' → ∀ f ∈ es.drop (i + 1), ¬ Clash e' f) := Lib.hid (by
              intro i e' hi he' f hf
              by_cases h : i < k
              · exact HA.out i e' h he' f hf
              · obtain rfl : i = k := by omega
                rw [HE.out] at he'
                injection he' with he'
                subst he'
                exact hin f (by rw [← hdl, List.take_length]; exact hf))
            go_wp2_with fail
            go_roundw
            case rel => exact ⟨k + 1, by omega, by go_num, bx2, HN.out, hmo.trans hmx⟩
            case measure => simp [intOf]; omega
    · obtain rfl : k = es.length := by omega
      obtain rfl : b = true := HB.out.2 ⟨G1.out, pw_of_drop fun i e he => hall i e (List.getElem?_eq_some_iff.1 he).1 he⟩
      go_wp2_with fail
      go_ret
      exact ⟨rfl, hmr⟩
theorem pw_of_get {es : List Ed} (h : ∀ (i j : Nat) (e f : Ed), j < i → es[i]? = some e → es[j]? = some f → ¬ Clash e f) : es.Pairwise fun e f => ¬ Clash e f := by
  rw [List.pairwise_iff_getElem]
  intro i j hi hj hij hc
  exact h j i _ _ hij (List.getElem?_eq_getElem hj) (List.getElem?_eq_getElem hi) hc.symm
theorem get_of_pw {es : List Ed} (h : es.Pairwise fun e f => ¬ Clash e f) {i j : Nat} {e f : Ed} (hij : j < i) (he : es[i]? = some e) (hf : es[j]? = some f) : ¬ Clash e f := by
  rw [List.pairwise_iff_getElem] at h
  obtain ⟨hi, rfl⟩ := List.getElem?_eq_some_iff.1 he
  obtain ⟨hj, rfl⟩ := List.getElem?_eq_some_iff.1 hf
  exact fun hc => h j i hj hi hij hc.symm

set_option maxHeartbeats 3200000 in
theorem spec_IsFolded (r s : Int) (A : Option Addr) (es : List Ed) (c : Nat) (w : World) (lo hi : Nat) (hr : RG w lo hi A es) (hl : es.length ≤ 1048576) (b : Bool) (hb : b = true ↔ IsFol r s es) :
    Calls Tryz.prog 92 #[graV r s A es.length c] w fun e w' => e = .returned (.bool b) ∧ Mid 0 0 w w' := by
  have HB := Lib.hid hb
  clear hb
  have hm0 : Mid 0 0 w (w.alloc (.cells #[.int .i64 r, .int .i64 s, .slice A es.length c] 29)) := Mid.alloc _ _
  have B1 := (Box.new w #[.int .i64 r, .int .i64 s, .slice A es.length c] 29)
  obtain ⟨b1, hb1⟩ := bool_of (IsGr r s es)
  have H1 := Lib.hid hb1
  clear hb1
  go_enter Tryz.func92, Tryz.ntmps92
  go_wp2_with fail
  go_loopw [3] (fun i wr => ∃ k : Nat, k ≤ es.length ∧ i = .int .i64 k ∧ Box wr w.heap.size [.int .i64 r, .int .i64 s, .slice A es.length c] ∧ (∀ (i j : Nat) (e f : Ed), j < i → i < k → es[i]? = some e → es[j]? = some f → ¬ Clash e f) ∧ Mid 0 0 w wr) (fun i _ => es.length - (intOf i).toNat)
  case atStart => exact ⟨0, Nat.zero_le _, rfl, B1, fun i j e f h1 h2 => absurd h2 (Nat.not_lt_zero _), hm0⟩
  case round =>
    obtain ⟨wo, hwo⟩ : ∃ wo, wo = wr := ⟨_, rfl⟩
    subst hwo
    obtain ⟨k, hk, rfl, bx, hall, hmr⟩ := hrel
    have p0 := bx.cell 0 rfl
    have p1 := bx.cell 1 rfl
    have p2 := bx.cell 2 rfl
    have HA := Lib.hid hall
    clear hall
    by_cases hlt : k < es.length
    · have hkn : (k : Int) < (es.length : Int) := by omega
      go_wp2_with fail
      with_reducible refine (spec_IsGraph r s A es c _ _ _ (hr.mid hmr (Or.inl (Nat.zero_le _))).rv hl b1 H1.out).mono ?_
      rintro en w1 ⟨rfl, hm1⟩
      have hmo := hmr.trans hm1
      have bx1 := bx.mid hm1 (Or.inr (Nat.zero_le _))
      have q0 := bx1.cell 0 rfl
      have q1 := bx1.cell 1 rfl
      have q2 := bx1.cell 2 rfl
      cases b1 with
      | false =>
        obtain rfl : b = false := bool_no HB.out fun h => by have := H1.out.2 h.gr; cases this
        go_wp2_with fail
        with_reducible refine (spec_IsGraph r s A es c _ _ _ (hr.mid hmo (Or.inl (Nat.zero_le _))).rv hl false H1.out).mono ?_
        rintro en w2 ⟨rfl, hm2⟩
        go_wp2_with fail
        go_ret
        exact ⟨rfl, hmo.trans hm2⟩
      | true =>
        have G1 := Lib.hid (H1.out.1 rfl)
        go_wp2_with fail
        go_loopw [4] (fun i wr => ∃ j : Nat, j ≤ k ∧ i = .int .i64 j ∧ Box wr w.heap.size [.int .i64 r, .int .i64 s, .slice A es.length c] ∧ (∀ (i : Nat) (e f : Ed), i < j → es[k]? = some e → es[i]? = some f → ¬ Clash e f) ∧ Mid 0 0 w wr) (fun i _ => k - (intOf i).toNat)
        case atStart => exact ⟨0, Nat.zero_le _, rfl, bx1, fun i e f h => absurd h (Nat.not_lt_zero _), hmo⟩
        case round =>
          obtain ⟨j, hj, rfl, bx2, hin, hmx⟩ := hrel
          have u0 := bx2.cell 0 rfl
          have u1 := bx2.cell 1 rfl
          have u2 := bx2.cell 2 rfl
          have HI := Lib.hid hin
          clear hin
          by_cases hlt2 : j < k
          · obtain ⟨B, off, e, rfl, -, hbh, he, e0, e1, e2⟩ := (hr.mid hmx (Or.inl (Nat.zero_le _))).ed hlt
            obtain ⟨B', off', f, hA, -, hbh2, hf, f0, f1, f2⟩ := (hr.mid hmx (Or.inl (Nat.zero_le _))).ed (k := j) (by omega)
            injection hA with hA
            injection hA with hA1 hA2
            subst hA1 hA2
            have hbs : B < wr.heap.size := by have := hr.1; have := hmx.size; omega
            have hala := Mid.alloc wr (.cells #[.int .i64 e.a, .int .i64 e.l, .int .i64 e.b] 78)
            have halb := Mid.alloc (wr.alloc (.cells #[.int .i64 e.a, .int .i64 e.l, .int .i64 e.b] 78)) (.cells #[.int .i64 f.a, .int .i64 f.l, .int .i64 f.b] 78)
            have hal2 := hala.trans halb
            have E1 := (Box.new wr #[.int .i64 e.a, .int .i64 e.l, .int .i64 e.b] 78).mid halb (Or.inr (Nat.zero_le _))
            have E2 := Box.new (wr.alloc (.cells #[.int .i64 e.a, .int .i64 e.l, .int .i64 e.b] 78)) #[.int .i64 f.a, .int .i64 f.l, .int .i64 f.b] 78
            rw [World.size_alloc] at E2
            have bxa := bx2.mid hala (Or.inr (Nat.zero_le _))
            have bx3 := bx2.mid hal2 (Or.inr (Nat.zero_le _))
            have va0 := bxa.cell 0 rfl
            have va1 := bxa.cell 1 rfl
            have va2 := bxa.cell 2 rfl
            have g0 := E1.cell 0 rfl
            have g1 := E1.cell 1 rfl
            have g2 := E1.cell 2 rfl
            have h0 := E2.cell 0 rfl
            have h1 := E2.cell 1 rfl
            have h2 := E2.cell 2 rfl
            have g0' := cell_keep hala hbs (Or.inr (Nat.zero_le _)) f0
            have g1' := cell_keep hala hbs (Or.inr (Nat.zero_le _)) f1
            have g2' := cell_keep hala hbs (Or.inr (Nat.zero_le _)) f2
            have hjn : (j : Int) < (k : Int) := by omega
            have hjn2 : (j : Int) < (es.length : Int) := by omega
            have HE := Lib.hid he
            have HF := Lib.hid hf
            clear he hf
            by_cases hc : Clash e f
            · have hb : b = false := bool_no HB.out fun h => get_of_pw h.fol hlt2 HE.out HF.out hc
              subst hb
              obtain ⟨c1, c2⟩ := hc
              have d1 : (e.l == f.l) = true := by simpa using c1
              by_cases c3 : e.a = f.a
              · have d2 : (e.a == f.a) = true := by simpa using c3
                clear c1 c2 c3
                go_wp2_with fail
                go_ret
                exact ⟨rfl, hmx.trans hal2⟩
              · have d2 : (e.a == f.a) = false := by simpa only [beq_eq_false_iff_ne] using c3
                have d3 : (e.b == f.b) = true := by simpa using (c2.resolve_left c3)
                clear c1 c2 c3
                go_wp2_with fail
                go_ret
                exact ⟨rfl, hmx.trans hal2⟩
            · have HN : Hid (∀ (i : Nat) (e f : Ed), i < j + 1 → es[k]? = some e → es[i]? = some f → ¬ Clash e f) := Lib.hid (by
                intro i e' f' hi he' hf'
                by_cases h : i < j
                · exact HI.out i e' f' h he' hf'
                · obtain rfl : i = j := by omega
                  rw [HE.out] at he'
                  rw [HF.out] at hf'
                  injection he' with he'
                  injection hf' with hf'
                  subst he' hf'
                  exact hc)
              by_cases c1 : e.l = f.l
              · have d1 : (e.l == f.l) = true := by simpa using c1
                have d2 : (e.a == f.a) = false := by simp only [beq_eq_false_iff_ne]; exact fun h => hc ⟨c1, .inl h⟩
                have d3 : (e.b == f.b) = false := by simp only [beq_eq_false_iff_ne]; exact fun h => hc ⟨c1, .inr h⟩
                clear c1 hc
                go_wp2_with fail
                go_roundw
                case rel => exact ⟨j + 1, by omega, by go_num, bx3, HN.out, hmx.trans hal2⟩
                case measure => simp [intOf]; omega
              · have d1 : (e.l == f.l) = false := by simpa only [beq_eq_false_iff_ne] using c1
                clear c1 hc
                go_wp2_with fail
                go_roundw
                case rel => exact ⟨j + 1, by omega, by go_num, bx3, HN.out, hmx.trans hal2⟩
                case measure => simp [intOf]; omega
          · obtain rfl : j = k := by omega
            have HN : Hid (∀ (i j' : Nat) (e f : Ed), j' < i → i < j + 1 → es[i]? = some e → es[j']? = some f → ¬ Clash e f) := Lib.hid (by
              intro i j' e' f' h1 h2 he' hf'
              by_cases h : i < j
              · exact HA.out i j' e' f' h1 h he' hf'
              · obtain rfl : i = j := by omega
                exact HI.out j' e' f' h1 he' hf')
            go_wp2_with fail
            go_roundw
            case rel => exact ⟨j + 1, by omega, by go_num, bx2, HN.out, hmx⟩
            case measure => simp [intOf]; omega
    · obtain rfl : k = es.length := by omega
      obtain rfl : b = b1 := by
        cases b1 with
        | false => exact bool_no HB.out fun h => by have := H1.out.2 h.gr; cases this
        | true => exact HB.out.2 ⟨H1.out.1 rfl, pw_of_get fun i j e f h1 he hf => HA.out i j e f h1 (List.getElem?_eq_some_iff.1 he).1 he hf⟩
      go_wp2_with fail
      with_reducible refine (spec_IsGraph r s A es c _ _ _ (hr.mid hmr (Or.inl (Nat.zero_le _))).rv hl b H1.out).mono ?_
      rintro en w2 ⟨rfl, hm2⟩
      go_wp2_with fail
      go_ret
      exact ⟨rfl, hmr.trans hm2⟩
end Go.Proofs.YtimmnnncgnnkgaaGreat

/- DegreeOf. -/
namespace Go.Proofs.YtimmnnncgnnkgaaGreat
set_option linter.unusedVariables false
set_option linter.unusedSimpArgs false
open Go.RowKit

set_option maxHeartbeats 3200000 in
theorem impl_DegreeOf (r s : Int) (A : Option Addr) (es : List Ed) (c : Nat) (v : Int) (w : World) (lo hi : Nat) (hr : RG w lo hi A es) (hl : es.length ≤ 1048576) :
    Calls Tryz.prog 140 #[.agg #[.int .i64 r, .int .i64 s, .slice A es.length c], .int .i64 v] w fun e w' => e = .returned (.int .i64 (deg es v)) ∧ Mid 0 0 w w' := by
  have hm0 : Mid 0 0 w (w.alloc (.cells #[.int .i64 r, .int .i64 s, .slice A es.length c] 29)) := Mid.alloc _ _
  have B1 := (Box.new w #[.int .i64 r, .int .i64 s, .slice A es.length c] 29)
  go_enter Tryz.func140, Tryz.ntmps140
  go_wp2_with fail
  go_loopw [5, 11] (fun n i wr => ∃ k d : Nat, k ≤ es.length ∧ i = .int .i64 k ∧ n = .int .i64 d ∧ Hid (deg (es.take k) v = d) ∧ Box wr w.heap.size [.int .i64 r, .int .i64 s, .slice A es.length c] ∧ Mid 0 0 w wr) (fun _ i _ => es.length - (intOf i).toNat)
  case atStart => exact ⟨0, 0, Nat.zero_le _, rfl, rfl, Lib.hid (by simp [deg]), B1, hm0⟩
  case round =>
    obtain ⟨k, d, hk, rfl, rfl, HD, bx, hmr⟩ := hrel
    have hd : d ≤ 2097152 := by
      have h1 := deg_le (es.take k) v
      have h2 := HD.out
      simp at h1
      omega
    have p0 := bx.cell 0 rfl
    have p1 := bx.cell 1 rfl
    have p2 := bx.cell 2 rfl
    by_cases hlt : k < es.length
    · obtain ⟨B, off, e, rfl, -, hbh, he, e0, e1, e2⟩ := (hr.mid hmr (Or.inl (Nat.zero_le _))).ed hlt
      have hal := Mid.alloc wr (.cells #[.int .i64 e.a, .int .i64 e.l, .int .i64 e.b] 78)
      have hm1 := hmr.trans hal
      have bx1 := bx.mid hal (Or.inr (Nat.zero_le _))
      have hkn : (k : Int) < (es.length : Int) := by omega
      have HS := Lib.hid (deg_take_succ he v)
      clear he
      by_cases c1 : e.a = v
      · have b1 : (e.a == v) = true := by simpa using c1
        by_cases c2 : e.b = v
        · have b2 : (e.b == v) = true := by simpa using c2
          have HT : Hid (deg (es.take (k + 1)) v = d + 1 + 1) := Lib.hid (by rw [HS.out, HD.out, degE, if_pos c1, if_pos c2])
          clear c1 c2
          go_wp2_with fail
          go_roundw
          case rel => exact ⟨k + 1, d + 1 + 1, by omega, by go_num, congrArg (Value.int .i64) (by omega), HT, bx1, hm1⟩
          case measure => simp [intOf]; omega
        · have b2 : (e.b == v) = false := by simpa only [beq_eq_false_iff_ne] using c2
          have HT : Hid (deg (es.take (k + 1)) v = d + 1) := Lib.hid (by rw [HS.out, HD.out, degE, if_pos c1, if_neg c2])
          clear c1 c2
          go_wp2_with fail
          go_roundw
          case rel => exact ⟨k + 1, d + 1, by omega, by go_num, by go_num, HT, bx1, hm1⟩
          case measure => simp [intOf]; omega
      · have b1 : (e.a == v) = false := by simpa only [beq_eq_false_iff_ne] using c1
        by_cases c2 : e.b = v
        · have b2 : (e.b == v) = true := by simpa using c2
          have HT : Hid (deg (es.take (k + 1)) v = d + 1) := Lib.hid (by rw [HS.out, HD.out, degE, if_neg c1, if_pos c2])
          clear c1 c2
          go_wp2_with fail
          go_roundw
          case rel => exact ⟨k + 1, d + 1, by omega, by go_num, by go_num, HT, bx1, hm1⟩
          case measure => simp [intOf]; omega
        · have b2 : (e.b == v) = false := by simpa only [beq_eq_false_iff_ne] using c2
          have HT : Hid (deg (es.take (k + 1)) v = d) := Lib.hid (by rw [HS.out, HD.out, degE, if_neg c1, if_neg c2]; rfl)
          clear c1 c2
          go_wp2_with fail
          go_roundw
          case rel => exact ⟨k + 1, d, by omega, by go_num, by go_num, HT, bx1, hm1⟩
          case measure => simp [intOf]; omega
    · obtain rfl : k = es.length := by omega
      have hx := HD.out
      rw [List.take_length] at hx
      subst hx
      go_wp2_with fail
      go_ret
      exact ⟨rfl, hmr⟩

set_option maxHeartbeats 3200000 in
theorem spec_DegreeOf (r s : Int) (A : Option Addr) (es : List Ed) (c : Nat) (v : Int) (w : World) (lo hi : Nat) (hr : RG w lo hi A es) (hl : es.length ≤ 1048576) :
    Calls Tryz.prog 157 #[.agg #[.int .i64 r, .int .i64 s, .slice A es.length c], .int .i64 v] w fun e w' => e = .returned (.int .i64 (deg es v)) ∧ Mid 0 0 w w' := by
  have hm0 : Mid 0 0 w (w.alloc (.cells #[.int .i64 r, .int .i64 s, .slice A es.length c] 29)) := Mid.alloc _ _
  have B1 := (Box.new w #[.int .i64 r, .int .i64 s, .slice A es.length c] 29)
  go_enter Tryz.func157, Tryz.ntmps157
  go_wp2_with fail
  go_loopw [5, 6] (fun n i wr => ∃ k d : Nat, k ≤ es.length ∧ i = .int .i64 k ∧ n = .int .i64 d ∧ Hid (deg (es.take k) v = d) ∧ Box wr w.heap.size [.int .i64 r, .int .i64 s, .slice A es.length c] ∧ Mid 0 0 w wr) (fun _ i _ => es.length - (intOf i).toNat)
  case atStart => exact ⟨0, 0, Nat.zero_le _, rfl, rfl, Lib.hid (by simp [deg]), B1, hm0⟩
  case round =>
    obtain ⟨k, d, hk, rfl, rfl, HD, bx, hmr⟩ := hrel
    have hd : d ≤ 2097152 := by
      have h1 := deg_le (es.take k) v
      have h2 := HD.out
      simp at h1
      omega
    have p0 := bx.cell 0 rfl
    have p1 := bx.cell 1 rfl
    have p2 := bx.cell 2 rfl
    by_cases hlt : k < es.length
    · obtain ⟨B, off, e, rfl, -, hbh, he, e0, e1, e2⟩ := (hr.mid hmr (Or.inl (Nat.zero_le _))).ed hlt
      have hm1 := hmr
      have bx1 := bx
      have hkn : (k : Int) < (es.length : Int) := by omega
      have HS := Lib.hid (deg_take_succ he v)
      clear he
      by_cases c1 : e.a = v
      · have b1 : (e.a == v) = true := by simpa using c1
        by_cases c2 : e.b = v
        · have b2 : (e.b == v) = true := by simpa using c2
          have HT : Hid (deg (es.take (k + 1)) v = d + 1 + 1) := Lib.hid (by rw [HS.out, HD.out, degE, if_pos c1, if_pos c2])
          clear c1 c2
          go_wp2_with fail
          go_roundw
          case rel => exact ⟨k + 1, d + 1 + 1, by omega, by go_num, congrArg (Value.int .i64) (by omega), HT, bx1, hm1⟩
          case measure => simp [intOf]; omega
        · have b2 : (e.b == v) = false := by simpa only [beq_eq_false_iff_ne] using c2
          have HT : Hid (deg (es.take (k + 1)) v = d + 1) := Lib.hid (by rw [HS.out, HD.out, degE, if_pos c1, if_neg c2])
          clear c1 c2
          go_wp2_with fail
          go_roundw
          case rel => exact ⟨k + 1, d + 1, by omega, by go_num, by go_num, HT, bx1, hm1⟩
          case measure => simp [intOf]; omega
      · have b1 : (e.a == v) = false := by simpa only [beq_eq_false_iff_ne] using c1
        by_cases c2 : e.b = v
        · have b2 : (e.b == v) = true := by simpa using c2
          have HT : Hid (deg (es.take (k + 1)) v = d + 1) := Lib.hid (by rw [HS.out, HD.out, degE, if_neg c1, if_pos c2])
          clear c1 c2
          go_wp2_with fail
          go_roundw
          case rel => exact ⟨k + 1, d + 1, by omega, by go_num, by go_num, HT, bx1, hm1⟩
          case measure => simp [intOf]; omega
        · have b2 : (e.b == v) = false := by simpa only [beq_eq_false_iff_ne] using c2
          have HT : Hid (deg (es.take (k + 1)) v = d) := Lib.hid (by rw [HS.out, HD.out, degE, if_neg c1, if_neg c2]; rfl)
          clear c1 c2
          go_wp2_with fail
          go_roundw
          case rel => exact ⟨k + 1, d, by omega, by go_num, by go_num, HT, bx1, hm1⟩
          case measure => simp [intOf]; omega
    · obtain rfl : k = es.length := by omega
      have hx := HD.out
      rw [List.take_length] at hx
      subst hx
      go_wp2_with fail
      go_ret
      exact ⟨rfl, hmr⟩
end Go.Proofs.YtimmnnncgnnkgaaGreat

/- CompleteGraph, the program. -/
namespace Go.Proofs.YtimmnnncgnnkgaaGreat
set_option linter.unusedVariables false
set_option linter.unusedSimpArgs false
open Go.RowKit

/-- Two rows of numbers of the call's own, in two blocks. -/
structure TwoI (w : World) (lo : Nat) (F T : Value) (n m : Nat) (xs ys : List Int) : Prop where
  f : w.ownsRow lo 3 1 F n (ints xs)
  t : w.ownsRow lo 3 1 T m (ints ys)
  ne : F.ownBlock ≠ T.ownBlock
theorem TwoI.swap {w : World} {lo : Nat} {F T : Value} {n m : Nat} {xs ys : List Int} (h : TwoI w lo F T n m xs ys) : TwoI w lo T F m n ys xs := ⟨h.t, h.f, fun e => h.ne e.symm⟩
theorem TwoI.push {w w' : World} {lo : Nat} {F T F' : Value} {n m n' : Nat} {xs ys xs' : List Int} (h : TwoI w lo F T n m xs ys) (ho : w'.ownsRow lo 3 1 F' n' (ints xs')) (hg : w.grownBy w' F.ownBlock) (hb : F'.ownBlock = F.ownBlock ∨ F'.ownBlock = some (w.heap.size + 1)) : TwoI w' lo F' T n' m xs' ys := by
  refine ⟨ho, h.t.kept hg ?_, fun e => ?_⟩
  · cases hT : T.ownBlock with
    | none => exact .inl rfl
    | some j => exact .inr fun e => h.ne (by rw [hT]; exact e.symm)
  · rcases hb with hb | hb
    · exact h.ne (hb.symm.trans e)
    · have := (h.t.lt (w.heap.size + 1) (by rw [← e, hb])).2
      omega
theorem TwoI.mid {w w' : World} {lo a b : Nat} {F T : Value} {n m : Nat} {xs ys : List Int} (h : TwoI w lo F T n m xs ys) (hm : Mid a b w w') (hd : b ≤ lo) : TwoI w' lo F T n m xs ys := ⟨owns_mid h.f hm (Or.inl hd), owns_mid h.t hm (Or.inl hd), h.ne⟩
theorem TwoI.cellF {w : World} {lo b off n c m j : Nat} {T : Value} {xs ys : List Int} {y : Int} (h : TwoI w lo (.slice (some ⟨b, off, none⟩) n c) T n m xs ys) (hj : xs[j]? = some y) : w.cell? ⟨b, off + j, none⟩ = some (.int .i64 y) := by
  obtain ⟨b', off', hA, -, -, hc⟩ := (owns_rv h.f).2 (by intro h0; simp [ints] at h0; subst h0; simp at hj)
  injection hA with hA
  injection hA with h1 h2
  subst h1 h2
  exact hc j _ (by simp [ints, hj])
theorem TwoI.grownE {w w' : World} {lo lo' : Nat} {F T v : Value} {n m k : Nat} {xs ys : List Int} {es : List Ed} (h : TwoI w lo F T n m xs ys) (he : w.ownsRow lo' 78 3 v k (ints (edI es))) (hg : w.grownBy w' v.ownBlock) : TwoI w' lo F T n m xs ys := by
  refine ⟨h.f.kept hg ?_, h.t.kept hg ?_, h.ne⟩
  · rcases owns_ne h.f he (by decide) with h1 | h1
    · exact .inl h1
    · exact .inr h1
  · rcases owns_ne h.t he (by decide) with h1 | h1
    · exact .inl h1
    · exact .inr h1
section
variable {W : World} {ops : Array Oper} {rest : List Oper} {o : Oper} {a : Act} {Q : Exit → Act → World → Prop}
theorem wpList_push2 (hgd : o.guard = none) (s x : Operand)
    (ho : o.op = .call { callee := .builtin .append, args := #[s, x], argTypes := #[25, 25] }) (lo : Nat) (A : Option Addr) (n c : Nat) (xs : List Int) (T : Value) (m : Nat) (ys : List Int) (hs : a.eval s = .slice A n c)
    (h2 : TwoI W lo (.slice A n c) T n m xs ys) (y : Int) (hx : a.eval x = .slice (some ⟨W.heap.size, 0, none⟩) 1 1) (hn : n ≤ 1048576) (hb : lo ≤ W.heap.size)
    (h : ∀ A' c' w', TwoI w' lo (.slice A' (n + 1) c') T (n + 1) m (xs ++ [y]) ys → Mid lo W.heap.size W w' → wpList Tryz.prog ops Q rest (a.put o.dst (.slice A' (n + 1) c')) w') :
    wpList Tryz.prog ops Q (o :: rest) a (W.alloc (.cells #[.int .i64 y] 3)) := by
  refine wpList_push (news := [.int .i64 y]) hgd s x 25 ho lo 3 (.int .i64 0) 1 8 undSI infoI rfl (by decide) (.slice A n c) n (ints xs) hs h2.f 1 hx rfl ?_ (by unfold maxLen; omega) (by omega) hb ?_
  · intro u hu
    simp at hu
    subst hu
    rfl
  · intro v' w' h3 h4 h5
    obtain ⟨A', c', rfl, -, -⟩ := owns_shape h3
    refine h A' c' w' (h2.push ?_ h4 h5) (Mid.of_grownRow h2.f h4)
    rw [ints_append]
    exact h3
end

/-- What CompleteGraph gives. -/
def CompleteIs (r s : Int) (es : List Ed) (rr rs : Int) (res : List Ed) (b : Bool) : Prop :=
  (b = true ∧ IsFol r s es ∧ rr = r ∧ rs = s ∧ res = canon (es ++ addLs s es r.toNat)) ∨ (b = false ∧ ¬ IsFol r s es ∧ rr = 0 ∧ rs = 0 ∧ res = [])
theorem CompleteIs.no {r s : Int} {es : List Ed} {rr rs : Int} {res : List Ed} {b : Bool} (h : CompleteIs r s es rr rs res b) (hn : ¬ IsFol r s es) : b = false ∧ rr = 0 ∧ rs = 0 ∧ res = [] := by
  rcases h with ⟨-, h, -⟩ | ⟨h1, -, h2⟩
  · exact absurd h hn
  · exact ⟨h1, h2⟩
theorem CompleteIs.yes {r s : Int} {es : List Ed} {rr rs : Int} {res : List Ed} {b : Bool} (h : CompleteIs r s es rr rs res b) (hn : IsFol r s es) : b = true ∧ rr = r ∧ rs = s ∧ res = canon (es ++ addLs s es r.toNat) := by
  rcases h with ⟨h1, -, h2⟩ | ⟨-, h, -⟩
  · exact ⟨h1, h2⟩
  · exact absurd hn h

set_option maxHeartbeats 6400000 in
set_option maxRecDepth 100000 in
theorem impl_CompleteGraph (r s : Int) (A : Option Addr) (es : List Ed) (c : Nat) (w : World) (lo hi : Nat)
    (hr : RG w lo hi A es) (hl : es.length ≤ 1048576) (hcl : es.length ≤ c) (rr rs : Int) (res : List Ed) (b : Bool) (hres : CompleteIs r s es rr rs res b) :
    Calls Tryz.prog 62 #[graV r s A es.length c] w fun e w' => ∃ A1 c1, e = .returned (.tuple #[graV rr rs A1 res.length c1, .bool b]) ∧ OG w' w.heap.size w'.heap.size A1 c1 res ∧ Mid 0 0 w w' := by
  have HR := Lib.hid hres
  clear hres
  obtain ⟨b1, hb1⟩ := bool_of (IsFol r s es)
  have H1 := Lib.hid hb1
  clear hb1
  have hm0 : Mid 0 0 w ((w.alloc (.cells #[.int .i64 r, .int .i64 s, .slice A es.length c] 29)).alloc (.cells #[.int .i64 0, .int .i64 0, .slice none 0 0] 29)) := (Mid.alloc _ _).trans (Mid.alloc _ _)
  have B0 := (Box.new w #[.int .i64 r, .int .i64 s, .slice A es.length c] 29).mid (Mid.alloc _ (.cells #[.int .i64 0, .int .i64 0, .slice none 0 0] 29)) (Or.inr (Nat.zero_le _))
  have B2 := Box.new (w.alloc (.cells #[.int .i64 r, .int .i64 s, .slice A es.length c] 29)) #[.int .i64 0, .int .i64 0, .slice none 0 0] 29
  simp only [World.size_alloc] at B2
  go_enter Tryz.func62, Tryz.ntmps62
  go_wp2_with fail
  generalize hw1 : ((w.alloc (.cells #[.int .i64 r, .int .i64 s, .slice A es.length c] 29)).alloc (.cells #[.int .i64 0, .int .i64 0, .slice none 0 0] 29)) = w1 at hm0 B0 B2 ⊢
  have hs1 : w1.heap.size = w.heap.size + 1 + 1 := by rw [← hw1]; simp
  have HS := Lib.hid hs1
  clear hw1 hs1
  with_reducible refine (impl_IsFolded r s A es c _ _ _ (hr.mid hm0 (Or.inl (Nat.zero_le _))) hl hcl b1 H1.out).mono ?_
  rintro en w2 ⟨rfl, hm2⟩
  have C0 := B0.mid hm2 (Or.inr (Nat.zero_le _))
  have C2 := B2.mid hm2 (Or.inr (Nat.zero_le _))
  have p0 := C0.cell 0 rfl
  have p1 := C0.cell 1 rfl
  have p2 := C0.cell 2 rfl
  have z0 := C2.cell 0 rfl
  have z1 := C2.cell 1 rfl
  have z2 := C2.cell 2 rfl
  have zf := C2.2.2
  have hm := hm0.trans hm2
  cases b1 with
  | false =>
    have hno : ¬ IsFol r s es := fun h => by have := H1.out.2 h; cases this
    obtain ⟨rfl, rfl, rfl, rfl⟩ := HR.out.no hno
    go_wp2_with fail
    refine bodyPost_ret (v := .tuple #[.agg #[.int .i64 0, .int .i64 0, .slice none 0 0], .bool false]) (by simp [results, Tryz.results62, go_sem, z0, z1, z2, zf]) rfl ⟨none, 0, rfl, OG.nil, ?_⟩
    repeat (first | exact hm | refine Mid.storeNew ?_ (by simp; try omega) _)
  | true =>
  have F1 := Lib.hid (H1.out.1 rfl)
  have hg := F1.out.gr
  have g1 := hg.rank
  have g2 := hg.size
  have g3 := hg.len
  obtain ⟨rfl, hrr, hrs, hre⟩ := HR.out.yes F1.out
  have HRR := Lib.hid hrr
  have HRS := Lib.hid hrs
  have HRE := Lib.hid hre
  have hmul : 0 ≤ s * r ∧ s * r ≤ 120 := ⟨Int.mul_nonneg (by omega) (by omega), by have := Int.mul_le_mul (show s ≤ 40 by omega) (show r ≤ 3 by omega) (by omega) (by omega); omega⟩
  have hmd : decide (120 < s * r) = false := by simp; omega
  clear B0 B2 HR H1 hrr hrs hre hg
  go_wp2_with fail
  with_reducible refine (impl_copyGraph r s A es c _ _ _ (hr.mid hm (Or.inl (Nat.zero_le _))) hl).mono ?_
  rintro en w4 ⟨A1, c1, rfl, ho4, hm4⟩
  have E0 := C0.mid hm4 (Or.inr (Nat.zero_le _))
  have E2 := C2.mid hm4 (Or.inr (Nat.zero_le _))
  have hal := Mid.alloc w4 (.cells #[.int .i64 r, .int .i64 s, .slice A1 es.length c1] 29)
  have Y0 := E0.mid hal (Or.inr (Nat.zero_le _))
  have Y2 := E2.mid hal (Or.inr (Nat.zero_le _))
  have Y3 := Box.new w4 #[.int .i64 r, .int .i64 s, .slice A1 es.length c1] 29
  have hzs := hm4.size
  have hmy := (hm.trans hm4).trans hal
  have ho5 := (ho4.mid hal (Or.inl (Nat.zero_le _))).ov.2.1
  have hlt4 := ho4.ov.2.2
  clear p0 p1 p2 z0 z1 z2 zf C0 C2
  have hz0 := E0.1
  have hz2 := E2.1
  clear E0 E2
  have hb4 : Value.ownBlock (.slice A1 es.length c1) ≠ some w4.heap.size := fun h => by have := hlt4 _ h; omega
  have hw2 : w.heap.size ≤ w2.heap.size := hm.size
  have hw22 : w.heap.size + 2 ≤ w2.heap.size := by have h1 := HS.out; have h2 := hm2.size; omega
  go_wp2_with fail
  generalize hw5 : w4.alloc (.cells #[.int .i64 r, .int .i64 s, .slice A1 es.length c1] 29) = w5 at Y0 Y2 Y3 hmy ho5 ⊢
  have hs5 : w4.heap.size + 1 ≤ w5.heap.size := by rw [← hw5]; simp
  clear hw5 hal
  have hGw : w.heap.size + 1 < w4.heap.size := by have := HS.out; have := hm2.size; omega
  have hG2 : w2.heap.size ≤ w4.heap.size := hzs
  generalize hG : w4.heap.size = G at Y3 hb4 hs5 hGw hG2 ⊢
  have hgl : ∀ e ∈ es, 1 ≤ e.l ∧ e.l ≤ 3 := fun e he => by have := F1.out.gr.all e he; unfold InG at this; omega
  clear hG hm2 hm4 hm0 hlt4 hz0 hz2 hzs ho4 HS hm
  go_loopw [5] (fun x wr => ∃ (k : Nat) (A2 : Option Addr) (n2 c2 : Nat), (k : Int) ≤ r ∧ x = .int .i64 ((k : Int) + 1) ∧ Hid ((es ++ addLs s es k).length = n2) ∧
      wr.ownsRow w2.heap.size 78 3 (.slice A2 n2 c2) n2 (ints (edI (es ++ addLs s es k))) ∧ Value.ownBlock (.slice A2 n2 c2) ≠ some G ∧
      Box wr w.heap.size [.int .i64 r, .int .i64 s, .slice A es.length c] ∧ Box wr (w.heap.size + 1) [.int .i64 0, .int .i64 0, .slice none 0 0] ∧
      Box wr G [.int .i64 r, .int .i64 s, .slice A2 n2 c2] ∧ Mid 0 0 w wr) (fun x _ => (r + 1 - intOf x).toNat)
  case atStart => exact ⟨0, A1, es.length, c1, by omega, rfl, Lib.hid (by simp [addLs]), by simpa [addLs] using ho5, hb4, Y0, Y2, Y3, hmy⟩
  case round =>
    obtain ⟨wo, hwo⟩ : ∃ wo, wo = wr := ⟨_, rfl⟩
    subst hwo
    obtain ⟨k, A2, n2, c2, hk, rfl, HN, hown, hbk, Z0, Z2, Z3, hmr⟩ := hrel
    have hGo : G < wo.heap.size := Z3.1
    have p0 := Z0.cell 0 rfl
    have p1 := Z0.cell 1 rfl
    have p2 := Z0.cell 2 rfl
    by_cases hlt : (k : Int) < r
    · have hkx : (k : Int) + 1 ≤ r := by omega
      have hk0 : (0 : Int) < (k : Int) + 1 := by omega
      have hal := (Mid.alloc wo (.cells #[] 3)).trans (Mid.alloc (wo.alloc (.cells #[] 3)) (.cells #[] 3))
      have T0 : TwoI ((wo.alloc (.cells #[] 3)).alloc (.cells #[] 3)) wo.heap.size (.slice (some ⟨wo.heap.size, 0, none⟩) 0 0) (.slice (some ⟨wo.heap.size + 1, 0, none⟩) 0 0) 0 0 [] [] := by
        have O1 := owns_empty wo 3 1
        have O2 := owns_empty (wo.alloc (.cells #[] 3)) 3 1
        rw [World.size_alloc] at O2
        refine ⟨O1.alloc _, owns_base O2 (Nat.le_succ _), ?_⟩
        intro h
        simp [Value.ownBlock] at h
      go_wp2_with fail
      go_loopw [6, 7, 8] (fun f t v wr => ∃ (j : Nat) (AF : Option Addr) (nF cF : Nat) (AT : Option Addr) (nT cT : Nat), (j : Int) ≤ s ∧ v = .int .i64 j ∧ f = .slice AF nF cF ∧ t = .slice AT nT cT ∧ Hid ((freeV es ((k : Int) + 1) j).length = nF) ∧ Hid ((freeV es (-((k : Int) + 1)) j).length = nT) ∧
        Hid (TwoI wr wo.heap.size (.slice AF nF cF) (.slice AT nT cT) nF nT (freeV es ((k : Int) + 1) j) (freeV es (-((k : Int) + 1)) j)) ∧ Mid 0 0 wo wr) (fun _ _ v _ => (s - intOf v).toNat)
      case atStart => exact ⟨0, _, 0, 0, _, 0, 0, by omega, rfl, rfl, rfl, Lib.hid rfl, Lib.hid rfl, Lib.hid T0, hal⟩
      case round =>
        obtain ⟨j, AF, nF, cF, AT, nT, cT, hj, rfl, rfl, rfl, HNF, HNT, HT, hmx⟩ := hrel
        have hnF : nF ≤ 40 := by have h1 := freeV_le es ((k : Int) + 1) j; have h2 := HNF.out; omega
        have hnT : nT ≤ 40 := by have h1 := freeV_le es (-((k : Int) + 1)) j; have h2 := HNT.out; omega
        have X0 := Z0.mid hmx (Or.inr (Nat.zero_le _))
        have q0 := X0.cell 0 rfl
        have q1 := X0.cell 1 rfl
        have q2 := X0.cell 2 rfl
        by_cases hlt2 : (j : Int) < s
        · have hS1 := freeV_succ es ((k : Int) + 1) j
          have hS2 := freeV_succ es (-((k : Int) + 1)) j
          go_wp2_with fail
          with_reducible refine (impl_NextVertex r s A es c j ((k : Int) + 1) _ lo hi (hr.mid (hmr.trans hmx) (Or.inl (Nat.zero_le _))) (by omega) hgl (by omega) (by omega)).mono ?_
          rintro en w6 ⟨rfl, hm6⟩
          generalize hv1 : nextV es (j : Int) ((k : Int) + 1) = v1 at hS1 ⊢
          have X1 := X0.mid hm6 (Or.inr (Nat.zero_le _))
          clear q0 q1 q2
          have q0 := X1.cell 0 rfl
          have q1 := X1.cell 1 rfl
          have q2 := X1.cell 2 rfl
          have hmx6 := hmx.trans hm6
          have hsz6 := hmx6.size
          have HT6 := Lib.hid (HT.out.mid hm6 (Nat.zero_le _))
          have hwo : w.heap.size < wo.heap.size := Z0.1
          by_cases c1 : v1 < 0
          · have b1 : decide (v1 < 0) = true := by simpa using c1
            rw [if_pos c1] at hS1
            go_wp2_with (at_builtin; refine wpList_push2 rfl _ _ rfl wo.heap.size AF nF cF _ _ _ _ rfl HT6.out j rfl (by omega) hsz6 ?_; intro A7 c7 w7 ht7 hm7; have X2 := X1.mid hm7 (Or.inl hwo); have z0 := X2.cell 0 rfl; have z1 := X2.cell 1 rfl; have z2 := X2.cell 2 rfl)
            with_reducible refine (impl_NextVertex r s A es c j (-((k : Int) + 1)) _ lo hi (hr.mid (hmr.trans (hmx6.transNew hm7 (Or.inl (Nat.le_refl _)))) (Or.inl (Nat.zero_le _))) (by omega) hgl (by omega) (by omega)).mono ?_
            rintro en w8 ⟨rfl, hm8⟩
            generalize hv2 : nextV es (j : Int) (-((k : Int) + 1)) = v2 at hS2 ⊢
            have hmx8 := ((hmx6.transNew hm7 (Or.inl (Nat.le_refl _)))).trans hm8
            have hsz8 := hmx8.size
            have HT8 := Lib.hid ((ht7).mid hm8 (Nat.zero_le _))
            by_cases c2 : v2 < 0
            · have b2 : decide (v2 < 0) = true := by simpa using c2
              rw [if_pos c2] at hS2
              clear hv2 c2 hv1
              go_wp2_with (at_builtin; refine wpList_push2 rfl _ _ rfl wo.heap.size AT nT cT _ _ _ _ rfl HT8.out.swap j rfl (by omega) hsz8 ?_; intro A9 c9 w9 ht9 hm9)
              go_roundw
              case rel => exact ⟨j + 1, A7, nF + 1, c7, A9, nT + 1, c9, by omega, by go_num, rfl, rfl, Lib.hid (by rw [hS1, List.length_append, HNF.out]; rfl), Lib.hid (by rw [hS2, List.length_append, HNT.out]; rfl), Lib.hid (by rw [hS1, hS2]; exact ht9.swap), hmx8.transNew hm9 (Or.inl (Nat.le_refl _))⟩
              case measure => simp [intOf]; omega
            · have b2 : decide (v2 < 0) = false := by simpa using c2
              rw [if_neg c2] at hS2
              clear hv2 c2 hv1
              go_wp2_with fail
              go_roundw
              case rel => exact ⟨j + 1, A7, nF + 1, c7, AT, nT, cT, by omega, by go_num, rfl, rfl, Lib.hid (by rw [hS1, List.length_append, HNF.out]; rfl), Lib.hid (by rw [hS2, List.append_nil, HNT.out]), Lib.hid (by rw [hS1, hS2, List.append_nil]; exact HT8.out), hmx8⟩
              case measure => simp [intOf]; omega
          · have b1 : decide (v1 < 0) = false := by simpa using c1
            rw [if_neg c1] at hS1
            have X2 := X1
            clear q0 q1 q2
            have q0 := X2.cell 0 rfl
            have q1 := X2.cell 1 rfl
            have q2 := X2.cell 2 rfl
            go_wp2_with fail
            with_reducible refine (impl_NextVertex r s A es c j (-((k : Int) + 1)) _ lo hi (hr.mid (hmr.trans hmx6) (Or.inl (Nat.zero_le _))) (by omega) hgl (by omega) (by omega)).mono ?_
            rintro en w8 ⟨rfl, hm8⟩
            generalize hv2 : nextV es (j : Int) (-((k : Int) + 1)) = v2 at hS2 ⊢
            have hmx8 := (hmx6).trans hm8
            have hsz8 := hmx8.size
            have HT8 := Lib.hid ((HT6.out).mid hm8 (Nat.zero_le _))
            by_cases c2 : v2 < 0
            · have b2 : decide (v2 < 0) = true := by simpa using c2
              rw [if_pos c2] at hS2
              clear hv2 c2 hv1
              go_wp2_with (at_builtin; refine wpList_push2 rfl _ _ rfl wo.heap.size AT nT cT _ _ _ _ rfl HT8.out.swap j rfl (by omega) hsz8 ?_; intro A9 c9 w9 ht9 hm9)
              go_roundw
              case rel => exact ⟨j + 1, AF, nF, cF, A9, nT + 1, c9, by omega, by go_num, rfl, rfl, Lib.hid (by rw [hS1, List.append_nil, HNF.out]), Lib.hid (by rw [hS2, List.length_append, HNT.out]; rfl), Lib.hid (by rw [hS1, hS2]; rw [List.append_nil]; exact ht9.swap), hmx8.transNew hm9 (Or.inl (Nat.le_refl _))⟩
              case measure => simp [intOf]; omega
            · have b2 : decide (v2 < 0) = false := by simpa using c2
              rw [if_neg c2] at hS2
              clear hv2 c2 hv1
              go_wp2_with fail
              go_roundw
              case rel => exact ⟨j + 1, AF, nF, cF, AT, nT, cT, by omega, by go_num, rfl, rfl, Lib.hid (by rw [hS1, List.append_nil, HNF.out]), Lib.hid (by rw [hS2, List.append_nil, HNT.out]), Lib.hid (by rw [hS1, hS2, List.append_nil]; rw [List.append_nil]; exact HT8.out), hmx8⟩
              case measure => simp [intOf]; omega
        · obtain ⟨wi, hwi⟩ : ∃ wi, wi = wr := ⟨_, rfl⟩
          subst hwi
          obtain rfl : j = s.toNat := by omega
          have hsame := free_same F1.out hk0
          have hall := addL_all F1.out hk0
          have hwo : w.heap.size < wo.heap.size := Z0.1
          have hnf : nF = nT := by rw [← HNF.out, ← HNT.out]; exact hsame
          have X2 := Z2.mid hmx (Or.inr (Nat.zero_le _))
          have X3 := Z3.mid hmx (Or.inr (Nat.zero_le _))
          have hown2 := owns_mid hown hmx (Or.inl (Nat.zero_le _))
          have hmi := hmr.trans hmx
          have HNX := Lib.hid hnf
          go_wp2_with fail
          go_loopw [9, 59] (fun _ i wr => ∃ (m : Nat) (A3 : Option Addr) (n3 c3 : Nat), m ≤ nF ∧ i = .int .i64 m ∧ Hid (((es ++ addLs s es k) ++ (addL s es ((k : Int) + 1)).take m).length = n3) ∧
            wr.ownsRow w2.heap.size 78 3 (.slice A3 n3 c3) n3 (ints (edI ((es ++ addLs s es k) ++ (addL s es ((k : Int) + 1)).take m))) ∧ Value.ownBlock (.slice A3 n3 c3) ≠ some G ∧
            Box wr w.heap.size [.int .i64 r, .int .i64 s, .slice A es.length c] ∧ Box wr (w.heap.size + 1) [.int .i64 0, .int .i64 0, .slice none 0 0] ∧ Box wr G [.int .i64 r, .int .i64 s, .slice A3 n3 c3] ∧
            Hid (TwoI wr wo.heap.size (.slice AF nF cF) (.slice AT nT cT) nF nT (freeV es ((k : Int) + 1) s.toNat) (freeV es (-((k : Int) + 1)) s.toNat)) ∧ Mid 0 0 w wr) (fun _ i _ => nF - (intOf i).toNat)
          case atStart => exact ⟨0, A2, n2, c2, Nat.zero_le _, rfl, Lib.hid (by simpa using HN.out), by simpa using hown2, hbk, X0, X2, X3, HT, hmi⟩
          case round =>
            obtain ⟨m, A3, n3, c3, hm3, rfl, HN3, hown3, hbk3, V0, V2, V3, HT3, hmv⟩ := hrel
            by_cases hlt3 : m < nF
            · obtain ⟨a, b', ha, hb', hab⟩ := addL_at F1.out hk0 (i := m) (by rw [HNF.out]; exact hlt3)
              obtain ⟨BF, oF, f, rfl, hBF, hf, cF0⟩ := (owns_rv HT3.out.f).at (k := m) (by rw [HNF.out]; exact hlt3)
              obtain ⟨BT, oT, t, rfl, hBT, ht, cT0⟩ := (owns_rv HT3.out.t).at (k := m) (by rw [HNT.out]; omega)
              rw [ha] at hf
              rw [hb'] at ht
              injection hf with hf
              injection ht with ht
              subst hf ht
              have HAB := Lib.hid hab
              have hmn : (m : Int) < (nF : Int) := by omega
              have hmt : (m : Int) < (nT : Int) := by omega
              have hm0' : (0 : Int) ≤ (m : Int) := by omega
              have g0 := V3.cell 0 rfl
              have g1 := V3.cell 1 rfl
              have g2 := V3.cell 2 rfl
              have HA1 := Lib.hid ha
              have HA2 := Lib.hid hb'
              clear ha hb' hab
              have hn3 : n3 ≤ 1000 := by
                have h1 := addLs_len s es k
                have h2 := HN3.out
                have h3 := addL_len s es ((k : Int) + 1)
                have h4 : k * s.toNat ≤ 3 * 40 := Nat.mul_le_mul (by omega) (by omega)
                simp at h2
                omega
              have hbase : w2.heap.size ≤ wr.heap.size := by have := V3.1; omega
              go_wp2_with fail
              have hmd := Mid.drew1 wr
              have U0 := V0.mid hmd (Or.inr (Nat.zero_le _))
              have U2 := V2.mid hmd (Or.inr (Nat.zero_le _))
              have U3 := V3.mid hmd (Or.inr (Nat.zero_le _))
              have hownU := owns_mid hown3 hmd (Or.inl (Nat.zero_le _))
              have HT4 := HT3.out.mid hmd (Nat.zero_le _)
              have hmu := hmv.trans hmd
              have f0 := HT4.cellF HA1.out
              have f1 := HT4.swap.cellF HA2.out
              have g2 := U3.cell 2 rfl
              clear V0 V2 V3 hown3 hmv hmd HT3 cF0 cT0 g0 g1
              refine wp_region_T (S := (fun w' => w'.cell? ⟨G, 2, none⟩ = some (.slice A3 n3 c3) ∧ w'.cell? ⟨BF, oF + m, none⟩ = some (.int .i64 a) ∧ w'.cell? ⟨BT, oT + m, none⟩ = some (.int .i64 b'))) 15 (by kernel_rfl) ⟨g2, f0, f1⟩ ?_
              generalize World.drew wr = wz at U0 U2 U3 hownU HT4 hmu f0 f1 g2 ⊢
              have hS : wz.cell? ⟨G, 2, none⟩ = some (.slice A3 n3 c3) ∧ wz.cell? ⟨BF, oF + m, none⟩ = some (.int .i64 a) ∧ wz.cell? ⟨BT, oT + m, none⟩ = some (.int .i64 b') := ⟨g2, f0, f1⟩
              refine wpAnyT_take (i := 0) (v := ?_) rfl (by kernel_rfl) (by kernel_rfl) (by kernel_rfl) (by kernel_rfl) (fun _ _ _ h => h) (Or.inl ⟨by rfl, ?_⟩) hS ?_
              rotate_left
              focus (intro w hSw; (try dsimp only at hSw); go_simp; try with_reducible rfl)
              try simp only [Act.put, List.setIfInBounds_toArray, List.set_cons_zero, List.set_cons_succ, List.getElem_toArray, List.getElem_cons_zero, List.getElem_cons_succ]
              refine wpAnyT_take (i := 1) (v := ?_) rfl (by kernel_rfl) (by kernel_rfl) (by kernel_rfl) (by kernel_rfl) (fun _ _ _ h => h) (Or.inl ⟨by rfl, ?_⟩) hS ?_
              rotate_left
              focus (intro w hSw; (try dsimp only at hSw); go_simp; try with_reducible rfl)
              try simp only [Act.put, List.setIfInBounds_toArray, List.set_cons_zero, List.set_cons_succ, List.getElem_toArray, List.getElem_cons_zero, List.getElem_cons_succ]
              refine wpAnyT_take (i := 2) (v := ?_) rfl (by kernel_rfl) (by kernel_rfl) (by kernel_rfl) (by kernel_rfl) (fun _ _ _ h => h) (Or.inl ⟨by rfl, ?_⟩) hS ?_
              rotate_left
              focus (intro w hSw; (try dsimp only at hSw); go_simp; try with_reducible rfl)
              try simp only [Act.put, List.setIfInBounds_toArray, List.set_cons_zero, List.set_cons_succ, List.getElem_toArray, List.getElem_cons_zero, List.getElem_cons_succ]
              refine wpAnyT_take (i := 3) (v := ?_) rfl (by kernel_rfl) (by kernel_rfl) (by kernel_rfl) (by kernel_rfl) (fun _ _ _ h => h) (Or.inl ⟨by rfl, ?_⟩) hS ?_
              rotate_left
              focus (intro w hSw; (try dsimp only at hSw); go_simp; try with_reducible rfl)
              try simp only [Act.put, List.setIfInBounds_toArray, List.set_cons_zero, List.set_cons_succ, List.getElem_toArray, List.getElem_cons_zero, List.getElem_cons_succ]
              refine wpAnyT_take (i := 4) (v := ?_) rfl (by kernel_rfl) (by kernel_rfl) (by kernel_rfl) (by kernel_rfl) (fun _ _ _ h => h) (Or.inl ⟨by rfl, ?_⟩) hS ?_
              rotate_left
              focus (intro w hSw; (try dsimp only at hSw); go_simp; try with_reducible rfl)
              try simp only [Act.put, List.setIfInBounds_toArray, List.set_cons_zero, List.set_cons_succ, List.getElem_toArray, List.getElem_cons_zero, List.getElem_cons_succ]
              refine wpAnyT_take (i := 5) (v := ?_) rfl (by kernel_rfl) (by kernel_rfl) (by kernel_rfl) (by kernel_rfl) (fun _ _ _ h => h) (Or.inl ⟨by rfl, ?_⟩) hS ?_
              rotate_left
              focus (intro w hSw; (try dsimp only at hSw); go_simp; try with_reducible rfl)
              try simp only [Act.put, List.setIfInBounds_toArray, List.set_cons_zero, List.set_cons_succ, List.getElem_toArray, List.getElem_cons_zero, List.getElem_cons_succ]
              refine wpAnyT_take (i := 6) (v := ?_) rfl (by kernel_rfl) (by kernel_rfl) (by kernel_rfl) (by kernel_rfl) (fun _ _ _ h => h) (Or.inl ⟨by rfl, ?_⟩) hS ?_
              rotate_left
              focus (intro w hSw; (try dsimp only at hSw); go_simp; try with_reducible rfl)
              try simp only [Act.put, List.setIfInBounds_toArray, List.set_cons_zero, List.set_cons_succ, List.getElem_toArray, List.getElem_cons_zero, List.getElem_cons_succ]
              refine wpAnyT_take (i := 7) (v := ?_) rfl (by kernel_rfl) (by kernel_rfl) (by kernel_rfl) (by kernel_rfl) (fun _ _ _ h => h) (Or.inl ⟨by rfl, ?_⟩) hS ?_
              rotate_left
              focus (intro w hSw; (try dsimp only at hSw); go_simp; try with_reducible rfl)
              try simp only [Act.put, List.setIfInBounds_toArray, List.set_cons_zero, List.set_cons_succ, List.getElem_toArray, List.getElem_cons_zero, List.getElem_cons_succ]
              refine wpAnyT_take (i := 8) (v := ?_) rfl (by kernel_rfl) (by kernel_rfl) (by kernel_rfl) (by kernel_rfl) (fun _ _ _ h => h) (Or.inl ⟨by rfl, ?_⟩) hS ?_
              rotate_left
              focus (intro w hSw; (try dsimp only at hSw); go_simp; try with_reducible rfl)
              try simp only [Act.put, List.setIfInBounds_toArray, List.set_cons_zero, List.set_cons_succ, List.getElem_toArray, List.getElem_cons_zero, List.getElem_cons_succ]
              refine wpAnyT_take (i := 9) (v := ?_) rfl (by kernel_rfl) (by kernel_rfl) (by kernel_rfl) (by kernel_rfl) (fun _ _ _ h => h) (Or.inl ⟨by rfl, ?_⟩) hS ?_
              rotate_left
              focus (intro w hSw; (try dsimp only at hSw); go_simp; try with_reducible rfl)
              try simp only [Act.put, List.setIfInBounds_toArray, List.set_cons_zero, List.set_cons_succ, List.getElem_toArray, List.getElem_cons_zero, List.getElem_cons_succ]
              refine wpAnyT_take (i := 10) (v := ?_) rfl (by kernel_rfl) (by kernel_rfl) (by kernel_rfl) (by kernel_rfl) (fun _ _ _ h => h) (Or.inl ⟨by rfl, ?_⟩) hS ?_
              rotate_left
              focus (intro w hSw; (try dsimp only at hSw); go_simp; try with_reducible rfl)
              try simp only [Act.put, List.setIfInBounds_toArray, List.set_cons_zero, List.set_cons_succ, List.getElem_toArray, List.getElem_cons_zero, List.getElem_cons_succ]
              refine wpAnyT_take (i := 11) (v := ?_) rfl (by kernel_rfl) (by kernel_rfl) (by kernel_rfl) (by kernel_rfl) (fun _ _ _ h => h) (Or.inl ⟨by rfl, ?_⟩) hS ?_
              rotate_left
              focus (intro w hSw; (try dsimp only at hSw); go_simp; try with_reducible rfl)
              try simp only [Act.put, List.setIfInBounds_toArray, List.set_cons_zero, List.set_cons_succ, List.getElem_toArray, List.getElem_cons_zero, List.getElem_cons_succ]
              have haz := Mid.alloc wz (.cells #[.int .i64 a, .int .i64 ((k : Int) + 1), .int .i64 b'] 78)
              have T0' := U0.mid haz (Or.inr (Nat.zero_le _))
              have T2' := U2.mid haz (Or.inr (Nat.zero_le _))
              have T3' := U3.mid haz (Or.inr (Nat.zero_le _))
              have hownT := hownU.alloc (.cells #[.int .i64 a, .int .i64 ((k : Int) + 1), .int .i64 b'] 78)
              have HT5 := HT4.mid haz (Nat.zero_le _)
              have hmt := hmu.trans haz
              have hS2 := And.intro (T3'.cell 2 rfl) (And.intro (HT5.cellF HA1.out) (HT5.swap.cellF HA2.out))
              have hrs : Rs (wz.alloc (.cells #[.int .i64 a, .int .i64 ((k : Int) + 1), .int .i64 b'] 78)) (wz.heap.size + 1) (some ⟨wz.heap.size, 0, none⟩) [.int .i64 a, .int .i64 ((k : Int) + 1), .int .i64 b'] := fun _ => ⟨wz.heap.size, 0, rfl, Nat.lt_succ_self _, fun j u hu => (World.cell?_alloc_at _ _ _ _ rfl).trans (by simpa using hu)⟩
              have hone : ∀ u ∈ [Value.int .i64 a, .int .i64 ((k : Int) + 1), .int .i64 b'], u.oneCell' = true := by
                intro u hu
                simp at hu
                rcases hu with rfl | rfl | rfl <;> rfl
              have hmxl : n3 + 1 ≤ maxLen := by unfold maxLen; omega
              have hbyt : (n3 + 1) * 24 ≤ 140737488355328 := by omega
              have hbas : w2.heap.size ≤ (wz.alloc (.cells #[.int .i64 a, .int .i64 ((k : Int) + 1), .int .i64 b'] 78)).heap.size := by have h1 := T3'.1; omega
              have hGz : G < wz.heap.size := U3.1
              have HO := Lib.hid hone
              have HB0 := Lib.hid (fun (g : Nat) (h : Value.ownBlock (.slice A3 n3 c3) = some g) => (hownT.lt g h).1)
              have HBk := Lib.hid hbk3
              clear hone hbk3 U0 U2 U3 hownU f0 f1 g2 hS hmu haz HT4
              refine wpAnyT_ready (rs := [12]) (by kernel_rfl) (by simp) (AllReadyT.cons rfl (fun K hK => ?_) AllReadyT.nil)
              go_simp
              refine hK.out _ _ (Or.inr hS2) (fun _ => ?_)
              clear hK K
              try simp only [Act.put, List.setIfInBounds_toArray, List.set_cons_zero, List.set_cons_succ, List.getElem_toArray, List.getElem_cons_zero, List.getElem_cons_succ]
              generalize hwt : wz.alloc (.cells #[.int .i64 a, .int .i64 ((k : Int) + 1), .int .i64 b'] 78) = wt at T0' T2' T3' hownT HT5 hmt hS2 hrs hbas ⊢
              have hszt : wt.heap.size = wz.heap.size + 1 := by rw [← hwt]; simp
              have HZT := Lib.hid hszt
              clear hwt hszt
              refine wpAnyT_ready (rs := [13]) (by kernel_rfl) (by simp) (AllReadyT.cons rfl (fun K hK => ?_) AllReadyT.nil)
              (refine step_cat (by rfl) (.tmp 63) (.tmp 74) 27 (by rfl) w2.heap.size 78 (.agg #[.int .i64 0, .int .i64 0, .int .i64 0]) 3 24 undSE infoE rfl (by decide) (.slice A3 n3 c3) n3 _ (by rfl) hownT (some ⟨wz.heap.size, 0, none⟩) 1 1 _ [.int .i64 a, .int .i64 ((k : Int) + 1), .int .i64 b'] (by rfl) hrs rfl HO.out hmxl hbyt hbas ?_; intro v9 w9 ho9 hgr9 hat9; obtain ⟨A9, c9, rfl, -, -⟩ := owns_shape ho9)
              refine hK.out _ _ (Or.inr ⟨(T3'.grown hgr9 HBk.out).cell 2 rfl, (HT5.grownE hownT hgr9).cellF HA1.out, (HT5.grownE hownT hgr9).swap.cellF HA2.out⟩) (fun _ => ?_)
              clear hK K
              try simp only [Act.put, List.setIfInBounds_toArray, List.set_cons_zero, List.set_cons_succ, List.getElem_toArray, List.getElem_cons_zero, List.getElem_cons_succ]
              have R3 := T3'.grown hgr9 HBk.out
              have R0 := T0'.grown hgr9 (fun h => by have := HB0.out _ h; omega)
              have R2 := T2'.grown hgr9 (fun h => by have := HB0.out _ h; omega)
              have HT9 := HT5.grownE hownT hgr9
              have hmr9 : Mid 0 0 w w9 := hmt.transNew (Mid.of_grownRow hownT hgr9) (Or.inl hw2)
              have hS3 := And.intro (R3.cell 2 rfl) (And.intro (HT9.cellF HA1.out) (HT9.swap.cellF HA2.out))
              have hne : Value.ownBlock (.slice A9 (n3 + 1) c9) ≠ some G := by
                rcases hat9 with h | h
                · rw [h]; exact HBk.out
                · rw [h]
                  intro he
                  injection he with he
                  have := HZT.out
                  omega
              have HNE := Lib.hid hne
              have hr2 := R3.cell 2 rfl
              have hrf := R3.2.2
              clear hne hat9 hS2 hrs T0' T2' T3' hmt
              refine wpAnyT_take (i := 14) (v := ?_) rfl (by kernel_rfl) (by kernel_rfl) (by kernel_rfl) (by kernel_rfl) (fun _ _ _ h => h) (Or.inl ⟨by rfl, ?_⟩) hS3 ?_
              rotate_left
              focus (intro w hSw; (try dsimp only at hSw); go_simp; try with_reducible rfl)
              try simp only [Act.put, List.setIfInBounds_toArray, List.set_cons_zero, List.set_cons_succ, List.getElem_toArray, List.getElem_cons_zero, List.getElem_cons_succ]
              refine wpAnyT_ready (rs := [15]) (by kernel_rfl) (by simp) (AllReadyT.cons rfl (fun K hK => ?_) AllReadyT.nil)
              (go_simp)
              refine hK.out _ _ (Or.inl rfl) (fun _ => ?_)
              clear hK K
              try simp only [Act.put, List.setIfInBounds_toArray, List.set_cons_zero, List.set_cons_succ, List.getElem_toArray, List.getElem_cons_zero, List.getElem_cons_succ]
              refine wpAnyT_done (by kernel_rfl) ?_ _
              go_wp2_with fail
              go_roundw
              case rel =>
                have hst := Mid.setCell w9 (lo := G) (hi := G + 1) (p := ⟨G, 2, none⟩) (.slice A9 (n3 + 1) c9) (Nat.le_refl _) (Nat.lt_succ_self _)
                have htk : (addL s es ((k : Int) + 1)).take (m + 1) = (addL s es ((k : Int) + 1)).take m ++ [⟨a, (k : Int) + 1, b'⟩] := take_snoc HAB.out
                refine ⟨m + 1, A9, n3 + 1, c9, by omega, by go_num, Lib.hid (by rw [htk, ← List.append_assoc, List.length_append, HN3.out]; rfl), ?_, HNE.out, R0.mid hst (Or.inl (by omega)), R2.mid hst (Or.inl (by omega)), R3.set 2 _ (by simp) rfl, Lib.hid ?_, hmr9.storeNew (by show w.heap.size ≤ G; omega) _⟩
                · have h1 := owns_other ho9 (k := G) (grown_setCell (World.grownBy.refl _ (some G)) 2 (.slice A9 (n3 + 1) c9)) HNE.out
                  rw [htk, ← List.append_assoc, edI_append, ints_append, edI_one]
                  exact h1
                · exact HT9.mid hst (by omega)
              case measure => simp [intOf]; omega
            · obtain rfl : m = nF := by omega
              have hta : (addL s es ((k : Int) + 1)).take m = addL s es ((k : Int) + 1) := List.take_of_length_le (by rw [hall, HNF.out]; exact Nat.le_refl _)
              rw [hta, List.append_assoc, ← addLs_succ] at hown3 HN3
              go_wp2_with fail
              go_roundw
              case rel => exact ⟨k + 1, A3, n3, c3, by omega, by go_num, HN3, hown3, hbk3, V0, V2, V3, hmv⟩
              case measure => simp [intOf]; omega
    · obtain rfl : r = (k : Int) := by omega
      have hn2 : n2 ≤ 1000 := by
        have h1 := addLs_len s es k
        have h2 := HN.out
        have h4 : k * s.toNat ≤ 3 * 40 := Nat.mul_le_mul (by omega) (by omega)
        simp at h2
        omega
      have hrg : RG wo w2.heap.size wo.heap.size A2 (es ++ addLs s es k) := OV.rv (e := 78) (size := 3) (c := c2) (n := n2) ⟨Nat.le_refl _, hown, fun g hg => (hown.lt g hg).2⟩
      have z2 := Z3.cell 2 rfl
      go_wp2_with fail
      with_reducible refine (impl_sortedN A2 (es ++ addLs s es k) n2 c2 _ _ _ HN.out hrg (by omega)).mono ?_
      rintro en w6 ⟨A4, c4, rfl, ho6, hm6⟩
      have Q2 := Z2.mid hm6 (Or.inr (Nat.zero_le _))
      have Q3 := Z3.mid hm6 (Or.inr (Nat.zero_le _))
      have hsz6 := hm6.size
      clear z2 p0 p1 p2
      have a0 := Q2.cell 0 rfl
      have a1 := Q2.cell 1 rfl
      have a2 := Q2.cell 2 rfl
      have b0 := Q3.cell 0 rfl
      have b1 := Q3.cell 1 rfl
      have b2 := Q3.cell 2 rfl
      have af := Q2.2.2
      have bf := Q3.2.2
      go_wp2_with fail
      have hcl : (w.heap.size + 1 == G) = false := by simp; omega
      refine bodyPost_ret (v := .tuple #[.agg #[.int .i64 k, .int .i64 s, .slice A4 (canon (es ++ addLs s es k)).length c4], .bool true]) (by simp [results, Tryz.results62, go_sem, a0, a1, a2, b0, b1, b2, af, bf]) rfl ⟨A4, c4, ?_, ?_, ?_⟩
      · rw [HRR.out, HRS.out, HRE.out]
        rfl
      · rw [HRE.out]
        refine OG.wide (OG.mid ho6 (a := w.heap.size) (b := G + 1) ?_ (Or.inl hGo)) (by have := hmr.size; omega) (by simp) (Nat.le_refl _)
        repeat (first | exact Mid.refl _ _ _ | refine Mid.stored ?_ _ (by simp; try omega) (by simp; try omega))
      · have h := hmr.trans hm6
        repeat (first | exact h | refine Mid.storeNew ?_ (by simp; try omega) _)
end Go.Proofs.YtimmnnncgnnkgaaGreat

/- letters, l5Letters, copyInts (never nil). -/
namespace Go.Proofs.YtimmnnncgnnkgaaGreat
set_option linter.unusedVariables false
set_option linter.unusedSimpArgs false
open Go.RowKit

theorem lets_le {n : Nat} {x : Int} (h : x ∈ lets n) : -(n : Int) ≤ x ∧ x ≤ n := (mem_lets.1 h).2

set_option maxHeartbeats 1600000 in
theorem impl_letters (n : Nat) (w : World) (hn : n ≤ 1000) :
    Calls Tryz.prog 124 #[.int .i64 n] w fun e w' => ∃ A c, e = .returned (.slice A (lets n).length c) ∧ RV w' w.heap.size w'.heap.size A (ints (lets n)) ∧ Mid 0 0 w w' := by
  have hm0 : Mid 0 0 w (w.alloc (.cells #[] 3)) := Mid.alloc _ _
  have O0 := owns_empty w 3 1
  go_enter Tryz.func124, Tryz.ntmps124
  go_wp2_with fail
  go_loopw [3, 4] (fun out i wr => ∃ (k : Nat) (A1 : Option Addr) (c1 n1 : Nat), k ≤ n ∧ i = .int .i64 ((k : Int) + 1) ∧ out = .slice A1 n1 c1 ∧ Hid ((lets k).length = n1) ∧
      wr.ownsRow w.heap.size 3 1 (.slice A1 n1 c1) n1 (ints (lets k)) ∧ Mid 0 0 w wr ∧ w.heap.size ≤ wr.heap.size) (fun _ i _ => (n + 1 - intOf i).toNat)
  case atStart => exact ⟨0, _, 0, 0, Nat.zero_le _, rfl, rfl, Lib.hid rfl, O0, hm0, hm0.size⟩
  case round =>
    obtain ⟨k, A1, c1, n1, hk, rfl, rfl, HN, hown, hm, hsz⟩ := hrel
    have hn1 : n1 ≤ 2000 := by have h1 := lets_len k; have h2 := HN.out; omega
    by_cases hlt : k < n
    · have hkn : (k : Int) + 1 ≤ n := by omega
      have hk0 : (0 : Int) ≤ (k : Int) := by omega
      have b4 : wrap64 (-((k : Int) + 1)) = -((k : Int) + 1) := by unfold wrap64; omega
      have HW := Lib.hid hown
      clear hown
      go_wp2_with (at_builtin; refine wpList_push rfl _ _ 25 rfl w.heap.size 3 (.int .i64 0) 1 8 undSI infoI rfl (by decide) _ _ _ rfl HW.out 2 [.int .i64 ((k : Int) + 1), .int .i64 (-((k : Int) + 1))] rfl rfl ?c1 ?c2 ?c3 hsz ?next)
      case c1 => exact one_of_ints [(k : Int) + 1, -((k : Int) + 1)]
      case c2 => unfold maxLen; omega
      case c3 => omega
      case next =>
        intro v' w3 hown1 hgr _
        obtain ⟨A3, c3, rfl, -, -⟩ := owns_shape hown1
        have hm3 := Mid.of_grownRow HW.out hgr
        go_wp2_with fail
        go_roundw
        case rel =>
          refine ⟨k + 1, A3, c3, n1 + 2, by omega, by go_num, rfl, Lib.hid (by have := HN.out; simp [lets]; omega), ?_, hm.transNew hm3 (Or.inl (Nat.le_refl _)), Nat.le_trans hsz hm3.size⟩
          rw [lets, ints_append]
          exact hown1
        case measure => simp [intOf]; omega
    · obtain rfl : k = n := by omega
      have hx := HN.out
      have hsz2 := hm.size
      go_wp2_with fail
      go_ret
      exact ⟨_, _, (by rw [hx]; rfl), owns_rv hown, hm⟩

set_option maxHeartbeats 1600000 in
theorem spec_l5Letters (n : Nat) (w : World) (hn : n ≤ 1000) :
    Calls Tryz.prog 126 #[.int .i64 n] w fun e w' => ∃ A c, e = .returned (.slice A (lets n).length c) ∧ RV w' w.heap.size w'.heap.size A (ints (lets n)) ∧ Mid 0 0 w w' := by
  have hm0 : Mid 0 0 w (w.alloc (.cells #[] 3)) := Mid.alloc _ _
  have O0 := owns_empty w 3 1
  go_enter Tryz.func126, Tryz.ntmps126
  go_wp2_with fail
  go_loopw [3, 4] (fun out i wr => ∃ (k : Nat) (A1 : Option Addr) (c1 n1 : Nat), k ≤ n ∧ i = .int .i64 ((k : Int) + 1) ∧ out = .slice A1 n1 c1 ∧ Hid ((lets k).length = n1) ∧
      wr.ownsRow w.heap.size 3 1 (.slice A1 n1 c1) n1 (ints (lets k)) ∧ Mid 0 0 w wr ∧ w.heap.size ≤ wr.heap.size) (fun _ i _ => (n + 1 - intOf i).toNat)
  case atStart => exact ⟨0, _, 0, 0, Nat.zero_le _, rfl, rfl, Lib.hid rfl, O0, hm0, hm0.size⟩
  case round =>
    obtain ⟨k, A1, c1, n1, hk, rfl, rfl, HN, hown, hm, hsz⟩ := hrel
    have hn1 : n1 ≤ 2000 := by have h1 := lets_len k; have h2 := HN.out; omega
    by_cases hlt : k < n
    · have hkn : (k : Int) + 1 ≤ n := by omega
      have hk0 : (0 : Int) ≤ (k : Int) := by omega
      have b4 : wrap64 (-((k : Int) + 1)) = -((k : Int) + 1) := by unfold wrap64; omega
      have HW := Lib.hid hown
      clear hown
      go_wp2_with (first | (at_builtin; refine wpList_pushI rfl _ _ rfl w.heap.size A1 n1 c1 (lets k) rfl HW.out ((k : Int) + 1) rfl (by omega) hsz ?_; intro A2 c2 w2 hown2 hm2; have hsz2 := Nat.le_trans hsz hm2.size; have HW2 := Lib.hid hown2; clear hown2) | (at_builtin; refine wpList_pushI rfl _ _ rfl w.heap.size A2 (n1 + 1) c2 (lets k ++ [(k : Int) + 1]) rfl HW2.out (-((k : Int) + 1)) rfl (by omega) hsz2 ?_; intro A3 c3 w3 hown3 hm3))
      go_roundw
      case rel =>
        refine ⟨k + 1, A3, c3, n1 + 1 + 1, by omega, by go_num, rfl, Lib.hid (by have := HN.out; simp [lets]; omega), ?_, (hm.transNew hm2 (Or.inl (Nat.le_refl _))).transNew hm3 (Or.inl (Nat.le_refl _)), Nat.le_trans hsz2 hm3.size⟩
        rw [List.append_assoc] at hown3
        exact hown3
      case measure => simp [intOf]; omega
    · obtain rfl : k = n := by omega
      have hx := HN.out
      have hsz2 := hm.size
      go_wp2_with fail
      go_ret
      exact ⟨_, _, (by rw [hx]; rfl), owns_rv hown, hm⟩

set_option maxHeartbeats 800000 in
theorem copyIntsN (A : Option Addr) (xs : List Int) (c : Nat) (w : World) (lo hi : Nat) (hr : RV w lo hi A (ints xs)) (hl : xs.length ≤ 1048576) :
    Calls Tryz.prog 150 #[.slice A xs.length c] w fun e w' => ∃ g c2, e = .returned (.slice (some ⟨g, 0, none⟩) xs.length c2) ∧ w'.ownsRow w.heap.size 3 1 (.slice (some ⟨g, 0, none⟩) xs.length c2) xs.length (ints xs) ∧ Mid 0 0 w w' := by
  have hoe := owns_empty w 3 1
  have hal := Mid.alloc w (.cells #[] 3)
  have hra := (hr.mid hal (Or.inl (Nat.zero_le _))).rs
  have hla : (ints xs).length = xs.length * 1 := by rw [ints_len]; omega
  have hnn : (Value.slice (some ⟨w.heap.size, 0, none⟩) 0 0).ownBlock ≠ none := by simp [Value.ownBlock]
  have HNN := Lib.hid hnn
  clear hnn
  go_enter Tryz.func150, Tryz.ntmps150
  go_wp2_with (at_builtin; refine wpList_cat rfl _ _ 25 rfl w.heap.size 3 (.int .i64 0) 1 8 undSI infoI rfl (by decide) _ _ _ rfl hoe A xs.length c _ (ints xs) rfl hra hla (one_of_ints _) ?c4 ?c5 ?c6 ?next)
  case c4 => unfold maxLen; omega
  case c5 => omega
  case c6 => simp
  case next =>
    intro v2 w2 ho2 hgr2 hat2
    obtain ⟨g, c2, rfl, hg1, -, -⟩ := owns_blk ho2 hat2 HNN.out
    try rw [Nat.zero_add, List.nil_append] at ho2
    have hm2 := Mid.of_grownRow hoe hgr2
    have hmm := hal.transNew hm2 (Or.inl (Nat.le_refl _))
    go_wp2_with fail
    go_ret
    exact ⟨g, c2, by simp, ho2, hmm⟩
end Go.Proofs.YtimmnnncgnnkgaaGreat

/- Contracts: permutations. -/
namespace Go.Proofs.YtimmnnncgnnkgaaGreat
set_option linter.unusedVariables false
set_option linter.unusedSimpArgs false
open Go.RowKit

end Go.Proofs.YtimmnnncgnnkgaaGreat

/- Contracts: IsPermutation of the program and of the reference. -/
namespace Go.Proofs.YtimmnnncgnnkgaaGreat
set_option linter.unusedVariables false
set_option linter.unusedSimpArgs false
open Go.RowKit

/-- seen: which of the first n numbers stand among l -/
def seenOf (n : Nat) (l : List Int) : List Value := (List.range n).map (fun (j : Nat) => Value.bool (decide ((j : Int) ∈ l)))
theorem seenOf_nil (n : Nat) : seenOf n [] = List.replicate n (.bool false) := by
  unfold seenOf
  apply List.ext_getElem <;> simp
theorem seenOf_get {n j : Nat} {l : List Int} (h : j < n) : (seenOf n l)[j]? = some (.bool (decide ((j : Int) ∈ l))) := by simp [seenOf, h]
theorem seenOf_set {n m : Nat} {l : List Int} (_h : m < n) : (seenOf n l).set m (.bool true) = seenOf n (l ++ [(m : Int)]) := by
  unfold seenOf
  apply List.ext_getElem
  · simp
  · intro i h1 h2
    rw [List.getElem_set]
    by_cases e : m = i
    · subst e
      simp
    · simp [e]
      intro e'
      omega

end Go.Proofs.YtimmnnncgnnkgaaGreat

/- Plain: what joined and ReachedFrom find. -/
namespace Go.Proofs.YtimmnnncgnnkgaaGreat
set_option linter.unusedVariables false
set_option linter.unusedSimpArgs false

/-- The vertices found so far. -/
structure JAt (s : Int) (es : List Ed) (v : Int) (vis : List Int) : Prop where
  here : v ∈ vis
  rng : ∀ u ∈ vis, 0 ≤ u ∧ u < s
  nd : vis.Nodup
  conn : ∀ u ∈ vis, Conn es v u
theorem JAt.le {s : Int} {es : List Ed} {v : Int} {vis : List Int} (h : JAt s es v vis) : vis.length ≤ s.toNat := by
  refine nodup_le s.toNat vis h.nd fun u hu => ?_
  have := h.rng u hu
  omega
theorem JAt.start {s : Int} (es : List Ed) {v : Int} (h0 : 0 ≤ v) (h1 : v < s) : JAt s es v [v] := by
  refine ⟨by simp, ?_, by simp, ?_⟩
  · intro u hu; simp at hu; subst hu; exact ⟨h0, h1⟩
  · intro u hu; simp at hu; subst hu; exact .here
theorem JAt.push {s : Int} {es : List Ed} {v u : Int} {vis : List Int} (h : JAt s es v vis) (hr : 0 ≤ u ∧ u < s) (hn : u ∉ vis) (hc : Conn es v u) : JAt s es v (vis ++ [u]) := by
  refine ⟨by simp [h.here], ?_, ?_, ?_⟩
  · intro x hx
    rcases List.mem_append.1 hx with hx | hx
    · exact h.rng x hx
    · simp at hx; subst hx; exact hr
  · rw [List.nodup_append]
    refine ⟨h.nd, by simp, ?_⟩
    intro a ha b hb
    simp at hb
    subst hb
    intro e
    subst e
    exact hn ha
  · intro x hx
    rcases List.mem_append.1 hx with hx | hx
    · exact h.conn x hx
    · simp at hx; subst hx; exact hc
/-- Closed under the first k edges. -/
def Shut' (es : List Ed) (k : Nat) (vis : List Int) : Prop := ∀ (j : Nat) (e : Ed), j < k → es[j]? = some e → (e.a ∈ vis ↔ e.b ∈ vis)
theorem Shut'.zero (es : List Ed) (vis : List Int) : Shut' es 0 vis := fun j e h => absurd h (Nat.not_lt_zero _)
theorem Shut'.succ {es : List Ed} {k : Nat} {vis : List Int} (h : Shut' es k vis) {e : Ed} (he : es[k]? = some e) (hc : e.a ∈ vis ↔ e.b ∈ vis) : Shut' es (k + 1) vis := fun j f hj hf => by
  by_cases h1 : j < k
  · exact h j f h1 hf
  · obtain rfl : j = k := by omega
    rw [he] at hf
    injection hf with hf
    subst hf
    exact hc
theorem JAt.done {s : Int} {es : List Ed} {v : Int} {vis : List Int} (h : JAt s es v vis) (hc : Shut' es es.length vis) (u : Int) : u ∈ vis ↔ Conn es v u := by
  refine conn_iff (P := fun u => u ∈ vis) h.here (fun e he => ?_) h.conn u
  obtain ⟨j, hj, rfl⟩ := List.mem_iff_getElem.1 he
  exact hc j _ hj (List.getElem?_eq_getElem hj)
/-- One edge of a pass. -/
theorem JAt.edge {s r : Int} {es : List Ed} {v : Int} {vis : List Int} (h : JAt s es v vis) {e : Ed} (he : e ∈ es) (hi : InG r s e) (hd : ¬ (e.a ∈ vis ↔ e.b ∈ vis)) :
    ∃ u, JAt s es v (vis ++ [u]) ∧ ∀ x, x ∈ vis ++ [e.a] ++ [e.b] ↔ x ∈ vis ++ [u] := by
  unfold InG at hi
  by_cases ha : e.a ∈ vis
  · have hb : e.b ∉ vis := fun hb => hd ⟨fun _ => hb, fun _ => ha⟩
    refine ⟨e.b, h.push (by omega) hb (.out he (h.conn _ ha)), fun x => ?_⟩
    simp only [List.mem_append, List.mem_singleton]
    constructor
    · rintro ((h | rfl) | h)
      · exact .inl h
      · exact .inl ha
      · exact .inr h
    · rintro (h | h)
      · exact .inl (.inl h)
      · exact .inr h
  · have hb : e.b ∈ vis := Classical.byContradiction fun hb => hd ⟨fun h => absurd h ha, fun h => absurd h hb⟩
    refine ⟨e.a, h.push (by omega) ha (.inn he (h.conn _ hb)), fun x => ?_⟩
    simp only [List.mem_append, List.mem_singleton]
    constructor
    · rintro ((h | rfl) | rfl)
      · exact .inl h
      · exact .inr rfl
      · exact .inl hb
    · rintro (h | h)
      · exact .inl (.inl h)
      · exact .inl (.inr h)
theorem filter_split' (p : Nat → Bool) : ∀ l : List Nat, (l.filter p).length + (l.filter fun v => !p v).length = l.length
  | [] => rfl
  | a :: t => by
    have := filter_split' p t
    cases h : p a <;> simp [h] <;> omega
/-- How many below n are not found yet. -/
theorem unseen_len {n : Nat} {es : List Ed} {v : Int} {vis : List Int} (h : JAt n es v vis) : ((List.range n).filter fun (j : Nat) => !decide ((j : Int) ∈ vis)).length + vis.length = n := by
  have h1 : vis.Perm (((List.range n).filter fun (j : Nat) => decide ((j : Int) ∈ vis)).map fun (j : Nat) => (j : Int)) := by
    refine (List.perm_ext_iff_of_nodup h.nd ?_).2 fun u => ?_
    · exact List.pairwise_map.2 ((List.nodup_range.filter _).imp fun h he => h (by omega))
    · rw [List.mem_map]
      constructor
      · intro hu
        have := h.rng u hu
        refine ⟨u.toNat, List.mem_filter.2 ⟨List.mem_range.2 (by omega), ?_⟩, by omega⟩
        rw [show ((u.toNat : Nat) : Int) = u by omega]
        simpa using hu
      · rintro ⟨k, hk, rfl⟩
        simpa using (List.mem_filter.1 hk).2
  have h2 := filter_split' (fun j : Nat => decide ((j : Int) ∈ vis)) (List.range n)
  have h3 := h1.length_eq
  rw [List.length_map] at h3
  rw [List.length_range] at h2
  omega
end Go.Proofs.YtimmnnncgnnkgaaGreat

/- joined, the program. -/
namespace Go.Proofs.YtimmnnncgnnkgaaGreat
set_option linter.unusedVariables false
set_option linter.unusedSimpArgs false
open Go.RowKit

theorem seenOf_congr (n : Nat) {xs ys : List Int} (h : ∀ u, u ∈ xs ↔ u ∈ ys) : seenOf n xs = seenOf n ys := by
  unfold seenOf
  exact List.map_congr_left fun j _ => by rw [decide_eq_decide.2 (h j)]
theorem Mid.setAt (w : World) (b i : Nat) (u : Value) : Mid b (b + 1) w (w.setCell ⟨b, i, none⟩ u) := Mid.setCell w u (Nat.le_refl _) (Nat.lt_succ_self _)
def boolOf : Value → Bool | .bool b => b | _ => false
/-- How many cells of a row of marks are not set. -/
def cntF (w : World) (g n : Nat) : Nat := ((List.range n).filter fun j => match w.cell? ⟨g, j, none⟩ with | some (.bool false) => true | _ => false).length
theorem cntF_seen {w : World} {base g n c : Nat} {vis : List Int} {es : List Ed} {v : Int} (h : w.ownsRow base 4 1 (.slice (some ⟨g, 0, none⟩) n c) n (seenOf n vis)) (hj : JAt n es v vis) : cntF w g n + vis.length = n := by
  have h0 := unseen_len hj
  suffices hs : cntF w g n = ((List.range n).filter fun (j : Nat) => !decide ((j : Int) ∈ vis)).length by omega
  unfold cntF
  congr 1
  refine List.filter_congr fun j hj => ?_
  have hj := List.mem_range.1 hj
  rw [(h.cellAt j (by omega)).trans (seenOf_get hj)]
  by_cases hm : (j : Int) ∈ vis <;> simp [hm]

set_option maxHeartbeats 3200000 in
set_option maxRecDepth 20000 in
theorem impl_joined (r : Int) (n m : Nat) (A : Option Addr) (es : List Ed) (c : Nat) (w : World) (lo hi : Nat) (hr : RG w lo hi A es) (hg : IsGr r n es) (hv : m < n) :
    Calls Tryz.prog 139 #[graV r n A es.length c, .int .i64 m] w fun e w' => e = .returned (.slice (some ⟨w.heap.size + 1, 0, none⟩) n n) ∧ ∃ vis, w'.ownsRow (w.heap.size + 1) 4 1 (.slice (some ⟨w.heap.size + 1, 0, none⟩) n n) n (seenOf n vis) ∧ (∀ u, u ∈ vis ↔ Conn es m u) ∧ Mid 0 0 w w' := by
  have hn40 : n ≤ 40 := by have := hg.size; omega
  have hl := hg.len
  have hmx : n ≤ maxLen := by unfold maxLen; omega
  have hm0 : Mid 0 0 w (w.alloc (.cells #[.int .i64 r, .int .i64 n, .slice A es.length c] 29)) := Mid.alloc _ _
  have B0 := Box.new w #[.int .i64 r, .int .i64 n, .slice A es.length c] 29
  have HG := Lib.hid hg
  have hv3 : (m : Int) < (n : Int) := by omega
  have hv0 : (0 : Int) ≤ (m : Int) := by omega
  have hj0 := JAt.start (s := n) es hv0 hv3
  have HJ0 := Lib.hid hj0
  clear hg hj0
  go_enter Tryz.func139, Tryz.ntmps139
  go_wp2_with (at_make; refine wpList_mk rfl _ _ 113 rfl 4 (.bool false) 1 undSB infoB rfl .i64 .i64 _ _ n rfl rfl rfl rfl (by omega) hmx ?_; intro w2 hown2 hgr2 hsz2; have hfz := hown2.frozenAt m; obtain ⟨u, -, hcs⟩ := owns_cell hown2 hv; rw [World.size_alloc] at hfz hcs)
  have hm2 := hm0.trans (Mid.of_grown hgr2 (by intro g h; cases h))
  rw [World.size_alloc] at hown2
  have B2 := B0.mid (Mid.of_grown (lo := 0) (hi := 0) hgr2 (by intro g h; cases h)) (Or.inr (Nat.zero_le _))
  have hset := owns_set (ys := seenOf n [(m : Int)]) hown2 m (.bool true) (by rw [← seenOf_nil, seenOf_set hv]; rfl)
  have hms := Mid.storeNew hm2 (p := ⟨w.heap.size + 1, m, none⟩) (Nat.le_succ _) (.bool true)
  have hst : Mid (w.heap.size + 1) (w.heap.size + 2) w2 (w2.setCell ⟨w.heap.size + 1, m, none⟩ (.bool true)) := Mid.setCell _ _ (Nat.le_refl _) (Nat.lt_succ_self _)
  have B3 := B2.mid hst (Or.inl (Nat.lt_succ_self _))
  clear hown2 hgr2 hm2 B2 hcs hfz B0 hm0 hsz2 hst
  go_loopw [6] (fun a wr => ∃ (ag : Bool) (vis : List Int), a = .bool ag ∧ JAt n es m vis ∧ Hid (ag = false → Shut' es es.length vis) ∧ Box wr w.heap.size [.int .i64 r, .int .i64 n, .slice A es.length c] ∧
      wr.ownsRow (w.heap.size + 1) 4 1 (.slice (some ⟨w.heap.size + 1, 0, none⟩) n n) n (seenOf n vis) ∧ Mid 0 0 w wr) (fun a wr => 2 * cntF wr (w.heap.size + 1) n + if boolOf a then 1 else 0)
  case atStart => exact ⟨true, [(m : Int)], rfl, HJ0.out, Lib.hid (fun h => nomatch h), B3, hset, hms⟩
  case round =>
    clear B3 hset hms
    obtain ⟨wo, hwo⟩ : ∃ wo, wo = wr := ⟨_, rfl⟩
    subst hwo
    obtain ⟨ag0, vis0, rfl, hj, HA, bx, hown, hm⟩ := hrel
    cases ag0 with
    | false =>
      go_wp2_with fail
      go_ret
      exact ⟨rfl, vis0, hown, fun u => hj.done (HA.out trivial) u, hm⟩
    | true =>
      have HJ := Lib.hid hj
      have HC := Lib.hid (cntF_seen hown hj)
      clear hj HA
      have p0 := bx.cell 0 rfl
      have p1 := bx.cell 1 rfl
      have p2 := bx.cell 2 rfl
      go_wp2_with fail
      go_loopw [6, 19] (fun a i wr => ∃ (k : Nat) (ag : Bool) (vis : List Int), k ≤ es.length ∧ i = .int .i64 k ∧ a = .bool ag ∧ JAt n es m vis ∧ Hid (ag = false → vis.length = vis0.length ∧ Shut' es k vis) ∧ Hid (ag = true → vis0.length < vis.length) ∧ Hid (vis0.length ≤ vis.length) ∧
        Box wr w.heap.size [.int .i64 r, .int .i64 n, .slice A es.length c] ∧ wr.ownsRow (w.heap.size + 1) 4 1 (.slice (some ⟨w.heap.size + 1, 0, none⟩) n n) n (seenOf n vis) ∧ Mid 0 0 w wr) (fun _ i _ => es.length - (intOf i).toNat)
      case atStart => exact ⟨0, false, vis0, Nat.zero_le _, rfl, rfl, HJ.out, Lib.hid (fun _ => ⟨rfl, Shut'.zero es vis0⟩), Lib.hid (fun h => nomatch h), Lib.hid (Nat.le_refl _), bx, hown, hm⟩
      case round =>
        clear bx hown hm p0 p1 p2
        obtain ⟨k, ag, vis, hk, rfl, rfl, hj, HF, HT, HL, bx, hown, hm⟩ := hrel
        have p0 := bx.cell 0 rfl
        have p1 := bx.cell 1 rfl
        have p2 := bx.cell 2 rfl
        by_cases hlt : k < es.length
        · obtain ⟨B, off, e, rfl, -, hbh, he, e0, e1, e2⟩ := (hr.mid hm (Or.inl (Nat.zero_le _))).ed hlt
          have hin := HG.out.all e (List.mem_of_getElem? he)
          obtain ⟨i1, i2, i3, i4, i5, i6⟩ := hin
          have HE := Lib.hid he
          have hkn : (k : Int) < (es.length : Int) := by omega
          obtain ⟨x, l, y⟩ := e
          simp only at i1 i2 i3 i4 i5 i6 e0 e1 e2
          obtain ⟨ia, rfl⟩ : ∃ ia : Nat, x = ia := ⟨x.toNat, by omega⟩
          obtain ⟨ib, rfl⟩ : ∃ ib : Nat, y = ib := ⟨y.toNat, by omega⟩
          have hia : ia < n := by omega
          have hib : ib < n := by omega
          have hin : InG r n ⟨(ia : Int), l, (ib : Int)⟩ := ⟨i1, i2, i3, i4, i5, i6⟩
          have HIN := Lib.hid hin
          have hal := Mid.alloc wr (.cells #[.int .i64 ia, .int .i64 l, .int .i64 ib] 78)
          have ZE := Box.new wr #[.int .i64 ia, .int .i64 l, .int .i64 ib] 78
          have bx1 := bx.mid hal (Or.inr (Nat.zero_le _))
          have hown1 := hown.alloc (.cells #[.int .i64 ia, .int .i64 l, .int .i64 ib] 78)
          have hm1 := hm.trans hal
          have hca := (hown1.cellAt ia (by omega)).trans (seenOf_get hia)
          have hcb := (hown1.cellAt ib (by omega)).trans (seenOf_get hib)
          have hfz := fun i => hown1.frozenAt i
          have hgs : w.heap.size + 1 < wr.heap.size := (hown.lt _ rfl).2
          obtain ⟨ba, hba⟩ : ∃ b : Bool, decide ((ia : Int) ∈ vis) = b := ⟨_, rfl⟩
          obtain ⟨bb, hbb⟩ : ∃ b : Bool, decide ((ib : Int) ∈ vis) = b := ⟨_, rfl⟩
          rw [hba] at hca
          rw [hbb] at hcb
          clear he hin
          cases ba with
          | false =>
            cases bb with
            | false =>
              have HD : Hid ((ia : Int) ∈ vis ↔ (ib : Int) ∈ vis) := Lib.hid (by rw [← decide_eq_decide, hba, hbb])
              go_wp2_with fail
              go_quiet (fail)
              go_wp2_with fail
              go_roundw
              case rel => exact ⟨k + 1, ag, vis, by omega, by go_num, rfl, hj, Lib.hid (fun h => ⟨(HF.out h).1, (HF.out h).2.succ HE.out (HD.out)⟩), HT, HL, bx1.drewN _, owns_drewN hown1 _, hm1.drewN _⟩
              case measure => simp [intOf]; omega
            | true =>
              have hne1 : ¬ ia = ib := fun h => by rw [h, hbb] at hba; cases hba
              have hne2 : ¬ ib = ia := fun h => hne1 h.symm
              obtain ⟨u, hju, hmem⟩ := hj.edge (List.mem_of_getElem? HE.out) HIN.out (by simp only []; rw [← decide_eq_decide, hba, hbb]; simp)
              have hset := fun q => owns_set (owns_set (owns_drewN hown1 q) ia (.bool true) (seenOf_set hia)) ib (.bool true) ((seenOf_set hib).trans (seenOf_congr _ hmem))
              have hms := fun q => (Mid.storeNew (hm1.drewN q) (p := ⟨w.heap.size + 1, ia, none⟩) (Nat.le_succ _) (.bool true)).storeNew (p := ⟨w.heap.size + 1, ib, none⟩) (Nat.le_succ _) (.bool true)
              have hst : ∀ q, Mid (w.heap.size + 1) (w.heap.size + 2) ((wr.alloc (.cells #[.int .i64 ia, .int .i64 l, .int .i64 ib] 78)).drewN q) ((((wr.alloc (.cells #[.int .i64 ia, .int .i64 l, .int .i64 ib] 78)).drewN q).setCell ⟨w.heap.size + 1, ia, none⟩ (.bool true)).setCell ⟨w.heap.size + 1, ib, none⟩ (.bool true)) := fun q => (Mid.setAt _ _ _ _).trans (Mid.setAt _ _ _ _)
              have bx2 := fun q => (bx1.drewN q).mid (hst q) (Or.inl (Nat.lt_succ_self _))
              have HSET := Lib.hid hset
              clear hset
              go_wp2_with fail
              go_quiet (fail)
              go_wp2_with fail
              go_roundw
              case rel =>
                refine ⟨k + 1, true, vis ++ [u], by omega, by go_num, rfl, hju, Lib.hid (fun h => nomatch h), Lib.hid (fun _ => ?_), Lib.hid ?_, bx2 _, HSET.out _, hms _⟩
                · have := HL.out; simp; omega
                · have := HL.out; simp; omega
              case measure => simp [intOf]; omega
          | true =>
            cases bb with
            | false =>
              have hne1 : ¬ ia = ib := fun h => by rw [h, hbb] at hba; cases hba
              have hne2 : ¬ ib = ia := fun h => hne1 h.symm
              obtain ⟨u, hju, hmem⟩ := hj.edge (List.mem_of_getElem? HE.out) HIN.out (by simp only []; rw [← decide_eq_decide, hba, hbb]; simp)
              have hset := fun q => owns_set (owns_set (owns_drewN hown1 q) ia (.bool true) (seenOf_set hia)) ib (.bool true) ((seenOf_set hib).trans (seenOf_congr _ hmem))
              have hms := fun q => (Mid.storeNew (hm1.drewN q) (p := ⟨w.heap.size + 1, ia, none⟩) (Nat.le_succ _) (.bool true)).storeNew (p := ⟨w.heap.size + 1, ib, none⟩) (Nat.le_succ _) (.bool true)
              have hst : ∀ q, Mid (w.heap.size + 1) (w.heap.size + 2) ((wr.alloc (.cells #[.int .i64 ia, .int .i64 l, .int .i64 ib] 78)).drewN q) ((((wr.alloc (.cells #[.int .i64 ia, .int .i64 l, .int .i64 ib] 78)).drewN q).setCell ⟨w.heap.size + 1, ia, none⟩ (.bool true)).setCell ⟨w.heap.size + 1, ib, none⟩ (.bool true)) := fun q => (Mid.setAt _ _ _ _).trans (Mid.setAt _ _ _ _)
              have bx2 := fun q => (bx1.drewN q).mid (hst q) (Or.inl (Nat.lt_succ_self _))
              have HSET := Lib.hid hset
              clear hset
              go_wp2_with fail
              go_quiet (fail)
              go_wp2_with fail
              go_roundw
              case rel =>
                refine ⟨k + 1, true, vis ++ [u], by omega, by go_num, rfl, hju, Lib.hid (fun h => nomatch h), Lib.hid (fun _ => ?_), Lib.hid ?_, bx2 _, HSET.out _, hms _⟩
                · have := HL.out; simp; omega
                · have := HL.out; simp; omega
              case measure => simp [intOf]; omega
            | true =>
              have HD : Hid ((ia : Int) ∈ vis ↔ (ib : Int) ∈ vis) := Lib.hid (by rw [← decide_eq_decide, hba, hbb])
              go_wp2_with fail
              go_quiet (fail)
              go_wp2_with fail
              go_roundw
              case rel => exact ⟨k + 1, ag, vis, by omega, by go_num, rfl, hj, Lib.hid (fun h => ⟨(HF.out h).1, (HF.out h).2.succ HE.out (HD.out)⟩), HT, HL, bx1.drewN _, owns_drewN hown1 _, hm1.drewN _⟩
              case measure => simp [intOf]; omega
        · obtain rfl : k = es.length := by omega
          go_wp2_with fail
          go_roundw
          case rel => exact ⟨ag, vis, rfl, hj, Lib.hid (fun h => (HF.out h).2), bx, hown, hm⟩
          case measure =>
            have h1 := HC.out
            have h2 := cntF_seen hown hj
            have h3 := HL.out
            have h4 := HT.out
            have h5 := HJ.out.le
            simp [boolOf]
            cases ag with
            | false => simp; omega
            | true => have := h4 rfl; simp; omega
end Go.Proofs.YtimmnnncgnnkgaaGreat

/- tree, the program: the search by breadth, with the words. -/
namespace Go.Proofs.YtimmnnncgnnkgaaGreat
set_option linter.unusedVariables false
set_option linter.unusedSimpArgs false
open Go.RowKit

/-- The row of words, as far as the search has come: vals are its cells; g is its block, oB the order's. -/
structure TreeSt (w : World) (g : Nat) (oB : Option Nat) (n : Nat) (vals : List Value) (st : BS) : Prop where
  len : vals.length = n
  on : ∀ p ∈ st, ∃ b c, vals[p.1.toNat]? = some (.slice (some ⟨b, 0, none⟩) p.2.length c) ∧ (∀ j u, (ints p.2)[j]? = some u → w.cell? ⟨b, j, none⟩ = some u) ∧ b ≠ g ∧ oB ≠ some b ∧ b < w.heap.size
  off : ∀ u : Nat, u < n → (u : Int) ∉ st.map Prod.fst → vals[u]? = some (.slice none 0 0)
section
variable {w w' : World} {g n : Nat} {oB oB' : Option Nat} {vals : List Value} {st : BS}
theorem TreeSt.mid {a b : Nat} (h : TreeSt w g oB n vals st) (m : Mid 0 0 w w') : TreeSt w' g oB n vals st :=
  ⟨h.len, fun p hp => by
    obtain ⟨b, c, h1, h2, h3, h4, h5⟩ := h.on p hp
    exact ⟨b, c, h1, fun j u hu => (World.cell?_of_block (m.block b h5 (by omega))).trans (h2 j u hu), h3, h4, Nat.lt_of_lt_of_le h5 m.size⟩, h.off⟩
theorem TreeSt.grow (h : TreeSt w g oB n vals st) (hg : w.grownBy w' oB) (hb : oB' = oB ∨ ∃ k, oB' = some k ∧ w.heap.size ≤ k) : TreeSt w' g oB' n vals st :=
  ⟨h.len, fun p hp => by
    obtain ⟨b, c, h1, h2, h3, h4, h5⟩ := h.on p hp
    refine ⟨b, c, h1, fun j u hu => (World.cell?_of_block (hg.block b h5 (fun e => h4 e.symm))).trans (h2 j u hu), h3, ?_, Nat.lt_of_lt_of_le h5 hg.size⟩
    rcases hb with rfl | ⟨k, rfl, hk⟩
    · exact h4
    · intro e
      injection e with e
      omega, h.off⟩
/-- A word is laid down at a vertex that was not found. -/
theorem TreeSt.set {t b c : Nat} {wd : List Int} (h : TreeSt w g oB n vals st) (ht : t < n) (hn : (t : Int) ∉ st.map Prod.fst) (hst : ∀ p ∈ st, 0 ≤ p.1)
    (hc : ∀ j u, (ints wd)[j]? = some u → w.cell? ⟨b, j, none⟩ = some u) (hb : b ≠ g) (ho : oB ≠ some b) (hs : b < w.heap.size) :
    TreeSt (w.setCell ⟨g, t, none⟩ (.slice (some ⟨b, 0, none⟩) wd.length c)) g oB n (vals.set t (.slice (some ⟨b, 0, none⟩) wd.length c)) (st ++ [((t : Int), wd)]) := by
  have key : ∀ (b' j : Nat) (u v : Value), b' ≠ g → w.cell? ⟨b', j, none⟩ = some u → (w.setCell ⟨g, t, none⟩ v).cell? ⟨b', j, none⟩ = some u := fun b' j u v hbg hc =>
    (World.cell?_setCell_other w _ _ v (by intro e; injection e with e; exact hbg e.symm)).trans hc
  refine ⟨by rw [List.length_set]; exact h.len, fun p hp => ?_, fun u hu hnu => ?_⟩
  · rcases List.mem_append.1 hp with hp | hp
    · obtain ⟨b', c', h1, h2, h3, h4, h5⟩ := h.on p hp
      have hne : t ≠ p.1.toNat := by
        intro e
        apply hn
        have := hst p hp
        rw [show (t : Int) = p.1 by omega]
        exact List.mem_map_of_mem hp
      refine ⟨b', c', by rw [List.getElem?_set_ne hne]; exact h1, fun j u hu => key b' j u _ h3 (h2 j u hu), h3, h4, by simpa using h5⟩
    · simp at hp
      subst hp
      refine ⟨b, c, ?_, fun j u hu => key b j u _ hb (hc j u hu), hb, ho, by simpa using hs⟩
      simp only [Int.toNat_natCast]
      rw [List.getElem?_set_self (by rw [h.len]; exact ht)]
  · rw [List.map_append, List.mem_append] at hnu
    have hne : t ≠ u := by
      intro e
      subst e
      exact hnu (.inr (by simp))
    rw [List.getElem?_set_ne hne]
    exact h.off u hu fun hm => hnu (.inl hm)
theorem TreeSt.word {p : Int × List Int} (h : TreeSt w g oB n vals st) (hp : p ∈ st) : ∃ b c, vals[p.1.toNat]? = some (.slice (some ⟨b, 0, none⟩) p.2.length c) ∧ RV w 0 w.heap.size (some ⟨b, 0, none⟩) (ints p.2) := by
  obtain ⟨b, c, h1, h2, h3, h4, h5⟩ := h.on p hp
  exact ⟨b, c, h1, Nat.le_refl _, fun _ => ⟨b, 0, rfl, Nat.zero_le _, h5, fun j u hu => by rw [Nat.zero_add]; exact h2 j u hu⟩⟩
end
section
variable {W : World} {ops : Array Oper} {rest : List Oper} {o : Oper} {a : Act} {Q : Exit → Act → World → Prop}
theorem wpList_pushI2 (hgd : o.guard = none) (s x : Operand)
    (ho : o.op = .call { callee := .builtin .append, args := #[s, x], argTypes := #[25, 25] }) (lo : Nat) (A : Option Addr) (n c : Nat) (xs : List Int) (hs : a.eval s = .slice A n c)
    (hown : W.ownsRow lo 3 1 (.slice A n c) n (ints xs)) (y : Int) (hx : a.eval x = .slice (some ⟨W.heap.size, 0, none⟩) 1 1) (hn : n ≤ 1048576) (hb : lo ≤ W.heap.size)
    (h : ∀ A' c' w', w'.ownsRow lo 3 1 (.slice A' (n + 1) c') (n + 1) (ints (xs ++ [y])) → W.grownBy w' (Value.ownBlock (.slice A n c)) → (Value.ownBlock (.slice A' (n + 1) c') = Value.ownBlock (.slice A n c) ∨ Value.ownBlock (.slice A' (n + 1) c') = some (W.heap.size + 1)) → wpList Tryz.prog ops Q rest (a.put o.dst (.slice A' (n + 1) c')) w') :
    wpList Tryz.prog ops Q (o :: rest) a (W.alloc (.cells #[.int .i64 y] 3)) := by
  refine wpList_push (news := [.int .i64 y]) hgd s x 25 ho lo 3 (.int .i64 0) 1 8 undSI infoI rfl (by decide) (.slice A n c) n (ints xs) hs hown 1 hx rfl ?_ (by unfold maxLen; omega) (by omega) hb ?_
  · intro u hu
    simp at hu
    subst hu
    rfl
  · intro v' w' h1 h2 h3
    obtain ⟨A', c', rfl, -, -⟩ := owns_shape h1
    refine h A' c' w' ?_ h2 h3
    rw [ints_append]
    exact h1
end
theorem RV.grown {w w' : World} {lo hi : Nat} {A : Option Addr} {cs : List Value} {row : Option Nat} (h : RV w lo hi A cs) (hg : w.grownBy w' row) (hd : ∀ g, row = some g → g < lo ∨ hi ≤ g) : RV w' lo hi A cs :=
  ⟨Nat.le_trans h.1 hg.size, fun hn => by
    obtain ⟨g, off, e, h1, h2, hc⟩ := h.2 hn
    have hs := h.1
    exact ⟨g, off, e, h1, h2, fun j u hu => (World.cell?_of_block (hg.block g (by omega) (fun e => by have := hd g e.symm; omega))).trans (hc j u hu)⟩⟩
theorem nilS_some (a : Addr) (n c : Nat) (W : World) : (binOp .eql 25 (.slice (some a) n c) (.slice none 0 0)).run Tryz.prog W = .ok (.bool false) W := Lib.run_eql_slice_nil W 25 3 (some a) n c 0 0 undSI
theorem nilS_none (W : World) : (binOp .eql 25 (.slice none 0 0) (.slice none 0 0)).run Tryz.prog W = .ok (.bool true) W := Lib.run_eql_slice_nil W 25 3 none 0 0 0 0 undSI
theorem bfsRow_take {es : List Ed} {L : List Int} {p : Int × List Int} {st : BS} {j : Nat} {x : Int} (h : L[j]? = some x) : bfsRow es (L.take (j + 1)) p st = bfsStep es p.1 p.2 (bfsRow es (L.take j) p st) x := by
  unfold bfsRow
  rw [take_snocI h, List.foldl_append]
  rfl
theorem bfsSt_next {es : List Ed} {L : List Int} {v : Int} {i : Nat} {p : Int × List Int} (h : (bfsSt es L v i)[i]? = some p) : bfsSt es L v (i + 1) = bfsRow es L p (bfsSt es L v i) := by
  show (match (bfsSt es L v i)[i]? with | none => bfsSt es L v i | some p => bfsRow es L p (bfsSt es L v i)) = _
  rw [h]

set_option maxHeartbeats 6400000 in
set_option maxRecDepth 100000 in
theorem impl_tree (r n v : Nat) (A : Option Addr) (es : List Ed) (c : Nat) (w : World) (lo hi : Nat) (hr : RG w lo hi A es) (hg : IsGr r n es) (hv : v < n) :
    Calls Tryz.prog 116 #[graV r n A es.length c, .int .i64 v] w fun e w' => ∃ A1 c1, e = .returned (.tuple #[.slice A1 (ordE r es v).length c1, .slice (some ⟨w.heap.size + 1, 0, none⟩) n n]) ∧ Mid 0 0 w w' ∧
      w'.ownsRow (w.heap.size + 2) 3 1 (.slice A1 (ordE r es v).length c1) (ordE r es v).length (ints (ordE r es v)) ∧
      ∃ vals, w'.ownsRow (w.heap.size + 1) 25 1 (.slice (some ⟨w.heap.size + 1, 0, none⟩) n n) n vals ∧ TreeSt w' (w.heap.size + 1) (Value.ownBlock (.slice A1 (ordE r es v).length c1)) n vals (bfs es (lets r) v) := by
  have hn40 : n ≤ 40 := by have := hg.size; omega
  have hr3 : r ≤ 3 := by have := hg.rank; omega
  have hl := hg.len
  have hmx : n ≤ maxLen := by unfold maxLen; omega
  have hgl : ∀ e ∈ es, 1 ≤ e.l ∧ e.l ≤ 3 := fun e he => by have := hg.all e he; unfold InG at this; omega
  have hm0 : Mid 0 0 w (w.alloc (.cells #[.int .i64 r, .int .i64 n, .slice A es.length c] 29)) := Mid.alloc _ _
  have B0 := Box.new w #[.int .i64 r, .int .i64 n, .slice A es.length c] 29
  have HG := Lib.hid hg
  have HGL := Lib.hid hgl
  have hv3 : (v : Int) < (n : Int) := by omega
  have hv0 : (0 : Int) ≤ (v : Int) := by omega
  clear hg hgl
  go_enter Tryz.func116, Tryz.ntmps116
  go_wp2_with (at_make; refine wpList_mk rfl _ _ 39 rfl 25 (.slice none 0 0) 24 undSSI infoSI rfl .i64 .i64 _ _ n rfl rfl rfl rfl (by omega) hmx ?_; intro w2 hown2 hgr2 hsz2; rw [World.size_alloc] at hown2 hsz2; have hfz := hown2.frozenAt v; obtain ⟨u0, -, hcs⟩ := owns_cell hown2 hv)
  have hm2 := hm0.trans (Mid.of_grown hgr2 (by intro g h; cases h))
  have B2 := B0.mid (Mid.of_grown (lo := 0) (hi := 0) hgr2 (by intro g h; cases h)) (Or.inr (Nat.zero_le _))
  have hal := Mid.alloc w2 (.cells #[] 3)
  replace B2 := B2.mid hal (Or.inr (Nat.zero_le _))
  replace hm2 := hm2.trans hal
  have hown3 := hown2.alloc (.cells #[] 3)
  have T0 : TreeSt (w2.alloc (.cells #[] 3)) (w.heap.size + 1) (some (w2.heap.size + 1)) n (List.replicate n (.slice none 0 0)) [] := ⟨by simp, by simp, fun u hu _ => by simp [hu]⟩
  have T1 := T0.set (t := v) (b := w2.heap.size) (c := 0) (wd := []) hv (by simp) (by simp) (by simp [ints]) (by omega) (by intro e; injection e with e; omega) (by simp)
  have O1 := owns_set hown3 v (.slice (some ⟨w2.heap.size, 0, none⟩) 0 0) rfl
  have hst := Mid.setAt (w2.alloc (.cells #[] 3)) (w.heap.size + 1) v (.slice (some ⟨w2.heap.size, 0, none⟩) 0 0)
  have B3 := B2.mid hst (Or.inl (Nat.lt_succ_self _))
  have hm3 := hm2.storeNew (p := ⟨w.heap.size + 1, v, none⟩) (Nat.le_succ _) (.slice (some ⟨w2.heap.size, 0, none⟩) 0 0)
  have heq : (w2.alloc (.cells #[] 3)).setCell ⟨w.heap.size + 1, v, none⟩ (.slice (some ⟨w2.heap.size, 0, none⟩) 0 0) = (w2.setCell ⟨w.heap.size + 1, v, none⟩ (.slice (some ⟨w2.heap.size, 0, none⟩) 0 0)).alloc (.cells #[] 3) := by go_simp
  rw [heq] at O1 B3 hm3
  simp only [List.length_nil] at T1
  rw [heq] at T1
  generalize hw3 : (w2.setCell ⟨w.heap.size + 1, v, none⟩ (.slice (some ⟨w2.heap.size, 0, none⟩) 0 0)).alloc (.cells #[] 3) = w3 at T1 O1 B3 hm3 ⊢
  have hs3 : w3.heap.size = w2.heap.size + 1 := by rw [← hw3]; simp
  have hal3 := Mid.alloc w3 (.cells #[.int .i64 v] 3)
  have O2 : (w3.alloc (.cells #[.int .i64 v] 3)).ownsRow (w.heap.size + 2) 3 1 (.slice (some ⟨w2.heap.size + 1, 0, none⟩) 1 1) 1 (ints [(v : Int)]) := by rw [← hs3]; exact owns_base (World.ownsRow_lit (size := 1) w3 #[.int .i64 v] 1 (Nat.le_refl _) (by simp [maxLen]) (by simp)) (by omega)
  have T2 := T1.mid (a := 0) (b := 0) hal3
  have O3 := O1.alloc (.cells #[.int .i64 v] 3)
  replace B3 := B3.mid hal3 (Or.inr (Nat.zero_le _))
  replace hm3 := hm3.trans hal3
  have HT := Lib.hid T2
  clear hw3 T0 T1 T2 O1 hst hown2 hown3 hm2 B2 B0 hm0 hal hal3 hgr2 hcs hfz
  go_loopw [7, 8] (fun ord iv wr => ∃ (i n1 : Nat) (A1 : Option Addr) (c1 : Nat) (vals : List Value), i ≤ n1 ∧ iv = .int .i64 i ∧ ord = .slice A1 n1 c1 ∧ Hid ((bfsSt es (lets r) v i).length = n1) ∧
      wr.ownsRow (w.heap.size + 2) 3 1 (.slice A1 n1 c1) n1 (ints ((bfsSt es (lets r) v i).map Prod.fst)) ∧ wr.ownsRow (w.heap.size + 1) 25 1 (.slice (some ⟨w.heap.size + 1, 0, none⟩) n n) n vals ∧
      Hid (TreeSt wr (w.heap.size + 1) (Value.ownBlock (.slice A1 n1 c1)) n vals (bfsSt es (lets r) v i)) ∧ Box wr w.heap.size [.int .i64 r, .int .i64 n, .slice A es.length c] ∧ Mid 0 0 w wr) (fun _ i _ => (41 - intOf i).toNat)
  case atStart => exact ⟨0, 1, _, 1, _, Nat.zero_le _, rfl, rfl, Lib.hid rfl, O2, O3, HT, B3, hm3⟩
  case round =>
    clear O2 O3 HT B3 hm3 hs3
    obtain ⟨wo, hwo⟩ : ∃ wo, wo = wr := ⟨_, rfl⟩
    subst hwo
    obtain ⟨i, n1, A1, c1, vals, hin, rfl, rfl, HN, hord, hwor, HT, bx, hm⟩ := hrel
    have hok := bfsSt_ok (L := lets r) HG.out.all hv0 hv3 i
    have hn1 : n1 ≤ 40 := by have h1 := hok.len (by omega); have h2 := HN.out; omega
    have HOK := Lib.hid hok
    clear hok
    by_cases hlt : i < n1
    · obtain ⟨p, hp⟩ := get_of_lt (bfsSt es (lets r) v i) (show i < (bfsSt es (lets r) v i).length by rw [HN.out]; exact hlt)
      have hrng := HOK.out.rng p (List.mem_of_getElem? hp)
      obtain ⟨pu, wd⟩ := p
      simp only at hrng
      obtain ⟨u, rfl⟩ : ∃ u : Nat, pu = u := ⟨pu.toNat, by omega⟩
      have hun : u < n := by omega
      have hwl := HOK.out.wl i _ hp
      simp only at hwl
      have HP := Lib.hid hp
      have hNX := Lib.hid (bfsSt_next hp)
      obtain ⟨g1, rfl, hg1, hg1s⟩ := owns_addr hord (show 0 < n1 by omega)
      have hcu : wo.cell? ⟨g1, i, none⟩ = some (.int .i64 u) := (hord.cellAt i (by omega)).trans (by rw [ints_get, List.getElem?_map, hp]; rfl)
      have hi0 : (0 : Int) ≤ (i : Int) := by omega
      have hi1 : (i : Int) < (n1 : Int) := by omega
      have p0 := bx.cell 0 rfl
      have p1 := bx.cell 1 rfl
      have p2 := bx.cell 2 rfl
      clear hp
      go_wp2_with fail
      with_reducible refine (impl_letters r _ (by omega)).mono ?_
      rintro en w4 ⟨A4, c4, rfl, hL4, hm4⟩
      have hdo := fun g hg => (hord.lt g hg).2
      have hwo2 : w.heap.size + 1 < wo.heap.size := (hwor.lt _ rfl).2
      replace bx := bx.mid hm4 (Or.inr (Nat.zero_le _))
      replace hord := owns_mid hord hm4 (Or.inl (Nat.zero_le _))
      replace hwor := owns_mid hwor hm4 (Or.inl (Nat.zero_le _))
      replace hm := hm.trans hm4
      replace HT := Lib.hid (HT.out.mid (a := 0) (b := 0) hm4)
      clear p0 p1 p2 hcu
      have HLL := Lib.hid (lets_len r)
      obtain ⟨LL, hLL⟩ : ∃ LL, (lets r).length = LL := ⟨_, rfl⟩
      have hLL6 : LL ≤ 6 := by have := HLL.out; omega
      rw [hLL]
      have HLn := Lib.hid hLL
      clear hLL
      go_wp2_with fail
      go_loopw [7, 36] (fun ord jv wr => ∃ (j n1 : Nat) (A1 : Option Addr) (c1 : Nat) (vals : List Value), j ≤ LL ∧ jv = .int .i64 j ∧ ord = .slice A1 n1 c1 ∧ Hid ((bfsRow es ((lets r).take j) ((u : Int), wd) (bfsSt es (lets r) v i)).length = n1) ∧
          wr.ownsRow (w.heap.size + 2) 3 1 (.slice A1 n1 c1) n1 (ints ((bfsRow es ((lets r).take j) ((u : Int), wd) (bfsSt es (lets r) v i)).map Prod.fst)) ∧ wr.ownsRow (w.heap.size + 1) 25 1 (.slice (some ⟨w.heap.size + 1, 0, none⟩) n n) n vals ∧
          Hid (TreeSt wr (w.heap.size + 1) (Value.ownBlock (.slice A1 n1 c1)) n vals (bfsRow es ((lets r).take j) ((u : Int), wd) (bfsSt es (lets r) v i))) ∧ Hid (RV wr wo.heap.size w4.heap.size A4 (ints (lets r))) ∧ Hid (∀ g, Value.ownBlock (.slice A1 n1 c1) = some g → g < wo.heap.size ∨ w4.heap.size ≤ g) ∧ Box wr w.heap.size [.int .i64 r, .int .i64 n, .slice A es.length c] ∧ Mid 0 0 w wr) (fun _ j _ => LL - (intOf j).toNat)
      case atStart => exact ⟨0, n1, _, c1, vals, Nat.zero_le _, rfl, rfl, by rw [List.take_zero]; exact HN, hord, hwor, by rw [List.take_zero]; exact HT, Lib.hid hL4, Lib.hid (fun g hg => .inl (hdo g hg)), bx, hm⟩
      case round =>
        clear hord hwor HT hL4 bx hm hdo hm4
        obtain ⟨j, n1, A1, c1, vals, hj, rfl, rfl, HN, hord, hwor, HT, HL4, HD, bx, hm⟩ := hrel
        obtain ⟨stj, hstj⟩ : ∃ st, bfsRow es ((lets r).take j) ((u : Int), wd) (bfsSt es (lets r) v i) = st := ⟨_, rfl⟩
        have hokj : BfsOk n (lets r) stj := by rw [← hstj]; exact BfsOk.row HG.out.all _ (fun x hx => List.mem_of_mem_take hx) HOK.out HP.out
        have hpj : stj[i]? = some ((u : Int), wd) := by rw [← hstj]; exact prefix_get (bfsRow_pre _ _ _ _) HP.out
        rw [hstj] at HN hord HT
        have hn1b : n1 ≤ 40 := by have h1 := hokj.len (by omega); have h2 := HN.out; omega
        have HOJ := Lib.hid hokj
        have p0 := bx.cell 0 rfl
        have p1 := bx.cell 1 rfl
        have p2 := bx.cell 2 rfl
        by_cases hlt2 : j < LL
        · obtain ⟨B4, o4, x, rfl, hB4, hx, hcx⟩ := HL4.out.at (k := j) (by rw [HLn.out]; exact hlt2)
          have hxm := lets_le (List.mem_of_getElem? hx)
          have hnx := bfsRow_take (es := es) (p := ((u : Int), wd)) (st := bfsSt es (lets r) v i) hx
          rw [hstj] at hnx
          simp only at hnx
          have hj0 : (0 : Int) ≤ (j : Int) := by omega
          have hj1 : (j : Int) < (LL : Int) := by omega
          obtain ⟨bw, cw, hvw, hrvw⟩ := HT.out.word (List.mem_of_getElem? hpj)
          have hcs := nextV_cases HG.out.all (u : Int) x
          have HVW := Lib.hid hvw
          have HPJ := Lib.hid hpj
          have HSJ := Lib.hid hstj
          have hu0 : (0 : Int) ≤ (u : Int) := by omega
          have hu1 : (u : Int) < (n : Int) := by omega
          clear hvw hx hokj hpj hstj
          go_wp2_with fail
          with_reducible refine (impl_NextVertex r n A es c u x _ lo hi (hr.mid hm (Or.inl (Nat.zero_le _))) (by omega) HGL.out (by omega) (by omega)).mono ?_
          rintro en w6 ⟨rfl, hm6⟩
          replace bx := bx.mid hm6 (Or.inr (Nat.zero_le _))
          replace hord := owns_mid hord hm6 (Or.inl (Nat.zero_le _))
          replace hwor := owns_mid hwor hm6 (Or.inl (Nat.zero_le _))
          replace hm := hm.trans hm6
          replace HT := Lib.hid (HT.out.mid (a := 0) (b := 0) hm6)
          replace HL4 := Lib.hid (HL4.out.mid hm6 (Or.inl (Nat.zero_le _)))
          replace hrvw := (hrvw.mid hm6 (Or.inl (Nat.zero_le _))).wide (Nat.le_refl _) hm6.size (Nat.le_refl _)
          generalize htx : nextV es (u : Int) x = t at hnx hcs ⊢
          clear p0 p1 p2 hcx
          by_cases ht0 : t < 0
          · have b1 : decide (0 ≤ t) = false := by simp; omega
            have HNX := Lib.hid (hnx.trans (by rw [bfsStep, htx, if_pos (.inl ht0)] : bfsStep es (u : Int) wd stj x = stj))
            clear hnx hcs ht0 htx
            go_wp2_with fail
            go_roundw
            case rel => exact ⟨j + 1, n1, A1, c1, vals, by omega, by go_num, rfl, by rw [HNX.out]; exact HN, by rw [HNX.out]; exact hord, hwor, by rw [HNX.out]; exact HT, HL4, HD, bx, hm⟩
            case measure => simp [intOf]; omega
          · obtain ⟨tn, rfl⟩ : ∃ tn : Nat, t = tn := ⟨t.toNat, by omega⟩
            have htn : tn < n := by omega
            have ht1 : (tn : Int) < (n : Int) := by omega
            have ht2 : (0 : Int) ≤ (tn : Int) := by omega
            clear hcs ht0
            by_cases hmem : (tn : Int) ∈ stj.map Prod.fst
            · obtain ⟨p', hp', hpt⟩ := List.mem_map.1 hmem
              obtain ⟨b', c', hval, -⟩ := HT.out.word hp'
              have hct : w6.cell? ⟨w.heap.size + 1, tn, none⟩ = some (.slice (some ⟨b', 0, none⟩) p'.2.length c') := (hwor.cellAt tn (by omega)).trans (by rw [← hval, hpt]; rfl)
              have HNX := Lib.hid (hnx.trans (by rw [bfsStep, htx, if_pos (.inr hmem)] : bfsStep es (u : Int) wd stj x = stj))
              have hq := fun W => nilS_some ⟨b', 0, none⟩ p'.2.length c' W
              clear hnx htx hmem hval hp' hpt
              go_wp2_with fail
              go_roundw
              case rel => exact ⟨j + 1, n1, A1, c1, vals, by omega, by go_num, rfl, by rw [HNX.out]; exact HN, by rw [HNX.out]; exact hord, hwor, by rw [HNX.out]; exact HT, HL4, HD, bx, hm⟩
              case measure => simp [intOf]; omega
            · have hval := HT.out.off tn htn hmem
              have hct : w6.cell? ⟨w.heap.size + 1, tn, none⟩ = some (.slice none 0 0) := (hwor.cellAt tn (by omega)).trans hval
              have hcw : w6.cell? ⟨w.heap.size + 1, u, none⟩ = some (.slice (some ⟨bw, 0, none⟩) wd.length cw) := (hwor.cellAt u (by omega)).trans HVW.out
              have HNX := Lib.hid (hnx.trans (by rw [bfsStep, htx, if_neg (fun h => h.elim (fun h => by omega) hmem)] : bfsStep es (u : Int) wd stj x = stj ++ [((tn : Int), wd ++ [x])]))
              have HMEM := Lib.hid hmem
              have HVAL := Lib.hid hval
              have hlt6 := fun g hg => (hord.lt g hg).2
              have hws6 : w.heap.size + 1 < w6.heap.size := (hwor.lt _ rfl).2
              have hq := fun W => nilS_none W
              clear hnx htx hmem hval
              go_wp2_with fail
              with_reducible refine (copyIntsN (some ⟨bw, 0, none⟩) wd cw _ _ _ hrvw (by omega)).mono ?_
              rintro en w7 ⟨g7, c7, rfl, hown7, hm7⟩
              have HW7 := Lib.hid hown7
              have HLT6 := Lib.hid hlt6
              clear hown7 hct hcw hlt6
              go_wp2_with (first | (at_builtin; refine wpList_pushI rfl _ _ rfl w6.heap.size (some ⟨g7, 0, none⟩) wd.length c7 wd rfl HW7.out x rfl (by omega) hm7.size ?_; intro A8 c8 w8 hown8 hm8; obtain ⟨g8, rfl, hg8a, hg8b⟩ := owns_addr hown8 (Nat.succ_pos _); have hm78 := hm7.transNew hm8 (Or.inl (Nat.le_refl _)); have hwor8 := owns_mid hwor hm78 (Or.inl (Nat.zero_le _)); have hord8 := owns_mid hord hm78 (Or.inl (Nat.zero_le _)); have hct8 := (hwor8.cellAt tn (by omega)).trans HVAL.out; have hfz8 := hwor8.frozenAt tn; have hord9 := hord8.kept (grown_of_setCell w8 (w.heap.size + 1) tn (.slice (some ⟨g8, 0, none⟩) (wd.length + 1) c8)) (owns_ne hord8 hwor8 (by decide)); have HO9 := Lib.hid hord9; have hsz9 : w.heap.size + 2 ≤ w8.heap.size := Nat.le_trans hws6 hm78.size; clear hord9 hwor hord) | (at_builtin; refine wpList_pushI2 rfl _ _ rfl (w.heap.size + 2) A1 n1 c1 (stj.map Prod.fst) rfl HO9.out tn (by rw [World.size_setCell]; rfl) (by omega) (by simp; omega) ?_; intro A10 c10 w10 hord10 hgr10 hat10))
              have T8 := HT.out.mid (a := 0) (b := 0) hm78
              have T9 := T8.set (t := tn) (b := g8) (c := c8) (wd := wd ++ [x]) htn HMEM.out (fun p hp => (HOJ.out.rng p hp).1) (fun j u hu => (hown8.cellAt j (by have := (List.getElem?_eq_some_iff.1 hu).1; simp [ints] at this; omega)).trans hu) (by omega) (fun e => by have := HLT6.out g8 e; omega) hg8b
              rw [show (wd ++ [x]).length = wd.length + 1 by simp] at T9
              have T10 := T9.grow hgr10 (hat10.imp id fun h => ⟨_, h, by simp⟩)
              have hwor9 := owns_set hwor8 tn (.slice (some ⟨g8, 0, none⟩) (wd.length + 1) c8) rfl
              have hwor10 := hwor9.kept hgr10 (owns_ne hwor9 HO9.out (by decide))
              have hst := Mid.setAt w8 (w.heap.size + 1) tn (.slice (some ⟨g8, 0, none⟩) (wd.length + 1) c8)
              have hm10 := Mid.of_grownRow HO9.out hgr10
              have bx10 := ((bx.mid hm78 (Or.inr (Nat.zero_le _))).mid hst (Or.inl (Nat.lt_succ_self _))).mid hm10 (Or.inl (by omega))
              have hL10 := ((HL4.out.mid hm78 (Or.inl (Nat.zero_le _))).mid hst (Or.inl (by omega))).grown hgr10 HD.out
              have hmm10 := ((hm.trans hm78).storeNew (p := ⟨w.heap.size + 1, tn, none⟩) (Nat.le_succ _) (.slice (some ⟨g8, 0, none⟩) (wd.length + 1) c8)).transNew hm10 (Or.inl (by omega))
              have hmap : (stj ++ [((tn : Int), wd ++ [x])]).map Prod.fst = stj.map Prod.fst ++ [(tn : Int)] := by simp
              have HMAP := Lib.hid hmap
              have hw46 : w4.heap.size ≤ w8.heap.size := Nat.le_trans HL4.out.1 hm78.size
              have HD10 : Hid (∀ g, Value.ownBlock (.slice A10 (n1 + 1) c10) = some g → g < wo.heap.size ∨ w4.heap.size ≤ g) := Lib.hid (by
                intro g hg
                rcases hat10 with h | h
                · exact HD.out g (h.symm.trans hg)
                · rw [h] at hg
                  injection hg with hg
                  simp at hg
                  omega)
              have HT10 := Lib.hid T10
              have HL10 := Lib.hid hL10
              clear T8 T9 T10 hL10 hmap hat10 hgr10
              go_wp2_with fail
              go_roundw
              case rel => exact ⟨j + 1, n1 + 1, A10, c10, _, by omega, by go_num, rfl, Lib.hid (by rw [HNX.out, List.length_append, HN.out]; rfl), by rw [HNX.out, HMAP.out]; exact hord10, hwor10, by rw [HNX.out]; exact HT10, HL10, HD10, bx10, hmm10⟩
              case measure => simp [intOf]; omega
        · obtain rfl : j = LL := by omega
          have htk : (lets r).take j = lets r := List.take_of_length_le (by rw [HLn.out]; exact Nat.le_refl _)
          rw [htk] at hstj
          have hnx := hNX.out
          rw [hstj] at hnx
          have HNX := Lib.hid hnx
          clear hnx hstj
          have hin1 : i + 1 ≤ n1 := by have h1 := (List.getElem?_eq_some_iff.1 hpj).1; have h2 := HN.out; omega
          go_wp2_with fail
          go_roundw
          case rel => exact ⟨i + 1, n1, A1, c1, vals, hin1, by go_num, rfl, by rw [HNX.out]; exact HN, by rw [HNX.out]; exact hord, hwor, by rw [HNX.out]; exact HT, bx, hm⟩
          case measure => simp [intOf]; omega
    · obtain rfl : i = n1 := by omega
      have hbf := bfs_eq (L := lets r) HG.out.all hv0 hv3 (by omega) HN.out
      have hord' : ordE r es v = (bfsSt es (lets r) v i).map Prod.fst := by rw [ordE, Int.toNat_natCast, hbf]
      have hlen : (ordE r es v).length = i := by rw [hord', List.length_map]; exact HN.out
      have HORD := Lib.hid hord'
      have HLEN := Lib.hid hlen
      have HBF := Lib.hid hbf
      clear hbf hord' hlen
      go_wp2_with fail
      go_ret2
      exact ⟨A1, c1, by rw [HLEN.out]; rfl, hm, by rw [HLEN.out, HORD.out]; exact hord, vals, hwor, by rw [HLEN.out, HBF.out]; exact HT.out⟩
end Go.Proofs.YtimmnnncgnnkgaaGreat

/- part, the program. -/
namespace Go.Proofs.YtimmnnncgnnkgaaGreat
set_option linter.unusedVariables false
set_option linter.unusedSimpArgs false
open Go.RowKit

theorem fill_neg {n k : Nat} (h : k < n) : (ints (List.replicate k (-1)) ++ (List.replicate n (Value.int .i64 0)).drop k).set k (.int .i64 (-1)) = ints (List.replicate (k + 1) (-1)) ++ (List.replicate n (Value.int .i64 0)).drop (k + 1) := by
  rw [set_over _ _ _ (by rw [ints_len, List.length_replicate]) (by simpa using h), List.replicate_succ', ints_append]
  rfl

set_option maxHeartbeats 6400000 in
set_option maxRecDepth 100000 in
theorem impl_part (r : Int) (n : Nat) (A : Option Addr) (es : List Ed) (c : Nat) (Ao : Option Addr) (ord : List Int) (co : Nat) (w : World) (lo hi lo' hi' : Nat) (hr : RG w lo hi A es) (hro : RV w lo' hi' Ao (ints ord)) (hg : IsGr r n es)
    (hnd : ord.Nodup) (hin : ∀ x ∈ ord, 0 ≤ x ∧ x < (n : Int)) :
    Calls Tryz.prog 141 #[graV r n A es.length c, .slice Ao ord.length co] w fun e w' => ∃ A1 c1, e = .returned (graV r ord.length A1 (partE ord es).length c1) ∧ OG w' w.heap.size w'.heap.size A1 c1 (partE ord es) ∧ Mid 0 0 w w' := by
  have hn40 : n ≤ 40 := by have := hg.size; omega
  have hl := hg.len
  have hol : ord.length ≤ n := nodup_le n ord hnd hin
  have hmx : n ≤ maxLen := by unfold maxLen; omega
  have HG := Lib.hid hg
  have HND := Lib.hid hnd
  have HIN := Lib.hid hin
  have hm0 : Mid 0 0 w ((w.alloc (.cells #[.int .i64 r, .int .i64 n, .slice A es.length c] 29)).alloc (.cells #[.int .i64 0, .int .i64 0, .slice none 0 0] 29)) := (Mid.alloc _ _).trans (Mid.alloc _ _)
  have B0 := (Box.new w #[.int .i64 r, .int .i64 n, .slice A es.length c] 29).mid (Mid.alloc _ (.cells #[.int .i64 0, .int .i64 0, .slice none 0 0] 29)) (Or.inr (Nat.zero_le _))
  have B2 := Box.new (w.alloc (.cells #[.int .i64 r, .int .i64 n, .slice A es.length c] 29)) #[.int .i64 0, .int .i64 0, .slice none 0 0] 29
  simp only [World.size_alloc] at B2
  clear hg hnd hin
  go_enter Tryz.func141, Tryz.ntmps141
  go_wp2_with (at_make; refine wpList_mk rfl _ _ 25 rfl 3 (.int .i64 0) 8 undSI infoI rfl .i64 .i64 _ _ n rfl rfl rfl rfl (by omega) hmx ?_; intro w2 hown2 hgr2 hsz2)
  simp only [World.size_alloc, Nat.add_assoc, Nat.reduceAdd] at hown2 hsz2
  have hm2 := Mid.of_grown (lo := 0) (hi := 0) hgr2 (by intro g h; cases h)
  replace B0 := B0.mid hm2 (Or.inr (Nat.zero_le _))
  replace B2 := B2.mid hm2 (Or.inr (Nat.zero_le _))
  replace hm0 := hm0.trans hm2
  clear hgr2 hm2
  go_loopw [17] (fun i wr => ∃ k : Nat, k ≤ n ∧ i = .int .i64 k ∧ wr.ownsRow (w.heap.size + 2) 3 1 (.slice (some ⟨w.heap.size + 2, 0, none⟩) n n) n (ints (List.replicate k (-1)) ++ (List.replicate n (Value.int .i64 0)).drop k) ∧
      Box wr w.heap.size [.int .i64 r, .int .i64 n, .slice A es.length c] ∧ Box wr (w.heap.size + 1) [.int .i64 0, .int .i64 0, .slice none 0 0] ∧ Mid 0 0 w wr) (fun i _ => n - (intOf i).toNat)
  case atStart => exact ⟨0, Nat.zero_le _, rfl, by simpa [ints] using hown2, B0, B2, hm0⟩
  case round =>
    clear hown2 B0 B2 hm0 hsz2
    obtain ⟨wo, hwo⟩ : ∃ wo, wo = wr := ⟨_, rfl⟩
    subst hwo
    obtain ⟨k, hk, rfl, hown, b0, b2, hm⟩ := hrel
    by_cases hlt : k < n
    · obtain ⟨u, -, hcs⟩ := owns_cell hown hlt
      have hfz := hown.frozenAt k
      have hset := owns_set hown k (.int .i64 (-1)) (fill_neg hlt)
      have hst := Mid.setAt wo (w.heap.size + 2) k (.int .i64 (-1))
      have hms := hm.storeNew (p := ⟨w.heap.size + 2, k, none⟩) (by show w.heap.size ≤ w.heap.size + 2; omega) (.int .i64 (-1))
      have c0 := b0.mid hst (Or.inl (by omega))
      have c2 := b2.mid hst (Or.inl (by omega))
      have hk1 : (k : Int) < (n : Int) := by omega
      have hk0 : (0 : Int) ≤ (k : Int) := by omega
      clear hown b0 b2 hm hst
      go_wp2_with fail
      go_roundw
      case rel => exact ⟨k + 1, by omega, by go_num, hset, c0, c2, hms⟩
      case measure => simp [intOf]; omega
    · obtain rfl : k = n := by omega
      rw [List.drop_of_length_le (by simp), List.append_nil, ← placeL_nil] at hown
      go_wp2_with fail
      go_loopw [26] (fun i wr => ∃ j : Nat, j ≤ ord.length ∧ i = .int .i64 j ∧ wr.ownsRow (w.heap.size + 2) 3 1 (.slice (some ⟨w.heap.size + 2, 0, none⟩) k k) k (ints (placeL k (ord.take j))) ∧
          Box wr w.heap.size [.int .i64 r, .int .i64 k, .slice A es.length c] ∧ Box wr (w.heap.size + 1) [.int .i64 0, .int .i64 0, .slice none 0 0] ∧ Mid 0 0 w wr) (fun i _ => ord.length - (intOf i).toNat)
      case atStart => exact ⟨0, Nat.zero_le _, rfl, by rw [List.take_zero]; exact hown, b0, b2, hm⟩
      case round =>
        clear hown b0 b2 hm
        obtain ⟨wi, hwi⟩ : ∃ wi, wi = wr := ⟨_, rfl⟩
        subst hwi
        obtain ⟨j, hj, rfl, hown, b0, b2, hm⟩ := hrel
        by_cases hlt2 : j < ord.length
        · obtain ⟨B, off, x, rfl, hbh, hx, hcx⟩ := (hro.mid hm (Or.inl (Nat.zero_le _))).at hlt2
          have hxr := HIN.out x (List.mem_of_getElem? hx)
          obtain ⟨m, rfl⟩ : ∃ m : Nat, x = m := ⟨x.toNat, by omega⟩
          have hmk : m < k := by omega
          obtain ⟨u, -, hcs⟩ := owns_cell hown hmk
          have hfz := hown.frozenAt m
          have hset := owns_set (ys := ints (placeL k (ord.take (j + 1)))) hown m (.int .i64 j) (by rw [← placeL_set HND.out hx hmk]; simp [ints])
          have hst := Mid.setAt wi (w.heap.size + 2) m (.int .i64 j)
          have hms := hm.storeNew (p := ⟨w.heap.size + 2, m, none⟩) (by show w.heap.size ≤ w.heap.size + 2; omega) (.int .i64 j)
          have c0 := b0.mid hst (Or.inl (by omega))
          have c2 := b2.mid hst (Or.inl (by omega))
          have hm1 : (m : Int) < (k : Int) := by omega
          have hm0 : (0 : Int) ≤ (m : Int) := by omega
          have hj1 : (j : Int) < (ord.length : Int) := by omega
          have hj0 : (0 : Int) ≤ (j : Int) := by omega
          clear hown b0 b2 hm hst hx
          go_wp2_with fail
          go_roundw
          case rel => exact ⟨j + 1, by omega, by go_num, hset, c0, c2, hms⟩
          case measure => simp [intOf]; omega
        · obtain rfl : j = ord.length := by omega
          rw [List.take_length] at hown
          have p0 := b0.cell 0 rfl
          have p1 := b0.cell 1 rfl
          have p2 := b0.cell 2 rfl
          have hws := b2.1
          have hws0 := b0.1
          have hal := Mid.alloc wi (.cells #[.int .i64 r, .int .i64 ord.length, .slice none 0 0] 29)
          have Y3 := Box.new wi #[.int .i64 r, .int .i64 ord.length, .slice none 0 0] 29
          go_wp2_with fail
          have hpl : w.heap.size + 2 < wi.heap.size := (hown.lt _ rfl).2
          obtain ⟨G, hG⟩ : ∃ G, wi.heap.size = G := ⟨_, rfl⟩
          have O0 : (wi.alloc (.cells #[.int .i64 r, .int .i64 ord.length, .slice none 0 0] 29)).ownsRow (G + 1) 78 3 (.slice none 0 0) 0 [] := ⟨rfl, .inl ⟨rfl, rfl⟩⟩
          have hownP := hown.alloc (.cells #[.int .i64 r, .int .i64 ord.length, .slice none 0 0] 29)
          replace b0 := b0.mid hal (Or.inr (Nat.zero_le _))
          replace b2 := b2.mid hal (Or.inr (Nat.zero_le _))
          replace hm := hm.trans hal
          have hw5s : (wi.alloc (.cells #[.int .i64 r, .int .i64 ord.length, .slice none 0 0] 29)).heap.size = G + 1 := by rw [World.size_alloc, hG]
          generalize wi.alloc (.cells #[.int .i64 r, .int .i64 ord.length, .slice none 0 0] 29) = w5 at O0 hownP Y3 b0 b2 hm hw5s ⊢
          rw [hG] at Y3 hpl hws hws0 ⊢
          clear hown hG hal p0 p1 p2
          go_loopw [44] (fun i wr => ∃ (q : Nat) (A2 : Option Addr) (n2 c2 : Nat), q ≤ es.length ∧ i = .int .i64 q ∧ Hid (((es.take q).filterMap (partOf ord)).length = n2) ∧
              wr.ownsRow (G + 1) 78 3 (.slice A2 n2 c2) n2 (ints (edI ((es.take q).filterMap (partOf ord)))) ∧ wr.ownsRow (w.heap.size + 2) 3 1 (.slice (some ⟨w.heap.size + 2, 0, none⟩) k k) k (ints (placeL k ord)) ∧
              Box wr w.heap.size [.int .i64 r, .int .i64 k, .slice A es.length c] ∧ Box wr (w.heap.size + 1) [.int .i64 0, .int .i64 0, .slice none 0 0] ∧ Box wr G [.int .i64 r, .int .i64 ord.length, .slice A2 n2 c2] ∧ Mid 0 0 w wr) (fun i _ => es.length - (intOf i).toNat)
          case atStart => exact ⟨0, none, 0, 0, Nat.zero_le _, rfl, Lib.hid rfl, by simpa [edI, ints] using O0, hownP, b0, b2, Y3, hm⟩
          case round =>
            clear O0 hownP b0 b2 Y3 hm hw5s
            obtain ⟨q, A2, n2, c2, hq, rfl, HN, hown, hownP, b0, b2, Y3, hm⟩ := hrel
            have hn2 : n2 ≤ 120 := by have h1 := List.length_filterMap_le (partOf ord) (es.take q); have h2 := HN.out; simp at h1; omega
            by_cases hlt3 : q < es.length
            · obtain ⟨B, off, e, rfl, -, hbh, he, e0, e1, e2⟩ := (hr.mid hm (Or.inl (Nat.zero_le _))).ed hlt3
              have hin := HG.out.all e (List.mem_of_getElem? he)
              have htk : (es.take (q + 1)).filterMap (partOf ord) = (es.take q).filterMap (partOf ord) ++ (partOf ord e).toList := by
                rw [take_snoc he, List.filterMap_append]
                cases hd : partOf ord e <;> simp [hd]
              obtain ⟨i1, i2, i3, i4, i5, i6⟩ := hin
              obtain ⟨x, l, y⟩ := e
              simp only at i1 i2 i3 i4 i5 i6 e0 e1 e2 htk
              obtain ⟨ia, rfl⟩ : ∃ ia : Nat, x = ia := ⟨x.toNat, by omega⟩
              obtain ⟨ib, rfl⟩ : ∃ ib : Nat, y = ib := ⟨y.toNat, by omega⟩
              have hia : ia < k := by omega
              have hib : ib < k := by omega
              have hq0 : (0 : Int) ≤ (q : Int) := by omega
              have hq1 : (q : Int) < (es.length : Int) := by omega
              have hal := Mid.alloc wr (.cells #[.int .i64 ia, .int .i64 l, .int .i64 ib] 78)
              have ZE := Box.new wr #[.int .i64 ia, .int .i64 l, .int .i64 ib] 78
              have hgs : w.heap.size + 2 < wr.heap.size := (hownP.lt _ rfl).2
              have hGr : G < wr.heap.size := Y3.1
              have hbE : Value.ownBlock (.slice A2 n2 c2) ≠ some wr.heap.size := fun h => by have := (hown.lt _ h).2; omega
              have hbk : Value.ownBlock (.slice A2 n2 c2) ≠ some G := fun h => by have := (hown.lt _ h).1; omega
              have hownV := hown.alloc (.cells #[.int .i64 ia, .int .i64 l, .int .i64 ib] 78)
              replace b0 := b0.mid hal (Or.inr (Nat.zero_le _))
              replace b2 := b2.mid hal (Or.inr (Nat.zero_le _))
              replace Y3 := Y3.mid hal (Or.inr (Nat.zero_le _))
              replace hownP := owns_mid hownP hal (Or.inl (Nat.zero_le _))
              replace hm := hm.trans hal
              obtain ⟨pa, hpa⟩ : ∃ pa, idxI ord ia = pa := ⟨_, rfl⟩
              obtain ⟨pb, hpb⟩ : ∃ pb, idxI ord ib = pb := ⟨_, rfl⟩
              have hga : (ints (placeL k ord))[ia]? = some (.int .i64 pa) := by rw [ints_get, placeL_get ord hia, hpa]; rfl
              have hgb : (ints (placeL k ord))[ib]? = some (.int .i64 pb) := by rw [ints_get, placeL_get ord hib, hpb]; rfl
              have hca := (hownP.cellAt ia (by omega)).trans hga
              have hcb := (hownP.cellAt ib (by omega)).trans hgb
              have HTK := Lib.hid htk
              have HPA := Lib.hid hpa
              have HPB := Lib.hid hpb
              have HGA := Lib.hid hga
              have HGB := Lib.hid hgb
              clear he htk hpa hpb hown hga hgb
              by_cases hok : 0 ≤ pa ∧ 0 ≤ pb
              · have hpo : partOf ord ⟨(ia : Int), l, (ib : Int)⟩ = some ⟨pa, l, pb⟩ := by
                  unfold partOf
                  simp only [HPA.out, HPB.out]
                  rw [if_pos hok]
                have HT : Hid ((es.take (q + 1)).filterMap (partOf ord) = (es.take q).filterMap (partOf ord) ++ [⟨pa, l, pb⟩]) := Lib.hid (by rw [HTK.out, hpo]; rfl)
                have d1 : decide (0 ≤ pa) = true := by simpa using hok.1
                have d2 : decide (0 ≤ pb) = true := by simpa using hok.2
                clear hpo hok
                go_wp2_with fail
                clear e0 e1 e2 hca hcb d1 d2
                generalize hwx : wr.alloc (.cells #[.int .i64 ia, .int .i64 l, .int .i64 ib] 78) = wx at ZE b0 b2 Y3 hownV hownP hm ⊢
                generalize hgE : wr.heap.size = E at ZE hgs hGr hbE ⊢
                clear hgE hwx hal
                have hmd := Mid.drew1 wx
                replace b0 := b0.mid hmd (Or.inr (Nat.zero_le _))
                replace b2 := b2.mid hmd (Or.inr (Nat.zero_le _))
                replace Y3 := Y3.mid hmd (Or.inr (Nat.zero_le _))
                replace ZE := ZE.mid hmd (Or.inr (Nat.zero_le _))
                replace hownV := owns_mid hownV hmd (Or.inl (Nat.zero_le _))
                replace hownP := owns_mid hownP hmd (Or.inl (Nat.zero_le _))
                replace hm := hm.trans hmd
                have hca := (hownP.cellAt ia (by omega)).trans HGA.out
                have hcb := (hownP.cellAt ib (by omega)).trans HGB.out
                have f0 := ZE.cell 0 rfl
                have f1 := ZE.cell 1 rfl
                have f2 := ZE.cell 2 rfl
                have g2 := Y3.cell 2 rfl
                clear hmd
                refine wp_region_T (S := (fun w' => w'.cell? ⟨E, 0, none⟩ = some (.int .i64 ia) ∧ w'.cell? ⟨E, 1, none⟩ = some (.int .i64 l) ∧ w'.cell? ⟨E, 2, none⟩ = some (.int .i64 ib) ∧ w'.cell? ⟨G, 2, none⟩ = some (.slice A2 n2 c2) ∧ w'.cell? ⟨w.heap.size + 2, ia, none⟩ = some (.int .i64 pa) ∧ w'.cell? ⟨w.heap.size + 2, ib, none⟩ = some (.int .i64 pb))) 18 (by kernel_rfl) ⟨f0, f1, f2, g2, hca, hcb⟩ ?_
                generalize World.drew wx = wz at b0 b2 Y3 ZE hownV hownP hm f0 f1 f2 g2 hca hcb ⊢
                have hS : wz.cell? ⟨E, 0, none⟩ = some (.int .i64 ia) ∧ wz.cell? ⟨E, 1, none⟩ = some (.int .i64 l) ∧ wz.cell? ⟨E, 2, none⟩ = some (.int .i64 ib) ∧ wz.cell? ⟨G, 2, none⟩ = some (.slice A2 n2 c2) ∧ wz.cell? ⟨w.heap.size + 2, ia, none⟩ = some (.int .i64 pa) ∧ wz.cell? ⟨w.heap.size + 2, ib, none⟩ = some (.int .i64 pb) := ⟨f0, f1, f2, g2, hca, hcb⟩
                refine wpAnyT_take (i := 0) (v := ?_) rfl (by kernel_rfl) (by kernel_rfl) (by kernel_rfl) (by kernel_rfl) (fun _ _ _ h => h) (Or.inl ⟨by rfl, ?_⟩) hS ?_
                rotate_left
                focus (intro w hSw; (try dsimp only at hSw); go_simp; try with_reducible rfl)
                try simp only [Act.put, List.setIfInBounds_toArray, List.set_cons_zero, List.set_cons_succ, List.getElem_toArray, List.getElem_cons_zero, List.getElem_cons_succ]
                refine wpAnyT_take (i := 1) (v := ?_) rfl (by kernel_rfl) (by kernel_rfl) (by kernel_rfl) (by kernel_rfl) (fun _ _ _ h => h) (Or.inl ⟨by rfl, ?_⟩) hS ?_
                rotate_left
                focus (intro w hSw; (try dsimp only at hSw); go_simp; try with_reducible rfl)
                try simp only [Act.put, List.setIfInBounds_toArray, List.set_cons_zero, List.set_cons_succ, List.getElem_toArray, List.getElem_cons_zero, List.getElem_cons_succ]
                refine wpAnyT_take (i := 2) (v := ?_) rfl (by kernel_rfl) (by kernel_rfl) (by kernel_rfl) (by kernel_rfl) (fun _ _ _ h => h) (Or.inl ⟨by rfl, ?_⟩) hS ?_
                rotate_left
                focus (intro w hSw; (try dsimp only at hSw); go_simp; try with_reducible rfl)
                try simp only [Act.put, List.setIfInBounds_toArray, List.set_cons_zero, List.set_cons_succ, List.getElem_toArray, List.getElem_cons_zero, List.getElem_cons_succ]
                refine wpAnyT_take (i := 3) (v := ?_) rfl (by kernel_rfl) (by kernel_rfl) (by kernel_rfl) (by kernel_rfl) (fun _ _ _ h => h) (Or.inl ⟨by rfl, ?_⟩) hS ?_
                rotate_left
                focus (intro w hSw; (try dsimp only at hSw); go_simp; try with_reducible rfl)
                try simp only [Act.put, List.setIfInBounds_toArray, List.set_cons_zero, List.set_cons_succ, List.getElem_toArray, List.getElem_cons_zero, List.getElem_cons_succ]
                refine wpAnyT_take (i := 4) (v := ?_) rfl (by kernel_rfl) (by kernel_rfl) (by kernel_rfl) (by kernel_rfl) (fun _ _ _ h => h) (Or.inl ⟨by rfl, ?_⟩) hS ?_
                rotate_left
                focus (intro w hSw; (try dsimp only at hSw); go_simp; try with_reducible rfl)
                try simp only [Act.put, List.setIfInBounds_toArray, List.set_cons_zero, List.set_cons_succ, List.getElem_toArray, List.getElem_cons_zero, List.getElem_cons_succ]
                refine wpAnyT_take (i := 5) (v := ?_) rfl (by kernel_rfl) (by kernel_rfl) (by kernel_rfl) (by kernel_rfl) (fun _ _ _ h => h) (Or.inl ⟨by rfl, ?_⟩) hS ?_
                rotate_left
                focus (intro w hSw; (try dsimp only at hSw); go_simp; try with_reducible rfl)
                try simp only [Act.put, List.setIfInBounds_toArray, List.set_cons_zero, List.set_cons_succ, List.getElem_toArray, List.getElem_cons_zero, List.getElem_cons_succ]
                refine wpAnyT_take (i := 6) (v := ?_) rfl (by kernel_rfl) (by kernel_rfl) (by kernel_rfl) (by kernel_rfl) (fun _ _ _ h => h) (Or.inl ⟨by rfl, ?_⟩) hS ?_
                rotate_left
                focus (intro w hSw; (try dsimp only at hSw); go_simp; try with_reducible rfl)
                try simp only [Act.put, List.setIfInBounds_toArray, List.set_cons_zero, List.set_cons_succ, List.getElem_toArray, List.getElem_cons_zero, List.getElem_cons_succ]
                refine wpAnyT_take (i := 7) (v := ?_) rfl (by kernel_rfl) (by kernel_rfl) (by kernel_rfl) (by kernel_rfl) (fun _ _ _ h => h) (Or.inl ⟨by rfl, ?_⟩) hS ?_
                rotate_left
                focus (intro w hSw; (try dsimp only at hSw); go_simp; try with_reducible rfl)
                try simp only [Act.put, List.setIfInBounds_toArray, List.set_cons_zero, List.set_cons_succ, List.getElem_toArray, List.getElem_cons_zero, List.getElem_cons_succ]
                refine wpAnyT_take (i := 8) (v := ?_) rfl (by kernel_rfl) (by kernel_rfl) (by kernel_rfl) (by kernel_rfl) (fun _ _ _ h => h) (Or.inl ⟨by rfl, ?_⟩) hS ?_
                rotate_left
                focus (intro w hSw; (try dsimp only at hSw); go_simp; try with_reducible rfl)
                try simp only [Act.put, List.setIfInBounds_toArray, List.set_cons_zero, List.set_cons_succ, List.getElem_toArray, List.getElem_cons_zero, List.getElem_cons_succ]
                refine wpAnyT_take (i := 9) (v := ?_) rfl (by kernel_rfl) (by kernel_rfl) (by kernel_rfl) (by kernel_rfl) (fun _ _ _ h => h) (Or.inl ⟨by rfl, ?_⟩) hS ?_
                rotate_left
                focus (intro w hSw; (try dsimp only at hSw); go_simp; try with_reducible rfl)
                try simp only [Act.put, List.setIfInBounds_toArray, List.set_cons_zero, List.set_cons_succ, List.getElem_toArray, List.getElem_cons_zero, List.getElem_cons_succ]
                refine wpAnyT_take (i := 10) (v := ?_) rfl (by kernel_rfl) (by kernel_rfl) (by kernel_rfl) (by kernel_rfl) (fun _ _ _ h => h) (Or.inl ⟨by rfl, ?_⟩) hS ?_
                rotate_left
                focus (intro w hSw; (try dsimp only at hSw); go_simp; try with_reducible rfl)
                try simp only [Act.put, List.setIfInBounds_toArray, List.set_cons_zero, List.set_cons_succ, List.getElem_toArray, List.getElem_cons_zero, List.getElem_cons_succ]
                refine wpAnyT_take (i := 11) (v := ?_) rfl (by kernel_rfl) (by kernel_rfl) (by kernel_rfl) (by kernel_rfl) (fun _ _ _ h => h) (Or.inl ⟨by rfl, ?_⟩) hS ?_
                rotate_left
                focus (intro w hSw; (try dsimp only at hSw); go_simp; try with_reducible rfl)
                try simp only [Act.put, List.setIfInBounds_toArray, List.set_cons_zero, List.set_cons_succ, List.getElem_toArray, List.getElem_cons_zero, List.getElem_cons_succ]
                refine wpAnyT_take (i := 12) (v := ?_) rfl (by kernel_rfl) (by kernel_rfl) (by kernel_rfl) (by kernel_rfl) (fun _ _ _ h => h) (Or.inl ⟨by rfl, ?_⟩) hS ?_
                rotate_left
                focus (intro w hSw; (try dsimp only at hSw); go_simp; try with_reducible rfl)
                try simp only [Act.put, List.setIfInBounds_toArray, List.set_cons_zero, List.set_cons_succ, List.getElem_toArray, List.getElem_cons_zero, List.getElem_cons_succ]
                refine wpAnyT_take (i := 13) (v := ?_) rfl (by kernel_rfl) (by kernel_rfl) (by kernel_rfl) (by kernel_rfl) (fun _ _ _ h => h) (Or.inl ⟨by rfl, ?_⟩) hS ?_
                rotate_left
                focus (intro w hSw; (try dsimp only at hSw); go_simp; try with_reducible rfl)
                try simp only [Act.put, List.setIfInBounds_toArray, List.set_cons_zero, List.set_cons_succ, List.getElem_toArray, List.getElem_cons_zero, List.getElem_cons_succ]
                refine wpAnyT_take (i := 14) (v := ?_) rfl (by kernel_rfl) (by kernel_rfl) (by kernel_rfl) (by kernel_rfl) (fun _ _ _ h => h) (Or.inl ⟨by rfl, ?_⟩) hS ?_
                rotate_left
                focus (intro w hSw; (try dsimp only at hSw); go_simp; try with_reducible rfl)
                try simp only [Act.put, List.setIfInBounds_toArray, List.set_cons_zero, List.set_cons_succ, List.getElem_toArray, List.getElem_cons_zero, List.getElem_cons_succ]
                have haz := Mid.alloc wz (.cells #[.int .i64 pa, .int .i64 l, .int .i64 pb] 78)
                have hGz : G < wz.heap.size := Y3.1
                have hownT := hownV.alloc (.cells #[.int .i64 pa, .int .i64 l, .int .i64 pb] 78)
                replace b0 := b0.mid haz (Or.inr (Nat.zero_le _))
                replace b2 := b2.mid haz (Or.inr (Nat.zero_le _))
                replace Y3 := Y3.mid haz (Or.inr (Nat.zero_le _))
                replace ZE := ZE.mid haz (Or.inr (Nat.zero_le _))
                replace hownP := owns_mid hownP haz (Or.inl (Nat.zero_le _))
                replace hm := hm.trans haz
                have hS2 := And.intro (ZE.cell 0 rfl) (And.intro (ZE.cell 1 rfl) (And.intro (ZE.cell 2 rfl) (And.intro (Y3.cell 2 rfl) (And.intro ((hownP.cellAt ia (by omega)).trans HGA.out) ((hownP.cellAt ib (by omega)).trans HGB.out)))))
                have hrs : Rs (wz.alloc (.cells #[.int .i64 pa, .int .i64 l, .int .i64 pb] 78)) (wz.heap.size + 1) (some ⟨wz.heap.size, 0, none⟩) [.int .i64 pa, .int .i64 l, .int .i64 pb] := fun _ => ⟨wz.heap.size, 0, rfl, Nat.lt_succ_self _, fun j u hu => (World.cell?_alloc_at _ _ _ _ rfl).trans (by simpa using hu)⟩
                have hone : ∀ u ∈ [Value.int .i64 pa, .int .i64 l, .int .i64 pb], u.oneCell' = true := by
                  intro u hu
                  simp at hu
                  rcases hu with rfl | rfl | rfl <;> rfl
                have hmxl : n2 + 1 ≤ maxLen := by unfold maxLen; omega
                have hbyt : (n2 + 1) * 24 ≤ 140737488355328 := by omega
                have hbas : G + 1 ≤ (wz.alloc (.cells #[.int .i64 pa, .int .i64 l, .int .i64 pb] 78)).heap.size := by have h1 := Y3.1; omega
                have HO := Lib.hid hone
                have HB0 := Lib.hid (fun (g : Nat) (h : Value.ownBlock (.slice A2 n2 c2) = some g) => (hownT.lt g h).1)
                have HBk := Lib.hid hbk
                have HBe := Lib.hid hbE
                clear hone hbk hbE hownV f0 f1 f2 g2 hca hcb hS haz
                refine wpAnyT_ready (rs := [15]) (by kernel_rfl) (by simp) (AllReadyT.cons rfl (fun K hK => ?_) AllReadyT.nil)
                go_simp
                refine hK.out _ _ (Or.inr hS2) (fun _ => ?_)
                clear hK K
                try simp only [Act.put, List.setIfInBounds_toArray, List.set_cons_zero, List.set_cons_succ, List.getElem_toArray, List.getElem_cons_zero, List.getElem_cons_succ]
                generalize hwt : wz.alloc (.cells #[.int .i64 pa, .int .i64 l, .int .i64 pb] 78) = wt at b0 b2 Y3 ZE hownT hownP hm hS2 hrs hbas ⊢
                have hszt : wt.heap.size = wz.heap.size + 1 := by rw [← hwt]; simp
                have HZT := Lib.hid hszt
                have HP := Lib.hid hownP
                clear hwt hszt hownP
                refine wpAnyT_ready (rs := [16]) (by kernel_rfl) (by simp) (AllReadyT.cons rfl (fun K hK => ?_) AllReadyT.nil)
                (refine step_cat (by rfl) (.tmp 63) (.tmp 77) 27 (by rfl) (G + 1) 78 (.agg #[.int .i64 0, .int .i64 0, .int .i64 0]) 3 24 undSE infoE rfl (by decide) (.slice A2 n2 c2) n2 _ (by rfl) hownT (some ⟨wz.heap.size, 0, none⟩) 1 1 _ [.int .i64 pa, .int .i64 l, .int .i64 pb] (by rfl) hrs rfl HO.out hmxl hbyt hbas ?_; intro v9 w9 ho9 hgr9 hat9; obtain ⟨A9, c9, rfl, -, -⟩ := owns_shape ho9; have hP9 := HP.out.kept hgr9 (owns_ne HP.out hownT (by decide)))
                refine hK.out _ _ (Or.inr ⟨(ZE.grown hgr9 HBe.out).cell 0 rfl, (ZE.grown hgr9 HBe.out).cell 1 rfl, (ZE.grown hgr9 HBe.out).cell 2 rfl, (Y3.grown hgr9 HBk.out).cell 2 rfl, (hP9.cellAt ia (by omega)).trans HGA.out, (hP9.cellAt ib (by omega)).trans HGB.out⟩) (fun _ => ?_)
                clear hK K
                try simp only [Act.put, List.setIfInBounds_toArray, List.set_cons_zero, List.set_cons_succ, List.getElem_toArray, List.getElem_cons_zero, List.getElem_cons_succ]
                replace Y3 := Y3.grown hgr9 HBk.out
                replace ZE := ZE.grown hgr9 HBe.out
                replace b0 := b0.grown hgr9 (fun h => by have := HB0.out _ h; omega)
                replace b2 := b2.grown hgr9 (fun h => by have := HB0.out _ h; omega)
                replace hm : Mid 0 0 w w9 := hm.transNew (Mid.of_grownRow hownT hgr9) (Or.inl (by omega))
                have hS3 := And.intro (ZE.cell 0 rfl) (And.intro (ZE.cell 1 rfl) (And.intro (ZE.cell 2 rfl) (And.intro (Y3.cell 2 rfl) (And.intro ((hP9.cellAt ia (by omega)).trans HGA.out) ((hP9.cellAt ib (by omega)).trans HGB.out)))))
                have hne : Value.ownBlock (.slice A9 (n2 + 1) c9) ≠ some G := by
                  rcases hat9 with h | h
                  · rw [h]; exact HBk.out
                  · rw [h]
                    intro he
                    injection he with he
                    have := HZT.out
                    omega
                have HNE := Lib.hid hne
                have hr2 := Y3.cell 2 rfl
                have hrf := Y3.2.2
                clear hne hat9 hS2 hrs hownT
                refine wpAnyT_take (i := 17) (v := ?_) rfl (by kernel_rfl) (by kernel_rfl) (by kernel_rfl) (by kernel_rfl) (fun _ _ _ h => h) (Or.inl ⟨by rfl, ?_⟩) hS3 ?_
                rotate_left
                focus (intro w hSw; (try dsimp only at hSw); go_simp; try with_reducible rfl)
                try simp only [Act.put, List.setIfInBounds_toArray, List.set_cons_zero, List.set_cons_succ, List.getElem_toArray, List.getElem_cons_zero, List.getElem_cons_succ]
                refine wpAnyT_ready (rs := [18]) (by kernel_rfl) (by simp) (AllReadyT.cons rfl (fun K hK => ?_) AllReadyT.nil)
                (go_simp)
                refine hK.out _ _ (Or.inl rfl) (fun _ => ?_)
                clear hK K
                try simp only [Act.put, List.setIfInBounds_toArray, List.set_cons_zero, List.set_cons_succ, List.getElem_toArray, List.getElem_cons_zero, List.getElem_cons_succ]
                refine wpAnyT_done (by kernel_rfl) ?_ _
                go_wp2_with fail
                go_roundw
                case rel =>
                  have hst := Mid.setAt w9 G 2 (.slice A9 (n2 + 1) c9)
                  refine ⟨q + 1, A9, n2 + 1, c9, by omega, by go_num, Lib.hid (by rw [HT.out, List.length_append, HN.out]; rfl), ?_, hP9.kept (grown_of_setCell w9 G 2 (.slice A9 (n2 + 1) c9)) (.inr ?_), b0.mid hst (Or.inl (by omega)), b2.mid hst (Or.inl (by omega)), Y3.set 2 _ (by simp) rfl, hm.storeNew (by show w.heap.size ≤ G; omega) _⟩
                  · have h1 := owns_other ho9 (k := G) (grown_setCell (World.grownBy.refl _ (some G)) 2 (.slice A9 (n2 + 1) c9)) HNE.out
                    rw [HT.out, edI_append, ints_append, edI_one]
                    exact h1
                  · intro h
                    injection h with h
                    simp at h
                    omega
                case measure => simp [intOf]; omega
              · have hpo : partOf ord ⟨(ia : Int), l, (ib : Int)⟩ = none := by
                  unfold partOf
                  simp only [HPA.out, HPB.out]
                  rw [if_neg hok]
                have HT : Hid ((es.take (q + 1)).filterMap (partOf ord) = (es.take q).filterMap (partOf ord)) := Lib.hid (by rw [HTK.out, hpo]; simp)
                by_cases h1 : 0 ≤ pa
                · have d1 : decide (0 ≤ pa) = true := by simpa using h1
                  have d2 : decide (0 ≤ pb) = false := by simp; omega
                  clear hpo hok h1
                  go_wp2_with fail
                  go_roundw
                  case rel => exact ⟨q + 1, A2, n2, c2, by omega, by go_num, by rw [HT.out]; exact HN, by rw [HT.out]; exact hownV, hownP, b0, b2, Y3, hm⟩
                  case measure => simp [intOf]; omega
                · have d1 : decide (0 ≤ pa) = false := by simp; omega
                  clear hpo hok h1
                  go_wp2_with fail
                  go_roundw
                  case rel => exact ⟨q + 1, A2, n2, c2, by omega, by go_num, by rw [HT.out]; exact HN, by rw [HT.out]; exact hownV, hownP, b0, b2, Y3, hm⟩
                  case measure => simp [intOf]; omega
            · obtain rfl : q = es.length := by omega
              rw [List.take_length] at hown HN
              have hGr : G < wr.heap.size := Y3.1
              have hrg : RG wr (G + 1) wr.heap.size A2 (es.filterMap (partOf ord)) := OV.rv (e := 78) (size := 3) (c := c2) (n := n2) ⟨Nat.le_refl _, hown, fun g hg => (hown.lt g hg).2⟩
              have z2 := Y3.cell 2 rfl
              go_wp2_with fail
              with_reducible refine (impl_sortedN A2 (es.filterMap (partOf ord)) n2 c2 _ _ _ HN.out hrg (by omega)).mono ?_
              rintro en w6 ⟨A4, c4, rfl, ho6, hm6⟩
              replace b2 := b2.mid hm6 (Or.inr (Nat.zero_le _))
              replace Y3 := Y3.mid hm6 (Or.inr (Nat.zero_le _))
              replace hm := hm.trans hm6
              have hsz6 := hm6.size
              clear z2
              have a0 := b2.cell 0 rfl
              have a1 := b2.cell 1 rfl
              have a2 := b2.cell 2 rfl
              have x0 := Y3.cell 0 rfl
              have x1 := Y3.cell 1 rfl
              have x2 := Y3.cell 2 rfl
              have af := b2.2.2
              have bf := Y3.2.2
              go_wp2_with fail
              have hcl : (w.heap.size + 1 == G) = false := by simp; omega
              refine bodyPost_ret (v := .agg #[.int .i64 r, .int .i64 ord.length, .slice A4 (canon (es.filterMap (partOf ord))).length c4]) (by simp [results, Tryz.results141, go_sem, a0, a1, a2, x0, x1, x2, af, bf]) rfl ⟨A4, c4, rfl, ?_, ?_⟩
              · refine OG.wide (OG.mid ho6 (a := w.heap.size) (b := G + 1) ?_ (Or.inl hGr)) (by omega) (by simp) (Nat.le_refl _)
                repeat (first | exact Mid.refl _ _ _ | refine Mid.stored ?_ _ (by simp; try omega) (by simp; try omega))
              · repeat (first | exact hm | refine Mid.storeNew ?_ (by simp; try omega) _)
end Go.Proofs.YtimmnnncgnnkgaaGreat

/- Plain: the reference's rounds that find what is joined. -/
namespace Go.Proofs.YtimmnnncgnnkgaaGreat
set_option linter.unusedVariables false
set_option linter.unusedSimpArgs false

theorem srt_ext {xs ys : List Int} (hx : xs.Pairwise (· < ·)) (hy : ys.Pairwise (· < ·)) (h : ∀ u, u ∈ xs ↔ u ∈ ys) : xs = ys := by
  have n1 : xs.Nodup := hx.imp fun h => by omega
  have n2 : ys.Nodup := hy.imp fun h => by omega
  exact List.Perm.eq_of_pairwise (le := fun x y : Int => x < y) (fun a b _ _ h1 h2 => by omega) hx hy ((List.perm_ext_iff_of_nodup n1 n2).2 h)
theorem putI_mem {x : Int} {l : List Int} (h : l.Pairwise (· < ·)) (hx : x ∈ l) : putI x l = l :=
  srt_ext (putI_sorted h) h fun u => by
    rw [mem_putI]
    constructor
    · rintro (rfl | h)
      · exact hx
      · exact h
    · exact .inr
theorem putI_new {x : Int} {l : List Int} (h : l.Pairwise (· < ·)) (hx : x ∉ l) : (putI x l).length = l.length + 1 := by
  have n1 : (putI x l).Nodup := (putI_sorted h).imp fun h => by omega
  have n2 : (x :: l).Nodup := List.nodup_cons.2 ⟨hx, h.imp fun h => by omega⟩
  have := ((List.perm_ext_iff_of_nodup n1 n2).2 fun u => by rw [mem_putI, List.mem_cons]).length_eq
  simpa using this
/-- The ascending list found so far. -/
structure RAt (s : Int) (es : List Ed) (v : Int) (zs : List Int) : Prop where
  here : v ∈ zs
  rng : ∀ u ∈ zs, 0 ≤ u ∧ u < s
  srt : zs.Pairwise (· < ·)
  conn : ∀ u ∈ zs, Conn es v u
  cnt : zs.length ≤ 1 + (es.filter fun e => decide (e.a ∈ zs ∧ e.b ∈ zs)).length
theorem RAt.start {s : Int} (es : List Ed) {v : Int} (h0 : 0 ≤ v) (h1 : v < s) : RAt s es v [v] := by
  refine ⟨by simp, ?_, by simp, ?_, by simp⟩
  · intro u hu; simp at hu; subst hu; exact ⟨h0, h1⟩
  · intro u hu; simp at hu; subst hu; exact .here
theorem filter_len_mono {p q : Ed → Bool} (h : ∀ e, p e = true → q e = true) : ∀ l : List Ed, (l.filter p).length ≤ (l.filter q).length
  | [] => Nat.le_refl _
  | e :: t => by
    have := filter_len_mono h t
    cases hp : p e with
    | true => rw [List.filter_cons_of_pos hp, List.filter_cons_of_pos (h e hp)]; simpa using this
    | false =>
      rw [List.filter_cons_of_neg (by simp [hp])]
      cases hq : q e with
      | true => rw [List.filter_cons_of_pos hq]; simp; omega
      | false => rw [List.filter_cons_of_neg (by simp [hq])]; exact this
theorem filter_len_lt {p q : Ed → Bool} (h : ∀ e, p e = true → q e = true) {f : Ed} (hp : p f = false) (hq : q f = true) : ∀ {l : List Ed}, f ∈ l → (l.filter p).length < (l.filter q).length
  | e :: t, hm => by
    rcases List.mem_cons.1 hm with rfl | hm
    · rw [List.filter_cons_of_neg (by simp [hp]), List.filter_cons_of_pos hq]
      have := filter_len_mono h t
      simp
      omega
    · have := filter_len_lt h hp hq hm
      cases hp' : p e with
      | true => rw [List.filter_cons_of_pos hp', List.filter_cons_of_pos (h e hp')]; simpa using this
      | false =>
        rw [List.filter_cons_of_neg (by simp [hp'])]
        cases hq' : q e with
        | true => rw [List.filter_cons_of_pos hq']; simp; omega
        | false => rw [List.filter_cons_of_neg (by simp [hq'])]; exact this
theorem RAt.push {s : Int} {es : List Ed} {v u : Int} {zs : List Int} (h : RAt s es v zs) {e : Ed} (he : e ∈ es) (hr : 0 ≤ u ∧ u < s) (hc : Conn es v u) (hu : u ∉ zs) (hue : u = e.a ∨ u = e.b) (h2 : e.a = u ∨ e.a ∈ zs) (h3 : e.b = u ∨ e.b ∈ zs) : RAt s es v (putI u zs) := by
  refine ⟨mem_putI.2 (.inr h.here), ?_, putI_sorted h.srt, ?_, ?_⟩
  · intro x hx
    rcases mem_putI.1 hx with rfl | hx
    · exact hr
    · exact h.rng x hx
  · intro x hx
    rcases mem_putI.1 hx with rfl | hx
    · exact hc
    · exact h.conn x hx
  · have h4 := h.cnt
    have h5 := putI_new h.srt hu
    have h6 := filter_len_lt (p := fun e => decide (e.a ∈ zs ∧ e.b ∈ zs)) (q := fun e => decide (e.a ∈ putI u zs ∧ e.b ∈ putI u zs)) (f := e) (l := es) (by
      intro f hf
      simp only [decide_eq_true_eq, mem_putI] at hf ⊢
      exact ⟨.inr hf.1, .inr hf.2⟩) (by
      simp only [decide_eq_false_iff_not]
      rintro ⟨h6, h7⟩
      rcases hue with rfl | rfl
      · exact hu h6
      · exact hu h7) (by
      simp only [decide_eq_true_eq, mem_putI]
      exact ⟨h2, h3⟩) he
    omega
/-- One edge of a round: what stands behind its two tests. -/
def reachE (e : Ed) (zs : List Int) : List Int := if e.b ∈ (if e.a ∈ zs then putI e.b zs else zs) then putI e.a (if e.a ∈ zs then putI e.b zs else zs) else (if e.a ∈ zs then putI e.b zs else zs)
theorem RAt.edge {r s : Int} {es : List Ed} {v : Int} {zs : List Int} (h : RAt s es v zs) {e : Ed} (he : e ∈ es) (hi : InG r s e) :
    RAt s es v (reachE e zs) ∧ ((reachE e zs = zs ∧ (e.a ∈ zs ↔ e.b ∈ zs)) ∨ (zs.length < (reachE e zs).length ∧ ¬ (e.a ∈ zs ↔ e.b ∈ zs))) := by
  unfold InG at hi
  unfold reachE
  by_cases ha : e.a ∈ zs
  · rw [if_pos ha, if_pos (mem_putI.2 (.inl rfl))]
    rw [putI_mem (putI_sorted h.srt) (mem_putI.2 (.inr ha))]
    by_cases hb : e.b ∈ zs
    · rw [putI_mem h.srt hb]
      exact ⟨h, .inl ⟨rfl, ⟨fun _ => hb, fun _ => ha⟩⟩⟩
    · refine ⟨h.push he (by omega) (.out he (h.conn _ ha)) hb (.inr rfl) (.inr ha) (.inl rfl), .inr ⟨?_, fun hh => hb (hh.1 ha)⟩⟩
      rw [putI_new h.srt hb]
      omega
  · rw [if_neg ha]
    by_cases hb : e.b ∈ zs
    · rw [if_pos hb]
      refine ⟨h.push he (by omega) (.inn he (h.conn _ hb)) ha (.inl rfl) (.inl rfl) (.inr hb), .inr ⟨?_, fun hh => ha (hh.2 hb)⟩⟩
      rw [putI_new h.srt ha]
      omega
    · rw [if_neg hb]
      exact ⟨h, .inl ⟨rfl, ⟨fun h => absurd h ha, fun h => absurd h hb⟩⟩⟩
/-- The state within round k, behind the first i edges. -/
structure RIn (s : Int) (es : List Ed) (v : Int) (k i : Nat) (zs : List Int) : Prop where
  at' : RAt s es v zs
  or' : Shut' es es.length zs ∨ (k + 1 < zs.length) ∨ (k + 1 ≤ zs.length ∧ Shut' es i zs)
structure ROut (s : Int) (es : List Ed) (v : Int) (k : Nat) (zs : List Int) : Prop where
  at' : RAt s es v zs
  or' : Shut' es es.length zs ∨ k + 1 ≤ zs.length
theorem ROut.start {s : Int} (es : List Ed) {v : Int} (h0 : 0 ≤ v) (h1 : v < s) : ROut s es v 0 [v] := ⟨RAt.start es h0 h1, .inr (by simp)⟩
theorem ROut.into {s : Int} {es : List Ed} {v : Int} {k : Nat} {zs : List Int} (h : ROut s es v k zs) : RIn s es v k 0 zs := ⟨h.at', h.or'.imp id fun h => .inr ⟨h, Shut'.zero es zs⟩⟩
theorem RIn.out {s : Int} {es : List Ed} {v : Int} {k : Nat} {zs : List Int} (h : RIn s es v k es.length zs) : ROut s es v (k + 1) zs := ⟨h.at', by
  rcases h.or' with h1 | h1 | ⟨h1, h2⟩
  · exact .inl h1
  · exact .inr (by omega)
  · exact .inl h2⟩
theorem RIn.step {r s : Int} {es : List Ed} {v : Int} {k i : Nat} {zs : List Int} (h : RIn s es v k i zs) {e : Ed} (he : es[i]? = some e) (hi : InG r s e) : RIn s es v k (i + 1) (reachE e zs) := by
  obtain ⟨h1, h2⟩ := h.at'.edge (List.mem_of_getElem? he) hi
  have hil := (List.getElem?_eq_some_iff.1 he).1
  refine ⟨h1, ?_⟩
  rcases h2 with ⟨h2, h3⟩ | ⟨h2, h3⟩
  · rw [h2]
    rcases h.or' with h4 | h4 | ⟨h4, h5⟩
    · exact .inl h4
    · exact .inr (.inl h4)
    · exact .inr (.inr ⟨h4, h5.succ he h3⟩)
  · right
    left
    rcases h.or' with h4 | h4 | ⟨h4, h5⟩
    · exact absurd (h4 i e hil he) h3
    · omega
    · omega
theorem ROut.done {s : Int} {es : List Ed} {v : Int} {zs : List Int} (h : ROut s es v (es.length + 1) zs) (u : Int) : u ∈ zs ↔ Conn es v u := by
  have hc : Shut' es es.length zs := by
    rcases h.or' with h1 | h1
    · exact h1
    · have h2 := h.at'.cnt
      have h3 := List.length_filter_le (fun e => decide (e.a ∈ zs ∧ e.b ∈ zs)) es
      omega
  refine conn_iff (P := fun u => u ∈ zs) h.at'.here (fun e he => ?_) h.at'.conn u
  obtain ⟨j, hj, rfl⟩ := List.mem_iff_getElem.1 he
  exact hc j _ hj (List.getElem?_eq_getElem hj)
theorem RAt.le {s : Int} {es : List Ed} {v : Int} {zs : List Int} (h : RAt s es v zs) : zs.length ≤ s.toNat := by
  refine nodup_le s.toNat zs (h.srt.imp fun h => by omega) fun u hu => ?_
  have := h.rng u hu
  omega
end Go.Proofs.YtimmnnncgnnkgaaGreat

/- l4Has, ReachedFrom, l8Leaf, the reference. -/
namespace Go.Proofs.YtimmnnncgnnkgaaGreat
set_option linter.unusedVariables false
set_option linter.unusedSimpArgs false
open Go.RowKit

set_option maxHeartbeats 1600000 in
theorem spec_l4Has (A : Option Addr) (l : List Int) (c : Nat) (x : Int) (w : World) (lo hi : Nat) (hr : RV w lo hi A (ints l)) (hl : l.length ≤ 1000000) (b : Bool) (hb : b = true ↔ x ∈ l) :
    Calls Tryz.prog 158 #[.slice A l.length c, .int .i64 x] w fun en w' => en = .returned (.bool b) ∧ w = w' := by
  have HB := Lib.hid hb
  clear hb
  go_enter Tryz.func158, Tryz.ntmps158
  go_wp2_with fail
  go_loop [5] (fun i => ∃ k : Nat, k ≤ l.length ∧ i = .int .i64 k ∧ x ∉ l.take k) (fun i => l.length - (intOf i).toNat)
  case atStart => exact ⟨0, Nat.zero_le _, rfl, by simp⟩
  case round =>
    obtain ⟨k, hk, rfl, hn⟩ := hrel
    have HN := Lib.hid hn
    clear hn
    by_cases hlt : k < l.length
    · obtain ⟨B, off, f, rfl, hbh, he, c0⟩ := hr.at hlt
      have hkn : (k : Int) < (l.length : Int) := by omega
      have HE := Lib.hid he
      clear he
      by_cases hx : f = x
      · have b1 : (f == x) = true := by simpa using hx
        have hbt : b = true := HB.out.2 (by rw [← hx]; exact List.mem_of_getElem? HE.out)
        subst hbt
        clear hx
        go_wp2_with fail
        go_ret
        exact ⟨rfl, rfl⟩
      · have b1 : (f == x) = false := by simpa only [beq_eq_false_iff_ne] using hx
        have HX := Lib.hid hx
        clear hx
        go_wp2_with fail
        go_round
        case rel =>
          refine ⟨k + 1, by omega, by go_num, ?_⟩
          rw [take_snocI HE.out, List.mem_append, List.mem_singleton]
          rintro (h | h)
          · exact HN.out h
          · exact HX.out h.symm
        case measure => simp [intOf]; omega
    · obtain rfl : k = l.length := by omega
      have hbt : b = false := bool_no HB.out (by have := HN.out; rwa [List.take_length] at this)
      subst hbt
      go_wp2_with fail
      go_ret
      exact ⟨rfl, rfl⟩

noncomputable def leafI (s : Int) (es : List Ed) : Int := match leaf s es with | some v => (v : Int) | none => -1
theorem leafI_some {s : Int} {es : List Ed} {v : Nat} (h : leaf s es = some v) : leafI s es = v := by rw [leafI, h]
theorem leafI_none {s : Int} {es : List Ed} (h : leaf s es = none) : leafI s es = -1 := by rw [leafI, h]
theorem reachE_t {e : Ed} {zs : List Int} (h : e.a ∈ zs) : reachE e zs = putI e.a (putI e.b zs) := by
  unfold reachE
  rw [if_pos h, if_pos (mem_putI.2 (.inl rfl))]
theorem reachE_ft {e : Ed} {zs : List Int} (h : e.a ∉ zs) (h2 : e.b ∈ zs) : reachE e zs = putI e.a zs := by
  unfold reachE
  rw [if_neg h, if_pos h2]
theorem reachE_ff {e : Ed} {zs : List Int} (h : e.a ∉ zs) (h2 : e.b ∉ zs) : reachE e zs = zs := by
  unfold reachE
  rw [if_neg h, if_neg h2]

set_option maxHeartbeats 4000000 in
set_option maxRecDepth 20000 in
theorem spec_ReachedFrom (r : Int) (n m : Nat) (A : Option Addr) (es : List Ed) (c : Nat) (w : World) (lo hi : Nat) (hr : RG w lo hi A es) (hg : IsGr r n es) (hv : m < n) :
    Calls Tryz.prog 156 #[graV r n A es.length c, .int .i64 m] w fun e w' => ∃ A1 c1 zs, e = .returned (.slice A1 zs.length c1) ∧ RV w' 0 w'.heap.size A1 (ints zs) ∧ zs.length ≤ 40 ∧ (∀ u, u ∈ zs ↔ Conn es m u) ∧ Mid 0 0 w w' := by
  have hn40 : n ≤ 40 := by have := hg.size; omega
  have hl := hg.len
  have hm0 : Mid 0 0 w (w.alloc (.cells #[.int .i64 r, .int .i64 n, .slice A es.length c] 29)) := Mid.alloc _ _
  have B0 := Box.new w #[.int .i64 r, .int .i64 n, .slice A es.length c] 29
  have HG := Lib.hid hg
  have hv3 : (m : Int) < (n : Int) := by omega
  have hv0 : (0 : Int) ≤ (m : Int) := by omega
  have HJ0 := Lib.hid (ROut.start (s := n) es hv0 hv3)
  clear hg
  go_enter Tryz.func156, Tryz.ntmps156
  go_wp2_with fail
  with_reducible refine (spec_IsGraph r n A es c _ _ _ (hr.mid hm0 (Or.inl (Nat.zero_le _))).rv (by omega) true (iff_of_true rfl HG.out)).mono ?_
  rintro en w1 ⟨rfl, hm1⟩
  replace B0 := B0.mid hm1 (Or.inr (Nat.zero_le _))
  replace hm0 := hm0.trans hm1
  have p0 := B0.cell 0 rfl
  have p1 := B0.cell 1 rfl
  have p2 := B0.cell 2 rfl
  have hib : inB (m : Int) 0 ((n : Int) - 1) = true := by unfold inB; simp; omega
  go_wp2_with fail
  with_reducible refine (l1In_at hib _).mono ?_
  rintro en w2 ⟨rfl, rfl⟩
  go_wp2_with fail
  have hal := Mid.alloc w1 (.cells #[.int .i64 m] 3)
  have hrv0 : RV (w1.alloc (.cells #[.int .i64 m] 3)) 0 (w1.alloc (.cells #[.int .i64 m] 3)).heap.size (some ⟨w1.heap.size, 0, none⟩) (ints [(m : Int)]) := ⟨Nat.le_refl _, fun _ => ⟨_, 0, rfl, Nat.zero_le _, by simp, fun j u hu => (World.cell?_alloc_at _ _ _ _ rfl).trans (by simpa [ints] using hu)⟩⟩
  replace B0 := B0.mid hal (Or.inr (Nat.zero_le _))
  replace hm0 := hm0.trans hal
  clear p0 p1 p2
  go_loopw [5, 6] (fun out i wr => ∃ (k : Nat) (A1 : Option Addr) (c1 : Nat) (zs : List Int), k ≤ es.length + 1 ∧ i = .int .i64 k ∧ out = .slice A1 zs.length c1 ∧ ROut n es m k zs ∧ RV wr 0 wr.heap.size A1 (ints zs) ∧
      Box wr w.heap.size [.int .i64 r, .int .i64 n, .slice A es.length c] ∧ Mid 0 0 w wr) (fun _ i _ => es.length + 1 - (intOf i).toNat)
  case atStart => exact ⟨0, _, 1, [(m : Int)], Nat.zero_le _, rfl, rfl, HJ0.out, hrv0, B0, hm0⟩
  case round =>
    clear hrv0 B0 hm0 hal hm1
    obtain ⟨wo, hwo⟩ : ∃ wo, wo = wr := ⟨_, rfl⟩
    subst hwo
    obtain ⟨k, A0, c0, zs0, hk, rfl, rfl, hj, hrv, bx, hm⟩ := hrel
    have p0 := bx.cell 0 rfl
    have p1 := bx.cell 1 rfl
    have p2 := bx.cell 2 rfl
    have hzl := hj.at'.le
    have HJ := Lib.hid hj
    clear hj
    by_cases hlt : k < es.length + 1
    · have hkn : (k : Int) < (es.length : Int) + 1 := by omega
      go_wp2_with fail
      go_loopw [5, 7] (fun out i wr => ∃ (j : Nat) (A1 : Option Addr) (c1 : Nat) (zs : List Int), j ≤ es.length ∧ i = .int .i64 j ∧ out = .slice A1 zs.length c1 ∧ RIn n es m k j zs ∧ RV wr 0 wr.heap.size A1 (ints zs) ∧
        Box wr w.heap.size [.int .i64 r, .int .i64 n, .slice A es.length c] ∧ Mid 0 0 w wr) (fun _ i _ => es.length - (intOf i).toNat)
      case atStart => exact ⟨0, _, _, zs0, Nat.zero_le _, rfl, rfl, HJ.out.into, hrv, bx, hm⟩
      case round =>
        clear hrv bx hm p0 p1 p2
        obtain ⟨j, A1, c1, zs, hj, rfl, rfl, hin, hrv, bx, hm⟩ := hrel
        have p0 := bx.cell 0 rfl
        have p1 := bx.cell 1 rfl
        have p2 := bx.cell 2 rfl
        have hzl := hin.at'.le
        have HI := Lib.hid hin
        clear hin
        by_cases hlt2 : j < es.length
        · obtain ⟨B, off, e, rfl, -, hbh, he, e0, e1, e2⟩ := (hr.mid hm (Or.inl (Nat.zero_le _))).ed hlt2
          have HE := Lib.hid he
          have HS := Lib.hid (HI.out.step he (HG.out.all e (List.mem_of_getElem? he)))
          have hkn2 : (j : Int) < (es.length : Int) := by omega
          have hal := Mid.alloc wr (.cells #[.int .i64 e.a, .int .i64 e.l, .int .i64 e.b] 78)
          have E1 := Box.new wr #[.int .i64 e.a, .int .i64 e.l, .int .i64 e.b] 78
          replace bx := bx.mid hal (Or.inr (Nat.zero_le _))
          replace hrv := hrv.mid hal (Or.inl (Nat.zero_le _))
          replace hm := hm.trans hal
          replace hrv := hrv.wide (Nat.le_refl _) hal.size (Nat.le_refl _)
          have g0 := E1.cell 0 rfl
          have g1 := E1.cell 1 rfl
          have g2 := E1.cell 2 rfl
          obtain ⟨b1, hb1⟩ := bool_of (e.a ∈ zs)
          have HB1 := Lib.hid hb1
          clear hb1 he
          have q0 := bx.cell 0 rfl
          have q1 := bx.cell 1 rfl
          have q2 := bx.cell 2 rfl
          go_wp2_with fail
          with_reducible refine (spec_l4Has A1 zs c1 e.a _ _ _ hrv (by omega) b1 HB1.out).mono ?_
          rintro en w2 ⟨rfl, rfl⟩
          cases b1 with
          | true =>
            go_wp2_with fail
            with_reducible refine (spec_l4Add A1 zs c1 e.b _ _ _ hrv (by omega)).mono ?_
            rintro en w3 ⟨A3, c3, rfl, hrv3, hm3⟩
            replace bx := bx.mid hm3 (Or.inr (Nat.zero_le _))
            replace E1 := E1.mid hm3 (Or.inr (Nat.zero_le _))
            replace hm := hm.trans hm3
            clear p0 p1 p2 q0 q1 q2 g0 g1 g2
            have p0 := bx.cell 0 rfl
            have p1 := bx.cell 1 rfl
            have p2 := bx.cell 2 rfl
            have g0 := E1.cell 0 rfl
            have g1 := E1.cell 1 rfl
            have g2 := E1.cell 2 rfl
            have hz3 : (putI e.b zs).length ≤ 41 := by have := putI_len e.b zs; omega
            go_wp2_with fail
            with_reducible refine (spec_l4Has A3 (putI e.b zs) c3 e.b _ _ _ hrv3 (by omega) true (iff_of_true rfl (mem_putI.2 (.inl rfl)))).mono ?_
            rintro en w2 ⟨rfl, rfl⟩
            go_wp2_with fail
            with_reducible refine (spec_l4Add A3 (putI e.b zs) c3 e.a _ _ _ hrv3 (by omega)).mono ?_
            rintro en w4 ⟨A4, c4, rfl, hrv4, hm4⟩
            replace bx := bx.mid hm4 (Or.inr (Nat.zero_le _))
            replace hm := hm.trans hm4
            go_wp2_with fail
            go_roundw
            case rel => exact ⟨j + 1, A4, c4, _, by omega, by go_num, rfl, by rw [← reachE_t (HB1.out.1 (by trivial))]; exact HS.out, hrv4, bx, hm⟩
            case measure => simp [intOf]; omega
          | false =>
            have hna : e.a ∉ zs := fun h => by have := HB1.out.2 h; cases this
            have HNA := Lib.hid hna
            obtain ⟨b2, hb2⟩ := bool_of (e.b ∈ zs)
            have HB2 := Lib.hid hb2
            clear hb2 hna
            go_wp2_with fail
            with_reducible refine (spec_l4Has A1 zs c1 e.b _ _ _ hrv (by omega) b2 HB2.out).mono ?_
            rintro en w2 ⟨rfl, rfl⟩
            cases b2 with
            | true =>
              go_wp2_with fail
              with_reducible refine (spec_l4Add A1 zs c1 e.a _ _ _ hrv (by omega)).mono ?_
              rintro en w4 ⟨A4, c4, rfl, hrv4, hm4⟩
              replace bx := bx.mid hm4 (Or.inr (Nat.zero_le _))
              replace hm := hm.trans hm4
              go_wp2_with fail
              go_roundw
              case rel => exact ⟨j + 1, A4, c4, _, by omega, by go_num, rfl, by rw [← reachE_ft HNA.out (HB2.out.1 (by trivial))]; exact HS.out, hrv4, bx, hm⟩
              case measure => simp [intOf]; omega
            | false =>
              have hnb : e.b ∉ zs := fun h => by have := HB2.out.2 h; cases this
              have HNB := Lib.hid hnb
              clear hnb
              go_wp2_with fail
              go_roundw
              case rel => exact ⟨j + 1, A1, c1, zs, by omega, by go_num, rfl, by have h := HS.out; rw [reachE_ff HNA.out HNB.out] at h; exact h, hrv, bx, hm⟩
              case measure => simp [intOf]; omega
        · obtain rfl : j = es.length := by omega
          go_wp2_with fail
          go_roundw
          case rel => exact ⟨k + 1, A1, c1, zs, by omega, by go_num, rfl, HI.out.out, hrv, bx, hm⟩
          case measure => simp [intOf]; omega
    · obtain rfl : k = es.length + 1 := by omega
      go_wp2_with fail
      go_ret
      exact ⟨_, _, zs0, rfl, hrv, by omega, fun u => HJ.out.done u, hm⟩

theorem spec_ReachedFrom0 (r : Int) (n : Nat) (A : Option Addr) (es : List Ed) (c : Nat) (w : World) (lo hi : Nat) (hr : RG w lo hi A es) (hg : IsGr r n es) (hv : 0 < n) :
    Calls Tryz.prog 156 #[graV r n A es.length c, .int .i64 0] w fun e w' => ∃ A1 c1 zs, e = .returned (.slice A1 zs.length c1) ∧ RV w' 0 w'.heap.size A1 (ints zs) ∧ zs.length ≤ 40 ∧ (∀ u, u ∈ zs ↔ Conn es 0 u) ∧ Mid 0 0 w w' :=
  spec_ReachedFrom r n 0 A es c w lo hi hr hg hv
set_option maxHeartbeats 4000000 in
set_option maxRecDepth 20000 in
theorem spec_l8Leaf (r : Int) (n : Nat) (A : Option Addr) (es : List Ed) (c : Nat) (w : World) (lo hi : Nat) (hr : RG w lo hi A es) (hg : IsGr r n es) :
    Calls Tryz.prog 131 #[graV r n A es.length c] w fun e w' => e = .returned (.int .i64 (leafI n es)) ∧ Mid 0 0 w w' := by
  have hn40 : n ≤ 40 := by have := hg.size; omega
  have hn1 : 1 ≤ n := by have := hg.size; omega
  have hl := hg.len
  have hm0 : Mid 0 0 w (w.alloc (.cells #[.int .i64 r, .int .i64 n, .slice A es.length c] 29)) := Mid.alloc _ _
  have B0 := Box.new w #[.int .i64 r, .int .i64 n, .slice A es.length c] 29
  have HG := Lib.hid hg
  clear hg
  go_enter Tryz.func131, Tryz.ntmps131
  go_wp2_with fail
  with_reducible refine (spec_ReachedFrom0 r n A es c _ _ _ (hr.mid hm0 (Or.inl (Nat.zero_le _))) HG.out (by omega)).mono ?_
  rintro en w1 ⟨A1, c1, zs, rfl, hrv, hz, hmem, hm1⟩
  have HM := Lib.hid hmem
  replace B0 := B0.mid hm1 (Or.inr (Nat.zero_le _))
  replace hm0 := hm0.trans hm1
  clear hmem
  have p0 := B0.cell 0 rfl
  have p1 := B0.cell 1 rfl
  have p2 := B0.cell 2 rfl
  go_wp2_with fail
  clear p0 p1 p2
  go_loopw [4] (fun i wr => ∃ (k : Nat), 1 ≤ k ∧ k ≤ n ∧ i = .int .i64 k ∧ Hid (∀ u : Nat, 1 ≤ u → u < k → ¬ Bad es u) ∧ RV wr 0 wr.heap.size A1 (ints zs) ∧
      Box wr w.heap.size [.int .i64 r, .int .i64 n, .slice A es.length c] ∧ Mid 0 0 w wr) (fun i _ => n - (intOf i).toNat)
  case atStart => exact ⟨1, Nat.le_refl _, hn1, rfl, Lib.hid (fun u h1 h2 => absurd h2 (by omega)), hrv, B0, hm0⟩
  case round =>
    clear hrv B0 hm0 hm1
    obtain ⟨k, hk1, hk, rfl, HU, hrv, bx, hm⟩ := hrel
    have p0 := bx.cell 0 rfl
    have p1 := bx.cell 1 rfl
    have p2 := bx.cell 2 rfl
    by_cases hlt : k < n
    · have hkn : (k : Int) < (n : Int) := by omega
      go_wp2_with fail
      with_reducible refine (spec_DegreeOf r n A es c k _ _ _ (hr.mid hm (Or.inl (Nat.zero_le _))) (by omega)).mono ?_
      rintro en w2 ⟨rfl, hm2⟩
      replace bx := bx.mid hm2 (Or.inr (Nat.zero_le _))
      replace hrv := hrv.mid hm2 (Or.inl (Nat.zero_le _))
      replace hm := hm.trans hm2
      replace hrv := hrv.wide (Nat.le_refl _) hm2.size (Nat.le_refl _)
      have hdl := deg_le es k
      by_cases hd : deg es k < 2
      · have b1 : decide ((deg es k : Int) < 2) = true := by simp; omega
        have hlf := leaf_some (s := n) hk1 hkn (.inl hd) HU.out
        have HL := Lib.hid hlf
        clear hlf hd
        go_wp2_with fail
        go_ret
        exact ⟨by rw [leafI_some HL.out]; rfl, hm⟩
      · have b1 : decide ((deg es k : Int) < 2) = false := by simp; omega
        obtain ⟨b2, hb2⟩ := bool_of ((k : Int) ∈ zs)
        have HB2 := Lib.hid hb2
        have HD := Lib.hid hd
        clear hb2 hd
        go_wp2_with fail
        with_reducible refine (spec_l4Has A1 zs c1 k _ _ _ hrv (by omega) b2 HB2.out).mono ?_
        rintro en w3 ⟨rfl, rfl⟩
        cases b2 with
        | true =>
          have hnb : ¬ Bad es k := by
            rintro (h | h)
            · exact HD.out h
            · exact h ((HM.out _).1 (HB2.out.1 (by trivial)))
          have HNB := Lib.hid hnb
          clear hnb p0 p1 p2
          have p0 := bx.cell 0 rfl
          have p1 := bx.cell 1 rfl
          have p2 := bx.cell 2 rfl
          go_wp2_with fail
          go_roundw
          case rel =>
            refine ⟨k + 1, by omega, by omega, by go_num, Lib.hid fun u h1 h2 => ?_, hrv, bx, hm⟩
            by_cases h : u = k
            · subst h; exact HNB.out
            · exact HU.out u h1 (by omega)
          case measure => simp [intOf]; omega
        | false =>
          have hb : Bad es k := .inr fun h => by have := HB2.out.2 ((HM.out _).2 h); cases this
          have HL := Lib.hid (leaf_some (s := n) hk1 hkn hb HU.out)
          clear hb
          go_wp2_with fail
          go_ret
          exact ⟨by rw [leafI_some HL.out]; rfl, hm⟩
    · obtain rfl : k = n := by omega
      have HL := Lib.hid (leaf_none (s := (k : Int)) (es := es) fun u h1 h2 => HU.out u h1 (by omega))
      go_wp2_with fail
      go_ret
      exact ⟨by rw [leafI_none HL.out]; rfl, hm⟩
end Go.Proofs.YtimmnnncgnnkgaaGreat
