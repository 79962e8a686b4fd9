/- Contracts and lemmas of this seat, many texts in one: see the words ahead of each. No condition beyond those typed in each lemma. -/
import Derived.Test.YtkcfbcbkokabdaaGreatPk2
import Derived.Test.YtkcfbcbkokabdaaGreatPk5

/- GlueAtBase, the reference. -/
namespace Go.Proofs.YtkcfbcbkokabdaaGreat
set_option linter.unusedVariables false
set_option linter.unusedSimpArgs false
open Go.RowKit

set_option maxHeartbeats 6400000 in
set_option maxRecDepth 100000 in
theorem spec_GlueAtBase (r s : Int) (A : Option Addr) (es : List Ed) (c : Nat) (r' s' : Int) (A' : Option Addr) (es' : List Ed) (c' : Nat) (w : World) (lo hi lo' hi' : Nat)
    (hr : RG w lo hi A es) (hr' : RG w lo' hi' A' es') (hl : es.length ≤ 1048576) (hl' : es'.length ≤ 1048576) (rr rs : Int) (res : List Ed) (b : Bool) (hres : GlueAtBaseIs r s es r' s' es' rr rs res b) :
    Calls Tryz.prog 44 #[graV r s A es.length c, graV r' s' A' es'.length c'] w fun e w' => ∃ A1 c1, e = .returned (.tuple #[graV rr rs A1 res.length c1, .bool b]) ∧ OG w' w.heap.size w'.heap.size A1 c1 res ∧ Mid 0 0 w w' := by
  have HR := Lib.hid hres
  clear hres
  obtain ⟨b1, hb1⟩ := bool_of (IsGr r s es)
  obtain ⟨b2, hb2⟩ := bool_of (IsGr r' s' es')
  have H1 := Lib.hid hb1
  have H2 := Lib.hid hb2
  clear hb1 hb2
  have hm0 : Mid 0 0 w (((w.alloc (.cells #[.int .i64 r, .int .i64 s, .slice A es.length c] 30)).alloc (.cells #[.int .i64 r', .int .i64 s', .slice A' es'.length c'] 30)).alloc (.cells #[.int .i64 0, .int .i64 0, .slice none 0 0] 30)) := ((Mid.alloc _ _).trans (Mid.alloc _ _)).trans (Mid.alloc _ _)
  have B0 := ((Box.new w #[.int .i64 r, .int .i64 s, .slice A es.length c] 30).mid (Mid.alloc _ (.cells #[.int .i64 r', .int .i64 s', .slice A' es'.length c'] 30)) (Or.inr (Nat.zero_le _))).mid (Mid.alloc _ (.cells #[.int .i64 0, .int .i64 0, .slice none 0 0] 30)) (Or.inr (Nat.zero_le _))
  have B1 := (Box.new (w.alloc (.cells #[.int .i64 r, .int .i64 s, .slice A es.length c] 30)) #[.int .i64 r', .int .i64 s', .slice A' es'.length c'] 30).mid (Mid.alloc _ (.cells #[.int .i64 0, .int .i64 0, .slice none 0 0] 30)) (Or.inr (Nat.zero_le _))
  have B2 := Box.new ((w.alloc (.cells #[.int .i64 r, .int .i64 s, .slice A es.length c] 30)).alloc (.cells #[.int .i64 r', .int .i64 s', .slice A' es'.length c'] 30)) #[.int .i64 0, .int .i64 0, .slice none 0 0] 30
  simp only [World.size_alloc] at B1 B2
  go_enter Tryz.func44, Tryz.ntmps44
  go_wp2_with fail
  generalize hw1 : (((w.alloc (.cells #[.int .i64 r, .int .i64 s, .slice A es.length c] 30)).alloc (.cells #[.int .i64 r', .int .i64 s', .slice A' es'.length c'] 30)).alloc (.cells #[.int .i64 0, .int .i64 0, .slice none 0 0] 30)) = w1 at hm0 B0 B1 B2 ⊢
  have hs1 : w1.heap.size = w.heap.size + 1 + 1 + 1 := by rw [← hw1]; simp
  have HS := Lib.hid hs1
  clear hw1 hs1
  with_reducible refine (spec_IsGraph r s A es c _ _ _ (hr.mid hm0 (Or.inl (Nat.zero_le _))).rv hl b1 H1.out).mono ?_
  rintro en w2 ⟨rfl, hm2⟩
  have C0 := B0.mid hm2 (Or.inr (Nat.zero_le _))
  have C1 := B1.mid hm2 (Or.inr (Nat.zero_le _))
  have C2 := B2.mid hm2 (Or.inr (Nat.zero_le _))
  have p0 := C0.cell 0 rfl
  have p1 := C0.cell 1 rfl
  have p2 := C0.cell 2 rfl
  have q0 := C1.cell 0 rfl
  have q1 := C1.cell 1 rfl
  have q2 := C1.cell 2 rfl
  have z0 := C2.cell 0 rfl
  have z1 := C2.cell 1 rfl
  have z2 := C2.cell 2 rfl
  have zf := C2.2.2
  have hm := hm0.trans hm2
  cases b1 with
  | false =>
    have hno : ¬ GlueOk r s es r' s' es' := fun h => by have := H1.out.2 h.g1; cases this
    obtain ⟨rfl, rfl, rfl, rfl⟩ := HR.out.no hno
    go_wp2_with fail
    refine bodyPost_ret (v := .tuple #[.agg #[.int .i64 0, .int .i64 0, .slice none 0 0], .bool false]) (by simp [results, Tryz.results44, go_sem, z0, z1, z2, zf]) rfl ⟨none, 0, rfl, OG.nil, ?_⟩
    repeat (first | exact hm | refine Mid.storeNew ?_ (by simp; try omega) _)
  | true =>
  have G1h := Lib.hid (H1.out.1 rfl)
  clear B0 B1 B2
  go_wp2_with fail
  with_reducible refine (spec_IsGraph r' s' A' es' c' _ _ _ (hr'.mid hm (Or.inl (Nat.zero_le _))).rv hl' b2 H2.out).mono ?_
  rintro en w3 ⟨rfl, hm3⟩
  have D0 := C0.mid hm3 (Or.inr (Nat.zero_le _))
  have D1 := C1.mid hm3 (Or.inr (Nat.zero_le _))
  have D2 := C2.mid hm3 (Or.inr (Nat.zero_le _))
  clear p0 p1 p2 q0 q1 q2 z0 z1 z2 zf C0 C1 C2
  have p0 := D0.cell 0 rfl
  have p1 := D0.cell 1 rfl
  have p2 := D0.cell 2 rfl
  have q0 := D1.cell 0 rfl
  have q1 := D1.cell 1 rfl
  have q2 := D1.cell 2 rfl
  have z0 := D2.cell 0 rfl
  have z1 := D2.cell 1 rfl
  have z2 := D2.cell 2 rfl
  have zf := D2.2.2
  have hmm := hm.trans hm3
  have hw33 : w.heap.size + 3 ≤ w3.heap.size := by have h1 := HS.out; have h2 := hm2.size; have h3 := hm3.size; omega
  clear hm0 hm2 hm hm3
  cases b2 with
  | false =>
    have hno : ¬ GlueOk r s es r' s' es' := fun h => by have := H2.out.2 h.g2; cases this
    obtain ⟨rfl, rfl, rfl, rfl⟩ := HR.out.no hno
    go_wp2_with fail
    refine bodyPost_ret (v := .tuple #[.agg #[.int .i64 0, .int .i64 0, .slice none 0 0], .bool false]) (by simp [results, Tryz.results44, go_sem, z0, z1, z2, zf]) rfl ⟨none, 0, rfl, OG.nil, ?_⟩
    repeat (first | exact hmm | refine Mid.storeNew ?_ (by simp; try omega) _)
  | true =>
  have G2h := Lib.hid (H2.out.1 rfl)
  clear H1 H2
  have hsz := G1h.out.size
  have hsz' := G2h.out.size
  by_cases hok : GlueOk r s es r' s' es'
  · obtain ⟨rfl, hrr, hrs, hre⟩ := HR.out.yes hok
    have h1a : (r != r') = false := by simpa using hok.rk
    have h2a : decide (40 < s + s' - 1) = false := by have := hok.sz; simp; omega
    have h3a : decide (120 < (es.length : Int) + (es'.length : Int)) = false := by have := hok.ln; simp; omega
    have HRR := Lib.hid hrr
    have HRS := Lib.hid hrs
    have HRE := Lib.hid hre
    have hln := hok.ln
    have hasc := Lib.hid hok.g1.asc
    clear hrr hrs hre hok HR
    go_wp2_with fail
    with_reducible refine (spec_l4Copy r s A es c _ _ _ (hr.mid hmm (Or.inl (Nat.zero_le _))) hl).mono ?_
    rintro en w4 ⟨A1, c1, rfl, ho4, hm4⟩
    have E0 := D0.mid hm4 (Or.inr (Nat.zero_le _))
    have E1 := D1.mid hm4 (Or.inr (Nat.zero_le _))
    have E2 := D2.mid hm4 (Or.inr (Nat.zero_le _))
    have hal := Mid.alloc w4 (.cells #[.int .i64 r, .int .i64 (s + s' - 1), .slice A1 es.length c1] 30)
    have Y0 := E0.mid hal (Or.inr (Nat.zero_le _))
    have Y1 := E1.mid hal (Or.inr (Nat.zero_le _))
    have Y2 := E2.mid hal (Or.inr (Nat.zero_le _))
    have Y3 := Box.new w4 #[.int .i64 r, .int .i64 (s + s' - 1), .slice A1 es.length c1] 30
    have hzs := hm4.size
    have hmy := (hmm.trans hm4).trans hal
    have ho5 := ho4.mid hal (Or.inl (Nat.zero_le _))
    clear p0 p1 p2 q0 q1 q2 z0 z1 z2 zf D0 D1 D2
    have p1 := E0.cell 1 rfl
    have q1 := E1.cell 1 rfl
    have q2 := E1.cell 2 rfl
    have hz0 := E0.1
    have hz1 := E1.1
    have hz2 := E2.1
    clear E0 E1 E2
    go_wp2_with fail
    clear p1 q1 q2
    generalize hw5 : w4.alloc (.cells #[.int .i64 r, .int .i64 (s + s' - 1), .slice A1 es.length c1] 30) = w5 at Y0 Y1 Y2 Y3 hmy ho5 ⊢
    have hs5 : w4.heap.size + 1 ≤ w5.heap.size := by rw [← hw5]; simp
    clear hw5 hal ho4
    generalize hG : w4.heap.size = G at Y3 hs5 hz2 hzs ho5 ⊢
    clear hG
    have hGw : w.heap.size + 2 < G := by omega
    have hw3 : w.heap.size ≤ w3.heap.size := hmm.size
    go_loopw [7, 8] (fun i _ wr => ∃ (k : Nat) (A2 : Option Addr) (c2 lo2 hi2 : Nat) (xs : List Ed), k ≤ es'.length ∧ i = .int .i64 k ∧ Hid (xs = putAll es (glueE s (es'.take k))) ∧
      OG wr lo2 hi2 A2 c2 xs ∧ (hi2 ≤ G ∨ G + 1 ≤ lo2) ∧ w3.heap.size ≤ lo2 ∧
      Box wr w.heap.size [.int .i64 r, .int .i64 s, .slice A es.length c] ∧ Box wr (w.heap.size + 1) [.int .i64 r', .int .i64 s', .slice A' es'.length c'] ∧ Box wr (w.heap.size + 1 + 1) [.int .i64 0, .int .i64 0, .slice none 0 0] ∧
      Box wr G [.int .i64 r, .int .i64 (s + s' - 1), .slice A2 xs.length c2] ∧ Mid 0 0 w wr) (fun i _ _ => es'.length - (intOf i).toNat)
    case atStart => exact ⟨0, A1, c1, _, _, es, Nat.zero_le _, rfl, Lib.hid rfl, ho5, .inl (Nat.le_refl _), Nat.le_refl _, Y0, Y1, Y2, Y3, hmy⟩
    case round =>
      obtain ⟨k, A2, c2, lo2, hi2, xs, hk, rfl, HX, hown, hdis, hlo2, Z0, Z1, Z2, Z3, hmr⟩ := hrel
      have hxl : xs.length ≤ 240 := by
        have h1 := putAll_len es (glueE s (es'.take k))
        rw [← HX.out] at h1
        simp [glueE] at h1
        omega
      have p1 := Z0.cell 1 rfl
      have q2 := Z1.cell 2 rfl
      have z2 := Z3.cell 2 rfl
      have zf := Z3.2.2
      by_cases hlt : k < es'.length
      · obtain ⟨B, off, e, rfl, -, hbh, he, e0, e1, e2⟩ := (hr'.mid hmr (Or.inl (Nat.zero_le _))).ed hlt
        have hin : InG _ s' e := G2h.out.all e (List.mem_of_getElem? he)
        obtain ⟨i1, i2, i3, i4, i5, i6⟩ := hin
        have HE := Lib.hid he
        have hk0 : (0 : Int) ≤ (k : Int) := by omega
        have hkn : (k : Int) < (es'.length : Int) := by omega
        have hGr : G < wr.heap.size := Z3.1
        have h0r : w.heap.size < wr.heap.size := Z0.1
        obtain ⟨x, hx⟩ : ∃ x, glueV s e.a = x := ⟨_, rfl⟩
        obtain ⟨y, hy⟩ : ∃ y, glueV s e.b = y := ⟨_, rfl⟩
        have hal := Mid.alloc wr (.cells #[.int .i64 x, .int .i64 e.l, .int .i64 y] 63)
        have hP := fun W lo hi h => spec_l4Put A2 xs c2 ⟨x, e.l, y⟩ W lo hi h (by omega)
        have hF : glueF s e = ⟨x, e.l, y⟩ := by simp [glueF, hx, hy]
        have HF := Lib.hid hF
        clear he hF
        have hx' : (decide (0 < e.a) = true ∧ x = e.a + s - 1) ∨ (decide (0 < e.a) = false ∧ x = e.a) := by
          unfold glueV at hx
          split at hx
          · right; simp; omega
          · left; simp; omega
        have hy' : (decide (0 < e.b) = true ∧ y = e.b + s - 1) ∨ (decide (0 < e.b) = false ∧ y = e.b) := by
          unfold glueV at hy
          split at hy
          · right; simp; omega
          · left; simp; omega
        clear hx hy
        rcases hx' with ⟨hda, rfl⟩ | ⟨hda, rfl⟩ <;> rcases hy' with ⟨hdb, rfl⟩ | ⟨hdb, rfl⟩
        all_goals
          go_wp2_with fail
          with_reducible refine (hP _ _ _ (hown.mid hal (Or.inl (Nat.zero_le _))).rg).mono ?_
          rintro en w6 ⟨A3, c3, rfl, ho6, hm6⟩
          have R0 := (Z0.mid hal (Or.inr (Nat.zero_le _))).mid hm6 (Or.inr (Nat.zero_le _))
          have R1 := (Z1.mid hal (Or.inr (Nat.zero_le _))).mid hm6 (Or.inr (Nat.zero_le _))
          have R2 := (Z2.mid hal (Or.inr (Nat.zero_le _))).mid hm6 (Or.inr (Nat.zero_le _))
          have R3 := (Z3.mid hal (Or.inr (Nat.zero_le _))).mid hm6 (Or.inr (Nat.zero_le _))
          have hm7 := (hmr.trans hal).trans hm6
          have r2 := R3.cell 2 rfl
          have rf := R3.2.2
          have hrs := hmr.size
          have hg1 : w6.heap.size ≤ G ∨ G + 1 ≤ wr.heap.size + 1 := Or.inr (by omega)
          have hg2 : G + 1 ≤ wr.heap.size + 1 := by omega
          have hg3 : w3.heap.size ≤ wr.heap.size + 1 := by omega
          rw [World.size_alloc] at ho6
          clear p1 q2 z2 zf e0 e1 e2
          go_wp2_with fail
          go_roundw
          case rel =>
            have hst := fun u => Mid.setCell w6 (lo := G) (hi := G + 1) (p := ⟨G, 2, none⟩) u (Nat.le_refl _) (Nat.lt_succ_self _)
            refine ⟨k + 1, A3, c3, wr.heap.size + 1, w6.heap.size, _, by omega, by go_num, Lib.hid ?_, ho6.mid (hst _) (Or.inl hg2), .inr hg2, hg3, R0.mid (hst _) (Or.inl (by omega)), R1.mid (hst _) (Or.inl (by omega)), R2.mid (hst _) (Or.inl (by omega)), R3.set 2 _ (by simp) rfl, hm7.storeNew (by show w.heap.size ≤ G; omega) _⟩
            rw [take_snoc HE.out, show glueE s (es'.take k ++ [e]) = glueE s (es'.take k) ++ [glueF s e] by simp [glueE], putAll_snoc, ← HX.out, HF.out]
          case measure => simp [intOf]; omega
      · obtain rfl : k = es'.length := by omega
        have hG6 : G < wr.heap.size := Z3.1
        clear p1 q2 z2 zf
        have a0 := Z2.cell 0 rfl
        have a1 := Z2.cell 1 rfl
        have a2 := Z2.cell 2 rfl
        have b0 := Z3.cell 0 rfl
        have b1 := Z3.cell 1 rfl
        have b2 := Z3.cell 2 rfl
        have af := Z2.2.2
        have bf := Z3.2.2
        have q2 := Z1.cell 2 rfl
        go_wp2_with fail
        have hcl : (w.heap.size + 1 + 1 == G) = false := by simp; omega
        refine bodyPost_ret (v := .tuple #[.agg #[.int .i64 r, .int .i64 (s + s' - 1), .slice A2 xs.length c2], .bool true]) (by simp [results, Tryz.results44, go_sem, a0, a1, a2, b0, b1, b2, af, bf]) rfl ⟨A2, c2, ?_, ?_, ?_⟩
        · have hxx := HX.out
          rw [List.take_length, putAll_canon hasc.out] at hxx
          rw [HRR.out, HRS.out, HRE.out, hxx]
        · have hxx := HX.out
          rw [List.take_length, putAll_canon hasc.out] at hxx
          rw [HRE.out, ← hxx]
          refine OG.wide (OG.mid hown (a := w.heap.size) (b := w.heap.size + 3) ?_ (Or.inl (by omega))) (by omega) (by have := hown.size; simpa using this) (Nat.le_refl _)
          repeat (first | exact Mid.refl _ _ _ | refine Mid.stored ?_ _ (by simp; try omega) (by simp; try omega))
        · repeat (first | exact hmr | refine Mid.storeNew ?_ (by simp; try omega) _)
  · obtain ⟨rfl, rfl, rfl, rfl⟩ := HR.out.no hok
    have hc : r ≠ r' ∨ (r = r' ∧ 40 < s + s' - 1) ∨ (r = r' ∧ ¬ 40 < s + s' - 1 ∧ 120 < es.length + es'.length) := by
      by_cases h1 : r = r'
      · by_cases h2 : 40 < s + s' - 1
        · exact .inr (.inl ⟨h1, h2⟩)
        · refine .inr (.inr ⟨h1, h2, ?_⟩)
          refine Classical.byContradiction fun h3 => hok ⟨G1h.out, G2h.out, h1, by omega, by omega⟩
      · exact .inl h1
    clear hok
    rcases hc with h1 | ⟨h1, h2⟩ | ⟨h1, h2, h3⟩
    · have h1a : (r != r') = true := by simpa using h1
      go_wp2_with fail
      refine bodyPost_ret (v := .tuple #[.agg #[.int .i64 0, .int .i64 0, .slice none 0 0], .bool false]) (by simp [results, Tryz.results44, go_sem, z0, z1, z2, zf]) rfl ⟨none, 0, rfl, OG.nil, ?_⟩
      repeat (first | exact hmm | refine Mid.storeNew ?_ (by simp; try omega) _)
    · have h1a : (r != r') = false := by simpa using h1
      have h2a : decide (40 < s + s' - 1) = true := by simpa using h2
      clear h1
      go_wp2_with fail
      refine bodyPost_ret (v := .tuple #[.agg #[.int .i64 0, .int .i64 0, .slice none 0 0], .bool false]) (by simp [results, Tryz.results44, go_sem, z0, z1, z2, zf]) rfl ⟨none, 0, rfl, OG.nil, ?_⟩
      repeat (first | exact hmm | refine Mid.storeNew ?_ (by simp; try omega) _)
    · have h1a : (r != r') = false := by simpa using h1
      have h2a : decide (40 < s + s' - 1) = false := by simpa using h2
      have h3a : decide (120 < (es.length : Int) + (es'.length : Int)) = true := by simp; omega
      clear h1
      go_wp2_with fail
      refine bodyPost_ret (v := .tuple #[.agg #[.int .i64 0, .int .i64 0, .slice none 0 0], .bool false]) (by simp [results, Tryz.results44, go_sem, z0, z1, z2, zf]) rfl ⟨none, 0, rfl, OG.nil, ?_⟩
      repeat (first | exact hmm | refine Mid.storeNew ?_ (by simp; try omega) _)
end Go.Proofs.YtkcfbcbkokabdaaGreat

/- JoinOf, both sides. -/
namespace Go.Proofs.YtkcfbcbkokabdaaGreat
set_option linter.unusedVariables false
set_option linter.unusedSimpArgs false
open Go.RowKit

theorem glue_gr {r s : Int} {es : List Ed} {r' s' : Int} {es' : List Ed} (h : GlueOk r s es r' s' es') : IsGr r (s + s' - 1) (canon (es ++ glueE s es')) := by
  have hs := h.g1.size
  have hs' := h.g2.size
  refine ⟨h.g1.rank, ⟨by omega, h.sz⟩, ?_, ?_, asc_canon _⟩
  · have h1 := canon_len (es ++ glueE s es')
    have h2 := h.ln
    unfold glueE at h1 ⊢
    rw [List.length_append, List.length_map] at h1
    omega
  · intro e he
    have hk := h.rk
    rcases List.mem_append.1 (mem_canon.1 he) with h1 | h1
    · have := h.g1.all e h1
      unfold InG at this ⊢
      omega
    · obtain ⟨f, hf, rfl⟩ := List.mem_map.1 h1
      have := h.g2.all f hf
      unfold InG at this ⊢
      simp only [glueF, glueV]
      refine ⟨?_, ?_, ?_, ?_, ?_, ?_⟩ <;> (try split) <;> omega
def JoinIs (r s : Int) (es : List Ed) (r' s' : Int) (es' : List Ed) (rr rs : Int) (res : List Ed) (b : Bool) : Prop :=
  (b = true ∧ (GlueOk r s es r' s' es' ∧ IsCor r s es ∧ IsCor r' s' es') ∧ rr = r ∧ rs = (coreA r (s + s' - 1, canon (es ++ glueE s es'))).1 ∧ res = (coreA r (s + s' - 1, canon (es ++ glueE s es'))).2) ∨
  (b = false ∧ ¬ (GlueOk r s es r' s' es' ∧ IsCor r s es ∧ IsCor r' s' es') ∧ rr = 0 ∧ rs = 0 ∧ res = [])
theorem JoinIs.no {r s : Int} {es : List Ed} {r' s' : Int} {es' : List Ed} {rr rs : Int} {res : List Ed} {b : Bool} (h : JoinIs r s es r' s' es' rr rs res b) (hn : ¬ (GlueOk r s es r' s' es' ∧ IsCor r s es ∧ IsCor r' s' es')) : b = false ∧ rr = 0 ∧ rs = 0 ∧ res = [] := by
  rcases h with ⟨-, h, -⟩ | ⟨h1, -, h2⟩
  · exact absurd h hn
  · exact ⟨h1, h2⟩
theorem JoinIs.yes {r s : Int} {es : List Ed} {r' s' : Int} {es' : List Ed} {rr rs : Int} {res : List Ed} {b : Bool} (h : JoinIs r s es r' s' es' rr rs res b) (hn : GlueOk r s es r' s' es' ∧ IsCor r s es ∧ IsCor r' s' es') : b = true ∧ r = rr ∧ rs = (coreA r (s + s' - 1, canon (es ++ glueE s es'))).1 ∧ res = (coreA r (s + s' - 1, canon (es ++ glueE s es'))).2 := by
  rcases h with ⟨h1, -, h2, h3⟩ | ⟨-, h, -⟩
  · exact ⟨h1, h2.symm, h3⟩
  · exact absurd hn h

set_option maxHeartbeats 3200000 in
set_option maxRecDepth 20000 in
theorem spec_JoinOf (r s : Int) (A : Option Addr) (es : List Ed) (c : Nat) (r' s' : Int) (A' : Option Addr) (es' : List Ed) (c' : Nat) (w : World) (lo hi lo' hi' : Nat) (hr : RG w lo hi A es) (hr' : RG w lo' hi' A' es') (hl : es.length ≤ 1048576) (hl' : es'.length ≤ 1048576) (rr rs : Int) (res : List Ed) (b : Bool) (hres : JoinIs r s es r' s' es' rr rs res b) :
    Calls Tryz.prog 25 #[graV r s A es.length c, graV r' s' A' es'.length c'] w fun e w' => ∃ A1 c1, e = .returned (.tuple #[graV rr rs A1 res.length c1, .bool b]) ∧ OG w' w.heap.size w'.heap.size A1 c1 res ∧ Mid 0 0 w w' := by
  have hm0 : Mid 0 0 w (((w.alloc (.cells #[.int .i64 r, .int .i64 s, .slice A es.length c] 30)).alloc (.cells #[.int .i64 r', .int .i64 s', .slice A' es'.length c'] 30)).alloc (.cells #[.int .i64 0, .int .i64 0, .slice none 0 0] 30)) := ((Mid.alloc _ _).trans (Mid.alloc _ _)).trans (Mid.alloc _ _)
  have b0 := ((Box.new w #[.int .i64 r, .int .i64 s, .slice A es.length c] 30).mid (Mid.alloc _ (.cells #[.int .i64 r', .int .i64 s', .slice A' es'.length c'] 30)) (Or.inr (Nat.zero_le _))).mid (Mid.alloc _ (.cells #[.int .i64 0, .int .i64 0, .slice none 0 0] 30)) (Or.inr (Nat.zero_le _))
  have b1 := (Box.new (w.alloc (.cells #[.int .i64 r, .int .i64 s, .slice A es.length c] 30)) #[.int .i64 r', .int .i64 s', .slice A' es'.length c'] 30).mid (Mid.alloc _ (.cells #[.int .i64 0, .int .i64 0, .slice none 0 0] 30)) (Or.inr (Nat.zero_le _))
  have b2 := Box.new ((w.alloc (.cells #[.int .i64 r, .int .i64 s, .slice A es.length c] 30)).alloc (.cells #[.int .i64 r', .int .i64 s', .slice A' es'.length c'] 30)) #[.int .i64 0, .int .i64 0, .slice none 0 0] 30
  simp only [World.size_alloc, Nat.add_assoc, Nat.reduceAdd] at b1 b2
  have HR := Lib.hid hres
  clear hres
  go_enter Tryz.func25, Tryz.ntmps25
  go_wp2_with fail
  generalize (((w.alloc (.cells #[.int .i64 r, .int .i64 s, .slice A es.length c] 30)).alloc (.cells #[.int .i64 r', .int .i64 s', .slice A' es'.length c'] 30)).alloc (.cells #[.int .i64 0, .int .i64 0, .slice none 0 0] 30)) = w1 at hm0 b0 b1 b2 ⊢
  have hs1 : w.heap.size + 2 < w1.heap.size := b2.1
  by_cases hf : GlueOk r s es r' s' es'
  · have HF := Lib.hid hf
    clear hf
    obtain ⟨ms, hms⟩ : ∃ ms, canon (es ++ glueE s es') = ms := ⟨_, rfl⟩
    have hgm := glue_gr HF.out
    rw [hms] at hgm
    have HGM := Lib.hid hgm
    have HMS := Lib.hid hms
    clear hgm
    have hCI : GlueAtBaseIs r s es r' s' es' r (s + s' - 1) ms true := Or.inl ⟨rfl, HF.out, rfl, rfl, hms.symm⟩
    obtain ⟨sn, hsn⟩ : ∃ sn : Nat, s + s' - 1 = sn := ⟨(s + s' - 1).toNat, by have := HGM.out.size; omega⟩
    rw [hsn] at hCI HGM
    have HSN := Lib.hid hsn
    clear hsn
    with_reducible refine (spec_GlueAtBase r s A es c r' s' A' es' c' w1 _ _ _ _ (hr.mid hm0 (Or.inl (Nat.zero_le _))) (hr'.mid hm0 (Or.inl (Nat.zero_le _))) hl hl' r sn ms true hCI).mono ?_
    rintro en w2 ⟨A2, c2, rfl, ho2, hm2⟩
    clear hms hCI
    have hs2 := hm2.size
    have ha2 := Mid.alloc w2 (.cells #[.int .i64 r, .int .i64 sn, .slice A2 ms.length c2] 30)
    have Y2 := Box.new w2 #[.int .i64 r, .int .i64 sn, .slice A2 ms.length c2] 30
    replace b0 := b0.mid hm2 (Or.inr (Nat.zero_le _))
    replace b1 := b1.mid hm2 (Or.inr (Nat.zero_le _))
    replace b2 := b2.mid hm2 (Or.inr (Nat.zero_le _))
    replace hm0 := hm0.trans hm2
    replace b0 := b0.mid ha2 (Or.inr (Nat.zero_le _))
    replace b1 := b1.mid ha2 (Or.inr (Nat.zero_le _))
    replace b2 := b2.mid ha2 (Or.inr (Nat.zero_le _))
    replace ho2 := ho2.mid ha2 (Or.inl (Nat.zero_le _))
    replace hm0 := hm0.trans ha2
    have p0 := b0.cell 0 rfl
    have p1 := b0.cell 1 rfl
    have p2 := b0.cell 2 rfl
    go_wp2_with fail
    generalize w2.alloc (.cells #[.int .i64 r, .int .i64 sn, .slice A2 ms.length c2] 30) = w3 at hm0 b0 b1 b2 ho2 Y2 ha2 p0 p1 p2 ⊢
    have hs3 := ha2.size
    by_cases hc : IsCor r s es
    · have HC := Lib.hid hc
      clear hc
      with_reducible refine (spec_IsSubgroup r s A es c _ _ _ (hr.mid hm0 (Or.inl (Nat.zero_le _))) hl true (iff_of_true rfl HC.out)).mono ?_
      rintro en w4 ⟨rfl, hm4⟩
      have hs4 := hm4.size
      replace b0 := b0.mid hm4 (Or.inr (Nat.zero_le _))
      replace b1 := b1.mid hm4 (Or.inr (Nat.zero_le _))
      replace b2 := b2.mid hm4 (Or.inr (Nat.zero_le _))
      replace Y2 := Y2.mid hm4 (Or.inr (Nat.zero_le _))
      replace ho2 := ho2.mid hm4 (Or.inl (Nat.zero_le _))
      replace hm0 := hm0.trans hm4
      clear p0 p1 p2
      have p0 := b1.cell 0 rfl
      have p1 := b1.cell 1 rfl
      have p2 := b1.cell 2 rfl
      by_cases hd : IsCor r' s' es'
      · have HD := Lib.hid hd
        obtain ⟨hb, hrr, hrs, hre⟩ := HR.out.yes ⟨HF.out, HC.out, hd⟩
        clear hd HR
        go_wp2_with fail
        with_reducible refine (spec_IsSubgroup r' s' A' es' c' _ _ _ (hr'.mid hm0 (Or.inl (Nat.zero_le _))) hl' true (iff_of_true rfl HD.out)).mono ?_
        rintro en w5 ⟨rfl, hm5⟩
        have hs5 := hm5.size
        replace b2 := b2.mid hm5 (Or.inr (Nat.zero_le _))
        replace Y2 := Y2.mid hm5 (Or.inr (Nat.zero_le _))
        replace ho2 := ho2.mid hm5 (Or.inl (Nat.zero_le _))
        replace hm0 := hm0.trans hm5
        clear p0 p1 p2
        have y0 := Y2.cell 0 rfl
        have y1 := Y2.cell 1 rfl
        have y2 := Y2.cell 2 rfl
        obtain ⟨rn, rfl⟩ : ∃ rn : Nat, r = rn := ⟨r.toNat, by have := HF.out.g1.rank; omega⟩
        rw [HMS.out, HSN.out] at hrs hre
        obtain ⟨q, qs, hQ, -⟩ := nat_gr (coreA_gr (g := ((sn : Int), ms)) HGM.out)
        have hP := spec_CoreGraph rn sn A2 ms c2 w5 _ _ (OG.rg ho2) HGM.out
        rw [hQ] at hP hrs hre
        dsimp only at hP hrs hre
        have HP := Lib.hid hP
        have HALL := Lib.hid (And.intro hb (And.intro hrr (And.intro hrs hre)))
        clear hP hQ hb hrr hrs hre
        go_wp2_with fail
        with_reducible refine HP.out.mono ?_
        rintro en w6 ⟨A5, c5, rfl, ho5, hm6⟩
        clear HP
        replace b2 := b2.mid hm6 (Or.inr (Nat.zero_le _))
        replace hm0 := hm0.trans hm6
        have z0 := b2.cell 0 rfl
        have z1 := b2.cell 1 rfl
        have z2 := b2.cell 2 rfl
        have zf := b2.2.2
        go_wp2_with fail
        refine bodyPost_ret (v := .tuple #[.agg #[.int .i64 rn, .int .i64 q, .slice A5 qs.length c5], .bool true]) (by simp [results, Tryz.results25, go_sem, z0, z1, z2, zf]) rfl ⟨A5, c5, by rw [HALL.out.1, ← HALL.out.2.1, HALL.out.2.2.1, HALL.out.2.2.2], ?_, ?_⟩
        · rw [HALL.out.2.2.2]
          refine OG.wide (OG.mid ho5 (a := w.heap.size + 1) (b := w.heap.size + 3) ?_ (Or.inl (by omega))) (by omega) (by simp) (Nat.le_refl _)
          repeat (first | exact Mid.refl _ _ _ | refine Mid.stored ?_ _ (by simp; try omega) (by simp; try omega))
        · repeat (first | exact hm0 | refine Mid.storeNew ?_ (by simp; try omega) _)
      · obtain ⟨rfl, rfl, rfl, rfl⟩ := HR.out.no fun h => hd h.2.2
        have HD := Lib.hid hd
        clear hd HR
        go_wp2_with fail
        with_reducible refine (spec_IsSubgroup r' s' A' es' c' _ _ _ (hr'.mid hm0 (Or.inl (Nat.zero_le _))) hl' false (iff_of_false Bool.false_ne_true HD.out)).mono ?_
        rintro en w5 ⟨rfl, hm5⟩
        replace b2 := b2.mid hm5 (Or.inr (Nat.zero_le _))
        replace hm0 := hm0.trans hm5
        have z0 := b2.cell 0 rfl
        have z1 := b2.cell 1 rfl
        have z2 := b2.cell 2 rfl
        have zf := b2.2.2
        clear p0 p1 p2
        go_wp2_with fail
        refine bodyPost_ret (v := .tuple #[.agg #[.int .i64 0, .int .i64 0, .slice none 0 0], .bool false]) (by simp [results, Tryz.results25, go_sem, z0, z1, z2, zf]) rfl ⟨none, 0, rfl, ?_, ?_⟩
        · exact ⟨Nat.le_refl _, ⟨rfl, .inl ⟨rfl, rfl⟩⟩, fun g hg => by simp [Value.ownBlock] at hg⟩
        · repeat (first | exact hm0 | refine Mid.trans ?_ (Mid.alloc _ _) | refine Mid.storeNew ?_ (by simp; try omega) _)
    · obtain ⟨rfl, rfl, rfl, rfl⟩ := HR.out.no fun h => hc h.2.1
      have HC := Lib.hid hc
      clear hc HR
      with_reducible refine (spec_IsSubgroup r s A es c _ _ _ (hr.mid hm0 (Or.inl (Nat.zero_le _))) hl false (iff_of_false Bool.false_ne_true HC.out)).mono ?_
      rintro en w4 ⟨rfl, hm4⟩
      replace b2 := b2.mid hm4 (Or.inr (Nat.zero_le _))
      replace hm0 := hm0.trans hm4
      have z0 := b2.cell 0 rfl
      have z1 := b2.cell 1 rfl
      have z2 := b2.cell 2 rfl
      have zf := b2.2.2
      clear p0 p1 p2
      go_wp2_with fail
      refine bodyPost_ret (v := .tuple #[.agg #[.int .i64 0, .int .i64 0, .slice none 0 0], .bool false]) (by simp [results, Tryz.results25, go_sem, z0, z1, z2, zf]) rfl ⟨none, 0, rfl, ?_, ?_⟩
      · exact ⟨Nat.le_refl _, ⟨rfl, .inl ⟨rfl, rfl⟩⟩, fun g hg => by simp [Value.ownBlock] at hg⟩
      · repeat (first | exact hm0 | refine Mid.trans ?_ (Mid.alloc _ _) | refine Mid.storeNew ?_ (by simp; try omega) _)
  · obtain ⟨rfl, rfl, rfl, rfl⟩ := HR.out.no fun h => hf h.1
    have hCI : GlueAtBaseIs r s es r' s' es' 0 0 [] false := Or.inr ⟨rfl, hf, rfl, rfl, rfl⟩
    with_reducible refine (spec_GlueAtBase r s A es c r' s' A' es' c' w1 _ _ _ _ (hr.mid hm0 (Or.inl (Nat.zero_le _))) (hr'.mid hm0 (Or.inl (Nat.zero_le _))) hl hl' 0 0 [] false hCI).mono ?_
    rintro en w2 ⟨A2, c2, rfl, ho2, hm2⟩
    have hs2 := hm2.size
    clear hf HR hCI
    replace b2 := b2.mid hm2 (Or.inr (Nat.zero_le _))
    replace hm0 := hm0.trans hm2
    have hb22 : w.heap.size + 2 < w2.heap.size := b2.1
    have hb23 : w.heap.size + 1 < w2.heap.size := by omega
    have z0 := b2.cell 0 rfl
    have z1 := b2.cell 1 rfl
    have z2 := b2.cell 2 rfl
    have zf := b2.2.2
    go_wp2_with fail
    refine bodyPost_ret (v := .tuple #[.agg #[.int .i64 0, .int .i64 0, .slice none 0 0], .bool false]) (by simp [results, Tryz.results25, go_sem, z0, z1, z2, zf, hb22, hb23, World.cell?_alloc_lt]) rfl ⟨none, 0, rfl, ?_, ?_⟩
    · exact ⟨Nat.le_refl _, ⟨rfl, .inl ⟨rfl, rfl⟩⟩, fun g hg => by simp [Value.ownBlock] at hg⟩
    · repeat (first | exact hm0 | refine Mid.trans ?_ (Mid.alloc _ _) | refine Mid.storeNew ?_ (by simp; try omega) _)

set_option maxHeartbeats 3200000 in
set_option maxRecDepth 20000 in
theorem impl_JoinOf (r s : Int) (A : Option Addr) (es : List Ed) (c : Nat) (r' s' : Int) (A' : Option Addr) (es' : List Ed) (c' : Nat) (w : World) (lo hi lo' hi' : Nat) (hr : RG w lo hi A es) (hr' : RG w lo' hi' A' es') (hl : es.length ≤ 1048576) (hl' : es'.length ≤ 1048576) (hcl : es.length ≤ c) (hcl' : es'.length ≤ c') (rr rs : Int) (res : List Ed) (b : Bool) (hres : JoinIs r s es r' s' es' rr rs res b) :
    Calls Tryz.prog 26 #[graV r s A es.length c, graV r' s' A' es'.length c'] w fun e w' => ∃ A1 c1, e = .returned (.tuple #[graV rr rs A1 res.length c1, .bool b]) ∧ OG w' w.heap.size w'.heap.size A1 c1 res ∧ Mid 0 0 w w' := by
  have hm0 : Mid 0 0 w (((w.alloc (.cells #[.int .i64 r, .int .i64 s, .slice A es.length c] 30)).alloc (.cells #[.int .i64 r', .int .i64 s', .slice A' es'.length c'] 30)).alloc (.cells #[.int .i64 0, .int .i64 0, .slice none 0 0] 30)) := ((Mid.alloc _ _).trans (Mid.alloc _ _)).trans (Mid.alloc _ _)
  have b0 := ((Box.new w #[.int .i64 r, .int .i64 s, .slice A es.length c] 30).mid (Mid.alloc _ (.cells #[.int .i64 r', .int .i64 s', .slice A' es'.length c'] 30)) (Or.inr (Nat.zero_le _))).mid (Mid.alloc _ (.cells #[.int .i64 0, .int .i64 0, .slice none 0 0] 30)) (Or.inr (Nat.zero_le _))
  have b1 := (Box.new (w.alloc (.cells #[.int .i64 r, .int .i64 s, .slice A es.length c] 30)) #[.int .i64 r', .int .i64 s', .slice A' es'.length c'] 30).mid (Mid.alloc _ (.cells #[.int .i64 0, .int .i64 0, .slice none 0 0] 30)) (Or.inr (Nat.zero_le _))
  have b2 := Box.new ((w.alloc (.cells #[.int .i64 r, .int .i64 s, .slice A es.length c] 30)).alloc (.cells #[.int .i64 r', .int .i64 s', .slice A' es'.length c'] 30)) #[.int .i64 0, .int .i64 0, .slice none 0 0] 30
  simp only [World.size_alloc, Nat.add_assoc, Nat.reduceAdd] at b1 b2
  have HR := Lib.hid hres
  clear hres
  go_enter Tryz.func26, Tryz.ntmps26
  go_wp2_with fail
  generalize (((w.alloc (.cells #[.int .i64 r, .int .i64 s, .slice A es.length c] 30)).alloc (.cells #[.int .i64 r', .int .i64 s', .slice A' es'.length c'] 30)).alloc (.cells #[.int .i64 0, .int .i64 0, .slice none 0 0] 30)) = w1 at hm0 b0 b1 b2 ⊢
  have hs1 : w.heap.size + 2 < w1.heap.size := b2.1
  by_cases hf : GlueOk r s es r' s' es'
  · have HF := Lib.hid hf
    clear hf
    obtain ⟨ms, hms⟩ : ∃ ms, canon (es ++ glueE s es') = ms := ⟨_, rfl⟩
    have hgm := glue_gr HF.out
    rw [hms] at hgm
    have HGM := Lib.hid hgm
    have HMS := Lib.hid hms
    clear hgm
    have hCI : GlueAtBaseIs r s es r' s' es' r (s + s' - 1) ms true := Or.inl ⟨rfl, HF.out, rfl, rfl, hms.symm⟩
    obtain ⟨sn, hsn⟩ : ∃ sn : Nat, s + s' - 1 = sn := ⟨(s + s' - 1).toNat, by have := HGM.out.size; omega⟩
    rw [hsn] at hCI HGM
    have HSN := Lib.hid hsn
    clear hsn
    with_reducible refine (impl_GlueAtBase r s A es c r' s' A' es' c' w1 _ _ _ _ (hr.mid hm0 (Or.inl (Nat.zero_le _))) (hr'.mid hm0 (Or.inl (Nat.zero_le _))) hl hl' r sn ms true hCI).mono ?_
    rintro en w2 ⟨A2, c2, rfl, ho2, hm2⟩
    clear hms hCI
    have hs2 := hm2.size
    have ha2 := Mid.alloc w2 (.cells #[.int .i64 r, .int .i64 sn, .slice A2 ms.length c2] 30)
    have Y2 := Box.new w2 #[.int .i64 r, .int .i64 sn, .slice A2 ms.length c2] 30
    replace b0 := b0.mid hm2 (Or.inr (Nat.zero_le _))
    replace b1 := b1.mid hm2 (Or.inr (Nat.zero_le _))
    replace b2 := b2.mid hm2 (Or.inr (Nat.zero_le _))
    replace hm0 := hm0.trans hm2
    replace b0 := b0.mid ha2 (Or.inr (Nat.zero_le _))
    replace b1 := b1.mid ha2 (Or.inr (Nat.zero_le _))
    replace b2 := b2.mid ha2 (Or.inr (Nat.zero_le _))
    replace ho2 := ho2.mid ha2 (Or.inl (Nat.zero_le _))
    replace hm0 := hm0.trans ha2
    have p0 := b0.cell 0 rfl
    have p1 := b0.cell 1 rfl
    have p2 := b0.cell 2 rfl
    go_wp2_with fail
    generalize w2.alloc (.cells #[.int .i64 r, .int .i64 sn, .slice A2 ms.length c2] 30) = w3 at hm0 b0 b1 b2 ho2 Y2 ha2 p0 p1 p2 ⊢
    have hs3 := ha2.size
    by_cases hc : IsCor r s es
    · have HC := Lib.hid hc
      clear hc
      with_reducible refine (impl_IsCore r s A es c _ _ _ (hr.mid hm0 (Or.inl (Nat.zero_le _))) hl hcl true (iff_of_true rfl HC.out)).mono ?_
      rintro en w4 ⟨rfl, hm4⟩
      have hs4 := hm4.size
      replace b0 := b0.mid hm4 (Or.inr (Nat.zero_le _))
      replace b1 := b1.mid hm4 (Or.inr (Nat.zero_le _))
      replace b2 := b2.mid hm4 (Or.inr (Nat.zero_le _))
      replace Y2 := Y2.mid hm4 (Or.inr (Nat.zero_le _))
      replace ho2 := ho2.mid hm4 (Or.inl (Nat.zero_le _))
      replace hm0 := hm0.trans hm4
      clear p0 p1 p2
      have p0 := b1.cell 0 rfl
      have p1 := b1.cell 1 rfl
      have p2 := b1.cell 2 rfl
      by_cases hd : IsCor r' s' es'
      · have HD := Lib.hid hd
        obtain ⟨hb, hrr, hrs, hre⟩ := HR.out.yes ⟨HF.out, HC.out, hd⟩
        clear hd HR
        go_wp2_with fail
        with_reducible refine (impl_IsCore r' s' A' es' c' _ _ _ (hr'.mid hm0 (Or.inl (Nat.zero_le _))) hl' hcl' true (iff_of_true rfl HD.out)).mono ?_
        rintro en w5 ⟨rfl, hm5⟩
        have hs5 := hm5.size
        replace b2 := b2.mid hm5 (Or.inr (Nat.zero_le _))
        replace Y2 := Y2.mid hm5 (Or.inr (Nat.zero_le _))
        replace ho2 := ho2.mid hm5 (Or.inl (Nat.zero_le _))
        replace hm0 := hm0.trans hm5
        clear p0 p1 p2
        have y0 := Y2.cell 0 rfl
        have y1 := Y2.cell 1 rfl
        have y2 := Y2.cell 2 rfl
        obtain ⟨rn, rfl⟩ : ∃ rn : Nat, r = rn := ⟨r.toNat, by have := HF.out.g1.rank; omega⟩
        rw [HMS.out, HSN.out] at hrs hre
        obtain ⟨q, qs, hQ, -⟩ := nat_gr (coreA_gr (g := ((sn : Int), ms)) HGM.out)
        have hP := impl_CoreGraph rn sn A2 ms c2 w5 _ _ (OG.rg ho2) HGM.out
        rw [hQ] at hP hrs hre
        dsimp only at hP hrs hre
        have HP := Lib.hid hP
        have HALL := Lib.hid (And.intro hb (And.intro hrr (And.intro hrs hre)))
        clear hP hQ hb hrr hrs hre
        go_wp2_with fail
        with_reducible refine HP.out.mono ?_
        rintro en w6 ⟨A5, c5, rfl, ho5, hm6⟩
        clear HP
        replace b2 := b2.mid hm6 (Or.inr (Nat.zero_le _))
        replace hm0 := hm0.trans hm6
        have z0 := b2.cell 0 rfl
        have z1 := b2.cell 1 rfl
        have z2 := b2.cell 2 rfl
        have zf := b2.2.2
        go_wp2_with fail
        refine bodyPost_ret (v := .tuple #[.agg #[.int .i64 rn, .int .i64 q, .slice A5 qs.length c5], .bool true]) (by simp [results, Tryz.results26, go_sem, z0, z1, z2, zf]) rfl ⟨A5, c5, by rw [HALL.out.1, ← HALL.out.2.1, HALL.out.2.2.1, HALL.out.2.2.2], ?_, ?_⟩
        · rw [HALL.out.2.2.2]
          refine OG.wide (OG.mid ho5 (a := w.heap.size + 1) (b := w.heap.size + 3) ?_ (Or.inl (by omega))) (by omega) (by simp) (Nat.le_refl _)
          repeat (first | exact Mid.refl _ _ _ | refine Mid.stored ?_ _ (by simp; try omega) (by simp; try omega))
        · repeat (first | exact hm0 | refine Mid.storeNew ?_ (by simp; try omega) _)
      · obtain ⟨rfl, rfl, rfl, rfl⟩ := HR.out.no fun h => hd h.2.2
        have HD := Lib.hid hd
        clear hd HR
        go_wp2_with fail
        with_reducible refine (impl_IsCore r' s' A' es' c' _ _ _ (hr'.mid hm0 (Or.inl (Nat.zero_le _))) hl' hcl' false (iff_of_false Bool.false_ne_true HD.out)).mono ?_
        rintro en w5 ⟨rfl, hm5⟩
        replace b2 := b2.mid hm5 (Or.inr (Nat.zero_le _))
        replace hm0 := hm0.trans hm5
        have z0 := b2.cell 0 rfl
        have z1 := b2.cell 1 rfl
        have z2 := b2.cell 2 rfl
        have zf := b2.2.2
        clear p0 p1 p2
        go_wp2_with fail
        refine bodyPost_ret (v := .tuple #[.agg #[.int .i64 0, .int .i64 0, .slice none 0 0], .bool false]) (by simp [results, Tryz.results26, go_sem, z0, z1, z2, zf]) rfl ⟨none, 0, rfl, ?_, ?_⟩
        · exact ⟨Nat.le_refl _, ⟨rfl, .inl ⟨rfl, rfl⟩⟩, fun g hg => by simp [Value.ownBlock] at hg⟩
        · repeat (first | exact hm0 | refine Mid.trans ?_ (Mid.alloc _ _) | refine Mid.storeNew ?_ (by simp; try omega) _)
    · obtain ⟨rfl, rfl, rfl, rfl⟩ := HR.out.no fun h => hc h.2.1
      have HC := Lib.hid hc
      clear hc HR
      with_reducible refine (impl_IsCore r s A es c _ _ _ (hr.mid hm0 (Or.inl (Nat.zero_le _))) hl hcl false (iff_of_false Bool.false_ne_true HC.out)).mono ?_
      rintro en w4 ⟨rfl, hm4⟩
      replace b2 := b2.mid hm4 (Or.inr (Nat.zero_le _))
      replace hm0 := hm0.trans hm4
      have z0 := b2.cell 0 rfl
      have z1 := b2.cell 1 rfl
      have z2 := b2.cell 2 rfl
      have zf := b2.2.2
      clear p0 p1 p2
      go_wp2_with fail
      refine bodyPost_ret (v := .tuple #[.agg #[.int .i64 0, .int .i64 0, .slice none 0 0], .bool false]) (by simp [results, Tryz.results26, go_sem, z0, z1, z2, zf]) rfl ⟨none, 0, rfl, ?_, ?_⟩
      · exact ⟨Nat.le_refl _, ⟨rfl, .inl ⟨rfl, rfl⟩⟩, fun g hg => by simp [Value.ownBlock] at hg⟩
      · repeat (first | exact hm0 | refine Mid.trans ?_ (Mid.alloc _ _) | refine Mid.storeNew ?_ (by simp; try omega) _)
  · obtain ⟨rfl, rfl, rfl, rfl⟩ := HR.out.no fun h => hf h.1
    have hCI : GlueAtBaseIs r s es r' s' es' 0 0 [] false := Or.inr ⟨rfl, hf, rfl, rfl, rfl⟩
    with_reducible refine (impl_GlueAtBase r s A es c r' s' A' es' c' w1 _ _ _ _ (hr.mid hm0 (Or.inl (Nat.zero_le _))) (hr'.mid hm0 (Or.inl (Nat.zero_le _))) hl hl' 0 0 [] false hCI).mono ?_
    rintro en w2 ⟨A2, c2, rfl, ho2, hm2⟩
    have hs2 := hm2.size
    clear hf HR hCI
    replace b2 := b2.mid hm2 (Or.inr (Nat.zero_le _))
    replace hm0 := hm0.trans hm2
    have hb22 : w.heap.size + 2 < w2.heap.size := b2.1
    have hb23 : w.heap.size + 1 < w2.heap.size := by omega
    have z0 := b2.cell 0 rfl
    have z1 := b2.cell 1 rfl
    have z2 := b2.cell 2 rfl
    have zf := b2.2.2
    go_wp2_with fail
    refine bodyPost_ret (v := .tuple #[.agg #[.int .i64 0, .int .i64 0, .slice none 0 0], .bool false]) (by simp [results, Tryz.results26, go_sem, z0, z1, z2, zf, hb22, hb23, World.cell?_alloc_lt]) rfl ⟨none, 0, rfl, ?_, ?_⟩
    · exact ⟨Nat.le_refl _, ⟨rfl, .inl ⟨rfl, rfl⟩⟩, fun g hg => by simp [Value.ownBlock] at hg⟩
    · repeat (first | exact hm0 | refine Mid.trans ?_ (Mid.alloc _ _) | refine Mid.storeNew ?_ (by simp; try omega) _)
end Go.Proofs.YtkcfbcbkokabdaaGreat

/- The law on JoinOf: its data. -/
namespace Go.Proofs.YtkcfbcbkokabdaaGreat
set_option linter.unusedVariables false
open Go.RowKit
def JoinOfIs (r0 s0 : Int) (d0 : List Ed) (r1 s1 : Int) (d1 : List Ed) (rr0 rs0 : Int) (res0 : List Ed) (res1 : Bool) : Prop := JoinIs r0 s0 d0 r1 s1 d1 rr0 rs0 res0 res1
theorem JoinOfIs_ex (r0 s0 : Int) (d0 : List Ed) (r1 s1 : Int) (d1 : List Ed) (hl0 : d0.length ≤ 1048576) (hl1 : d1.length ≤ 1048576) : ∃ rr0 rs0 res0 res1, JoinOfIs r0 s0 d0 r1 s1 d1 rr0 rs0 res0 res1 := by
  by_cases h : GlueOk r0 s0 d0 r1 s1 d1 ∧ IsCor r0 s0 d0 ∧ IsCor r1 s1 d1
  · exact ⟨_, _, _, _, .inl ⟨rfl, h, rfl, rfl, rfl⟩⟩
  · exact ⟨_, _, _, _, .inr ⟨rfl, h, rfl, rfl, rfl⟩⟩
theorem JoinOfIs_len {r0 s0 : Int} {d0 : List Ed} {r1 s1 : Int} {d1 : List Ed} {rr0 rs0 : Int} {res0 : List Ed} {res1 : Bool} (h : JoinOfIs r0 s0 d0 r1 s1 d1 rr0 rs0 res0 res1) (hl0 : d0.length ≤ 1048576) (hl1 : d1.length ≤ 1048576) : res0.length ≤ 1048576 := by
  rcases h with ⟨-, h, -, -, rfl⟩ | ⟨-, -, -, -, rfl⟩
  · have h1 := (coreA_gr (g := (s0 + s1 - 1, canon (d0 ++ glueE s0 d1))) (glue_gr h.1)).len
    omega
  · simp
theorem sspec_JoinOf (r0 s0 : Int) (A0 : Option Addr) (d0 : List Ed) (c0 : Nat) (r1 s1 : Int) (A1 : Option Addr) (d1 : List Ed) (c1 : Nat) (w : World) (lo0 hi0 : Nat) (h0 : OG w lo0 hi0 A0 c0 d0) (hl0 : d0.length ≤ 1048576) (lo1 hi1 : Nat) (h1 : OG w lo1 hi1 A1 c1 d1) (hl1 : d1.length ≤ 1048576) (rr0 rs0 : Int) (res0 : List Ed) (res1 : Bool) (h : JoinOfIs r0 s0 d0 r1 s1 d1 rr0 rs0 res0 res1) :
    Calls Tryz.prog 25 #[.agg #[.int .i64 r0, .int .i64 s0, .slice A0 d0.length c0], .agg #[.int .i64 r1, .int .i64 s1, .slice A1 d1.length c1]] w fun e w' => ∃ (A : Option Addr) (c : Nat), e = .returned (.tuple #[.agg #[.int .i64 rr0, .int .i64 rs0, .slice A res0.length c], .bool res1]) ∧ OG w' w.heap.size w'.heap.size A c res0 ∧ Mid 0 0 w w' :=
  spec_JoinOf r0 s0 A0 d0 c0 r1 s1 A1 d1 c1 w lo0 hi0 lo1 hi1 h0.rg h1.rg hl0 hl1 rr0 rs0 res0 res1 h
theorem simpl_JoinOf (r0 s0 : Int) (A0 : Option Addr) (d0 : List Ed) (c0 : Nat) (r1 s1 : Int) (A1 : Option Addr) (d1 : List Ed) (c1 : Nat) (w : World) (lo0 hi0 : Nat) (h0 : OG w lo0 hi0 A0 c0 d0) (hl0 : d0.length ≤ 1048576) (lo1 hi1 : Nat) (h1 : OG w lo1 hi1 A1 c1 d1) (hl1 : d1.length ≤ 1048576) (rr0 rs0 : Int) (res0 : List Ed) (res1 : Bool) (h : JoinOfIs r0 s0 d0 r1 s1 d1 rr0 rs0 res0 res1) :
    Calls Tryz.prog 26 #[.agg #[.int .i64 r0, .int .i64 s0, .slice A0 d0.length c0], .agg #[.int .i64 r1, .int .i64 s1, .slice A1 d1.length c1]] w fun e w' => ∃ (A : Option Addr) (c : Nat), e = .returned (.tuple #[.agg #[.int .i64 rr0, .int .i64 rs0, .slice A res0.length c], .bool res1]) ∧ OG w' w.heap.size w'.heap.size A c res0 ∧ Mid 0 0 w w' :=
  impl_JoinOf r0 s0 A0 d0 c0 r1 s1 A1 d1 c1 w lo0 hi0 lo1 hi1 h0.rg h1.rg hl0 hl1 h0.cnt.1 h1.cnt.1 rr0 rs0 res0 res1 h
end Go.Proofs.YtkcfbcbkokabdaaGreat
