
/- IsSubgraph, both sides. -/
import Derived.Test.YtkcfbcbkokabdaaG4
import Derived.Test.YtkcfbcbkokabdaaG8
namespace Go.Proofs.Ytkcfbcbkokabdaa
set_option linter.unusedVariables false
set_option linter.unusedSimpArgs false
open Go.RowKit

theorem bool_of (p : Prop) : ∃ b : Bool, b = true ↔ p := by
  by_cases h : p
  · exact ⟨true, iff_of_true rfl h⟩
  · exact ⟨false, iff_of_false Bool.false_ne_true h⟩
theorem bool_no {b : Bool} {p : Prop} (h : b = true ↔ p) (hn : ¬ p) : b = false := by
  cases b with
  | false => rfl
  | true => exact absurd (h.1 rfl) hn
/-- One graph is a part of another one. -/
structure IsSub (r s : Int) (es : List Ed) (r' s' : Int) (es' : List Ed) : Prop where
  g1 : IsGr r s es
  g2 : IsGr r' s' es'
  rk : r = r'
  sz : s ≤ s'
  all : ∀ e ∈ es, e ∈ es'

set_option maxHeartbeats 1600000 in
theorem impl_IsSubgraph (r s : Int) (A : Option Addr) (es : List Ed) (c : Nat) (r' s' : Int) (A' : Option Addr) (es' : List Ed) (c' : Nat) (w : World) (lo hi lo' hi' : Nat)
    (hr : RG w lo hi A es) (hr' : RG w lo' hi' A' es') (hl : es.length ≤ 1048576) (hl' : es'.length ≤ 1048576) (b : Bool) (hb : b = true ↔ IsSub r s es r' s' es') :
    Calls Try.prog 13 #[graV r s A es.length c, graV r' s' A' es'.length c'] w fun e w' => e = .returned (.bool b) ∧ Mid 0 0 w w' := by
  have HB := Lib.hid hb
  clear hb
  have hm0 : Mid 0 0 w ((w.alloc (.cells #[.int .i64 r, .int .i64 s, .slice A es.length c] 29)).alloc (.cells #[.int .i64 r', .int .i64 s', .slice A' es'.length c'] 29)) := (Mid.alloc _ _).trans (Mid.alloc _ _)
  have B1 := (Box.new w #[.int .i64 r, .int .i64 s, .slice A es.length c] 29).mid (Mid.alloc _ (.cells #[.int .i64 r', .int .i64 s', .slice A' es'.length c'] 29)) (Or.inr (Nat.zero_le _))
  have B2 := Box.new (w.alloc (.cells #[.int .i64 r, .int .i64 s, .slice A es.length c] 29)) #[.int .i64 r', .int .i64 s', .slice A' es'.length c'] 29
  rw [World.size_alloc] at B2
  obtain ⟨b1, hb1⟩ := bool_of (IsGr r s es)
  obtain ⟨b2, hb2⟩ := bool_of (IsGr r' s' es')
  have H1 := Lib.hid hb1
  have H2 := Lib.hid hb2
  clear hb1 hb2
  go_enter Try.func13, Try.ntmps13
  go_wp2_with fail
  with_reducible refine (impl_IsGraph r s A es c _ _ _ (hr.mid hm0 (Or.inl (Nat.zero_le _))).rv hl b1 H1.out).mono ?_
  rintro en w1 ⟨rfl, hm1⟩
  have B1a := B1.mid hm1 (Or.inr (Nat.zero_le _))
  have B2a := B2.mid hm1 (Or.inr (Nat.zero_le _))
  clear B1 B2
  have p0 := B1a.cell 0 rfl
  have p1 := B1a.cell 1 rfl
  have p2 := B1a.cell 2 rfl
  have q0 := B2a.cell 0 rfl
  have q1 := B2a.cell 1 rfl
  have q2 := B2a.cell 2 rfl
  cases b1 with
  | false =>
    obtain rfl : b = false := bool_no HB.out fun h => by have := H1.out.2 h.g1; cases this
    go_wp2_with fail
    go_ret
    exact ⟨rfl, hm0.trans hm1⟩
  | true =>
  have G1 := Lib.hid (H1.out.1 rfl)
  go_wp2_with fail
  with_reducible refine (impl_IsGraph r' s' A' es' c' _ _ _ (hr'.mid (hm0.trans hm1) (Or.inl (Nat.zero_le _))).rv hl' b2 H2.out).mono ?_
  rintro en w2 ⟨rfl, hm2⟩
  have B1b := B1a.mid hm2 (Or.inr (Nat.zero_le _))
  have B2b := B2a.mid hm2 (Or.inr (Nat.zero_le _))
  clear B1a B2a p0 p1 p2 q0 q1 q2
  have p0 := B1b.cell 0 rfl
  have p1 := B1b.cell 1 rfl
  have p2 := B1b.cell 2 rfl
  have q0 := B2b.cell 0 rfl
  have q1 := B2b.cell 1 rfl
  have q2 := B2b.cell 2 rfl
  have hm := (hm0.trans hm1).trans hm2
  cases b2 with
  | false =>
    obtain rfl : b = false := bool_no HB.out fun h => by have := H2.out.2 h.g2; cases this
    go_wp2_with fail
    go_ret
    exact ⟨rfl, hm⟩
  | true =>
  have G2 := Lib.hid (H2.out.1 rfl)
  clear H1 H2 hm0 hm1 hm2
  by_cases h3 : r = r'
  · by_cases h4 : s ≤ s'
    · have h3a : (r != r') = false := by simp [h3]
      have h4a : decide (s' < s) = false := by simp; omega
      have HR := Lib.hid h3
      clear h3
      go_wp2_with fail
      go_loopw [6, 32] (fun _ i wr => ∃ k : Nat, k ≤ es.length ∧ i = .int .i64 k ∧ Box wr (w.heap.size + 1) [.int .i64 r', .int .i64 s', .slice A' es'.length c'] ∧ (∀ e ∈ es.take k, e ∈ es') ∧ Mid 0 0 w wr) (fun _ i _ => es.length - (intOf i).toNat)
      case atStart => exact ⟨0, Nat.zero_le _, rfl, B2b, by simp, hm⟩
      case round =>
        obtain ⟨k, hk, rfl, bx, hall, hmr⟩ := hrel
        by_cases hlt : k < es.length
        · obtain ⟨B, off, e, rfl, -, hbh, he, e0, e1, e2⟩ := (hr.mid hmr (Or.inl (Nat.zero_le _))).ed hlt
          have hal := Mid.alloc wr (.cells #[.int .i64 e.a, .int .i64 e.l, .int .i64 e.b] 48)
          have by1 := bx.mid hal (Or.inr (Nat.zero_le _))
          have by2 := by1.cell 2 rfl
          have HA := Lib.hid hall
          have HE := Lib.hid he
          obtain ⟨v, hv⟩ := bool_of (e ∈ es')
          have hv' : decide (e ∈ es') = v := by cases v <;> simp_all
          have hC := fun W lo hi hr => containsE A' es' c' e W lo hi hr hl'
          rw [hv'] at hC
          have HV := Lib.hid hv
          have hkn : (k : Int) < (es.length : Int) := by omega
          clear hall he hv hv'
          go_wp2_with fail
          with_reducible refine (hC _ _ _ (hr'.mid (hmr.trans hal) (Or.inl (Nat.zero_le _)))).mono ?_
          rintro en w3 ⟨rfl, hm3⟩
          cases v with
          | false =>
            obtain rfl : b = false := bool_no HB.out fun h => by have := HV.out.2 (h.all e (List.mem_of_getElem? HE.out)); cases this
            go_wp2_with fail
            go_ret
            exact ⟨rfl, (hmr.trans hal).trans hm3⟩
          | true =>
            have HM := Lib.hid (HV.out.1 rfl)
            go_wp2_with fail
            go_roundw
            case rel =>
              refine ⟨k + 1, by omega, by go_num, by1.mid hm3 (Or.inr (Nat.zero_le _)), fun f hf => ?_, (hmr.trans hal).trans hm3⟩
              have h := HE.out
              obtain ⟨hk', h'⟩ := List.getElem?_eq_some_iff.1 h
              rw [List.take_succ_eq_append_getElem hk', h'] at hf
              rcases List.mem_append.1 hf with hf | hf
              · exact HA.out f hf
              · simp at hf
                subst hf
                exact HM.out
            case measure => simp [intOf]; omega
        · obtain rfl : k = es.length := by omega
          obtain rfl : b = true := HB.out.2 ⟨G1.out, G2.out, HR.out, h4, by rw [List.take_length] at hall; exact hall⟩
          go_wp2_with fail
          go_ret
          exact ⟨rfl, hmr⟩
    · obtain rfl : b = false := bool_no HB.out fun h => h4 h.sz
      have h3a : (r != r') = false := by simp [h3]
      have h4a : decide (s' < s) = true := by simp; omega
      clear h3
      go_wp2_with fail
      go_ret
      exact ⟨rfl, hm⟩
  · obtain rfl : b = false := bool_no HB.out fun h => h3 h.rk
    have h3a : (r != r') = true := by simp [h3]
    go_wp2_with fail
    go_ret
    exact ⟨rfl, hm⟩

theorem mem_take_snoc {es : List Ed} {k : Nat} {e f : Ed} (h : es[k]? = some e) : f ∈ es.take (k + 1) ↔ f ∈ es.take k ∨ f = e := by
  obtain ⟨hk', h'⟩ := List.getElem?_eq_some_iff.1 h
  rw [List.take_succ_eq_append_getElem hk', h', List.mem_append]
  simp
set_option maxHeartbeats 3200000 in
theorem spec_IsSubgraph (r s : Int) (A : Option Addr) (es : List Ed) (c : Nat) (r' s' : Int) (A' : Option Addr) (es' : List Ed) (c' : Nat) (w : World) (lo hi lo' hi' : Nat)
    (hr : RG w lo hi A es) (hr' : RG w lo' hi' A' es') (hl : es.length ≤ 1048576) (hl' : es'.length ≤ 1048576) (b : Bool) (hb : b = true ↔ IsSub r s es r' s' es') :
    Calls Try.prog 11 #[graV r s A es.length c, graV r' s' A' es'.length c'] w fun e w' => e = .returned (.bool b) ∧ Mid 0 0 w w' := by
  have HB := Lib.hid hb
  clear hb
  have hm0 : Mid 0 0 w ((w.alloc (.cells #[.int .i64 r, .int .i64 s, .slice A es.length c] 29)).alloc (.cells #[.int .i64 r', .int .i64 s', .slice A' es'.length c'] 29)) := (Mid.alloc _ _).trans (Mid.alloc _ _)
  have B1 := (Box.new w #[.int .i64 r, .int .i64 s, .slice A es.length c] 29).mid (Mid.alloc _ (.cells #[.int .i64 r', .int .i64 s', .slice A' es'.length c'] 29)) (Or.inr (Nat.zero_le _))
  have B2 := Box.new (w.alloc (.cells #[.int .i64 r, .int .i64 s, .slice A es.length c] 29)) #[.int .i64 r', .int .i64 s', .slice A' es'.length c'] 29
  rw [World.size_alloc] at B2
  obtain ⟨b1, hb1⟩ := bool_of (IsGr r s es)
  obtain ⟨b2, hb2⟩ := bool_of (IsGr r' s' es')
  have H1 := Lib.hid hb1
  have H2 := Lib.hid hb2
  clear hb1 hb2
  go_enter Try.func11, Try.ntmps11
  go_wp2_with fail
  with_reducible refine (spec_IsGraph r s A es c _ _ _ (hr.mid hm0 (Or.inl (Nat.zero_le _))).rv hl b1 H1.out).mono ?_
  rintro en w1 ⟨rfl, hm1⟩
  have B1a := B1.mid hm1 (Or.inr (Nat.zero_le _))
  have B2a := B2.mid hm1 (Or.inr (Nat.zero_le _))
  clear B1 B2
  have p0 := B1a.cell 0 rfl
  have p1 := B1a.cell 1 rfl
  have p2 := B1a.cell 2 rfl
  have q0 := B2a.cell 0 rfl
  have q1 := B2a.cell 1 rfl
  have q2 := B2a.cell 2 rfl
  cases b1 with
  | false =>
    obtain rfl : b = false := bool_no HB.out fun h => by have := H1.out.2 h.g1; cases this
    go_wp2_with fail
    go_ret
    exact ⟨rfl, hm0.trans hm1⟩
  | true =>
  have G1 := Lib.hid (H1.out.1 rfl)
  go_wp2_with fail
  with_reducible refine (spec_IsGraph r' s' A' es' c' _ _ _ (hr'.mid (hm0.trans hm1) (Or.inl (Nat.zero_le _))).rv hl' b2 H2.out).mono ?_
  rintro en w2 ⟨rfl, hm2⟩
  have B1b := B1a.mid hm2 (Or.inr (Nat.zero_le _))
  have B2b := B2a.mid hm2 (Or.inr (Nat.zero_le _))
  clear B1a B2a p0 p1 p2 q0 q1 q2
  have p0 := B1b.cell 0 rfl
  have p1 := B1b.cell 1 rfl
  have p2 := B1b.cell 2 rfl
  have q0 := B2b.cell 0 rfl
  have q1 := B2b.cell 1 rfl
  have q2 := B2b.cell 2 rfl
  have hm := (hm0.trans hm1).trans hm2
  cases b2 with
  | false =>
    obtain rfl : b = false := bool_no HB.out fun h => by have := H2.out.2 h.g2; cases this
    go_wp2_with fail
    go_ret
    exact ⟨rfl, hm⟩
  | true =>
  have G2 := Lib.hid (H2.out.1 rfl)
  clear H1 H2 hm0 hm1 hm2
  by_cases h3 : r = r'
  · by_cases h4 : s ≤ s'
    · have h3a : (r != r') = false := by simp [h3]
      have h4a : decide (s' < s) = false := by simp; omega
      have HR := Lib.hid h3
      clear h3
      go_wp2_with fail
      clear p0 p1 p2 q0 q1 q2
      go_loopw [5, 6, 7] (fun i _ _ wr => ∃ k : Nat, k ≤ es.length ∧ i = .int .i64 k ∧ Box wr w.heap.size [.int .i64 r, .int .i64 s, .slice A es.length c] ∧ Box wr (w.heap.size + 1) [.int .i64 r', .int .i64 s', .slice A' es'.length c'] ∧ (∀ e ∈ es.take k, e ∈ es') ∧ Mid 0 0 w wr) (fun i _ _ _ => es.length - (intOf i).toNat)
      case atStart => exact ⟨0, Nat.zero_le _, rfl, B1b, B2b, by simp, hm⟩
      case round =>
        obtain ⟨k, hk, rfl, ba, bx, hall, hmr⟩ := hrel
        obtain ⟨wo, rfl⟩ : ∃ x, x = wr := ⟨_, rfl⟩
        have p2 := ba.cell 2 rfl
        have q2 := bx.cell 2 rfl
        by_cases hlt : k < es.length
        · obtain ⟨B, off, e, rfl, -, hbh, he, e0, e1, e2⟩ := (hr.mid hmr (Or.inl (Nat.zero_le _))).ed hlt
          have HA := Lib.hid hall
          have HE := Lib.hid he
          have hk0 : (0 : Int) ≤ (k : Int) := by omega
          have hkn : (k : Int) < (es.length : Int) := by omega
          have zb : B < wo.heap.size := Nat.lt_of_lt_of_le hbh (Nat.le_trans hr.1 hmr.size)
          have hmr' := Lib.hid hmr
          clear hall he
          go_wp2_with fail
          clear p2 q2
          go_loopw [6, 7] (fun v j wq => ∃ m : Nat, ∃ vb : Bool, m ≤ es'.length ∧ j = .int .i64 m ∧ v = .bool vb ∧ Hid (vb = true ↔ e ∈ es'.take m) ∧ Mid 0 0 wo wq) (fun _ j _ => es'.length - (intOf j).toNat)
          case atStart => exact ⟨0, false, Nat.zero_le _, rfl, rfl, Lib.hid (by simp), Mid.refl _ _ _⟩
          case round =>
            obtain ⟨m, vb, hmle, rfl, rfl, HV, hmq⟩ := hrel
            have ba' := ba.mid hmq (Or.inr (Nat.zero_le _))
            have bx' := bx.mid hmq (Or.inr (Nat.zero_le _))
            have P2 := ba'.cell 2 rfl
            have Q2 := bx'.cell 2 rfl
            by_cases hlm : m < es'.length
            · obtain ⟨B', off', f, rfl, -, hbh', hf, f0, f1, f2⟩ := (hr'.mid (hmr.trans hmq) (Or.inl (Nat.zero_le _))).ed hlm
              have zb' : B' < wo.heap.size := Nat.lt_of_lt_of_le hbh' (Nat.le_trans hr'.1 hmr.size)
              have zq := hmq.size
              have p2 := wg_cell ba'.1 P2
              have q2 := wg_cell bx'.1 Q2
              have x0 := wg_cell (by show B < wr.heap.size; omega) (cell_keep hmq zb (Or.inr (Nat.zero_le _)) e0)
              have x1 := wg_cell (by show B < wr.heap.size; omega) (cell_keep hmq zb (Or.inr (Nat.zero_le _)) e1)
              have x2 := wg_cell (by show B < wr.heap.size; omega) (cell_keep hmq zb (Or.inr (Nat.zero_le _)) e2)
              have y0 := wg_cell (by show B' < wr.heap.size; omega) f0
              have y1 := wg_cell (by show B' < wr.heap.size; omega) f1
              have y2 := wg_cell (by show B' < wr.heap.size; omega) f2
              have hm0' : (0 : Int) ≤ (m : Int) := by omega
              have hmn : (m : Int) < (es'.length : Int) := by omega
              obtain ⟨d, hd⟩ : ∃ d, decide (e = f) = d := ⟨_, rfl⟩
              have hq := eqlEd_run e f hd
              have hg := guardEd e f
              have HD := Lib.hid hd
              have HF := Lib.hid hf
              clear hf hd zq
              cases vb with
              | false =>
                go_wp2_with fail
                refine wp_region_quiet_wg (by kernel_rfl) (by kernel_rfl) ?_
                repeat
                  (with_reducible refine wpQuiet_step (fun K hK => ?_))
                  go_simp
                  first
                    | ((with_reducible refine hK _ ?_); clear hK K)
                    | (rw [if_neg (by decide)]; (with_reducible refine hK _ ?_); clear hK K)
                    | (apply Exists.intro; refine ⟨fun _ => ?_, hK _ ?_⟩; (fail); clear hK K)
                with_reducible refine wpQuiet_nil ?_
                intro _ hw'
                obtain ⟨⟨nq, osq⟩, hw''⟩ := hw'
                subst hw''
                go_wp2_with fail
                go_roundw
                case rel =>
                  refine ⟨m + 1, d, by omega, by go_num, rfl, Lib.hid ?_, hmq.trans (Mid.ofWg _ _ _)⟩
                  rw [mem_take_snoc HF.out, ← HD.out, decide_eq_true_iff]
                  have hn : ¬ e ∈ es'.take m := fun h => by have := HV.out.2 h; cases this
                  exact ⟨fun h => .inr h, fun h => h.resolve_left hn⟩
                case measure => simp [intOf]; omega
              | true =>
                have HM := Lib.hid (HV.out.1 rfl)
                clear HV
                go_wp2_with fail
                refine wp_region_quiet_wg (by kernel_rfl) (by kernel_rfl) ?_
                repeat
                  (with_reducible refine wpQuiet_step (fun K hK => ?_))
                  go_simp
                  first
                    | ((with_reducible refine hK _ ?_); clear hK K)
                    | (rw [if_neg (by decide)]; (with_reducible refine hK _ ?_); clear hK K)
                    | (apply Exists.intro; refine ⟨fun _ => ?_, hK _ ?_⟩; (fail); clear hK K)
                with_reducible refine wpQuiet_nil ?_
                intro _ hw'
                obtain ⟨⟨nq, osq⟩, hw''⟩ := hw'
                subst hw''
                go_wp2_with fail
                go_roundw
                case rel => exact ⟨m + 1, true, by omega, by go_num, rfl, Lib.hid (iff_of_true rfl ((mem_take_snoc HF.out).2 (.inl HM.out))), hmq.trans (Mid.ofWg _ _ _)⟩
                case measure => simp [intOf]; omega
            · obtain rfl : m = es'.length := by omega
              cases vb with
              | false =>
                obtain rfl : b = false := bool_no HB.out fun h => by have := HV.out.2 (by rw [List.take_length]; exact h.all e (List.mem_of_getElem? HE.out)); cases this
                go_wp2_with fail
                go_ret
                exact ⟨rfl, hmr.trans hmq⟩
              | true =>
                have HM : Hid (e ∈ es') := Lib.hid (by have := HV.out.1 rfl; rwa [List.take_length] at this)
                clear HV
                go_wp2_with fail
                go_roundw
                case rel =>
                  refine ⟨k + 1, by omega, by go_num, ba', bx', fun g hg => ?_, hmr.trans hmq⟩
                  rcases (mem_take_snoc HE.out).1 hg with h | rfl
                  · exact HA.out g h
                  · exact HM.out
                case measure => simp [intOf]; omega
        · obtain rfl : k = es.length := by omega
          obtain rfl : b = true := HB.out.2 ⟨G1.out, G2.out, HR.out, h4, by rw [List.take_length] at hall; exact hall⟩
          go_wp2_with fail
          go_ret
          exact ⟨rfl, hmr⟩
    · obtain rfl : b = false := bool_no HB.out fun h => h4 h.sz
      have h3a : (r != r') = false := by simp [h3]
      have h4a : decide (s' < s) = true := by simp; omega
      clear h3
      go_wp2_with fail
      go_ret
      exact ⟨rfl, hm⟩
  · obtain rfl : b = false := bool_no HB.out fun h => h3 h.rk
    have h3a : (r != r') = true := by simp [h3]
    go_wp2_with fail
    go_ret
    exact ⟨rfl, hm⟩
end Go.Proofs.Ytkcfbcbkokabdaa
