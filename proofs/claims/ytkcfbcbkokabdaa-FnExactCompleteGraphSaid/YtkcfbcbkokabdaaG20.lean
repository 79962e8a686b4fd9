
/- IsFolded and DegreeOf. -/
import Derived.Test.YtkcfbcbkokabdaaG19
namespace Go.Proofs.Ytkcfbcbkokabdaa
set_option linter.unusedVariables false
set_option linter.unusedSimpArgs false
open Go.RowKit

theorem pw_of_drop {R : Ed → Ed → Prop} : ∀ {es : List Ed}, (∀ i e, es[i]? = some e → ∀ f ∈ es.drop (i + 1), R e f) → es.Pairwise R
  | [], _ => List.Pairwise.nil
  | a :: t, h => List.pairwise_cons.2 ⟨fun f hf => h 0 a rfl f (by simpa using hf), pw_of_drop fun i e he f hf => h (i + 1) e (by simpa using he) f (by simpa using hf)⟩
theorem pw_drop {R : Ed → Ed → Prop} {es : List Ed} (h : es.Pairwise R) {i : Nat} {e : Ed} (he : es[i]? = some e) {f : Ed} (hf : f ∈ es.drop (i + 1)) : R e f := by
  induction es generalizing i with
  | nil => simp at he
  | cons a t ih =>
    obtain ⟨h1, h2⟩ := List.pairwise_cons.1 h
    cases i with
    | zero =>
      obtain rfl : a = e := by simpa using he
      exact h1 f (by simpa using hf)
    | succ i => exact ih h2 (by simpa using he) (by simpa using hf)
theorem RG.drop {w : World} {lo hi : Nat} {b off : Nat} {es : List Ed} (h : RG w lo hi (some ⟨b, off, none⟩) es) {k : Nat} : RG w lo hi (some ⟨b, off + k * 3, none⟩) (es.drop k) := by
  refine ⟨h.1, fun hn => ?_⟩
  obtain ⟨b', off', hA, h1, h2, hc⟩ := h.2 (fun he => hn (by
    rw [ints, List.map_eq_nil_iff] at he ⊢
    rw [edI_drop, he]
    exact List.drop_nil))
  injection hA with hA
  injection hA with hA1 hA2
  subst hA1 hA2
  refine ⟨b, off + k * 3, rfl, h1, h2, fun j u hu => ?_⟩
  have := hc (k * 3 + j) u (by
    rw [ints, edI_drop, List.map_drop, List.getElem?_drop] at hu
    rw [ints]
    exact hu)
  rw [show off + k * 3 + j = off + (k * 3 + j) by omega]
  exact this

set_option maxHeartbeats 3200000 in
theorem impl_IsFolded (r s : Int) (A : Option Addr) (es : List Ed) (c : Nat) (w : World) (lo hi : Nat) (hr : RG w lo hi A es) (hl : es.length ≤ 1048576) (hcl : es.length ≤ c) (b : Bool) (hb : b = true ↔ IsFol r s es) :
    Calls Try.prog 47 #[graV r s A es.length c] w fun e w' => e = .returned (.bool b) ∧ Mid 0 0 w w' := by
  have HB := Lib.hid hb
  clear hb
  have hm0 : Mid 0 0 w (w.alloc (.cells #[.int .i64 r, .int .i64 s, .slice A es.length c] 29)) := Mid.alloc _ _
  have B1 := (Box.new w #[.int .i64 r, .int .i64 s, .slice A es.length c] 29)
  obtain ⟨b1, hb1⟩ := bool_of (IsGr r s es)
  have H1 := Lib.hid hb1
  clear hb1
  go_enter Try.func47, Try.ntmps47
  go_wp2_with fail
  with_reducible refine (impl_IsGraph r s A es c _ _ _ (hr.mid hm0 (Or.inl (Nat.zero_le _))).rv hl b1 H1.out).mono ?_
  rintro en w1 ⟨rfl, hm1⟩
  have B1a := B1.mid hm1 (Or.inr (Nat.zero_le _))
  clear B1
  have p0 := B1a.cell 0 rfl
  have p1 := B1a.cell 1 rfl
  have p2 := B1a.cell 2 rfl
  have hm := hm0.trans hm1
  cases b1 with
  | false =>
    obtain rfl : b = false := bool_no HB.out fun h => by have := H1.out.2 h.gr; cases this
    go_wp2_with fail
    go_ret
    exact ⟨rfl, hm⟩
  | true =>
  have G1 := Lib.hid (H1.out.1 rfl)
  go_wp2_with fail
  go_loopw [13] (fun i wr => ∃ k : Nat, k ≤ es.length ∧ i = .int .i64 k ∧ Box wr w.heap.size [.int .i64 r, .int .i64 s, .slice A es.length c] ∧ (∀ i e, i < k → es[i]? = some e → ∀ f ∈ es.drop (i + 1), ¬ Clash e f) ∧ Mid 0 0 w wr) (fun i _ => es.length - (intOf i).toNat)
  case atStart => exact ⟨0, Nat.zero_le _, rfl, B1a, fun i e hi => absurd hi (Nat.not_lt_zero _), hm⟩
  case round =>
    obtain ⟨wo, hwo⟩ : ∃ wo, wo = wr := ⟨_, rfl⟩
    subst hwo
    obtain ⟨k, hk, rfl, bx, hall, hmr⟩ := hrel
    by_cases hlt : k < es.length
    · obtain ⟨B, off, e, rfl, -, hbh, he, e0, e1, e2⟩ := (hr.mid hmr (Or.inl (Nat.zero_le _))).ed hlt
      have hal := Mid.alloc wo (.cells #[.int .i64 e.a, .int .i64 e.l, .int .i64 e.b] 48)
      have E1 := Box.new wo #[.int .i64 e.a, .int .i64 e.l, .int .i64 e.b] 48
      have hmo := hmr.trans hal
      have B1 := bx.mid hal (Or.inr (Nat.zero_le _))
      have q0 := B1.cell 0 rfl
      have q1 := B1.cell 1 rfl
      have q2 := B1.cell 2 rfl
      have hkn : (k : Int) < (es.length : Int) := by omega
      by_cases hck : c = k + 1
      · subst hck
        go_wp2_with fail
        have hdl : (es.drop (k + 1)).length = es.length - (k + 1) := List.length_drop
        have HE := Lib.hid he
        have HA := Lib.hid hall
        clear he hall
        have HN : Hid (∀ i e', i < k + 1 → es[i]? = some e' → ∀ f ∈ es.drop (i + 1), ¬ Clash e' f) := Lib.hid (by
          intro i e' hi he' f hf
          by_cases h : i < k
          · exact HA.out i e' h he' f hf
          · obtain rfl : i = k := by omega
            have := List.length_pos_of_mem hf
            omega)
        go_loopw [24] (fun i wr => i = .int .i64 0 ∧ wr = wo.alloc (.cells #[.int .i64 e.a, .int .i64 e.l, .int .i64 e.b] 48)) (fun _ _ => 0)
        case atStart => exact ⟨rfl, rfl⟩
        case round =>
          obtain ⟨rfl, rfl⟩ := hrel
          go_wp2_with fail
          go_roundw
          case rel => exact ⟨k + 1, by omega, by go_num, B1, HN.out, hmo⟩
          case measure => simp [intOf]; omega
      · go_wp2_with fail
        have hrd := (hr.mid hmo (Or.inl (Nat.zero_le _))).drop (k := k + 1)
        have hdl : (es.drop (k + 1)).length = es.length - (k + 1) := List.length_drop
        have HE := Lib.hid he
        have HA := Lib.hid hall
        clear he hall
        go_loopw [24] (fun i wr => ∃ j : Nat, j ≤ es.length - (k + 1) ∧ i = .int .i64 j ∧ Box wr w.heap.size [.int .i64 r, .int .i64 s, .slice (some ⟨B, off, none⟩) es.length c] ∧ Box wr wo.heap.size [.int .i64 e.a, .int .i64 e.l, .int .i64 e.b] ∧ (∀ f ∈ (es.drop (k + 1)).take j, ¬ Clash e f) ∧ Mid 0 0 (wo.alloc (.cells #[.int .i64 e.a, .int .i64 e.l, .int .i64 e.b] 48)) wr) (fun i _ => es.length - (k + 1) - (intOf i).toNat)
        case atStart => exact ⟨0, Nat.zero_le _, rfl, B1, E1, by simp, Mid.refl _ _ _⟩
        case round =>
          obtain ⟨j, hj, rfl, bx2, bxe, hin, hmx⟩ := hrel
          by_cases hlt2 : j < es.length - (k + 1)
          · obtain ⟨B', off', f, hA, -, hbh2, hf, f0, f1, f2⟩ := (hrd.mid hmx (Or.inl (Nat.zero_le _))).ed (k := j) (by omega)
            injection hA with hA
            injection hA with hA1 hA2
            subst hA1 hA2
            have hal2 := Mid.alloc wr (.cells #[.int .i64 f.a, .int .i64 f.l, .int .i64 f.b] 48)
            have hmx2 := hmx.trans hal2
            have bx3 := bx2.mid hal2 (Or.inr (Nat.zero_le _))
            have bxe3 := bxe.mid hal2 (Or.inr (Nat.zero_le _))
            have g0 := bxe3.cell 0 rfl
            have g1 := bxe3.cell 1 rfl
            have g2 := bxe3.cell 2 rfl
            have hjn : (j : Int) < ((es.length - (k + 1) : Nat) : Int) := by omega
            have HF := Lib.hid hf
            have HI := Lib.hid hin
            clear hf hin
            by_cases hc : Clash e f
            · have hb : b = false := bool_no HB.out fun h => pw_drop h.fol HE.out (List.mem_of_getElem? HF.out) hc
              subst hb
              obtain ⟨c1, c2⟩ := hc
              have d1 : (e.l == f.l) = true := by simpa using c1
              by_cases c3 : e.a = f.a
              · have d2 : (e.a == f.a) = true := by simpa using c3
                clear c1 c2 c3
                go_wp2_with fail
                go_ret
                exact ⟨rfl, (hmo.trans hmx2)⟩
              · have d2 : (e.a == f.a) = false := by simpa only [beq_eq_false_iff_ne] using c3
                have d3 : (e.b == f.b) = true := by simpa using (c2.resolve_left c3)
                clear c1 c2 c3
                go_wp2_with fail
                go_ret
                exact ⟨rfl, (hmo.trans hmx2)⟩
            · have HN : Hid (∀ f' ∈ (es.drop (k + 1)).take (j + 1), ¬ Clash e f') := Lib.hid (by
                intro f' hf'
                rw [take_snoc HF.out] at hf'
                rcases List.mem_append.1 hf' with h | h
                · exact HI.out f' h
                · obtain rfl : f' = f := by simpa using h
                  exact hc)
              by_cases c1 : e.l = f.l
              · have d1 : (e.l == f.l) = true := by simpa using c1
                have d2 : (e.a == f.a) = false := by simp only [beq_eq_false_iff_ne]; exact fun h => hc ⟨c1, .inl h⟩
                have d3 : (e.b == f.b) = false := by simp only [beq_eq_false_iff_ne]; exact fun h => hc ⟨c1, .inr h⟩
                clear c1 hc
                go_wp2_with fail
                go_roundw
                case rel => exact ⟨j + 1, by omega, by go_num, bx3, bxe3, HN.out, hmx2⟩
                case measure => simp [intOf]; omega
              · have d1 : (e.l == f.l) = false := by simpa only [beq_eq_false_iff_ne] using c1
                clear c1 hc
                go_wp2_with fail
                go_roundw
                case rel => exact ⟨j + 1, by omega, by go_num, bx3, bxe3, HN.out, hmx2⟩
                case measure => simp [intOf]; omega
          · obtain rfl : j = es.length - (k + 1) := by omega
            have HN : Hid (∀ i e', i < k + 1 → es[i]? = some e' → ∀ f ∈ es.drop (i + 1), ¬ Clash e' f) := Lib.hid (by
              intro i e' hi he' f hf
              by_cases h : i < k
              · exact HA.out i e' h he' f hf
              · obtain rfl : i = k := by omega
                rw [HE.out] at he'
                injection he' with he'
                subst he'
                exact hin f (by rw [← hdl, List.take_length]; exact hf))
            go_wp2_with fail
            go_roundw
            case rel => exact ⟨k + 1, by omega, by go_num, bx2, HN.out, hmo.trans hmx⟩
            case measure => simp [intOf]; omega
    · obtain rfl : k = es.length := by omega
      obtain rfl : b = true := HB.out.2 ⟨G1.out, pw_of_drop fun i e he => hall i e (List.getElem?_eq_some_iff.1 he).1 he⟩
      go_wp2_with fail
      go_ret
      exact ⟨rfl, hmr⟩
theorem pw_of_get {es : List Ed} (h : ∀ (i j : Nat) (e f : Ed), j < i → es[i]? = some e → es[j]? = some f → ¬ Clash e f) : es.Pairwise fun e f => ¬ Clash e f := by
  rw [List.pairwise_iff_getElem]
  intro i j hi hj hij hc
  exact h j i _ _ hij (List.getElem?_eq_getElem hj) (List.getElem?_eq_getElem hi) hc.symm
theorem get_of_pw {es : List Ed} (h : es.Pairwise fun e f => ¬ Clash e f) {i j : Nat} {e f : Ed} (hij : j < i) (he : es[i]? = some e) (hf : es[j]? = some f) : ¬ Clash e f := by
  rw [List.pairwise_iff_getElem] at h
  obtain ⟨hi, rfl⟩ := List.getElem?_eq_some_iff.1 he
  obtain ⟨hj, rfl⟩ := List.getElem?_eq_some_iff.1 hf
  exact fun hc => h j i hj hi hij hc.symm

set_option maxHeartbeats 3200000 in
theorem spec_IsFolded (r s : Int) (A : Option Addr) (es : List Ed) (c : Nat) (w : World) (lo hi : Nat) (hr : RG w lo hi A es) (hl : es.length ≤ 1048576) (b : Bool) (hb : b = true ↔ IsFol r s es) :
    Calls Try.prog 45 #[graV r s A es.length c] w fun e w' => e = .returned (.bool b) ∧ Mid 0 0 w w' := by
  have HB := Lib.hid hb
  clear hb
  have hm0 : Mid 0 0 w (w.alloc (.cells #[.int .i64 r, .int .i64 s, .slice A es.length c] 29)) := Mid.alloc _ _
  have B1 := (Box.new w #[.int .i64 r, .int .i64 s, .slice A es.length c] 29)
  obtain ⟨b1, hb1⟩ := bool_of (IsGr r s es)
  have H1 := Lib.hid hb1
  clear hb1
  go_enter Try.func45, Try.ntmps45
  go_wp2_with fail
  go_loopw [3] (fun i wr => ∃ k : Nat, k ≤ es.length ∧ i = .int .i64 k ∧ Box wr w.heap.size [.int .i64 r, .int .i64 s, .slice A es.length c] ∧ (∀ (i j : Nat) (e f : Ed), j < i → i < k → es[i]? = some e → es[j]? = some f → ¬ Clash e f) ∧ Mid 0 0 w wr) (fun i _ => es.length - (intOf i).toNat)
  case atStart => exact ⟨0, Nat.zero_le _, rfl, B1, fun i j e f h1 h2 => absurd h2 (Nat.not_lt_zero _), hm0⟩
  case round =>
    obtain ⟨wo, hwo⟩ : ∃ wo, wo = wr := ⟨_, rfl⟩
    subst hwo
    obtain ⟨k, hk, rfl, bx, hall, hmr⟩ := hrel
    have p0 := bx.cell 0 rfl
    have p1 := bx.cell 1 rfl
    have p2 := bx.cell 2 rfl
    have HA := Lib.hid hall
    clear hall
    by_cases hlt : k < es.length
    · have hkn : (k : Int) < (es.length : Int) := by omega
      go_wp2_with fail
      with_reducible refine (spec_IsGraph r s A es c _ _ _ (hr.mid hmr (Or.inl (Nat.zero_le _))).rv hl b1 H1.out).mono ?_
      rintro en w1 ⟨rfl, hm1⟩
      have hmo := hmr.trans hm1
      have bx1 := bx.mid hm1 (Or.inr (Nat.zero_le _))
      have q0 := bx1.cell 0 rfl
      have q1 := bx1.cell 1 rfl
      have q2 := bx1.cell 2 rfl
      cases b1 with
      | false =>
        obtain rfl : b = false := bool_no HB.out fun h => by have := H1.out.2 h.gr; cases this
        go_wp2_with fail
        with_reducible refine (spec_IsGraph r s A es c _ _ _ (hr.mid hmo (Or.inl (Nat.zero_le _))).rv hl false H1.out).mono ?_
        rintro en w2 ⟨rfl, hm2⟩
        go_wp2_with fail
        go_ret
        exact ⟨rfl, hmo.trans hm2⟩
      | true =>
        have G1 := Lib.hid (H1.out.1 rfl)
        go_wp2_with fail
        go_loopw [4] (fun i wr => ∃ j : Nat, j ≤ k ∧ i = .int .i64 j ∧ Box wr w.heap.size [.int .i64 r, .int .i64 s, .slice A es.length c] ∧ (∀ (i : Nat) (e f : Ed), i < j → es[k]? = some e → es[i]? = some f → ¬ Clash e f) ∧ Mid 0 0 w wr) (fun i _ => k - (intOf i).toNat)
        case atStart => exact ⟨0, Nat.zero_le _, rfl, bx1, fun i e f h => absurd h (Nat.not_lt_zero _), hmo⟩
        case round =>
          obtain ⟨j, hj, rfl, bx2, hin, hmx⟩ := hrel
          have u0 := bx2.cell 0 rfl
          have u1 := bx2.cell 1 rfl
          have u2 := bx2.cell 2 rfl
          have HI := Lib.hid hin
          clear hin
          by_cases hlt2 : j < k
          · obtain ⟨B, off, e, rfl, -, hbh, he, e0, e1, e2⟩ := (hr.mid hmx (Or.inl (Nat.zero_le _))).ed hlt
            obtain ⟨B', off', f, hA, -, hbh2, hf, f0, f1, f2⟩ := (hr.mid hmx (Or.inl (Nat.zero_le _))).ed (k := j) (by omega)
            injection hA with hA
            injection hA with hA1 hA2
            subst hA1 hA2
            have hbs : B < wr.heap.size := by have := hr.1; have := hmx.size; omega
            have hala := Mid.alloc wr (.cells #[.int .i64 e.a, .int .i64 e.l, .int .i64 e.b] 48)
            have halb := Mid.alloc (wr.alloc (.cells #[.int .i64 e.a, .int .i64 e.l, .int .i64 e.b] 48)) (.cells #[.int .i64 f.a, .int .i64 f.l, .int .i64 f.b] 48)
            have hal2 := hala.trans halb
            have E1 := (Box.new wr #[.int .i64 e.a, .int .i64 e.l, .int .i64 e.b] 48).mid halb (Or.inr (Nat.zero_le _))
            have E2 := Box.new (wr.alloc (.cells #[.int .i64 e.a, .int .i64 e.l, .int .i64 e.b] 48)) #[.int .i64 f.a, .int .i64 f.l, .int .i64 f.b] 48
            rw [World.size_alloc] at E2
            have bxa := bx2.mid hala (Or.inr (Nat.zero_le _))
            have bx3 := bx2.mid hal2 (Or.inr (Nat.zero_le _))
            have va0 := bxa.cell 0 rfl
            have va1 := bxa.cell 1 rfl
            have va2 := bxa.cell 2 rfl
            have g0 := E1.cell 0 rfl
            have g1 := E1.cell 1 rfl
            have g2 := E1.cell 2 rfl
            have h0 := E2.cell 0 rfl
            have h1 := E2.cell 1 rfl
            have h2 := E2.cell 2 rfl
            have g0' := cell_keep hala hbs (Or.inr (Nat.zero_le _)) f0
            have g1' := cell_keep hala hbs (Or.inr (Nat.zero_le _)) f1
            have g2' := cell_keep hala hbs (Or.inr (Nat.zero_le _)) f2
            have hjn : (j : Int) < (k : Int) := by omega
            have hjn2 : (j : Int) < (es.length : Int) := by omega
            have HE := Lib.hid he
            have HF := Lib.hid hf
            clear he hf
            by_cases hc : Clash e f
            · have hb : b = false := bool_no HB.out fun h => get_of_pw h.fol hlt2 HE.out HF.out hc
              subst hb
              obtain ⟨c1, c2⟩ := hc
              have d1 : (e.l == f.l) = true := by simpa using c1
              by_cases c3 : e.a = f.a
              · have d2 : (e.a == f.a) = true := by simpa using c3
                clear c1 c2 c3
                go_wp2_with fail
                go_ret
                exact ⟨rfl, hmx.trans hal2⟩
              · have d2 : (e.a == f.a) = false := by simpa only [beq_eq_false_iff_ne] using c3
                have d3 : (e.b == f.b) = true := by simpa using (c2.resolve_left c3)
                clear c1 c2 c3
                go_wp2_with fail
                go_ret
                exact ⟨rfl, hmx.trans hal2⟩
            · have HN : Hid (∀ (i : Nat) (e f : Ed), i < j + 1 → es[k]? = some e → es[i]? = some f → ¬ Clash e f) := Lib.hid (by
                intro i e' f' hi he' hf'
                by_cases h : i < j
                · exact HI.out i e' f' h he' hf'
                · obtain rfl : i = j := by omega
                  rw [HE.out] at he'
                  rw [HF.out] at hf'
                  injection he' with he'
                  injection hf' with hf'
                  subst he' hf'
                  exact hc)
              by_cases c1 : e.l = f.l
              · have d1 : (e.l == f.l) = true := by simpa using c1
                have d2 : (e.a == f.a) = false := by simp only [beq_eq_false_iff_ne]; exact fun h => hc ⟨c1, .inl h⟩
                have d3 : (e.b == f.b) = false := by simp only [beq_eq_false_iff_ne]; exact fun h => hc ⟨c1, .inr h⟩
                clear c1 hc
                go_wp2_with fail
                go_roundw
                case rel => exact ⟨j + 1, by omega, by go_num, bx3, HN.out, hmx.trans hal2⟩
                case measure => simp [intOf]; omega
              · have d1 : (e.l == f.l) = false := by simpa only [beq_eq_false_iff_ne] using c1
                clear c1 hc
                go_wp2_with fail
                go_roundw
                case rel => exact ⟨j + 1, by omega, by go_num, bx3, HN.out, hmx.trans hal2⟩
                case measure => simp [intOf]; omega
          · obtain rfl : j = k := by omega
            have HN : Hid (∀ (i j' : Nat) (e f : Ed), j' < i → i < j + 1 → es[i]? = some e → es[j']? = some f → ¬ Clash e f) := Lib.hid (by
              intro i j' e' f' h1 h2 he' hf'
              by_cases h : i < j
              · exact HA.out i j' e' f' h1 h he' hf'
              · obtain rfl : i = j := by omega
                exact HI.out j' e' f' h1 he' hf')
            go_wp2_with fail
            go_roundw
            case rel => exact ⟨j + 1, by omega, by go_num, bx2, HN.out, hmx⟩
            case measure => simp [intOf]; omega
    · obtain rfl : k = es.length := by omega
      obtain rfl : b = b1 := by
        cases b1 with
        | false => exact bool_no HB.out fun h => by have := H1.out.2 h.gr; cases this
        | true => exact HB.out.2 ⟨H1.out.1 rfl, pw_of_get fun i j e f h1 he hf => HA.out i j e f h1 (List.getElem?_eq_some_iff.1 he).1 he hf⟩
      go_wp2_with fail
      with_reducible refine (spec_IsGraph r s A es c _ _ _ (hr.mid hmr (Or.inl (Nat.zero_le _))).rv hl b H1.out).mono ?_
      rintro en w2 ⟨rfl, hm2⟩
      go_wp2_with fail
      go_ret
      exact ⟨rfl, hmr.trans hm2⟩
end Go.Proofs.Ytkcfbcbkokabdaa
