/- Contracts and lemmas of this seat, many texts in one: see the words ahead of each. No condition beyond those typed in each lemma. -/
import Derived.Test.YtgpljoplnecioaaGreatPk5
import Derived.Test.YtgpljoplnecioaaGreatPk1
import Derived.Test.YtgpljoplnecioaaGreatPk3
import Derived.Test.YtgpljoplnecioaaGreatPk2

/- Plain: the graph of an action. -/
namespace Go.Proofs.YtgpljoplnecioaaGreat
set_option linter.unusedVariables false
set_option linter.unusedSimpArgs false

/-- The edges of one permutation, its first k places. -/
def permE (x : Int) (p : List Int) (k : Nat) : List Ed := (List.range k).map fun (v : Nat) => ⟨(v : Int), x, p.getD v 0⟩
theorem permE_succ {x y : Int} {p : List Int} {k : Nat} (h : p[k]? = some y) : permE x p (k + 1) = permE x p k ++ [⟨(k : Int), x, y⟩] := by simp [permE, List.range_succ, List.getD, h]
theorem permE_len (x : Int) (p : List Int) (k : Nat) : (permE x p k).length = k := by simp [permE]
/-- The edges of the first k permutations of a list. -/
def actEs (l : List (List Int)) : Nat → List Ed
  | 0 => []
  | k + 1 => actEs l k ++ (match l[k]? with | none => [] | some p => permE ((k : Int) + 1) p p.length)
theorem actEs_succ {l : List (List Int)} {k : Nat} {p : List Int} (h : l[k]? = some p) : actEs l (k + 1) = actEs l k ++ permE ((k : Int) + 1) p p.length := by rw [actEs, h]
structure GActOk (rank : Int) (l : List (List Int)) (n : Nat) : Prop where
  rk : 1 ≤ rank ∧ rank ≤ 3
  ln : (l.length : Int) = rank
  n0 : 0 < n
  all : ∀ p ∈ l, IsPerm p ∧ p.length = n
theorem GActOk.n40 {rank : Int} {l : List (List Int)} {n : Nat} (h : GActOk rank l n) : n ≤ 40 := by
  have h1 := h.ln
  have h2 := h.rk
  cases l with
  | nil => simp at h1; omega
  | cons p t =>
    have := h.all p (by simp)
    have h3 := this.1.1
    omega
theorem actEs_len {l : List (List Int)} {n : Nat} (h : ∀ p ∈ l, p.length = n) : ∀ k, k ≤ l.length → (actEs l k).length = k * n
  | 0, _ => by simp [actEs]
  | k + 1, hk => by
    have hp := List.getElem?_eq_getElem (l := l) (i := k) (by omega)
    rw [actEs_succ hp, List.length_append, permE_len, actEs_len h k (by omega), h _ (List.getElem_mem _), Nat.succ_mul]
theorem act_in {rank : Int} {l : List (List Int)} {n : Nat} (h : GActOk rank l n) : ∀ k, k ≤ l.length → ∀ e ∈ actEs l k, InG rank n e
  | 0, _, e, he => by simp [actEs] at he
  | k + 1, hk, e, he => by
    have hp := List.getElem?_eq_getElem (l := l) (i := k) (by omega)
    rw [actEs_succ hp] at he
    rcases List.mem_append.1 he with he | he
    · exact act_in h k (by omega) e he
    · simp only [permE, List.mem_map, List.mem_range] at he
      obtain ⟨v, hv, rfl⟩ := he
      obtain ⟨h1, h2⟩ := h.all _ (List.getElem_mem (by omega : k < l.length))
      have h3 := h1.2.1 (l[k].getD v 0) (by rw [List.getD_eq_getElem?_getD, List.getElem?_eq_getElem hv]; exact List.getElem_mem _)
      have h4 := h.ln
      unfold InG
      simp only
      omega
theorem act_gr {rank : Int} {l : List (List Int)} {n : Nat} (h : GActOk rank l n) : IsGr rank n (canon (actEs l l.length)) := by
  have h40 := h.n40
  have hr := h.rk
  have hn := h.n0
  refine ⟨hr, ⟨by omega, by omega⟩, ?_, ?_, asc_canon _⟩
  · have h1 := canon_len (actEs l l.length)
    rw [actEs_len (fun p hp => (h.all p hp).2) l.length (Nat.le_refl _)] at h1
    have h2 := h.ln
    have h3 : l.length * n ≤ 3 * 40 := Nat.mul_le_mul (by omega) h40
    omega
  · intro e he
    exact act_in h l.length (Nat.le_refl _) e (mem_canon.1 he)
end Go.Proofs.YtgpljoplnecioaaGreat

/- GraphOfAction, the program. -/
namespace Go.Proofs.YtgpljoplnecioaaGreat
set_option linter.unusedVariables false
set_option linter.unusedSimpArgs false
open Go.RowKit

/-- What GraphOfAction gives. -/
def n0L (l : List (List Int)) : Nat := (l.headD []).length
def GActIs (rank : Int) (l : List (List Int)) (rr rs : Int) (res : List Ed) (b : Bool) : Prop :=
  (b = true ∧ GActOk rank l (n0L l) ∧ rr = rank ∧ rs = (coreA rank ((n0L l : Nat), canon (actEs l l.length))).1 ∧ res = (coreA rank ((n0L l : Nat), canon (actEs l l.length))).2) ∨ (b = false ∧ ¬ GActOk rank l (n0L l) ∧ rr = 0 ∧ rs = 0 ∧ res = [])
theorem GActIs_ex (rank : Int) (l : List (List Int)) : ∃ rr rs res b, GActIs rank l rr rs res b := by
  by_cases h : GActOk rank l (n0L l)
  · exact ⟨_, _, _, _, .inl ⟨rfl, h, rfl, rfl, rfl⟩⟩
  · exact ⟨_, _, _, _, .inr ⟨rfl, h, rfl, rfl, rfl⟩⟩
theorem GActIs.no {rank : Int} {l : List (List Int)} {rr rs : Int} {res : List Ed} {b : Bool} (h : GActIs rank l rr rs res b) (hn : ¬ GActOk rank l (n0L l)) : b = false ∧ rr = 0 ∧ rs = 0 ∧ res = [] := by
  rcases h with ⟨-, h, -⟩ | ⟨h1, -, h2⟩
  · exact absurd h hn
  · exact ⟨h1, h2⟩
theorem GActIs.yes {rank : Int} {l : List (List Int)} {rr rs : Int} {res : List Ed} {b : Bool} (h : GActIs rank l rr rs res b) (hn : GActOk rank l (n0L l)) : b = true ∧ rank = rr ∧ rs = (coreA rank ((n0L l : Nat), canon (actEs l l.length))).1 ∧ res = (coreA rank ((n0L l : Nat), canon (actEs l l.length))).2 := by
  rcases h with ⟨h1, -, h2, h3⟩ | ⟨-, h, -⟩
  · exact ⟨h1, h2.symm, h3⟩
  · exact absurd hn h
theorem GActIs.lens {rank : Int} {l : List (List Int)} {rr rs : Int} {res : List Ed} {b : Bool} (h : GActIs rank l rr rs res b) : res.length ≤ 120 := by
  rcases h with ⟨-, h, -, -, rfl⟩ | ⟨-, -, -, -, rfl⟩
  · exact (coreA_gr (g := ((n0L l : Nat), canon (actEs l l.length))) (act_gr h)).len
  · simp
theorem n0L_at {l : List (List Int)} {p : List Int} (h : l[0]? = some p) : n0L l = p.length := by
  cases l with
  | nil => simp at h
  | cons q t => simp at h; subst h; rfl
theorem inB_rank {x : Int} {b : Bool} (hb : b = true ↔ 1 ≤ x ∧ x ≤ 3) : inB x 1 3 = b := by
  cases b with
  | true => have := hb.1 rfl; unfold inB; simp; omega
  | false =>
    have h : ¬ (1 ≤ x ∧ x ≤ 3) := fun h => by have := hb.2 h; cases this
    unfold inB
    simp
    omega

set_option maxHeartbeats 6400000 in
set_option maxRecDepth 100000 in
theorem impl_GraphOfAction (rank : Int) (A : Option Addr) (l : List (List Int)) (c : Nat) (w : World) (lo hi : Nat) (hr : RSS w lo hi A l) (hl : l.length + sumL l ≤ 1048576) (hwf : (Lit.int .i64 rank).wf = true) (rr rs : Int) (res : List Ed) (b : Bool) (hres : GActIs rank l rr rs res b) :
    Calls Tryz.prog 28 #[.int .i64 rank, .slice A l.length c] w fun e w' => ∃ A1 c1, e = .returned (.tuple #[graV rr rs A1 res.length c1, .bool b]) ∧ OG w' w.heap.size w'.heap.size A1 c1 res ∧ Mid 0 0 w w' := by
  have HR := Lib.hid hres
  clear hres
  obtain ⟨b1, hb1⟩ := bool_of (1 ≤ rank ∧ rank ≤ 3)
  have H1 := Lib.hid hb1
  have hi1 := inB_rank hb1
  clear hb1
  have hm0 : Mid 0 0 w (w.alloc (.cells #[.int .i64 0, .int .i64 0, .slice none 0 0] 29)) := Mid.alloc _ _
  have B2 := Box.new w #[.int .i64 0, .int .i64 0, .slice none 0 0] 29
  go_enter Tryz.func28, Tryz.ntmps28
  go_wp2_with fail
  generalize w.alloc (.cells #[.int .i64 0, .int .i64 0, .slice none 0 0] 29) = w1 at hm0 B2 ⊢
  have hs1 : w.heap.size < w1.heap.size := B2.1
  with_reducible refine (within_at hi1 _).mono ?_
  rintro en w2 ⟨rfl, rfl⟩
  cases b1 with
  | false =>
    have hno : ¬ GActOk rank l (n0L l) := fun h => by have := H1.out.2 h.rk; cases this
    obtain ⟨rfl, rfl, rfl, rfl⟩ := HR.out.no hno
    have z0 := B2.cell 0 rfl
    have z1 := B2.cell 1 rfl
    have z2 := B2.cell 2 rfl
    have zf := B2.2.2
    go_wp2_with fail
    refine bodyPost_ret (v := .tuple #[.agg #[.int .i64 0, .int .i64 0, .slice none 0 0], .bool false]) (by simp [results, Tryz.results28, go_sem, z0, z1, z2, zf]) rfl ⟨none, 0, rfl, OG.nil, ?_⟩
    repeat (first | exact hm0 | refine Mid.storeNew ?_ (by simp; try omega) _)
  | true =>
  have hrk := H1.out.1 rfl
  clear H1 hi1
  by_cases hln : (l.length : Int) = rank
  · have dl : ((l.length : Int) != rank) = false := by simpa using hln
    obtain ⟨B0, o0, Ap0, cp0, p0, rfl, -, hB0, hp0, hc0, -⟩ := (hr.mid hm0 (Or.inl (Nat.zero_le _))).row (k := 0) (by omega)
    have hB0s : B0 < w1.heap.size := by have := (hr.mid hm0 (Or.inl (Nat.zero_le _))).size; omega
    have hn0 := n0L_at hp0
    have hp0l : p0.length ≤ 1048576 := by have := len_le_sumL (List.mem_of_getElem? hp0); omega
    simp only [Nat.add_zero] at hc0
    generalize hnn : p0.length = n at hc0 hn0 hp0l
    have HNN := Lib.hid hn0
    clear hp0 hn0 hnn
    have hzl : (0 : Int) < (l.length : Int) := by omega
    have HLN := Lib.hid hln
    clear hln
    by_cases hz : n = 0
    · have hno : ¬ GActOk rank l n := fun h => by have := h.n0; omega
      have dz : ((n : Int) == 0) = true := by rw [hz]; rfl
      obtain ⟨rfl, rfl, rfl, rfl⟩ := HR.out.no (by rw [HNN.out]; exact hno)
      have z0 := B2.cell 0 rfl
      have z1 := B2.cell 1 rfl
      have z2 := B2.cell 2 rfl
      have zf := B2.2.2
      go_wp2_with fail
      refine bodyPost_ret (v := .tuple #[.agg #[.int .i64 0, .int .i64 0, .slice none 0 0], .bool false]) (by simp [results, Tryz.results28, go_sem, z0, z1, z2, zf]) rfl ⟨none, 0, rfl, OG.nil, ?_⟩
      repeat (first | exact hm0 | refine Mid.storeNew ?_ (by simp; try omega) _)
    have dz : ((n : Int) == 0) = false := by simp only [beq_eq_false_iff_ne]; omega
    have hw0 : IntKind.i64.wrap ((n : Int) * rank) = (n : Int) * rank := IntWalk.i64_in _ (by
      have h1 : 0 ≤ (n : Int) * rank := Int.mul_nonneg (by omega) (by omega)
      have h2 : (n : Int) * rank ≤ 1048576 * 3 := Int.mul_le_mul (by omega) (by omega) (by omega) (by omega)
      omega)
    by_cases hbig : 120 < (n : Int) * rank
    · have hno : ¬ GActOk rank l n := fun h => by
        have h1 := h.n40
        have h2 : (n : Int) * rank ≤ 40 * 3 := Int.mul_le_mul (by omega) (by omega) (by omega) (by omega)
        omega
      have db : decide (120 < (n : Int) * rank) = true := by simpa using hbig
      obtain ⟨rfl, rfl, rfl, rfl⟩ := HR.out.no (by rw [HNN.out]; exact hno)
      have z0 := B2.cell 0 rfl
      have z1 := B2.cell 1 rfl
      have z2 := B2.cell 2 rfl
      have zf := B2.2.2
      go_wp2_with fail
      refine bodyPost_ret (v := .tuple #[.agg #[.int .i64 0, .int .i64 0, .slice none 0 0], .bool false]) (by simp [results, Tryz.results28, go_sem, z0, z1, z2, zf]) rfl ⟨none, 0, rfl, OG.nil, ?_⟩
      repeat (first | exact hm0 | refine Mid.storeNew ?_ (by simp; try omega) _)
    have db : decide (120 < (n : Int) * rank) = false := by simpa using hbig
    have hal := Mid.alloc w1 (.cells #[.int .i64 rank, .int .i64 n, .slice none 0 0] 29)
    have Y3 := Box.new w1 #[.int .i64 rank, .int .i64 n, .slice none 0 0] 29
    have Y2 := B2.mid hal (Or.inr (Nat.zero_le _))
    have hmy := hm0.trans hal
    go_wp2_with fail
    generalize w1.alloc (.cells #[.int .i64 rank, .int .i64 n, .slice none 0 0] 29) = w3 at Y2 Y3 hmy ⊢
    have hs3 : w1.heap.size < w3.heap.size := Y3.1
    clear hal hm0 B2 hc0
    generalize hG : w1.heap.size = Gb at Y3 hs1 hs3 hB0s ⊢
    clear hG
    have hhw := hr.size
    go_loopw [45] (fun i wr => ∃ (k : Nat) (A2 : Option Addr) (n2 c2 : Nat), k ≤ l.length ∧ i = .int .i64 k ∧ Hid (n2 = k * n) ∧ Hid (∀ p ∈ l.take k, IsPerm p ∧ p.length = n) ∧
      wr.ownsRow (Gb + 1) 64 3 (.slice A2 n2 c2) n2 (ints (edI (actEs l k))) ∧
      Box wr w.heap.size [.int .i64 0, .int .i64 0, .slice none 0 0] ∧ Box wr Gb [.int .i64 rank, .int .i64 n, .slice A2 n2 c2] ∧ Mid 0 0 w wr) (fun i _ => l.length - (intOf i).toNat)
    case atStart => exact ⟨0, none, 0, 0, Nat.zero_le _, rfl, Lib.hid (by simp), Lib.hid (by simp), World.ownsRow_nil _ _ _ _, Y2, Y3, hmy⟩
    case round =>
      clear Y2 Y3 hmy
      obtain ⟨wo, hwo⟩ : ∃ wo, wo = wr := ⟨_, rfl⟩
      subst hwo
      obtain ⟨k, A2, n2, c2, hk, rfl, HN, HALL, hown, Z2, Z3, hm⟩ := hrel
      have hGo : Gb < wo.heap.size := Z3.1
      by_cases hlt : k < l.length
      · obtain ⟨Bp, op, Ap, cp, p, he, -, hBp, hp, hcp, hrp⟩ := (hr.mid hm (Or.inl (Nat.zero_le _))).row hlt
        injection he with he
        injection he with he1 he2
        subst he1 he2
        have hpl : p.length ≤ 1048576 := by have := len_le_sumL (List.mem_of_getElem? hp); omega
        have hk1 : (k : Int) < (l.length : Int) := by omega
        have hk0 : (0 : Int) ≤ (k : Int) := by omega
        have HP := Lib.hid hp
        obtain ⟨bp, hbp⟩ := bool_of (IsPerm p)
        have HBP := Lib.hid hbp
        clear hp hbp
        go_wp2_with fail
        have hrp1 : hi ≤ wo.heap.size := hrp.1
        with_reducible refine (impl_IsPermutation Ap p cp _ _ hrp.rs hrp1 hpl bp HBP.out).mono ?_
        rintro en w5 ⟨rfl, hbe5⟩
        have hm5 : Mid 0 0 wo w5 := Mid.of_below hbe5
        have Q2 := Z2.mid hm5 (Or.inr (Nat.zero_le _))
        have Q3 := Z3.mid hm5 (Or.inr (Nat.zero_le _))
        have hown5 := owns_mid hown hm5 (Or.inl (Nat.zero_le _))
        have hm9 := hm.trans hm5
        have hrp5 := hrp.mid hm5 (Or.inl (Nat.zero_le _))
        clear hcp Z2 Z3 hown hm hm5 hbe5 hrp
        cases bp with
        | false =>
          have hno : ¬ GActOk rank l n := fun h => by have := HBP.out.2 (h.all p (List.mem_of_getElem? HP.out)).1; cases this
          obtain ⟨rfl, rfl, rfl, rfl⟩ := HR.out.no (by rw [HNN.out]; exact hno)
          have z0 := Q2.cell 0 rfl
          have z1 := Q2.cell 1 rfl
          have z2 := Q2.cell 2 rfl
          have zf := Q2.2.2
          go_wp2_with fail
          refine bodyPost_ret (v := .tuple #[.agg #[.int .i64 0, .int .i64 0, .slice none 0 0], .bool false]) (by simp [results, Tryz.results28, go_sem, z0, z1, z2, zf]) rfl ⟨none, 0, rfl, OG.nil, ?_⟩
          repeat (first | exact hm9 | refine Mid.storeNew ?_ (by simp; try omega) _)
        | true =>
        have q1 := Q3.cell 1 rfl
        by_cases hpn : p.length = n
        · have dn : ((p.length : Int) != (n : Int)) = false := by rw [hpn]; simp
          have hperm := HBP.out.1 rfl
          have hp40 := hperm.1
          have HPERM := Lib.hid hperm
          clear hperm
          go_wp2_with fail
          clear q1
          go_loopw [63] (fun j wr => ∃ (m : Nat) (A3 : Option Addr) (n3 c3 : Nat), m ≤ p.length ∧ j = .int .i64 m ∧ Hid (n3 = k * n + m) ∧
            wr.ownsRow (Gb + 1) 64 3 (.slice A3 n3 c3) n3 (ints (edI (actEs l k ++ permE ((k : Int) + 1) p m))) ∧
            Box wr w.heap.size [.int .i64 0, .int .i64 0, .slice none 0 0] ∧ Box wr Gb [.int .i64 rank, .int .i64 n, .slice A3 n3 c3] ∧ RV wr lo hi Ap (ints p) ∧ Mid 0 0 w wr) (fun j _ => p.length - (intOf j).toNat)
          case atStart => exact ⟨0, A2, n2, c2, Nat.zero_le _, rfl, HN, by simpa [permE] using hown5, Q2, Q3, hrp5, hm9⟩
          case round =>
            clear hown5 Q2 Q3 hrp5 hm9
            obtain ⟨m, A3, n3, c3, hmp, rfl, HN3, hown, Z2, Z3, hrp, hm⟩ := hrel
            have hn3 : n3 ≤ 1000 := by
              have h1 := HN3.out
              have h2 : k * n ≤ 3 * 40 := Nat.mul_le_mul (by have := HLN.out; omega) (by omega)
              omega
            by_cases hltm : m < p.length
            · obtain ⟨Bx, ox, x, rfl, hBx, hx, hcx⟩ := hrp.at hltm
              have hm1 : (m : Int) < (p.length : Int) := by omega
              have hm00 : (0 : Int) ≤ (m : Int) := by omega
              have hpe := permE_succ (x := (k : Int) + 1) hx
              have HPE := Lib.hid hpe
              have g2 := Z3.cell 2 rfl
              have hwr : Gb + 1 ≤ wr.heap.size := Z3.1
              have HO := Lib.hid hown
              clear hx hpe hown
              go_wp2_with (at_builtin; refine wpList_pushE rfl _ _ rfl (Gb + 1) A3 n3 c3 _ rfl HO.out ⟨(m : Int), (k : Int) + 1, x⟩ rfl (by omega) hwr ?_; intro A4 c4 w4 hown4 hm4; have X3 := Z3.mid hm4 (Or.inl (Nat.lt_succ_self _)); have X2 := Z2.mid hm4 (Or.inl (by omega)); have x2 := X3.cell 2 rfl; have xf := X3.2.2; have HO4 := Lib.hid hown4; clear hown4)
              go_roundw
              case rel =>
                have hst := Mid.setCell w4 (lo := Gb) (hi := Gb + 1) (p := ⟨Gb, 2, none⟩) (.slice A4 (n3 + 1) c4) (Nat.le_refl _) (Nat.lt_succ_self _)
                refine ⟨m + 1, A4, n3 + 1, c4, by omega, by go_num, Lib.hid (by rw [HN3.out]; omega), ?_, X2.mid hst (Or.inl (by omega)), X3.set 2 _ (by simp) rfl, (hrp.mid hm4 (Or.inr (by omega))).mid hst (Or.inr (by omega)), (hm.transNew hm4 (Or.inl (by omega))).storeNew (by show w.heap.size ≤ Gb; omega) _⟩
                have h1 := owns_mid HO4.out hst (Or.inl (Nat.le_refl _))
                rw [HPE.out, ← List.append_assoc]
                exact h1
              case measure => simp [intOf]; omega
            · obtain rfl : m = p.length := by omega
              have hae := actEs_succ HP.out
              rw [← hae] at hown
              go_wp2_with fail
              go_roundw
              case rel =>
                refine ⟨k + 1, A3, n3, c3, by omega, by go_num, Lib.hid (by rw [HN3.out, hpn, Nat.succ_mul]), Lib.hid (fun q hq => ?_), hown, Z2, Z3, hm⟩
                rcases (mem_take_succ HP.out).1 hq with hq | hq
                · exact HALL.out q hq
                · rw [hq]
                  exact ⟨HPERM.out, hpn⟩
              case measure => simp [intOf]; omega
        · have dn : ((p.length : Int) != (n : Int)) = true := by rw [bne_iff_ne]; omega
          have hno : ¬ GActOk rank l n := fun h => hpn (h.all p (List.mem_of_getElem? HP.out)).2
          obtain ⟨rfl, rfl, rfl, rfl⟩ := HR.out.no (by rw [HNN.out]; exact hno)
          have z0 := Q2.cell 0 rfl
          have z1 := Q2.cell 1 rfl
          have z2 := Q2.cell 2 rfl
          have zf := Q2.2.2
          go_wp2_with fail
          refine bodyPost_ret (v := .tuple #[.agg #[.int .i64 0, .int .i64 0, .slice none 0 0], .bool false]) (by simp [results, Tryz.results28, go_sem, z0, z1, z2, zf]) rfl ⟨none, 0, rfl, OG.nil, ?_⟩
          repeat (first | exact hm9 | refine Mid.storeNew ?_ (by simp; try omega) _)
      · obtain rfl : k = l.length := by omega
        rw [List.take_length] at HALL
        have hok : GActOk rank l n := ⟨hrk, HLN.out, by omega, HALL.out⟩
        obtain ⟨rfl, rfl, hrs, hre⟩ := HR.out.yes (by rw [HNN.out]; exact hok)
        rw [HNN.out] at hrs hre
        have hgm := act_gr hok
        have hrg : RG wo (Gb + 1) wo.heap.size A2 (actEs l l.length) := OV.rv (e := 64) (size := 3) (c := c2) (n := n2) ⟨Nat.le_refl _, hown, fun g hg => (hown.lt g hg).2⟩
        have hnl : (actEs l l.length).length = n2 := by rw [HN.out, actEs_len (fun q hq => (HALL.out q hq).2) l.length (Nat.le_refl _)]
        have hn2 : n2 ≤ 1000 := by
          have h1 := HN.out
          have h2 := hok.n40
          have h3 : l.length * n ≤ 3 * 40 := Nat.mul_le_mul (by have := HLN.out; omega) h2
          omega
        have HNL := Lib.hid hnl
        have z2 := Z3.cell 2 rfl
        obtain ⟨rn, rfl⟩ : ∃ rn : Nat, rank = rn := ⟨rank.toNat, by omega⟩
        obtain ⟨ms, hms⟩ : ∃ ms, canon (actEs l l.length) = ms := ⟨_, rfl⟩
        rw [hms] at hgm hrs hre
        obtain ⟨q, qs, hQ, -⟩ := nat_gr (coreA_gr (g := ((n : Int), ms)) hgm)
        have HGM := Lib.hid hgm
        rw [hQ] at hrs hre
        subst hrs
        subst res
        have HQ := Lib.hid hQ
        have HMS := Lib.hid hms
        clear hnl hok HR hgm hQ hms
        go_wp2_with fail
        with_reducible refine (impl_sortedN A2 (actEs l l.length) n2 c2 _ _ _ HNL.out hrg (by omega)).mono ?_
        rintro en w6 ⟨A4, c4, rfl, ho6, hm6⟩
        rw [HMS.out] at ho6 ⊢
        have Q2 := Z2.mid hm6 (Or.inr (Nat.zero_le _))
        have Q3 := Z3.mid hm6 (Or.inr (Nat.zero_le _))
        have hst := Mid.setCell w6 (lo := Gb) (hi := Gb + 1) (p := ⟨Gb, 2, none⟩) (.slice A4 ms.length c4) (Nat.le_refl _) (Nat.lt_succ_self _)
        have R2 := Q2.mid hst (Or.inl (by omega))
        have R3 := Q3.set 2 (.slice A4 ms.length c4) (by simp) rfl
        have ho7 := ho6.mid hst (Or.inl (by omega))
        have hm7 := (hm.trans hm6).storeNew (p := ⟨Gb, 2, none⟩) (by show w.heap.size ≤ Gb; omega) (.slice A4 ms.length c4)
        have q2 := Q3.cell 2 rfl
        have qf := Q3.2.2
        simp only [List.set_cons_succ, List.set_cons_zero] at R3
        have r0 := R3.cell 0 rfl
        have r1 := R3.cell 1 rfl
        have r2 := R3.cell 2 rfl
        clear z2
        go_wp2_with fail
        generalize w6.setCell ⟨Gb, 2, none⟩ (.slice A4 ms.length c4) = w7 at R2 R3 ho7 hm7 r0 r1 r2 ⊢
        have hP := impl_CoreGraph rn n A4 ms c4 w7 _ _ (OG.rg ho7) HGM.out
        rw [HQ.out] at hP
        dsimp only at hP
        have HPP := Lib.hid hP
        clear hP
        with_reducible refine HPP.out.mono ?_
        rintro en w8 ⟨A5, c5, rfl, ho8, hm8⟩
        clear HPP
        have S2 := R2.mid hm8 (Or.inr (Nat.zero_le _))
        have hm9 := hm7.trans hm8
        have hs8 : w.heap.size < w7.heap.size := R2.1
        clear r0 r1 r2 q2
        have z0 := S2.cell 0 rfl
        have z1 := S2.cell 1 rfl
        have z2 := S2.cell 2 rfl
        have zf := S2.2.2
        go_wp2_with fail
        refine bodyPost_ret (v := .tuple #[.agg #[.int .i64 rn, .int .i64 q, .slice A5 qs.length c5], .bool true]) (by simp [results, Tryz.results28, go_sem, z0, z1, z2, zf]) rfl ⟨A5, c5, rfl, ?_, ?_⟩
        · refine OG.wide (OG.mid ho8 (a := w.heap.size) (b := w.heap.size + 1) ?_ (Or.inl (by omega))) (by omega) (by simp) (Nat.le_refl _)
          repeat (first | exact Mid.refl _ _ _ | refine Mid.stored ?_ _ (by simp; try omega) (by simp; try omega))
        · repeat (first | exact hm9 | refine Mid.storeNew ?_ (by simp; try omega) _)
  · have dl : ((l.length : Int) != rank) = true := by simpa using hln
    have hno : ¬ GActOk rank l (n0L l) := fun h => hln h.ln
    obtain ⟨rfl, rfl, rfl, rfl⟩ := HR.out.no hno
    have z0 := B2.cell 0 rfl
    have z1 := B2.cell 1 rfl
    have z2 := B2.cell 2 rfl
    have zf := B2.2.2
    go_wp2_with fail
    refine bodyPost_ret (v := .tuple #[.agg #[.int .i64 0, .int .i64 0, .slice none 0 0], .bool false]) (by simp [results, Tryz.results28, go_sem, z0, z1, z2, zf]) rfl ⟨none, 0, rfl, OG.nil, ?_⟩
    repeat (first | exact hm0 | refine Mid.storeNew ?_ (by simp; try omega) _)
end Go.Proofs.YtgpljoplnecioaaGreat

/- GraphOfAction, the reference. -/
namespace Go.Proofs.YtgpljoplnecioaaGreat
set_option linter.unusedVariables false
set_option linter.unusedSimpArgs false
open Go.RowKit

set_option maxHeartbeats 6400000 in
set_option maxRecDepth 100000 in
theorem spec_GraphOfAction (rank : Int) (A : Option Addr) (l : List (List Int)) (c : Nat) (w : World) (lo hi : Nat) (hr : RSS w lo hi A l) (hl : l.length + sumL l ≤ 1048576) (hwf : (Lit.int .i64 rank).wf = true) (rr rs : Int) (res : List Ed) (b : Bool) (hres : GActIs rank l rr rs res b) :
    Calls Tryz.prog 26 #[.int .i64 rank, .slice A l.length c] w fun e w' => ∃ A1 c1, e = .returned (.tuple #[graV rr rs A1 res.length c1, .bool b]) ∧ OG w' w.heap.size w'.heap.size A1 c1 res ∧ Mid 0 0 w w' := by
  have HR := Lib.hid hres
  clear hres
  obtain ⟨b1, hb1⟩ := bool_of (1 ≤ rank ∧ rank ≤ 3)
  have H1 := Lib.hid hb1
  have hi1 := inB_rank hb1
  clear hb1
  have hm0 : Mid 0 0 w (w.alloc (.cells #[.int .i64 0, .int .i64 0, .slice none 0 0] 29)) := Mid.alloc _ _
  have B2 := Box.new w #[.int .i64 0, .int .i64 0, .slice none 0 0] 29
  go_enter Tryz.func26, Tryz.ntmps26
  go_wp2_with fail
  generalize w.alloc (.cells #[.int .i64 0, .int .i64 0, .slice none 0 0] 29) = w1 at hm0 B2 ⊢
  have hs1 : w.heap.size < w1.heap.size := B2.1
  with_reducible refine (l1In_at hi1 _).mono ?_
  rintro en w2 ⟨rfl, rfl⟩
  cases b1 with
  | false =>
    have hno : ¬ GActOk rank l (n0L l) := fun h => by have := H1.out.2 h.rk; cases this
    obtain ⟨rfl, rfl, rfl, rfl⟩ := HR.out.no hno
    have z0 := B2.cell 0 rfl
    have z1 := B2.cell 1 rfl
    have z2 := B2.cell 2 rfl
    have zf := B2.2.2
    go_wp2_with fail
    refine bodyPost_ret (v := .tuple #[.agg #[.int .i64 0, .int .i64 0, .slice none 0 0], .bool false]) (by simp [results, Tryz.results26, go_sem, z0, z1, z2, zf]) rfl ⟨none, 0, rfl, OG.nil, ?_⟩
    repeat (first | exact hm0 | refine Mid.storeNew ?_ (by simp; try omega) _)
  | true =>
  have hrk := H1.out.1 rfl
  clear H1 hi1
  by_cases hln : (l.length : Int) = rank
  · have dl : ((l.length : Int) != rank) = false := by simpa using hln
    obtain ⟨B0, o0, Ap0, cp0, p0, rfl, -, hB0, hp0, hc0, -⟩ := (hr.mid hm0 (Or.inl (Nat.zero_le _))).row (k := 0) (by omega)
    have hB0s : B0 < w1.heap.size := by have := (hr.mid hm0 (Or.inl (Nat.zero_le _))).size; omega
    have hn0 := n0L_at hp0
    have hp0l : p0.length ≤ 1048576 := by have := len_le_sumL (List.mem_of_getElem? hp0); omega
    simp only [Nat.add_zero] at hc0
    generalize hnn : p0.length = n at hc0 hn0 hp0l
    have HNN := Lib.hid hn0
    clear hp0 hn0 hnn
    have hzl : (0 : Int) < (l.length : Int) := by omega
    have HLN := Lib.hid hln
    clear hln
    by_cases hz : n = 0
    · have hno : ¬ GActOk rank l n := fun h => by have := h.n0; omega
      have dz : ((n : Int) == 0) = true := by rw [hz]; rfl
      obtain ⟨rfl, rfl, rfl, rfl⟩ := HR.out.no (by rw [HNN.out]; exact hno)
      have z0 := B2.cell 0 rfl
      have z1 := B2.cell 1 rfl
      have z2 := B2.cell 2 rfl
      have zf := B2.2.2
      go_wp2_with fail
      refine bodyPost_ret (v := .tuple #[.agg #[.int .i64 0, .int .i64 0, .slice none 0 0], .bool false]) (by simp [results, Tryz.results26, go_sem, z0, z1, z2, zf]) rfl ⟨none, 0, rfl, OG.nil, ?_⟩
      repeat (first | exact hm0 | refine Mid.storeNew ?_ (by simp; try omega) _)
    have dz : ((n : Int) == 0) = false := by simp only [beq_eq_false_iff_ne]; omega
    have hal := Mid.alloc w1 (.cells #[.int .i64 rank, .int .i64 n, .slice none 0 0] 29)
    have Y3 := Box.new w1 #[.int .i64 rank, .int .i64 n, .slice none 0 0] 29
    have Y2 := B2.mid hal (Or.inr (Nat.zero_le _))
    have hmy := hm0.trans hal
    go_wp2_with fail
    generalize w1.alloc (.cells #[.int .i64 rank, .int .i64 n, .slice none 0 0] 29) = w3 at Y2 Y3 hmy ⊢
    have hs3 : w1.heap.size < w3.heap.size := Y3.1
    clear hal hm0 B2 hc0
    generalize hG : w1.heap.size = Gb at Y3 hs1 hs3 hB0s ⊢
    clear hG
    have hhw := hr.size
    go_loopw [7] (fun i wr => ∃ (k : Nat) (A2 : Option Addr) (c2 hi2 : Nat) (xs : List Ed), k ≤ l.length ∧ i = .int .i64 k ∧ Hid (xs = canon (actEs l k)) ∧ Hid (∀ p ∈ l.take k, IsPerm p ∧ p.length = n) ∧
      OG wr (Gb + 1) hi2 A2 c2 xs ∧
      Box wr w.heap.size [.int .i64 0, .int .i64 0, .slice none 0 0] ∧ Box wr Gb [.int .i64 rank, .int .i64 n, .slice A2 xs.length c2] ∧ Mid 0 0 w wr) (fun i _ => l.length - (intOf i).toNat)
    case atStart => exact ⟨0, none, 0, _, [], Nat.zero_le _, rfl, Lib.hid rfl, Lib.hid (by simp), OG.nil, Y2, Y3, hmy⟩
    case round =>
      clear Y2 Y3 hmy
      obtain ⟨wo, hwo⟩ : ∃ wo, wo = wr := ⟨_, rfl⟩
      subst hwo
      obtain ⟨k, A2, c2, hi2, xs, hk, rfl, HX, HALL, hown, Z2, Z3, hm⟩ := hrel
      have hGo : Gb < wo.heap.size := Z3.1
      have hkr : (k : Int) ≤ rank := by have := HLN.out; omega
      by_cases hlt : k < l.length
      · obtain ⟨Bp, op, Ap, cp, p, he, -, hBp, hp, hcp, hrp⟩ := (hr.mid hm (Or.inl (Nat.zero_le _))).row hlt
        injection he with he
        injection he with he1 he2
        subst he1 he2
        have hpl : p.length ≤ 1048576 := by have := len_le_sumL (List.mem_of_getElem? hp); omega
        have hk1 : (k : Int) < (l.length : Int) := by omega
        have hk2 : (k : Int) < rank := by have := HLN.out; omega
        have hk0 : (0 : Int) ≤ (k : Int) := by omega
        have hBps : B0 < wo.heap.size := by omega
        have HP := Lib.hid hp
        obtain ⟨bp, hbp⟩ := bool_of (IsPerm p)
        have HBP := Lib.hid hbp
        clear hp hbp
        have hIP : ∀ (m : Nat) (os : Array Obj), Calls Tryz.prog 56 #[.slice Ap p.length cp] (wg wo m os) fun e w'' => e = .returned (.bool bp) ∧ ∃ q : GB, w'' = wg wo q.n q.os := fun m os =>
          Calls.wg_of ((spec_IsPermutation Ap p cp _ (wg wo m os) (hrp.mid (Mid.ofWg wo m os) (Or.inl (Nat.zero_le _))).rs hpl bp HBP.out).mono (fun e w' ⟨h1, nd, h2⟩ => ⟨h1, by rw [h2]; exact (Mid.refl 0 0 (wg wo m os)).drewN nd⟩))
        have e0 := wg_cell hBps hcp
        have e1 := wg_cell Z3.1 (Z3.cell 1 rfl)
        cases bp with
        | false =>
          have hno : ¬ GActOk rank l n := fun h => by have := HBP.out.2 (h.all p (List.mem_of_getElem? HP.out)).1; cases this
          go_wp2_with fail
          refine wp_region_quiet_wg (by kernel_rfl) (by kernel_rfl) ?_
          repeat
            (with_reducible refine wpQuiet_step (fun K hK => ?_))
            go_simp
            first
              | ((with_reducible refine hK _ ?_); clear hK K)
              | (rw [if_neg (by decide)]; (with_reducible refine hK _ ?_); clear hK K)
              | (apply Exists.intro; refine ⟨fun _ => ?_, hK _ ?_⟩; ((go_at_call 56; with_reducible exact hIP _ _)); clear hK K)
          with_reducible refine wpQuiet_nil ?_
          intro _ hw'
          obtain ⟨⟨nq, osq⟩, hw''⟩ := hw'
          subst hw''
          have hwg := Mid.ofWg wo nq osq
          generalize wg wo nq osq = w5 at hwg ⊢
          have hm9 := hm.trans hwg
          have Q2 := Z2.mid hwg (Or.inr (Nat.zero_le _))
          clear e0 e1 hIP
          obtain ⟨rfl, rfl, rfl, rfl⟩ := HR.out.no (by rw [HNN.out]; exact hno)
          have z0 := Q2.cell 0 rfl
          have z1 := Q2.cell 1 rfl
          have z2 := Q2.cell 2 rfl
          have zf := Q2.2.2
          go_wp2_with fail
          refine bodyPost_ret (v := .tuple #[.agg #[.int .i64 0, .int .i64 0, .slice none 0 0], .bool false]) (by simp [results, Tryz.results26, go_sem, z0, z1, z2, zf]) rfl ⟨none, 0, rfl, OG.nil, ?_⟩
          repeat (first | exact hm9 | refine Mid.storeNew ?_ (by simp; try omega) _)
        | true =>
        by_cases hpn : p.length = n
        · have dn : ((p.length : Int) != (n : Int)) = false := by rw [hpn]; simp
          have hperm := HBP.out.1 rfl
          have hp40 := hperm.1
          have HPERM := Lib.hid hperm
          have hpl2 : p.length ≤ 40 ∧ (p.length : Int) ≤ n ∧ (n : Int) ≤ p.length := ⟨hp40, by omega, by omega⟩
          have HPN := Lib.hid hpn
          clear hperm hpn
          go_wp2_with fail
          refine wp_region_quiet_wg (by kernel_rfl) (by kernel_rfl) ?_
          repeat
            (with_reducible refine wpQuiet_step (fun K hK => ?_))
            go_simp
            first
              | ((with_reducible refine hK _ ?_); clear hK K)
              | (rw [if_neg (by decide)]; (with_reducible refine hK _ ?_); clear hK K)
              | (apply Exists.intro; refine ⟨fun _ => ?_, hK _ ?_⟩; ((go_at_call 56; with_reducible exact hIP _ _)); clear hK K)
          with_reducible refine wpQuiet_nil ?_
          intro _ hw'
          obtain ⟨⟨nq, osq⟩, hw''⟩ := hw'
          subst hw''
          have hwg := Mid.ofWg wo nq osq
          have hs5 := hwg.size
          generalize wg wo nq osq = w5 at hwg hs5 ⊢
          have Q2 := Z2.mid hwg (Or.inr (Nat.zero_le _))
          have Q3 := Z3.mid hwg (Or.inr (Nat.zero_le _))
          have hown5 := hown.mid hwg (Or.inl (Nat.zero_le _))
          have hrp5 := hrp.mid hwg (Or.inl (Nat.zero_le _))
          have hcp5 := cell_keep hwg hBps (Or.inr (Nat.zero_le _)) hcp
          have hm9 := hm.trans hwg
          clear e0 e1 hIP Z2 Z3 hown hrp hcp hm hwg
          go_wp2_with fail
          go_loopw [8] (fun j wr => ∃ (m : Nat) (A3 : Option Addr) (c3 hi3 : Nat) (ys : List Ed), m ≤ n ∧ j = .int .i64 m ∧ Hid (ys = canon (actEs l k ++ permE ((k : Int) + 1) p m)) ∧
            OG wr (Gb + 1) hi3 A3 c3 ys ∧
            Box wr w.heap.size [.int .i64 0, .int .i64 0, .slice none 0 0] ∧ Box wr Gb [.int .i64 rank, .int .i64 n, .slice A3 ys.length c3] ∧ RV wr lo hi Ap (ints p) ∧ wr.cell? ⟨B0, o0 + k, none⟩ = some (.slice Ap p.length cp) ∧ Mid 0 0 w wr) (fun j _ => n - (intOf j).toNat)
          case atStart => exact ⟨0, A2, c2, hi2, xs, Nat.zero_le _, rfl, Lib.hid (by simpa [permE] using HX.out), hown5, Q2, Q3, hrp5, hcp5, hm9⟩
          case round =>
            clear hown5 Q2 Q3 hrp5 hcp5 hm9 hs5
            obtain ⟨m, A3, c3, hi3, ys, hmp, rfl, HY, hown, Z2, Z3, hrp, hcp, hm⟩ := hrel
            have hyl : ys.length ≤ 1000 := by
              have h1 := canon_len (actEs l k ++ permE ((k : Int) + 1) p m)
              rw [← HY.out, List.length_append, permE_len] at h1
              have h4 : ∀ j, j ≤ k → (actEs l j).length ≤ j * 40 := by
                intro j
                induction j with
                | zero => intro _; simp [actEs]
                | succ j ih =>
                  intro hj
                  have hq := List.getElem?_eq_getElem (l := l) (i := j) (by omega)
                  rw [actEs_succ hq, List.length_append, permE_len, Nat.succ_mul]
                  have h5 := ih (by omega)
                  have h6 := (HALL.out (l[j]'(by omega)) (by rw [List.mem_take_iff_getElem]; exact ⟨j, by omega, rfl⟩)).1.1
                  omega
              have h5 := h4 k (Nat.le_refl _)
              omega
            have z1 := Z3.cell 1 rfl
            have hBws : B0 < wr.heap.size := by have := hm.size; have := hr.size; omega
            by_cases hltm : m < n
            · obtain ⟨Bx, ox, x, rfl, hBx, hx, hcx⟩ := hrp.at (k := m) (by omega)
              have hm1 : (m : Int) < (n : Int) := by omega
              have hmp1 : (m : Int) < (p.length : Int) := by omega
              have hm00 : (0 : Int) ≤ (m : Int) := by omega
              have hpe := permE_succ (x := (k : Int) + 1) hx
              have HPE := Lib.hid hpe
              have hwk : IntKind.i64.wrap ((k : Int) + 1) = (k : Int) + 1 := IntWalk.i64_in _ (by omega)
              have hBxs : Bx < wr.heap.size := by have := hrp.1; omega
              clear hx hpe
              go_wp2_with fail
              have hmd := Mid.drew1 wr
              have U2 := Z2.mid hmd (Or.inr (Nat.zero_le _))
              have U3 := Z3.mid hmd (Or.inr (Nat.zero_le _))
              have hownU := hown.mid hmd (Or.inl (Nat.zero_le _))
              have hrpU := hrp.mid hmd (Or.inl (Nat.zero_le _))
              have hmu := hm.trans hmd
              have hsd := hmd.size
              have g2 := U3.cell 2 rfl
              have f0 := cell_keep hmd hBws (Or.inr (Nat.zero_le _)) hcp
              have f1 := cell_keep hmd hBxs (Or.inr (Nat.zero_le _)) hcx
              clear Z2 Z3 hown hrp hcp hcx hm hmd z1
              refine wp_region_T (S := (fun w' => w'.cell? ⟨Gb, 2, none⟩ = some (.slice A3 ys.length c3) ∧ w'.cell? ⟨B0, o0 + k, none⟩ = some (.slice (some ⟨Bx, ox, none⟩) p.length cp) ∧ w'.cell? ⟨Bx, ox + m, none⟩ = some (.int .i64 x))) 15 (by kernel_rfl) ⟨g2, f0, f1⟩ ?_
              generalize World.drew wr = wz at U2 U3 hownU hrpU hmu hsd f0 f1 g2 ⊢
              have hS : wz.cell? ⟨Gb, 2, none⟩ = some (.slice A3 ys.length c3) ∧ wz.cell? ⟨B0, o0 + k, none⟩ = some (.slice (some ⟨Bx, ox, none⟩) p.length cp) ∧ wz.cell? ⟨Bx, ox + m, none⟩ = some (.int .i64 x) := ⟨g2, f0, f1⟩
              refine wpAnyT_take (i := 0) (v := ?_) rfl (by kernel_rfl) (by kernel_rfl) (by kernel_rfl) (by kernel_rfl) (fun _ _ _ h => h) (Or.inl ⟨by rfl, ?_⟩) hS ?_
              rotate_left
              focus (intro w hSw; (try dsimp only at hSw); go_simp; try with_reducible rfl)
              try simp only [Act.put, List.setIfInBounds_toArray, List.set_cons_zero, List.set_cons_succ, List.getElem_toArray, List.getElem_cons_zero, List.getElem_cons_succ]
              refine wpAnyT_take (i := 1) (v := ?_) rfl (by kernel_rfl) (by kernel_rfl) (by kernel_rfl) (by kernel_rfl) (fun _ _ _ h => h) (Or.inl ⟨by rfl, ?_⟩) hS ?_
              rotate_left
              focus (intro w hSw; (try dsimp only at hSw); go_simp; try with_reducible rfl)
              try simp only [Act.put, List.setIfInBounds_toArray, List.set_cons_zero, List.set_cons_succ, List.getElem_toArray, List.getElem_cons_zero, List.getElem_cons_succ]
              refine wpAnyT_take (i := 2) (v := ?_) rfl (by kernel_rfl) (by kernel_rfl) (by kernel_rfl) (by kernel_rfl) (fun _ _ _ h => h) (Or.inl ⟨by rfl, ?_⟩) hS ?_
              rotate_left
              focus (intro w hSw; (try dsimp only at hSw); go_simp; try with_reducible rfl)
              try simp only [Act.put, List.setIfInBounds_toArray, List.set_cons_zero, List.set_cons_succ, List.getElem_toArray, List.getElem_cons_zero, List.getElem_cons_succ]
              refine wpAnyT_take (i := 3) (v := ?_) rfl (by kernel_rfl) (by kernel_rfl) (by kernel_rfl) (by kernel_rfl) (fun _ _ _ h => h) (Or.inl ⟨by rfl, ?_⟩) hS ?_
              rotate_left
              focus (intro w hSw; (try dsimp only at hSw); go_simp; try with_reducible rfl)
              try simp only [Act.put, List.setIfInBounds_toArray, List.set_cons_zero, List.set_cons_succ, List.getElem_toArray, List.getElem_cons_zero, List.getElem_cons_succ]
              refine wpAnyT_take (i := 4) (v := ?_) rfl (by kernel_rfl) (by kernel_rfl) (by kernel_rfl) (by kernel_rfl) (fun _ _ _ h => h) (Or.inl ⟨by rfl, ?_⟩) hS ?_
              rotate_left
              focus (intro w hSw; (try dsimp only at hSw); go_simp; try with_reducible rfl)
              try simp only [Act.put, List.setIfInBounds_toArray, List.set_cons_zero, List.set_cons_succ, List.getElem_toArray, List.getElem_cons_zero, List.getElem_cons_succ]
              refine wpAnyT_take (i := 5) (v := ?_) rfl (by kernel_rfl) (by kernel_rfl) (by kernel_rfl) (by kernel_rfl) (fun _ _ _ h => h) (Or.inl ⟨by rfl, ?_⟩) hS ?_
              rotate_left
              focus (intro w hSw; (try dsimp only at hSw); go_simp; try with_reducible rfl)
              try simp only [Act.put, List.setIfInBounds_toArray, List.set_cons_zero, List.set_cons_succ, List.getElem_toArray, List.getElem_cons_zero, List.getElem_cons_succ]
              refine wpAnyT_take (i := 6) (v := ?_) rfl (by kernel_rfl) (by kernel_rfl) (by kernel_rfl) (by kernel_rfl) (fun _ _ _ h => h) (Or.inl ⟨by rfl, ?_⟩) hS ?_
              rotate_left
              focus (intro w hSw; (try dsimp only at hSw); go_simp; try with_reducible rfl)
              try simp only [Act.put, List.setIfInBounds_toArray, List.set_cons_zero, List.set_cons_succ, List.getElem_toArray, List.getElem_cons_zero, List.getElem_cons_succ]
              refine wpAnyT_take (i := 7) (v := ?_) rfl (by kernel_rfl) (by kernel_rfl) (by kernel_rfl) (by kernel_rfl) (fun _ _ _ h => h) (Or.inl ⟨by rfl, ?_⟩) hS ?_
              rotate_left
              focus (intro w hSw; (try dsimp only at hSw); go_simp; try with_reducible rfl)
              try simp only [Act.put, List.setIfInBounds_toArray, List.set_cons_zero, List.set_cons_succ, List.getElem_toArray, List.getElem_cons_zero, List.getElem_cons_succ]
              refine wpAnyT_take (i := 8) (v := ?_) rfl (by kernel_rfl) (by kernel_rfl) (by kernel_rfl) (by kernel_rfl) (fun _ _ _ h => h) (Or.inl ⟨by rfl, ?_⟩) hS ?_
              rotate_left
              focus (intro w hSw; (try dsimp only at hSw); go_simp; try with_reducible rfl)
              try simp only [Act.put, List.setIfInBounds_toArray, List.set_cons_zero, List.set_cons_succ, List.getElem_toArray, List.getElem_cons_zero, List.getElem_cons_succ]
              refine wpAnyT_take (i := 9) (v := ?_) rfl (by kernel_rfl) (by kernel_rfl) (by kernel_rfl) (by kernel_rfl) (fun _ _ _ h => h) (Or.inl ⟨by rfl, ?_⟩) hS ?_
              rotate_left
              focus (intro w hSw; (try dsimp only at hSw); go_simp; try with_reducible rfl)
              try simp only [Act.put, List.setIfInBounds_toArray, List.set_cons_zero, List.set_cons_succ, List.getElem_toArray, List.getElem_cons_zero, List.getElem_cons_succ]
              refine wpAnyT_take (i := 10) (v := ?_) rfl (by kernel_rfl) (by kernel_rfl) (by kernel_rfl) (by kernel_rfl) (fun _ _ _ h => h) (Or.inl ⟨by rfl, ?_⟩) hS ?_
              rotate_left
              focus (intro w hSw; (try dsimp only at hSw); go_simp; try with_reducible rfl)
              try simp only [Act.put, List.setIfInBounds_toArray, List.set_cons_zero, List.set_cons_succ, List.getElem_toArray, List.getElem_cons_zero, List.getElem_cons_succ]
              refine wpAnyT_take (i := 11) (v := ?_) rfl (by kernel_rfl) (by kernel_rfl) (by kernel_rfl) (by kernel_rfl) (fun _ _ _ h => h) (Or.inl ⟨by rfl, ?_⟩) hS ?_
              rotate_left
              focus (intro w hSw; (try dsimp only at hSw); go_simp; try with_reducible rfl)
              try simp only [Act.put, List.setIfInBounds_toArray, List.set_cons_zero, List.set_cons_succ, List.getElem_toArray, List.getElem_cons_zero, List.getElem_cons_succ]
              refine wpAnyT_take (i := 12) (v := ?_) rfl (by kernel_rfl) (by kernel_rfl) (by kernel_rfl) (by kernel_rfl) (fun _ _ _ h => h) (Or.inl ⟨by rfl, ?_⟩) hS ?_
              rotate_left
              focus (intro w hSw; (try dsimp only at hSw); go_simp; try with_reducible rfl)
              try simp only [Act.put, List.setIfInBounds_toArray, List.set_cons_zero, List.set_cons_succ, List.getElem_toArray, List.getElem_cons_zero, List.getElem_cons_succ]
              have hP := spec_l4Put A3 ys c3 ⟨(m : Int), (k : Int) + 1, x⟩ wz _ _ hownU.rg (by omega)
              refine wpAnyT_ready (rs := [13]) (by kernel_rfl) (by simp) (AllReadyT.cons rfl (fun K hK => ?_) AllReadyT.nil)
              (go_simp; (with_reducible refine hP.mono ?_); rintro en w9 ⟨A9, c9, rfl, ho9, hm9⟩; have T2' := U2.mid hm9 (Or.inr (Nat.zero_le _)); have T3' := U3.mid hm9 (Or.inr (Nat.zero_le _)); have f0' := cell_keep hm9 (by omega) (Or.inr (Nat.zero_le _)) f0; have f1' := cell_keep hm9 (by omega) (Or.inr (Nat.zero_le _)) f1; go_wp2_with fail)
              refine hK.out _ _ (Or.inr ⟨T3'.cell 2 rfl, f0', f1'⟩) (fun _ => ?_)
              clear hK K
              try simp only [Act.put, List.setIfInBounds_toArray, List.set_cons_zero, List.set_cons_succ, List.getElem_toArray, List.getElem_cons_zero, List.getElem_cons_succ]
              have hmr9 := hmu.trans hm9
              have hrp9 := hrpU.mid hm9 (Or.inl (Nat.zero_le _))
              have hGz : Gb < wz.heap.size := U3.1
              have hS3 := And.intro (T3'.cell 2 rfl) (And.intro f0' f1')
              have hr2 := T3'.cell 2 rfl
              have hrf := T3'.2.2
              clear hS U2 U3 hmu hP hrpU f0 f1 g2
              refine wpAnyT_take (i := 14) (v := ?_) rfl (by kernel_rfl) (by kernel_rfl) (by kernel_rfl) (by kernel_rfl) (fun _ _ _ h => h) (Or.inl ⟨by rfl, ?_⟩) hS3 ?_
              rotate_left
              focus (intro w hSw; (try dsimp only at hSw); go_simp; try with_reducible rfl)
              try simp only [Act.put, List.setIfInBounds_toArray, List.set_cons_zero, List.set_cons_succ, List.getElem_toArray, List.getElem_cons_zero, List.getElem_cons_succ]
              refine wpAnyT_ready (rs := [15]) (by kernel_rfl) (by simp) (AllReadyT.cons rfl (fun K hK => ?_) AllReadyT.nil)
              (go_simp)
              refine hK.out _ _ (Or.inl rfl) (fun _ => ?_)
              clear hK K
              try simp only [Act.put, List.setIfInBounds_toArray, List.set_cons_zero, List.set_cons_succ, List.getElem_toArray, List.getElem_cons_zero, List.getElem_cons_succ]
              refine wpAnyT_done (by kernel_rfl) ?_ _
              go_wp2_with fail
              go_roundw
              case rel =>
                have hst := Mid.setCell w9 (lo := Gb) (hi := Gb + 1) (p := ⟨Gb, 2, none⟩) (.slice A9 (putE ⟨(m : Int), (k : Int) + 1, x⟩ ys).length c9) (Nat.le_refl _) (Nat.lt_succ_self _)
                have hb9 : B0 < w9.heap.size := by have := hm9.size; omega
                refine ⟨m + 1, A9, c9, _, putE ⟨(m : Int), (k : Int) + 1, x⟩ ys, by omega, by go_num, Lib.hid ?_, (ho9.wide (lo' := Gb + 1) hGz (Nat.le_refl _) (Nat.le_refl _)).mid hst (Or.inl (Nat.le_refl _)), T2'.mid hst (Or.inl (by omega)), T3'.set 2 _ (by simp) rfl, hrp9.mid hst (Or.inr (by omega)), cell_keep hst hb9 (Or.inl (by omega)) f0', hmr9.storeNew (by show w.heap.size ≤ Gb; omega) _⟩
                rw [HPE.out, ← List.append_assoc, canon, putAll_snoc, HY.out]
                rfl
              case measure => simp [intOf]; omega
            · obtain rfl : m = n := by omega
              have hae := actEs_succ HP.out
              rw [HPN.out] at hae
              rw [← hae] at HY
              go_wp2_with fail
              go_roundw
              case rel =>
                refine ⟨k + 1, A3, c3, hi3, ys, by omega, by go_num, HY, Lib.hid (fun q hq => ?_), hown, Z2, Z3, hm⟩
                rcases (mem_take_succ HP.out).1 hq with hq | hq
                · exact HALL.out q hq
                · rw [hq]
                  exact ⟨HPERM.out, HPN.out⟩
              case measure => simp [intOf]; omega
        · have dn : ((p.length : Int) != (n : Int)) = true := by rw [bne_iff_ne]; omega
          have hno : ¬ GActOk rank l n := fun h => hpn (h.all p (List.mem_of_getElem? HP.out)).2
          go_wp2_with fail
          refine wp_region_quiet_wg (by kernel_rfl) (by kernel_rfl) ?_
          repeat
            (with_reducible refine wpQuiet_step (fun K hK => ?_))
            go_simp
            first
              | ((with_reducible refine hK _ ?_); clear hK K)
              | (rw [if_neg (by decide)]; (with_reducible refine hK _ ?_); clear hK K)
              | (apply Exists.intro; refine ⟨fun _ => ?_, hK _ ?_⟩; ((go_at_call 56; with_reducible exact hIP _ _)); clear hK K)
          with_reducible refine wpQuiet_nil ?_
          intro _ hw'
          obtain ⟨⟨nq, osq⟩, hw''⟩ := hw'
          subst hw''
          have hwg := Mid.ofWg wo nq osq
          generalize wg wo nq osq = w5 at hwg ⊢
          have hm9 := hm.trans hwg
          have Q2 := Z2.mid hwg (Or.inr (Nat.zero_le _))
          clear e0 e1 hIP
          obtain ⟨rfl, rfl, rfl, rfl⟩ := HR.out.no (by rw [HNN.out]; exact hno)
          have z0 := Q2.cell 0 rfl
          have z1 := Q2.cell 1 rfl
          have z2 := Q2.cell 2 rfl
          have zf := Q2.2.2
          go_wp2_with fail
          refine bodyPost_ret (v := .tuple #[.agg #[.int .i64 0, .int .i64 0, .slice none 0 0], .bool false]) (by simp [results, Tryz.results26, go_sem, z0, z1, z2, zf]) rfl ⟨none, 0, rfl, OG.nil, ?_⟩
          repeat (first | exact hm9 | refine Mid.storeNew ?_ (by simp; try omega) _)
      · obtain rfl : k = l.length := by omega
        rw [List.take_length] at HALL
        have hok : GActOk rank l n := ⟨hrk, HLN.out, by omega, HALL.out⟩
        obtain ⟨rfl, rfl, hrs, hre⟩ := HR.out.yes (by rw [HNN.out]; exact hok)
        rw [HNN.out] at hrs hre
        have hgm := act_gr hok
        have hlr : ¬ (l.length : Int) < rank := by have := HLN.out; omega
        obtain ⟨rn, rfl⟩ : ∃ rn : Nat, rank = rn := ⟨rank.toNat, by omega⟩
        have hms : canon (actEs l l.length) = xs := HX.out.symm
        rw [hms] at hgm hrs hre
        have hx120 := hgm.len
        obtain ⟨q, qs, hQ, -⟩ := nat_gr (coreA_gr (g := ((n : Int), xs)) hgm)
        rw [hQ] at hrs hre
        subst hrs
        subst res
        have d120 : decide (120 < (xs.length : Int)) = false := by simp; omega
        have r0 := Z3.cell 0 rfl
        have r1 := Z3.cell 1 rfl
        have r2 := Z3.cell 2 rfl
        have hP := spec_CoreGraph rn n A2 xs c2 wo _ _ (OG.rg hown) hgm
        rw [hQ] at hP
        dsimp only at hP
        have HPP := Lib.hid hP
        clear hok HR hgm hQ hms hP
        go_wp2_with fail
        with_reducible refine HPP.out.mono ?_
        rintro en w8 ⟨A5, c5, rfl, ho8, hm8⟩
        clear HPP
        have S2 := Z2.mid hm8 (Or.inr (Nat.zero_le _))
        have hm9 := hm.trans hm8
        have hs8 : w.heap.size < wo.heap.size := Z2.1
        clear r0 r1 r2
        have z0 := S2.cell 0 rfl
        have z1 := S2.cell 1 rfl
        have z2 := S2.cell 2 rfl
        have zf := S2.2.2
        go_wp2_with fail
        refine bodyPost_ret (v := .tuple #[.agg #[.int .i64 rn, .int .i64 q, .slice A5 qs.length c5], .bool true]) (by simp [results, Tryz.results26, go_sem, z0, z1, z2, zf]) rfl ⟨A5, c5, rfl, ?_, ?_⟩
        · refine OG.wide (OG.mid ho8 (a := w.heap.size) (b := w.heap.size + 1) ?_ (Or.inl (by omega))) (by omega) (by simp) (Nat.le_refl _)
          repeat (first | exact Mid.refl _ _ _ | refine Mid.stored ?_ _ (by simp; try omega) (by simp; try omega))
        · repeat (first | exact hm9 | refine Mid.storeNew ?_ (by simp; try omega) _)
  · have dl : ((l.length : Int) != rank) = true := by simpa using hln
    have hno : ¬ GActOk rank l (n0L l) := fun h => hln h.ln
    obtain ⟨rfl, rfl, rfl, rfl⟩ := HR.out.no hno
    have z0 := B2.cell 0 rfl
    have z1 := B2.cell 1 rfl
    have z2 := B2.cell 2 rfl
    have zf := B2.2.2
    go_wp2_with fail
    refine bodyPost_ret (v := .tuple #[.agg #[.int .i64 0, .int .i64 0, .slice none 0 0], .bool false]) (by simp [results, Tryz.results26, go_sem, z0, z1, z2, zf]) rfl ⟨none, 0, rfl, OG.nil, ?_⟩
    repeat (first | exact hm0 | refine Mid.storeNew ?_ (by simp; try omega) _)
end Go.Proofs.YtgpljoplnecioaaGreat

/- The law on GraphOfAction: its data. -/
namespace Go.Proofs.YtgpljoplnecioaaGreat
set_option linter.unusedVariables false
open Go.RowKit
def GraphOfActionIs (rank : Int) (l : List (List Int)) (rr0 rs0 : Int) (res0 : List Ed) (res1 : Bool) : Prop := GActIs rank l rr0 rs0 res0 res1
theorem GraphOfActionIs_ex (rank : Int) (l : List (List Int)) (_ : OkSS l) (hl : l.length + sumL l ≤ 1048576) : ∃ rr0 rs0 res0 res1, GraphOfActionIs rank l rr0 rs0 res0 res1 := GActIs_ex rank l
theorem GraphOfActionIs_len {rank : Int} {l : List (List Int)} {rr0 rs0 : Int} {res0 : List Ed} {res1 : Bool} (h : GraphOfActionIs rank l rr0 rs0 res0 res1) (_ : OkSS l) (hl : l.length + sumL l ≤ 1048576) : res0.length ≤ 1048576 := by
  have := GActIs.lens h
  omega
theorem sspec_GraphOfAction (rank : Int) (A : Option Addr) (l : List (List Int)) (c : Nat) (w : World) (_o : (Lit.int .i64 rank).wf = true) (lo hi : Nat) (h1 : OSS w lo hi 35 3 A c l) (_o1 : OkSS l) (hl : l.length + sumL l ≤ 1048576) (rr0 rs0 : Int) (res0 : List Ed) (res1 : Bool) (h : GraphOfActionIs rank l rr0 rs0 res0 res1) :
    Calls Tryz.prog 26 #[.int .i64 rank, .slice A l.length c] w fun e w' => ∃ (A : Option Addr) (c : Nat), e = .returned (.tuple #[.agg #[.int .i64 rr0, .int .i64 rs0, .slice A res0.length c], .bool res1]) ∧ OG w' w.heap.size w'.heap.size A c res0 ∧ Mid 0 0 w w' :=
  spec_GraphOfAction rank A l c w lo hi h1.rss hl _o rr0 rs0 res0 res1 h
theorem simpl_GraphOfAction (rank : Int) (A : Option Addr) (l : List (List Int)) (c : Nat) (w : World) (_o : (Lit.int .i64 rank).wf = true) (lo hi : Nat) (h1 : OSS w lo hi 35 3 A c l) (_o1 : OkSS l) (hl : l.length + sumL l ≤ 1048576) (rr0 rs0 : Int) (res0 : List Ed) (res1 : Bool) (h : GraphOfActionIs rank l rr0 rs0 res0 res1) :
    Calls Tryz.prog 28 #[.int .i64 rank, .slice A l.length c] w fun e w' => ∃ (A : Option Addr) (c : Nat), e = .returned (.tuple #[.agg #[.int .i64 rr0, .int .i64 rs0, .slice A res0.length c], .bool res1]) ∧ OG w' w.heap.size w'.heap.size A c res0 ∧ Mid 0 0 w w' :=
  impl_GraphOfAction rank A l c w lo hi h1.rss hl _o rr0 rs0 res0 res1 h
end Go.Proofs.YtgpljoplnecioaaGreat
