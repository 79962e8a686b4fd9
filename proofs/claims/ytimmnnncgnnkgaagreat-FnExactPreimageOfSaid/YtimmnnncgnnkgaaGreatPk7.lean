/- Contracts and lemmas of this seat, many texts in one: see the words ahead of each. No condition beyond those typed in each lemma. -/
import Derived.Test.YtimmnnncgnnkgaaGreatPk5
import Derived.Test.YtimmnnncgnnkgaaGreatPk1
import Derived.Test.YtimmnnncgnnkgaaGreatPk2
import Derived.Test.YtimmnnncgnnkgaaGreatPk3
import Derived.Test.YtimmnnncgnnkgaaGreatPk6

/- MissingSteps (whether there are some), IsFiniteIndex. -/
namespace Go.Proofs.YtimmnnncgnnkgaaGreat
set_option linter.unusedVariables false
set_option linter.unusedSimpArgs false
open Go.RowKit

/-- Every letter goes on at every vertex. -/
def Full (r n : Nat) (es : List Ed) : Prop := ∀ v : Nat, v < n → ∀ x ∈ lets r, 0 ≤ nextV es v x
/-- The same of the vertices below v, and of the first j letters at v. -/
def FullTo (r : Nat) (es : List Ed) (v j : Nat) : Prop := (∀ u : Nat, u < v → ∀ x ∈ lets r, 0 ≤ nextV es u x) ∧ ∀ x ∈ (lets r).take j, 0 ≤ nextV es v x
theorem FullTo.zero (r : Nat) (es : List Ed) : FullTo r es 0 0 := ⟨fun u h => absurd h (Nat.not_lt_zero _), by simp⟩
theorem FullTo.step {r : Nat} {es : List Ed} {v j : Nat} {x : Int} (hx : (lets r)[j]? = some x) : FullTo r es v (j + 1) ↔ FullTo r es v j ∧ 0 ≤ nextV es v x := by
  unfold FullTo
  rw [take_snocI hx]
  constructor
  · rintro ⟨h1, h2⟩
    exact ⟨⟨h1, fun y hy => h2 y (List.mem_append.2 (.inl hy))⟩, h2 x (by simp)⟩
  · rintro ⟨⟨h1, h2⟩, h3⟩
    refine ⟨h1, fun y hy => ?_⟩
    rcases List.mem_append.1 hy with hy | hy
    · exact h2 y hy
    · simp at hy; subst hy; exact h3
theorem FullTo.row {r : Nat} {es : List Ed} {v : Nat} : FullTo r es v (lets r).length ↔ FullTo r es (v + 1) 0 := by
  unfold FullTo
  rw [List.take_length]
  constructor
  · rintro ⟨h1, h2⟩
    refine ⟨fun u hu x hx => ?_, by simp⟩
    by_cases h : u < v
    · exact h1 u h x hx
    · obtain rfl : u = v := by omega
      exact h2 x hx
  · rintro ⟨h1, -⟩
    exact ⟨fun u hu x hx => h1 u (by omega) x hx, fun x hx => h1 v (by omega) x hx⟩
theorem FullTo.all {r n : Nat} {es : List Ed} : FullTo r es n 0 ↔ Full r n es := ⟨fun h => h.1, fun h => ⟨h, by simp⟩⟩

set_option maxHeartbeats 1600000 in
theorem impl_lettersO (n : Nat) (w : World) (hn : n ≤ 1000) :
    Calls Tryz.prog 124 #[.int .i64 n] w fun e w' => ∃ A c, e = .returned (.slice A (lets n).length c) ∧ w'.ownsRow w.heap.size 3 1 (.slice A (lets n).length c) (lets n).length (ints (lets n)) ∧ Mid 0 0 w w' := by
  have hm0 : Mid 0 0 w (w.alloc (.cells #[] 3)) := Mid.alloc _ _
  have O0 := owns_empty w 3 1
  go_enter Tryz.func124, Tryz.ntmps124
  go_wp2_with fail
  go_loopw [3, 4] (fun out i wr => ∃ (k : Nat) (A1 : Option Addr) (c1 n1 : Nat), k ≤ n ∧ i = .int .i64 ((k : Int) + 1) ∧ out = .slice A1 n1 c1 ∧ Hid ((lets k).length = n1) ∧
      wr.ownsRow w.heap.size 3 1 (.slice A1 n1 c1) n1 (ints (lets k)) ∧ Mid 0 0 w wr ∧ w.heap.size ≤ wr.heap.size) (fun _ i _ => (n + 1 - intOf i).toNat)
  case atStart => exact ⟨0, _, 0, 0, Nat.zero_le _, rfl, rfl, Lib.hid rfl, O0, hm0, hm0.size⟩
  case round =>
    obtain ⟨k, A1, c1, n1, hk, rfl, rfl, HN, hown, hm, hsz⟩ := hrel
    have hn1 : n1 ≤ 2000 := by have h1 := lets_len k; have h2 := HN.out; omega
    by_cases hlt : k < n
    · have hkn : (k : Int) + 1 ≤ n := by omega
      have hk0 : (0 : Int) ≤ (k : Int) := by omega
      have b4 : wrap64 (-((k : Int) + 1)) = -((k : Int) + 1) := by unfold wrap64; omega
      have HW := Lib.hid hown
      clear hown
      go_wp2_with (at_builtin; refine wpList_push rfl _ _ 25 rfl w.heap.size 3 (.int .i64 0) 1 8 undSI infoI rfl (by decide) _ _ _ rfl HW.out 2 [.int .i64 ((k : Int) + 1), .int .i64 (-((k : Int) + 1))] rfl rfl ?c1 ?c2 ?c3 hsz ?next)
      case c1 => exact one_of_ints [(k : Int) + 1, -((k : Int) + 1)]
      case c2 => unfold maxLen; omega
      case c3 => omega
      case next =>
        intro v' w3 hown1 hgr _
        obtain ⟨A3, c3, rfl, -, -⟩ := owns_shape hown1
        have hm3 := Mid.of_grownRow HW.out hgr
        go_wp2_with fail
        go_roundw
        case rel =>
          refine ⟨k + 1, A3, c3, n1 + 2, by omega, by go_num, rfl, Lib.hid (by have := HN.out; simp [lets]; omega), ?_, hm.transNew hm3 (Or.inl (Nat.le_refl _)), Nat.le_trans hsz hm3.size⟩
          rw [lets, ints_append]
          exact hown1
        case measure => simp [intOf]; omega
    · obtain rfl : k = n := by omega
      have hx := HN.out
      have hsz2 := hm.size
      go_wp2_with fail
      go_ret
      exact ⟨_, _, (by rw [hx]; rfl), (by rw [hx]; exact hown), hm⟩

set_option maxHeartbeats 1600000 in
theorem spec_l5LettersO (n : Nat) (w : World) (hn : n ≤ 1000) :
    Calls Tryz.prog 126 #[.int .i64 n] w fun e w' => ∃ A c, e = .returned (.slice A (lets n).length c) ∧ w'.ownsRow w.heap.size 3 1 (.slice A (lets n).length c) (lets n).length (ints (lets n)) ∧ Mid 0 0 w w' := by
  have hm0 : Mid 0 0 w (w.alloc (.cells #[] 3)) := Mid.alloc _ _
  have O0 := owns_empty w 3 1
  go_enter Tryz.func126, Tryz.ntmps126
  go_wp2_with fail
  go_loopw [3, 4] (fun out i wr => ∃ (k : Nat) (A1 : Option Addr) (c1 n1 : Nat), k ≤ n ∧ i = .int .i64 ((k : Int) + 1) ∧ out = .slice A1 n1 c1 ∧ Hid ((lets k).length = n1) ∧
      wr.ownsRow w.heap.size 3 1 (.slice A1 n1 c1) n1 (ints (lets k)) ∧ Mid 0 0 w wr ∧ w.heap.size ≤ wr.heap.size) (fun _ i _ => (n + 1 - intOf i).toNat)
  case atStart => exact ⟨0, _, 0, 0, Nat.zero_le _, rfl, rfl, Lib.hid rfl, O0, hm0, hm0.size⟩
  case round =>
    obtain ⟨k, A1, c1, n1, hk, rfl, rfl, HN, hown, hm, hsz⟩ := hrel
    have hn1 : n1 ≤ 2000 := by have h1 := lets_len k; have h2 := HN.out; omega
    by_cases hlt : k < n
    · have hkn : (k : Int) + 1 ≤ n := by omega
      have hk0 : (0 : Int) ≤ (k : Int) := by omega
      have b4 : wrap64 (-((k : Int) + 1)) = -((k : Int) + 1) := by unfold wrap64; omega
      have HW := Lib.hid hown
      clear hown
      go_wp2_with (first | (at_builtin; refine wpList_pushI rfl _ _ rfl w.heap.size A1 n1 c1 (lets k) rfl HW.out ((k : Int) + 1) rfl (by omega) hsz ?_; intro A2 c2 w2 hown2 hm2; have hsz2 := Nat.le_trans hsz hm2.size; have HW2 := Lib.hid hown2; clear hown2) | (at_builtin; refine wpList_pushI rfl _ _ rfl w.heap.size A2 (n1 + 1) c2 (lets k ++ [(k : Int) + 1]) rfl HW2.out (-((k : Int) + 1)) rfl (by omega) hsz2 ?_; intro A3 c3 w3 hown3 hm3))
      go_roundw
      case rel =>
        refine ⟨k + 1, A3, c3, n1 + 1 + 1, by omega, by go_num, rfl, Lib.hid (by have := HN.out; simp [lets]; omega), ?_, (hm.transNew hm2 (Or.inl (Nat.le_refl _))).transNew hm3 (Or.inl (Nat.le_refl _)), Nat.le_trans hsz2 hm3.size⟩
        rw [List.append_assoc] at hown3
        exact hown3
      case measure => simp [intOf]; omega
    · obtain rfl : k = n := by omega
      have hx := HN.out
      have hsz2 := hm.size
      go_wp2_with fail
      go_ret
      exact ⟨_, _, (by rw [hx]; rfl), (by rw [hx]; exact hown), hm⟩

set_option maxHeartbeats 6400000 in
set_option maxRecDepth 20000 in
theorem impl_MissingSteps (r n : Nat) (A : Option Addr) (es : List Ed) (c : Nat) (w : World) (lo hi : Nat) (hr : RG w lo hi A es) (hcl : es.length ≤ c) (hf : IsFol r n es) :
    Calls Tryz.prog 83 #[graV r n A es.length c] w fun e w' => ∃ A1 n1 c1, e = .returned (.slice A1 n1 c1) ∧ (n1 = 0 ↔ Full r n es) ∧ Mid 0 0 w w' := by
  have hg := hf.gr
  have hn40 : n ≤ 40 := by have := hg.size; omega
  have hr3 : r ≤ 3 := by have := hg.rank; omega
  have hl := hg.len
  have HGL := Lib.hid (show ∀ e ∈ es, 1 ≤ e.l ∧ e.l ≤ 3 from fun e he => by have := hg.all e he; unfold InG at this; omega)
  have HF := Lib.hid hf
  have hm0 : Mid 0 0 w ((w.alloc (.cells #[.int .i64 r, .int .i64 n, .slice A es.length c] 29)).alloc (.cells #[] 78)) := (Mid.alloc _ _).trans (Mid.alloc _ _)
  have b0 := (Box.new w #[.int .i64 r, .int .i64 n, .slice A es.length c] 29).mid (Mid.alloc _ (.cells #[] 78)) (Or.inr (Nat.zero_le _))
  have O0 := owns_empty (w.alloc (.cells #[.int .i64 r, .int .i64 n, .slice A es.length c] 29)) 78 3
  rw [World.size_alloc] at O0
  clear hf hg
  go_enter Tryz.func83, Tryz.ntmps83
  go_wp2_with fail
  with_reducible refine (impl_IsFolded r n A es c _ _ _ (hr.mid hm0 (Or.inl (Nat.zero_le _))) (by omega) hcl true (iff_of_true rfl HF.out)).mono ?_
  rintro en w1 ⟨rfl, hm1⟩
  replace b0 := b0.mid hm1 (Or.inr (Nat.zero_le _))
  replace O0 := owns_mid O0 hm1 (Or.inl (Nat.zero_le _))
  replace hm0 := hm0.trans hm1
  clear hm1
  go_wp2_with fail
  go_loopw [3, 4] (fun out vv wr => ∃ (v : Nat) (A1 : Option Addr) (n1 c1 : Nat) (fs : List Ed), v ≤ n ∧ vv = .int .i64 v ∧ out = .slice A1 n1 c1 ∧ n1 ≤ 6 * v ∧ Hid (n1 = 0 ↔ FullTo r es v 0) ∧ wr.ownsRow (w.heap.size + 1) 78 3 (.slice A1 n1 c1) n1 (ints (edI fs)) ∧
      Box wr w.heap.size [.int .i64 r, .int .i64 n, .slice A es.length c] ∧ Mid 0 0 w wr) (fun _ v _ => n - (intOf v).toNat)
  case atStart => exact ⟨0, _, 0, 0, [], Nat.zero_le _, rfl, rfl, Nat.le_refl _, Lib.hid (iff_of_true rfl (FullTo.zero r es)), O0, b0, hm0⟩
  case round =>
    clear O0 b0 hm0
    obtain ⟨wo, hwo⟩ : ∃ wo, wo = wr := ⟨_, rfl⟩
    subst hwo
    obtain ⟨v, A1, n1, c1, fs, hv, rfl, rfl, hn1, HQ, hout, b0, hm⟩ := hrel
    have p0 := b0.cell 0 rfl
    have p1 := b0.cell 1 rfl
    have p2 := b0.cell 2 rfl
    by_cases hlt : v < n
    · have hv3 : (v : Int) < (n : Int) := by omega
      have hv0 : (0 : Int) ≤ (v : Int) := by omega
      go_wp2_with fail
      with_reducible refine (impl_lettersO r _ (by omega)).mono ?_
      rintro en w4 ⟨A4, c4, rfl, hL4, hm4⟩
      have hwo1 : w.heap.size < wo.heap.size := b0.1
      replace b0 := b0.mid hm4 (Or.inr (Nat.zero_le _))
      replace hout := owns_mid hout hm4 (Or.inl (Nat.zero_le _))
      replace hm := hm.trans hm4
      clear p0 p1 p2 hm4
      have HLL := Lib.hid (lets_len r)
      obtain ⟨LL, hLL⟩ : ∃ LL, (lets r).length = LL := ⟨_, rfl⟩
      have hLL6 : LL ≤ 6 := by have := HLL.out; omega
      rw [hLL] at hL4 ⊢
      have HLn := Lib.hid hLL
      clear hLL
      go_wp2_with fail
      go_loopw [3, 22] (fun out jv wr => ∃ (j : Nat) (A1 : Option Addr) (n1 c1 : Nat) (fs : List Ed), j ≤ LL ∧ jv = .int .i64 j ∧ out = .slice A1 n1 c1 ∧ n1 ≤ 6 * v + j ∧ Hid (n1 = 0 ↔ FullTo r es v j) ∧ wr.ownsRow (w.heap.size + 1) 78 3 (.slice A1 n1 c1) n1 (ints (edI fs)) ∧
          Hid (wr.ownsRow wo.heap.size 3 1 (.slice A4 LL c4) LL (ints (lets r))) ∧ Box wr w.heap.size [.int .i64 r, .int .i64 n, .slice A es.length c] ∧ Mid 0 0 w wr) (fun _ j _ => LL - (intOf j).toNat)
      case atStart => exact ⟨0, A1, n1, c1, fs, Nat.zero_le _, rfl, rfl, hn1, HQ, hout, Lib.hid hL4, b0, hm⟩
      case round =>
        clear hout hL4 b0 hm HQ
        obtain ⟨j, A1, n1, c1, fs, hj, rfl, rfl, hn1, HQ, hout, HL4, b0, hm⟩ := hrel
        by_cases hlt2 : j < LL
        · obtain ⟨B4, o4, x, rfl, hB4, hx, hcx⟩ := (owns_rv HL4.out).at (k := j) (by rw [HLn.out]; exact hlt2)
          have hxm := lets_le (List.mem_of_getElem? hx)
          have HST := Lib.hid (FullTo.step (es := es) (v := v) hx)
          have hj1 : (j : Int) < (LL : Int) := by omega
          have hj0 : (0 : Int) ≤ (j : Int) := by omega
          have hcs := nextV_cases HF.out.gr.all (v : Int) x
          have p0 := b0.cell 0 rfl
          have p1 := b0.cell 1 rfl
          have p2 := b0.cell 2 rfl
          clear hx
          go_wp2_with fail
          with_reducible refine (impl_NextVertex r n A es c v x _ lo hi (hr.mid hm (Or.inl (Nat.zero_le _))) (by omega) HGL.out (by omega) (by omega)).mono ?_
          rintro en w6 ⟨rfl, hm6⟩
          replace b0 := b0.mid hm6 (Or.inr (Nat.zero_le _))
          replace hout := owns_mid hout hm6 (Or.inl (Nat.zero_le _))
          replace hm := hm.trans hm6
          have hL6 := Lib.hid (owns_mid HL4.out hm6 (Or.inl (Nat.zero_le _)))
          generalize htx : nextV es (v : Int) x = t at hcs ⊢
          rw [htx] at HST
          clear p0 p1 p2 hcx htx HL4 hm6
          by_cases ht : t < 0
          · have d1 : decide (t < 0) = true := by simpa using ht
            have HNF : Hid (n1 + 1 = 0 ↔ FullTo r es v (j + 1)) := Lib.hid (iff_of_false (by omega) fun h => by have := (HST.out.1 h).2; omega)
            have HO := Lib.hid hout
            have hsz : w.heap.size + 1 ≤ w6.heap.size := b0.1
            clear ht hcs hout
            go_wp2_with (at_builtin; refine wpList_pushE2 rfl _ _ rfl (w.heap.size + 1) A1 n1 c1 fs rfl HO.out ⟨v, x, -1⟩ rfl (by omega) hsz ?_; intro A9 c9 w9 ho9 hgr9 hat9)
            clear hat9
            have hm9 := Mid.of_grownRow HO.out hgr9
            have hL9 := hL6.out.kept hgr9 (owns_ne hL6.out HO.out (by decide))
            go_roundw
            case rel => exact ⟨j + 1, A9, n1 + 1, c9, _, by omega, by go_num, rfl, by omega, HNF, ho9, Lib.hid hL9, b0.mid hm9 (Or.inl (Nat.lt_succ_self _)), hm.transNew hm9 (Or.inl (Nat.le_succ _))⟩
            case measure => simp [intOf]; omega
          · have d1 : decide (t < 0) = false := by simpa using ht
            have HNF : Hid (n1 = 0 ↔ FullTo r es v (j + 1)) := Lib.hid (HQ.out.trans ⟨fun h => HST.out.2 ⟨h, by omega⟩, fun h => (HST.out.1 h).1⟩)
            clear ht hcs
            go_wp2_with fail
            go_roundw
            case rel => exact ⟨j + 1, A1, n1, c1, fs, by omega, by go_num, rfl, by omega, HNF, hout, hL6, b0, hm⟩
            case measure => simp [intOf]; omega
        · obtain rfl : j = LL := by omega
          have HNF : Hid (n1 = 0 ↔ FullTo r es (v + 1) 0) := Lib.hid (by rw [HQ.out, ← HLn.out]; exact FullTo.row)
          go_wp2_with fail
          go_roundw
          case rel => exact ⟨v + 1, A1, n1, c1, fs, by omega, by go_num, rfl, by omega, HNF, hout, b0, hm⟩
          case measure => simp [intOf]; omega
    · obtain rfl : v = n := by omega
      have hres := HQ.out.trans FullTo.all
      have HRES := Lib.hid hres
      clear hres
      go_wp2_with fail
      go_ret
      exact ⟨_, n1, _, rfl, HRES.out, hm⟩

set_option maxHeartbeats 6400000 in
set_option maxRecDepth 20000 in
theorem spec_MissingSteps (r n : Nat) (A : Option Addr) (es : List Ed) (c : Nat) (w : World) (lo hi : Nat) (hr : RG w lo hi A es) (hf : IsFol r n es) :
    Calls Tryz.prog 78 #[graV r n A es.length c] w fun e w' => ∃ A1 n1 c1, e = .returned (.slice A1 n1 c1) ∧ (n1 = 0 ↔ Full r n es) ∧ Mid 0 0 w w' := by
  have hg := hf.gr
  have hn40 : n ≤ 40 := by have := hg.size; omega
  have hr3 : r ≤ 3 := by have := hg.rank; omega
  have hl := hg.len
  have HGL := Lib.hid (show ∀ e ∈ es, 1 ≤ e.l ∧ e.l ≤ 3 from fun e he => by have := hg.all e he; unfold InG at this; omega)
  have HF := Lib.hid hf
  have hm0 : Mid 0 0 w ((w.alloc (.cells #[.int .i64 r, .int .i64 n, .slice A es.length c] 29)).alloc (.cells #[] 78)) := (Mid.alloc _ _).trans (Mid.alloc _ _)
  have b0 := (Box.new w #[.int .i64 r, .int .i64 n, .slice A es.length c] 29).mid (Mid.alloc _ (.cells #[] 78)) (Or.inr (Nat.zero_le _))
  have O0 := owns_empty (w.alloc (.cells #[.int .i64 r, .int .i64 n, .slice A es.length c] 29)) 78 3
  rw [World.size_alloc] at O0
  clear hf hg
  go_enter Tryz.func78, Tryz.ntmps78
  go_wp2_with fail
  go_loopw [3, 4] (fun out vv wr => ∃ (v : Nat) (A1 : Option Addr) (n1 c1 : Nat) (fs : List Ed), v ≤ n ∧ vv = .int .i64 v ∧ out = .slice A1 n1 c1 ∧ n1 ≤ 6 * v ∧ Hid (n1 = 0 ↔ FullTo r es v 0) ∧ wr.ownsRow (w.heap.size + 1) 78 3 (.slice A1 n1 c1) n1 (ints (edI fs)) ∧
      Box wr w.heap.size [.int .i64 r, .int .i64 n, .slice A es.length c] ∧ Mid 0 0 w wr) (fun _ v _ => n - (intOf v).toNat)
  case atStart => exact ⟨0, _, 0, 0, [], Nat.zero_le _, rfl, rfl, Nat.le_refl _, Lib.hid (iff_of_true rfl (FullTo.zero r es)), O0, b0, hm0⟩
  case round =>
    clear O0 b0 hm0
    obtain ⟨wo, hwo⟩ : ∃ wo, wo = wr := ⟨_, rfl⟩
    subst hwo
    obtain ⟨v, A1, n1, c1, fs, hv, rfl, rfl, hn1, HQ, hout, b0, hm⟩ := hrel
    have p0 := b0.cell 0 rfl
    have p1 := b0.cell 1 rfl
    have p2 := b0.cell 2 rfl
    by_cases hlt : v < n
    · have hv3 : (v : Int) < (n : Int) := by omega
      have hv0 : (0 : Int) ≤ (v : Int) := by omega
      go_wp2_with fail
      with_reducible refine (spec_IsFolded r n A es c _ _ _ (hr.mid hm (Or.inl (Nat.zero_le _))) (by omega) true (iff_of_true rfl HF.out)).mono ?_
      rintro en w3 ⟨rfl, hm3⟩
      have hwo1 : w.heap.size < wo.heap.size := b0.1
      replace b0 := b0.mid hm3 (Or.inr (Nat.zero_le _))
      replace hout := owns_mid hout hm3 (Or.inl (Nat.zero_le _))
      replace hm := hm.trans hm3
      have hwo3 := hm3.size
      clear p0 p1 p2 hm3
      have p0 := b0.cell 0 rfl
      have p1 := b0.cell 1 rfl
      have p2 := b0.cell 2 rfl
      go_wp2_with fail
      with_reducible refine (spec_l5LettersO r _ (by omega)).mono ?_
      rintro en w4 ⟨A4, c4, rfl, hL4, hm4⟩
      replace hL4 := owns_base hL4 hwo3
      replace b0 := b0.mid hm4 (Or.inr (Nat.zero_le _))
      replace hout := owns_mid hout hm4 (Or.inl (Nat.zero_le _))
      replace hm := hm.trans hm4
      clear p0 p1 p2 hm4
      have HLL := Lib.hid (lets_len r)
      obtain ⟨LL, hLL⟩ : ∃ LL, (lets r).length = LL := ⟨_, rfl⟩
      have hLL6 : LL ≤ 6 := by have := HLL.out; omega
      rw [hLL] at hL4 ⊢
      have HLn := Lib.hid hLL
      clear hLL
      go_wp2_with fail
      go_loopw [3, 6] (fun out jv wr => ∃ (j : Nat) (A1 : Option Addr) (n1 c1 : Nat) (fs : List Ed), j ≤ LL ∧ jv = .int .i64 j ∧ out = .slice A1 n1 c1 ∧ n1 ≤ 6 * v + j ∧ Hid (n1 = 0 ↔ FullTo r es v j) ∧ wr.ownsRow (w.heap.size + 1) 78 3 (.slice A1 n1 c1) n1 (ints (edI fs)) ∧
          Hid (wr.ownsRow wo.heap.size 3 1 (.slice A4 LL c4) LL (ints (lets r))) ∧ Box wr w.heap.size [.int .i64 r, .int .i64 n, .slice A es.length c] ∧ Mid 0 0 w wr) (fun _ j _ => LL - (intOf j).toNat)
      case atStart => exact ⟨0, A1, n1, c1, fs, Nat.zero_le _, rfl, rfl, hn1, HQ, hout, Lib.hid hL4, b0, hm⟩
      case round =>
        clear hout hL4 b0 hm HQ
        obtain ⟨j, A1, n1, c1, fs, hj, rfl, rfl, hn1, HQ, hout, HL4, b0, hm⟩ := hrel
        by_cases hlt2 : j < LL
        · obtain ⟨B4, o4, x, rfl, hB4, hx, hcx⟩ := (owns_rv HL4.out).at (k := j) (by rw [HLn.out]; exact hlt2)
          have hxm := lets_le (List.mem_of_getElem? hx)
          have HST := Lib.hid (FullTo.step (es := es) (v := v) hx)
          have HX := Lib.hid hx
          have hj1 : (j : Int) < (LL : Int) := by omega
          have hj0 : (0 : Int) ≤ (j : Int) := by omega
          have hcs := nextV_cases HF.out.gr.all (v : Int) x
          have k0 := wg_cell b0.1 (b0.cell 0 rfl)
          have k1 := wg_cell b0.1 (b0.cell 1 rfl)
          have k2 := wg_cell b0.1 (b0.cell 2 rfl)
          have k4 := wg_cell hB4 hcx
          have hA := fun m os => spec_NextVertex r n A es c v x (wg wr m os) lo hi (hr.mid (hm.trans (Mid.ofWg wr m os)) (Or.inl (Nat.zero_le _))) (by omega) HGL.out (by omega) (by omega)
          clear hx
          go_wp2_with fail
          refine wp_region_quiet_wg (by kernel_rfl) (by kernel_rfl) ?_
          repeat
            (with_reducible refine wpQuiet_step (fun K hK => ?_))
            go_simp
            first
              | ((with_reducible refine hK _ ?_); clear hK K)
              | (rw [if_neg (by decide)]; (with_reducible refine hK _ ?_); clear hK K)
              | (apply Exists.intro; refine ⟨fun _ => ?_, hK _ ?_⟩; ((go_at_call 93; exact Calls.wg_of (hA _ _))); clear hK K)
          with_reducible refine wpQuiet_nil ?_
          intro _ hw'
          obtain ⟨⟨nq, osq⟩, hw''⟩ := hw'
          subst hw''
          have hwg := Mid.ofWg wr nq osq
          have hcx6 := k4 nq osq
          have hB6 := Nat.lt_of_lt_of_le hB4 hwg.size
          generalize wg wr nq osq = w6 at hwg hcx6 hB6 ⊢
          replace b0 := b0.mid hwg (Or.inr (Nat.zero_le _))
          replace hout := owns_mid hout hwg (Or.inl (Nat.zero_le _))
          replace hm := hm.trans hwg
          have hL6 := Lib.hid (owns_mid HL4.out hwg (Or.inl (Nat.zero_le _)))
          generalize htx : nextV es (v : Int) x = t at hcs ⊢
          rw [htx] at HST
          clear k0 k1 k2 k4 hcx htx HL4 hA hwg
          by_cases ht : t < 0
          · have d1 : decide (t < 0) = true := by simpa using ht
            have HNF : Hid (n1 + 1 = 0 ↔ FullTo r es v (j + 1)) := Lib.hid (iff_of_false (by omega) fun h => by have := (HST.out.1 h).2; omega)
            have HO := Lib.hid hout
            have hsz : w.heap.size + 1 ≤ w6.heap.size := b0.1
            try simp only [d1]
            clear hcs hout
            go_wp2_with (at_builtin; refine wpList_pushE2 rfl _ _ rfl (w.heap.size + 1) A1 n1 c1 fs rfl HO.out ⟨v, x, -1⟩ rfl (by omega) hsz ?_; intro A9 c9 w9 ho9 hgr9 hat9)
            clear hat9
            have hm9 := Mid.of_grownRow HO.out hgr9
            have hL9 := hL6.out.kept hgr9 (owns_ne hL6.out HO.out (by decide))
            go_roundw
            case rel => exact ⟨j + 1, A9, n1 + 1, c9, _, by omega, by go_num, rfl, by omega, HNF, ho9, Lib.hid hL9, b0.mid hm9 (Or.inl (Nat.lt_succ_self _)), hm.transNew hm9 (Or.inl (Nat.le_succ _))⟩
            case measure => simp [intOf]; omega
          · have d1 : decide (t < 0) = false := by simpa using ht
            have HNF : Hid (n1 = 0 ↔ FullTo r es v (j + 1)) := Lib.hid (HQ.out.trans ⟨fun h => HST.out.2 ⟨h, by omega⟩, fun h => (HST.out.1 h).1⟩)
            try simp only [d1]
            clear hcs
            go_wp2_with fail
            go_roundw
            case rel => exact ⟨j + 1, _, n1, c1, fs, by omega, by go_num, rfl, by omega, HNF, hout, hL6, b0, hm⟩
            case measure => simp [intOf]; omega
        · obtain rfl : j = LL := by omega
          have HNF : Hid (n1 = 0 ↔ FullTo r es (v + 1) 0) := Lib.hid (by rw [HQ.out, ← HLn.out]; exact FullTo.row)
          go_wp2_with fail
          go_roundw
          case rel => exact ⟨v + 1, A1, n1, c1, fs, by omega, by go_num, rfl, by omega, HNF, hout, b0, hm⟩
          case measure => simp [intOf]; omega
    · obtain rfl : v = n := by omega
      have hres := HQ.out.trans FullTo.all
      have HRES := Lib.hid hres
      clear hres
      go_wp2_with fail
      go_ret
      exact ⟨_, n1, _, rfl, HRES.out, hm⟩

/-- A subgroup of finite index. -/
structure IsFin (r s : Int) (es : List Ed) : Prop where
  cor : IsCor r s es
  full : Full r.toNat s.toNat es

set_option maxHeartbeats 1600000 in
theorem impl_IsFiniteIndex (r s : Int) (A : Option Addr) (es : List Ed) (c : Nat) (w : World) (lo hi : Nat) (hr : RG w lo hi A es) (hl : es.length ≤ 1048576) (hcl : es.length ≤ c) (b : Bool) (hb : b = true ↔ IsFin r s es) :
    Calls Tryz.prog 47 #[graV r s A es.length c] w fun e w' => e = .returned (.bool b) ∧ Mid 0 0 w w' := by
  have HB := Lib.hid hb
  clear hb
  have hm0 : Mid 0 0 w (w.alloc (.cells #[.int .i64 r, .int .i64 s, .slice A es.length c] 29)) := Mid.alloc _ _
  have b0 := Box.new w #[.int .i64 r, .int .i64 s, .slice A es.length c] 29
  by_cases h : IsCor r s es
  · obtain ⟨r, n, rfl, rfl⟩ := h.gr.nat
    have HC := Lib.hid h
    clear h
    go_enter Tryz.func47, Tryz.ntmps47
    go_wp2_with fail
    with_reducible refine (impl_IsCore r n A es c _ _ _ (hr.mid hm0 (Or.inl (Nat.zero_le _))) hl hcl true (iff_of_true rfl HC.out)).mono ?_
    rintro en w1 ⟨rfl, hm1⟩
    replace b0 := b0.mid hm1 (Or.inr (Nat.zero_le _))
    replace hm0 := hm0.trans hm1
    have p0 := b0.cell 0 rfl
    have p1 := b0.cell 1 rfl
    have p2 := b0.cell 2 rfl
    go_wp2_with fail
    with_reducible refine (impl_MissingSteps r n A es c _ _ _ (hr.mid hm0 (Or.inl (Nat.zero_le _))) hcl HC.out.fol).mono ?_
    rintro en w2 ⟨A2, n2, c2, rfl, hn2, hm2⟩
    have hbn : b = true ↔ n2 = 0 := by
      rw [HB.out, hn2]
      exact ⟨fun h => h.full, fun h => ⟨HC.out, h⟩⟩
    have hmm := hm0.trans hm2
    clear hn2 HB
    by_cases h0 : n2 = 0
    · obtain rfl : b = true := hbn.2 h0
      subst h0
      go_wp2_with fail
      go_ret
      exact ⟨rfl, hmm⟩
    · obtain rfl : b = false := bool_no hbn h0
      have d1 : ((n2 : Int) == 0) = false := by simp only [beq_eq_false_iff_ne]; omega
      clear hbn
      go_wp2_with fail
      go_ret
      exact ⟨rfl, hmm⟩
  · obtain rfl : b = false := bool_no HB.out fun h' => h h'.cor
    have HC := Lib.hid h
    clear h HB
    go_enter Tryz.func47, Tryz.ntmps47
    go_wp2_with fail
    with_reducible refine (impl_IsCore r s A es c _ _ _ (hr.mid hm0 (Or.inl (Nat.zero_le _))) hl hcl false (iff_of_false Bool.false_ne_true HC.out)).mono ?_
    rintro en w1 ⟨rfl, hm1⟩
    go_wp2_with fail
    go_ret
    exact ⟨rfl, hm0.trans hm1⟩

set_option maxHeartbeats 1600000 in
theorem spec_IsFiniteIndex (r s : Int) (A : Option Addr) (es : List Ed) (c : Nat) (w : World) (lo hi : Nat) (hr : RG w lo hi A es) (hl : es.length ≤ 1048576) (b : Bool) (hb : b = true ↔ IsFin r s es) :
    Calls Tryz.prog 43 #[graV r s A es.length c] w fun e w' => e = .returned (.bool b) ∧ Mid 0 0 w w' := by
  have HB := Lib.hid hb
  clear hb
  have hm0 : Mid 0 0 w (w.alloc (.cells #[.int .i64 r, .int .i64 s, .slice A es.length c] 29)) := Mid.alloc _ _
  have b0 := Box.new w #[.int .i64 r, .int .i64 s, .slice A es.length c] 29
  by_cases h : IsCor r s es
  · obtain ⟨r, n, rfl, rfl⟩ := h.gr.nat
    have HC := Lib.hid h
    clear h
    go_enter Tryz.func43, Tryz.ntmps43
    go_wp2_with fail
    with_reducible refine (spec_IsSubgroup r n A es c _ _ _ (hr.mid hm0 (Or.inl (Nat.zero_le _))) hl true (iff_of_true rfl HC.out)).mono ?_
    rintro en w1 ⟨rfl, hm1⟩
    replace b0 := b0.mid hm1 (Or.inr (Nat.zero_le _))
    replace hm0 := hm0.trans hm1
    have p0 := b0.cell 0 rfl
    have p1 := b0.cell 1 rfl
    have p2 := b0.cell 2 rfl
    go_wp2_with fail
    with_reducible refine (spec_MissingSteps r n A es c _ _ _ (hr.mid hm0 (Or.inl (Nat.zero_le _))) HC.out.fol).mono ?_
    rintro en w2 ⟨A2, n2, c2, rfl, hn2, hm2⟩
    have hbn : b = true ↔ n2 = 0 := by
      rw [HB.out, hn2]
      exact ⟨fun h => h.full, fun h => ⟨HC.out, h⟩⟩
    have hmm := hm0.trans hm2
    clear hn2 HB
    by_cases h0 : n2 = 0
    · obtain rfl : b = true := hbn.2 h0
      subst h0
      go_wp2_with fail
      go_ret
      exact ⟨rfl, hmm⟩
    · obtain rfl : b = false := bool_no hbn h0
      have d1 : ((n2 : Int) == 0) = false := by simp only [beq_eq_false_iff_ne]; omega
      clear hbn
      go_wp2_with fail
      go_ret
      exact ⟨rfl, hmm⟩
  · obtain rfl : b = false := bool_no HB.out fun h' => h h'.cor
    have HC := Lib.hid h
    clear h HB
    go_enter Tryz.func43, Tryz.ntmps43
    go_wp2_with fail
    with_reducible refine (spec_IsSubgroup r s A es c _ _ _ (hr.mid hm0 (Or.inl (Nat.zero_le _))) hl false (iff_of_false Bool.false_ne_true HC.out)).mono ?_
    rintro en w1 ⟨rfl, hm1⟩
    go_wp2_with fail
    go_ret
    exact ⟨rfl, hm0.trans hm1⟩
end Go.Proofs.YtimmnnncgnnkgaaGreat

/- ActionOf, of both, and the law's data. -/
namespace Go.Proofs.YtimmnnncgnnkgaaGreat
set_option linter.unusedVariables false
set_option linter.unusedSimpArgs false
open Go.RowKit

/-- Where the letter x leads from each vertex; for all letters up to k. -/
def rowL (n : Nat) (es : List Ed) (x : Int) : List Int := (List.range n).map fun (v : Nat) => nextV es (v : Int) x
def actL (n : Nat) (es : List Ed) (k : Nat) : List (List Int) := (List.range k).map fun (i : Nat) => rowL n es ((i : Int) + 1)
theorem rowL_len (n : Nat) (es : List Ed) (x : Int) : (rowL n es x).length = n := by simp [rowL]
theorem rowL_succ (n : Nat) (es : List Ed) (x : Int) : rowL (n + 1) es x = rowL n es x ++ [nextV es (n : Int) x] := by simp [rowL, List.range_succ]
theorem actL_len (n : Nat) (es : List Ed) (k : Nat) : (actL n es k).length = k := by simp [actL]
theorem actL_succ (n : Nat) (es : List Ed) (k : Nat) : actL n es (k + 1) = actL n es k ++ [rowL n es ((k : Int) + 1)] := by simp [actL, List.range_succ]
theorem actL_sum (n : Nat) (es : List Ed) (k : Nat) : sumL (actL n es k) = k * n := by
  induction k with
  | zero => simp [actL, sumL]
  | succ k ih => rw [actL_succ, sumL_append, ih, sumL_one, rowL_len, Nat.succ_mul]

open Classical in
noncomputable def actI (r s : Int) (es : List Ed) : List (List Int) := if IsFin r s es then actL s.toNat es r.toNat else []
def ActionOfIs (r0 s0 : Int) (d0 : List Ed) (res0 : List (List Int)) : Prop := res0 = actI r0 s0 d0
theorem ActionOfIs_ex (r0 s0 : Int) (d0 : List Ed) (hl0 : d0.length ≤ 1048576) : ∃ res0, ActionOfIs r0 s0 d0 res0 := ⟨_, rfl⟩
theorem ActionOfIs_len {r0 s0 : Int} {d0 : List Ed} {res0 : List (List Int)} (h : ActionOfIs r0 s0 d0 res0) (hl0 : d0.length ≤ 1048576) : res0.length + sumL res0 ≤ 1048576 := by
  obtain rfl : res0 = _ := h
  unfold actI
  split
  · rename_i h
    have h1 := h.cor.gr.rank
    have h2 := h.cor.gr.size
    have h3 := actL_sum s0.toNat d0 r0.toNat
    have h4 : r0.toNat * s0.toNat ≤ 3 * 40 := Nat.mul_le_mul (by omega) (by omega)
    rw [actL_len]
    omega
  · simp [sumL]
end Go.Proofs.YtimmnnncgnnkgaaGreat

/- read, WalkWord, WordPermutation; the law's data. -/
namespace Go.Proofs.YtimmnnncgnnkgaaGreat
set_option linter.unusedVariables false
set_option linter.unusedSimpArgs false
open Go.RowKit

/-- Where a list of letters leads. -/
def goV (es : List Ed) : Int → List Int → Option Int
  | v, [] => some v
  | v, x :: t => if nextV es v x < 0 then none else goV es (nextV es v x) t
theorem goV_app (es : List Ed) : ∀ (a b : List Int) (v : Int), goV es v (a ++ b) = (goV es v a).bind fun u => goV es u b
  | [], b, v => rfl
  | x :: a, b, v => by
    rw [List.cons_append, goV, goV]
    split
    · rfl
    · exact goV_app es a b _
theorem goV_one (es : List Ed) (v x : Int) : goV es v [x] = if nextV es v x < 0 then none else some (nextV es v x) := by
  rw [goV]
  rfl
theorem goV_stop {es : List Ed} {v u x : Int} {w : List Int} {k : Nat} (h : goV es v (w.take k) = some u) (hx : w[k]? = some x) (hn : nextV es u x < 0) : goV es v w = none := by
  have h1 : w = w.take k ++ (x :: w.drop (k + 1)) := by rw [← drop_of w hx, List.take_append_drop]
  rw [h1, goV_app, h, Option.bind_some, goV, if_pos hn]
theorem goV_next {es : List Ed} {v u x : Int} {w : List Int} {k : Nat} (h : goV es v (w.take k) = some u) (hx : w[k]? = some x) (hn : ¬ nextV es u x < 0) : goV es v (w.take (k + 1)) = some (nextV es u x) := by
  rw [take_snocI hx, goV_app, h, Option.bind_some, goV_one, if_neg hn]

set_option maxHeartbeats 3200000 in
theorem impl_read (r n : Nat) (A : Option Addr) (es : List Ed) (c : Nat) (v : Int) (Aw : Option Addr) (wd : List Int) (cw : Nat) (w : World) (lo hi lo' hi' : Nat) (hr : RG w lo hi A es) (hw : RV w lo' hi' Aw (ints wd)) (hg : IsGr r n es) (hwl : wd.length ≤ 1048576) (hok : OkI wd) :
    Calls Tryz.prog 84 #[graV r n A es.length c, .int .i64 v, .slice Aw wd.length cw] w fun e w' => ∃ (u : Int) (k : Nat), e = .returned (.tuple #[.int .i64 u, .int .i64 k]) ∧ k ≤ wd.length ∧ goV es v (wd.take k) = some u ∧ (k = wd.length ∨ ∃ x, wd[k]? = some x ∧ nextV es u x < 0) ∧ Mid 0 0 w w' := by
  have hl := hg.len
  have HGL := Lib.hid (show ∀ e ∈ es, 1 ≤ e.l ∧ e.l ≤ 3 from fun e he => by have := hg.all e he; have := hg.rank; unfold InG at *; omega)
  have HG := Lib.hid hg
  have HOK := Lib.hid hok
  have hm0 : Mid 0 0 w (w.alloc (.cells #[.int .i64 r, .int .i64 n, .slice A es.length c] 29)) := Mid.alloc _ _
  have b0 := Box.new w #[.int .i64 r, .int .i64 n, .slice A es.length c] 29
  clear hg hok
  go_enter Tryz.func84, Tryz.ntmps84
  go_wp2_with fail
  go_loopw [1, 13] (fun vv iv wr => ∃ (k : Nat) (u : Int), k ≤ wd.length ∧ iv = .int .i64 k ∧ vv = .int .i64 u ∧ Hid (goV es v (wd.take k) = some u) ∧ Box wr w.heap.size [.int .i64 r, .int .i64 n, .slice A es.length c] ∧ Mid 0 0 w wr) (fun _ i _ => wd.length - (intOf i).toNat)
  case atStart => exact ⟨0, v, Nat.zero_le _, rfl, rfl, Lib.hid rfl, b0, hm0⟩
  case round =>
    clear b0 hm0
    obtain ⟨k, u, hk, rfl, rfl, HV, b0, hm⟩ := hrel
    have p0 := b0.cell 0 rfl
    have p1 := b0.cell 1 rfl
    have p2 := b0.cell 2 rfl
    by_cases hlt : k < wd.length
    · obtain ⟨B, off, x, rfl, hbh, hx, hcx⟩ := (hw.mid hm (Or.inl (Nat.zero_le _))).at hlt
      have hxr := HOK.out x (List.mem_of_getElem? hx)
      have hk1 : (k : Int) < (wd.length : Int) := by omega
      have HX := Lib.hid hx
      clear hx
      go_wp2_with fail
      with_reducible refine (impl_NextVertex r n A es c u x _ lo hi (hr.mid hm (Or.inl (Nat.zero_le _))) (by omega) HGL.out (by omega) (by omega)).mono ?_
      rintro en w6 ⟨rfl, hm6⟩
      replace b0 := b0.mid hm6 (Or.inr (Nat.zero_le _))
      replace hm := hm.trans hm6
      generalize htx : nextV es u x = t
      by_cases ht : t < 0
      · have d1 : decide (t < 0) = true := by simpa using ht
        have HN : Hid (nextV es u x < 0) := Lib.hid (by rw [htx]; exact ht)
        clear ht htx hcx p0 p1 p2
        go_wp2_with fail
        go_ret2
        exact ⟨u, k, rfl, hk, HV.out, .inr ⟨x, HX.out, HN.out⟩, hm⟩
      · have d1 : decide (t < 0) = false := by simpa using ht
        have HN := Lib.hid (goV_next HV.out HX.out (by rw [htx]; exact ht))
        rw [htx] at HN
        clear ht htx hcx p0 p1 p2
        go_wp2_with fail
        go_roundw
        case rel => exact ⟨k + 1, t, by omega, by go_num, rfl, HN, b0, hm⟩
        case measure => simp [intOf]; omega
    · obtain rfl : k = wd.length := by omega
      go_wp2_with fail
      go_ret2
      exact ⟨u, wd.length, rfl, Nat.le_refl _, HV.out, .inl rfl, hm⟩

set_option maxHeartbeats 3200000 in
theorem spec_WalkWord (r n v : Nat) (A : Option Addr) (es : List Ed) (c : Nat) (Aw : Option Addr) (wd : List Int) (cw : Nat) (w : World) (lo hi lo' hi' : Nat) (hr : RG w lo hi A es) (hw : RV w lo' hi' Aw (ints wd)) (hf : IsFol r n es) (hv : v < n) (hwl : wd.length ≤ 1048576) (hok : OkI wd) :
    Calls Tryz.prog 79 #[graV r n A es.length c, .int .i64 v, .slice Aw wd.length cw] w fun e w' => ∃ (u : Int) (b : Bool), e = .returned (.tuple #[.int .i64 u, .bool b]) ∧ (b = true → goV es v wd = some u) ∧ (b = false → goV es v wd = none) ∧ Mid 0 0 w w' := by
  have hg := hf.gr
  have hl := hg.len
  have hn40 : n ≤ 40 := by have := hg.size; omega
  have HGL := Lib.hid (show ∀ e ∈ es, 1 ≤ e.l ∧ e.l ≤ 3 from fun e he => by have := hg.all e he; have := hg.rank; unfold InG at *; omega)
  have HF := Lib.hid hf
  have HOK := Lib.hid hok
  have hm0 : Mid 0 0 w (w.alloc (.cells #[.int .i64 r, .int .i64 n, .slice A es.length c] 29)) := Mid.alloc _ _
  have b0 := Box.new w #[.int .i64 r, .int .i64 n, .slice A es.length c] 29
  have hib : inB (v : Int) 0 ((n : Int) - 1) = true := by unfold inB; simp; omega
  clear hg hok hf
  go_enter Tryz.func79, Tryz.ntmps79
  go_wp2_with fail
  with_reducible refine (spec_IsFolded r n A es c _ _ _ (hr.mid hm0 (Or.inl (Nat.zero_le _))) (by omega) true (iff_of_true rfl HF.out)).mono ?_
  rintro en w1 ⟨rfl, hm1⟩
  replace b0 := b0.mid hm1 (Or.inr (Nat.zero_le _))
  replace hm0 := hm0.trans hm1
  have p0 := b0.cell 0 rfl
  have p1 := b0.cell 1 rfl
  have p2 := b0.cell 2 rfl
  go_wp2_with fail
  with_reducible refine (l1In_at hib _).mono ?_
  rintro en w2 ⟨rfl, rfl⟩
  go_wp2_with fail
  clear p0 p1 p2 hm1
  go_loopw [1, 8] (fun vv iv wr => ∃ (k : Nat) (u : Int), k ≤ wd.length ∧ iv = .int .i64 k ∧ vv = .int .i64 u ∧ Hid (goV es v (wd.take k) = some u) ∧ Box wr w.heap.size [.int .i64 r, .int .i64 n, .slice A es.length c] ∧ Mid 0 0 w wr) (fun _ i _ => wd.length - (intOf i).toNat)
  case atStart => exact ⟨0, v, Nat.zero_le _, rfl, rfl, Lib.hid rfl, b0, hm0⟩
  case round =>
    clear b0 hm0
    obtain ⟨k, u, hk, rfl, rfl, HV, b0, hm⟩ := hrel
    by_cases hlt : k < wd.length
    · obtain ⟨B, off, x, rfl, hbh, hx, hcx⟩ := (hw.mid hm (Or.inl (Nat.zero_le _))).at hlt
      have hxr := HOK.out x (List.mem_of_getElem? hx)
      have hk1 : (k : Int) < (wd.length : Int) := by omega
      have hk0 : (0 : Int) ≤ (k : Int) := by omega
      have HX := Lib.hid hx
      have hBs : B < wr.heap.size := by have := hw.1; have := hm.size; omega
      have k0 := wg_cell b0.1 (b0.cell 0 rfl)
      have k1 := wg_cell b0.1 (b0.cell 1 rfl)
      have k2 := wg_cell b0.1 (b0.cell 2 rfl)
      have k4 := wg_cell hBs hcx
      have hA := fun m os => spec_NextVertex r n A es c u x (wg wr m os) lo hi (hr.mid (hm.trans (Mid.ofWg wr m os)) (Or.inl (Nat.zero_le _))) (by omega) HGL.out (by omega) (by omega)
      clear hx hcx
      go_wp2_with fail
      refine wp_region_quiet_wg (by kernel_rfl) (by kernel_rfl) ?_
      repeat
        (with_reducible refine wpQuiet_step (fun K hK => ?_))
        go_simp
        first
          | ((with_reducible refine hK _ ?_); clear hK K)
          | (rw [if_neg (by decide)]; (with_reducible refine hK _ ?_); clear hK K)
          | (apply Exists.intro; refine ⟨fun _ => ?_, hK _ ?_⟩; ((go_at_call 93; exact Calls.wg_of (hA _ _))); clear hK K)
      with_reducible refine wpQuiet_nil ?_
      intro _ hw'
      obtain ⟨⟨nq, osq⟩, hw''⟩ := hw'
      subst hw''
      have hwg := Mid.ofWg wr nq osq
      generalize wg wr nq osq = w6 at hwg ⊢
      replace b0 := b0.mid hwg (Or.inr (Nat.zero_le _))
      replace hm := hm.trans hwg
      generalize htx : nextV es u x = t
      clear k0 k1 k2 k4 hA
      by_cases ht : t < 0
      · have d1 : decide (t < 0) = true := by simpa using ht
        have HN := Lib.hid (goV_stop HV.out HX.out (by rw [htx]; exact ht))
        clear ht htx
        go_wp2_with fail
        go_ret2
        exact ⟨-1, false, rfl, (fun h => nomatch h), fun _ => HN.out, hm⟩
      · have d1 : decide (t < 0) = false := by simpa using ht
        have HN := Lib.hid (goV_next HV.out HX.out (by rw [htx]; exact ht))
        rw [htx] at HN
        clear ht htx
        go_wp2_with fail
        go_roundw
        case rel => exact ⟨k + 1, t, by omega, by go_num, rfl, HN, b0, hm⟩
        case measure => simp [intOf]; omega
    · obtain rfl : k = wd.length := by omega
      rw [List.take_length] at HV
      go_wp2_with fail
      go_ret2
      exact ⟨u, true, rfl, fun _ => HV.out, (fun h => nomatch h), hm⟩

/-- Where the word leads from each vertex, if it leads on from all below k. -/
def permTo (es : List Ed) (wd : List Int) (k : Nat) : List Int := (List.range k).map fun (v : Nat) => (goV es v wd).getD 0
theorem permTo_succ {es : List Ed} {wd : List Int} {k : Nat} {u : Int} (h : goV es (k : Int) wd = some u) : permTo es wd (k + 1) = permTo es wd k ++ [u] := by simp [permTo, List.range_succ, h]
theorem permTo_len (es : List Ed) (wd : List Int) (k : Nat) : (permTo es wd k).length = k := by simp [permTo]
open Classical in
noncomputable def wordP (r s : Int) (es : List Ed) (wd : List Int) : List Int := if IsFin r s es ∧ ∀ v : Nat, v < s.toNat → goV es v wd ≠ none then permTo es wd s.toNat else []
theorem wordP_yes {r n : Nat} {es : List Ed} {wd : List Int} (h : IsFin r n es) (h2 : ∀ v : Nat, v < n → goV es v wd ≠ none) : wordP r n es wd = permTo es wd n := if_pos ⟨h, h2⟩
theorem wordP_no {r n : Nat} {es : List Ed} {wd : List Int} {v : Nat} (hv : v < n) (h2 : goV es v wd = none) : wordP r n es wd = [] := if_neg fun h => h.2 v hv h2
theorem wordP_inf {r s : Int} {es : List Ed} {wd : List Int} (h : ¬ IsFin r s es) : wordP r s es wd = [] := if_neg fun h' => h h'.1

set_option maxHeartbeats 3200000 in
set_option maxRecDepth 20000 in
theorem impl_WordPermutation_fin (r n : Nat) (A : Option Addr) (es : List Ed) (c : Nat) (Aw : Option Addr) (wd : List Int) (cw : Nat) (w : World) (lo hi lo' hi' : Nat) (hr : RG w lo hi A es) (hw : RV w lo' hi' Aw (ints wd)) (hcl : es.length ≤ c) (hf : IsFin r n es) (hwl : wd.length ≤ 1048576) (hok : OkI wd) :
    Calls Tryz.prog 48 #[graV r n A es.length c, .slice Aw wd.length cw] w fun e w' => ∃ A1 c1, e = .returned (.slice A1 (wordP r n es wd).length c1) ∧ OV w' w.heap.size w'.heap.size 3 1 A1 c1 (wordP r n es wd).length (ints (wordP r n es wd)) ∧ Mid 0 0 w w' := by
  have hl := hf.cor.gr.len
  have hn40 : n ≤ 40 := by have := hf.cor.gr.size; omega
  have HF := Lib.hid hf
  have HOK := Lib.hid hok
  clear hf hok
  have O0 := owns_empty (w.alloc (.cells #[.int .i64 r, .int .i64 n, .slice A es.length c] 29)) 3 1
  rw [World.size_alloc] at O0
  have hm0 : Mid 0 0 w ((w.alloc (.cells #[.int .i64 r, .int .i64 n, .slice A es.length c] 29)).alloc (.cells #[] 3)) := (Mid.alloc _ _).trans (Mid.alloc _ _)
  have b0 := (Box.new w #[.int .i64 r, .int .i64 n, .slice A es.length c] 29).mid (Mid.alloc _ (.cells #[] 3)) (Or.inr (Nat.zero_le _))
  go_enter Tryz.func48, Tryz.ntmps48
  go_wp2_with fail
  with_reducible refine (impl_IsFiniteIndex r n A es c _ _ _ (hr.mid hm0 (Or.inl (Nat.zero_le _))) (by omega) hcl true (iff_of_true rfl HF.out)).mono ?_
  rintro en w1 ⟨rfl, hm1⟩
  replace b0 := b0.mid hm1 (Or.inr (Nat.zero_le _))
  replace O0 := owns_mid O0 hm1 (Or.inl (Nat.zero_le _))
  replace hm0 := hm0.trans hm1
  clear hm1
  go_wp2_with fail
  go_loopw [5, 6] (fun out vv wr => ∃ (v : Nat) (A1 : Option Addr) (c1 : Nat), v ≤ n ∧ vv = .int .i64 v ∧ out = .slice A1 v c1 ∧ Hid (∀ u : Nat, u < v → goV es u wd ≠ none) ∧ wr.ownsRow (w.heap.size + 1) 3 1 (.slice A1 v c1) v (ints (permTo es wd v)) ∧
      Box wr w.heap.size [.int .i64 r, .int .i64 n, .slice A es.length c] ∧ Mid 0 0 w wr) (fun _ v _ => n - (intOf v).toNat)
  case atStart => exact ⟨0, _, 0, Nat.zero_le _, rfl, rfl, Lib.hid (fun u h => absurd h (Nat.not_lt_zero _)), O0, b0, hm0⟩
  case round =>
    clear O0 b0 hm0
    obtain ⟨v, A1, c1, hv, rfl, rfl, HU, hout, b0, hm⟩ := hrel
    have p0 := b0.cell 0 rfl
    have p1 := b0.cell 1 rfl
    have p2 := b0.cell 2 rfl
    by_cases hlt : v < n
    · have hv1 : (v : Int) < (n : Int) := by omega
      have hv0 : (0 : Int) ≤ (v : Int) := by omega
      go_wp2_with fail
      with_reducible refine (impl_read r n A es c v Aw wd cw _ _ _ _ _ (hr.mid hm (Or.inl (Nat.zero_le _))) (hw.mid hm (Or.inl (Nat.zero_le _))) HF.out.cor.gr hwl HOK.out).mono ?_
      rintro en w6 ⟨u, k, rfl, hk, hgo, hend, hm6⟩
      have hcase : (k = wd.length ∧ goV es (v : Int) wd = some u) ∨ (k < wd.length ∧ goV es (v : Int) wd = none) := by
        rcases hend with rfl | ⟨x, hx, hn⟩
        · left
          exact ⟨rfl, by rw [List.take_length] at hgo; exact hgo⟩
        · right
          exact ⟨(List.getElem?_eq_some_iff.1 hx).1, goV_stop hgo hx hn⟩
      clear hgo hend
      replace b0 := b0.mid hm6 (Or.inr (Nat.zero_le _))
      replace hout := owns_mid hout hm6 (Or.inl (Nat.zero_le _))
      replace hm := hm.trans hm6
      clear p0 p1 p2 hm6
      rcases hcase with ⟨hk1, hgo⟩ | ⟨hk1, hgo⟩
      · have HS := Lib.hid (permTo_succ hgo)
        have HU2 : Hid (∀ u : Nat, u < v + 1 → goV es u wd ≠ none) := Lib.hid (by
          intro q hq
          by_cases h : q < v
          · exact HU.out q h
          · obtain rfl : q = v := by omega
            rw [hgo]
            exact fun h => by cases h)
        have HO := Lib.hid hout
        have hsz : w.heap.size + 1 ≤ w6.heap.size := b0.1
        clear hgo hout
        subst hk1
        go_wp2_with (at_builtin; refine wpList_pushI rfl _ _ rfl (w.heap.size + 1) A1 v c1 _ rfl HO.out u rfl (by omega) hsz ?_; intro A9 c9 w9 ho9 hm9)
        go_roundw
        case rel => exact ⟨v + 1, A9, c9, by omega, by go_num, rfl, HU2, by rw [HS.out]; exact ho9, b0.mid hm9 (Or.inl (Nat.lt_succ_self _)), hm.transNew hm9 (Or.inl (Nat.le_succ _))⟩
        case measure => simp [intOf]; omega
      · have HW := Lib.hid (wordP_no (r := r) hlt hgo)
        have O1 := owns_empty w6 3 1
        have hal := Mid.alloc w6 (.cells #[] 3)
        have hsz := hm.size
        clear hgo
        go_wp2_with fail
        go_ret
        refine ⟨some ⟨w6.heap.size, 0, none⟩, 0, by rw [HW.out]; rfl, ?_, hm.trans hal⟩
        rw [HW.out]
        exact ⟨Nat.le_refl _, owns_base O1 hsz, fun g hg => (O1.lt g hg).2⟩
    · obtain rfl : v = n := by omega
      have HW := Lib.hid (wordP_yes HF.out HU.out)
      have HL := Lib.hid (permTo_len es wd v)
      have hov : OV wr (w.heap.size + 1) wr.heap.size 3 1 A1 c1 v (ints (permTo es wd v)) := ⟨Nat.le_refl _, hout, fun g hg => (hout.lt g hg).2⟩
      go_wp2_with fail
      go_ret
      exact ⟨A1, c1, by rw [HW.out, HL.out]; rfl, by rw [HW.out, HL.out]; exact hov.wide (Nat.le_succ _) (Nat.le_refl _) (Nat.le_refl _), hm⟩

set_option maxHeartbeats 1600000 in
theorem impl_WordPermutation_no (r s : Int) (A : Option Addr) (es : List Ed) (c : Nat) (Aw : Option Addr) (n cw : Nat) (w : World) (lo hi : Nat) (hr : RG w lo hi A es) (hl : es.length ≤ 1048576) (hcl : es.length ≤ c) (hf : ¬ IsFin r s es) :
    Calls Tryz.prog 48 #[graV r s A es.length c, .slice Aw n cw] w fun e w' => ∃ A1 c1, e = .returned (.slice A1 0 c1) ∧ OV w' w.heap.size w'.heap.size 3 1 A1 c1 0 [] ∧ Mid 0 0 w w' := by
  have hm0 : Mid 0 0 w ((w.alloc (.cells #[.int .i64 r, .int .i64 s, .slice A es.length c] 29)).alloc (.cells #[] 3)) := (Mid.alloc _ _).trans (Mid.alloc _ _)
  have O0 := owns_empty (w.alloc (.cells #[.int .i64 r, .int .i64 s, .slice A es.length c] 29)) 3 1
  rw [World.size_alloc] at O0
  have HF := Lib.hid hf
  clear hf
  go_enter Tryz.func48, Tryz.ntmps48
  go_wp2_with fail
  with_reducible refine (impl_IsFiniteIndex r s A es c _ _ _ (hr.mid hm0 (Or.inl (Nat.zero_le _))) hl hcl false (iff_of_false Bool.false_ne_true HF.out)).mono ?_
  rintro en w1 ⟨rfl, hm1⟩
  replace O0 := owns_mid O0 hm1 (Or.inl (Nat.zero_le _))
  replace hm0 := hm0.trans hm1
  have hov : OV w1 (w.heap.size + 1) w1.heap.size 3 1 (some ⟨w.heap.size + 1, 0, none⟩) 0 0 [] := ⟨Nat.le_refl _, O0, fun g hg => (O0.lt g hg).2⟩
  go_wp2_with fail
  go_ret
  exact ⟨_, _, rfl, hov.wide (Nat.le_succ _) (Nat.le_refl _) (Nat.le_refl _), hm0⟩

set_option maxHeartbeats 3200000 in
set_option maxRecDepth 20000 in
theorem spec_WordPermutation_fin (r n : Nat) (A : Option Addr) (es : List Ed) (c : Nat) (Aw : Option Addr) (wd : List Int) (cw : Nat) (w : World) (lo hi lo' hi' : Nat) (hr : RG w lo hi A es) (hw : RV w lo' hi' Aw (ints wd)) (hf : IsFin r n es) (hwl : wd.length ≤ 1048576) (hok : OkI wd) :
    Calls Tryz.prog 44 #[graV r n A es.length c, .slice Aw wd.length cw] w fun e w' => ∃ A1 c1, e = .returned (.slice A1 (wordP r n es wd).length c1) ∧ OV w' w.heap.size w'.heap.size 3 1 A1 c1 (wordP r n es wd).length (ints (wordP r n es wd)) ∧ Mid 0 0 w w' := by
  have hl := hf.cor.gr.len
  have hn40 : n ≤ 40 := by have := hf.cor.gr.size; omega
  have HF := Lib.hid hf
  have HOK := Lib.hid hok
  clear hf hok
  have hm0 : Mid 0 0 w (w.alloc (.cells #[.int .i64 r, .int .i64 n, .slice A es.length c] 29)) := Mid.alloc _ _
  have b0 := Box.new w #[.int .i64 r, .int .i64 n, .slice A es.length c] 29
  go_enter Tryz.func44, Tryz.ntmps44
  go_wp2_with fail
  with_reducible refine (spec_IsFiniteIndex r n A es c _ _ _ (hr.mid hm0 (Or.inl (Nat.zero_le _))) (by omega) true (iff_of_true rfl HF.out)).mono ?_
  rintro en w1 ⟨rfl, hm1⟩
  replace b0 := b0.mid hm1 (Or.inr (Nat.zero_le _))
  replace hm0 := hm0.trans hm1
  have O0 := owns_base (base' := w.heap.size + 1) (owns_empty w1 3 1) b0.1
  have hal := Mid.alloc w1 (.cells #[] 3)
  replace b0 := b0.mid hal (Or.inr (Nat.zero_le _))
  replace hm0 := hm0.trans hal
  clear hm1 hal
  go_wp2_with fail
  go_loopw [5, 6] (fun out vv wr => ∃ (v : Nat) (A1 : Option Addr) (c1 : Nat), v ≤ n ∧ vv = .int .i64 v ∧ out = .slice A1 v c1 ∧ Hid (∀ u : Nat, u < v → goV es u wd ≠ none) ∧ wr.ownsRow (w.heap.size + 1) 3 1 (.slice A1 v c1) v (ints (permTo es wd v)) ∧
      Box wr w.heap.size [.int .i64 r, .int .i64 n, .slice A es.length c] ∧ Mid 0 0 w wr) (fun _ v _ => n - (intOf v).toNat)
  case atStart => exact ⟨0, _, 0, Nat.zero_le _, rfl, rfl, Lib.hid (fun u h => absurd h (Nat.not_lt_zero _)), O0, b0, hm0⟩
  case round =>
    clear O0 b0 hm0
    obtain ⟨v, A1, c1, hv, rfl, rfl, HU, hout, b0, hm⟩ := hrel
    have p0 := b0.cell 0 rfl
    have p1 := b0.cell 1 rfl
    have p2 := b0.cell 2 rfl
    by_cases hlt : v < n
    · have hv1 : (v : Int) < (n : Int) := by omega
      have hv0 : (0 : Int) ≤ (v : Int) := by omega
      go_wp2_with fail
      with_reducible refine (spec_WalkWord r n v A es c Aw wd cw _ _ _ _ _ (hr.mid hm (Or.inl (Nat.zero_le _))) (hw.mid hm (Or.inl (Nat.zero_le _))) HF.out.cor.fol hlt hwl HOK.out).mono ?_
      rintro en w6 ⟨u, bb, rfl, hb1, hb2, hm6⟩
      have hcase : (bb = true ∧ goV es (v : Int) wd = some u) ∨ (bb = false ∧ goV es (v : Int) wd = none) := by
        cases bb with
        | true => exact .inl ⟨rfl, hb1 rfl⟩
        | false => exact .inr ⟨rfl, hb2 rfl⟩
      clear hb1 hb2
      replace b0 := b0.mid hm6 (Or.inr (Nat.zero_le _))
      replace hout := owns_mid hout hm6 (Or.inl (Nat.zero_le _))
      replace hm := hm.trans hm6
      clear p0 p1 p2 hm6
      rcases hcase with ⟨hk1, hgo⟩ | ⟨hk1, hgo⟩
      · have HS := Lib.hid (permTo_succ hgo)
        have HU2 : Hid (∀ u : Nat, u < v + 1 → goV es u wd ≠ none) := Lib.hid (by
          intro q hq
          by_cases h : q < v
          · exact HU.out q h
          · obtain rfl : q = v := by omega
            rw [hgo]
            exact fun h => by cases h)
        have HO := Lib.hid hout
        have hsz : w.heap.size + 1 ≤ w6.heap.size := b0.1
        clear hgo hout
        subst hk1
        go_wp2_with (at_builtin; refine wpList_pushI rfl _ _ rfl (w.heap.size + 1) A1 v c1 _ rfl HO.out u rfl (by omega) hsz ?_; intro A9 c9 w9 ho9 hm9)
        go_roundw
        case rel => exact ⟨v + 1, A9, c9, by omega, by go_num, rfl, HU2, by rw [HS.out]; exact ho9, b0.mid hm9 (Or.inl (Nat.lt_succ_self _)), hm.transNew hm9 (Or.inl (Nat.le_succ _))⟩
        case measure => simp [intOf]; omega
      · have HW := Lib.hid (wordP_no (r := r) hlt hgo)
        have O1 := owns_empty w6 3 1
        have hal := Mid.alloc w6 (.cells #[] 3)
        have hsz := hm.size
        clear hgo
        subst hk1
        go_wp2_with fail
        go_ret
        refine ⟨some ⟨w6.heap.size, 0, none⟩, 0, by rw [HW.out]; rfl, ?_, hm.trans hal⟩
        rw [HW.out]
        exact ⟨Nat.le_refl _, owns_base O1 hsz, fun g hg => (O1.lt g hg).2⟩
    · obtain rfl : v = n := by omega
      have HW := Lib.hid (wordP_yes HF.out HU.out)
      have HL := Lib.hid (permTo_len es wd v)
      have hov : OV wr (w.heap.size + 1) wr.heap.size 3 1 A1 c1 v (ints (permTo es wd v)) := ⟨Nat.le_refl _, hout, fun g hg => (hout.lt g hg).2⟩
      go_wp2_with fail
      go_ret
      exact ⟨A1, c1, by rw [HW.out, HL.out]; rfl, by rw [HW.out, HL.out]; exact hov.wide (Nat.le_succ _) (Nat.le_refl _) (Nat.le_refl _), hm⟩

set_option maxHeartbeats 1600000 in
theorem spec_WordPermutation_no (r s : Int) (A : Option Addr) (es : List Ed) (c : Nat) (Aw : Option Addr) (n cw : Nat) (w : World) (lo hi : Nat) (hr : RG w lo hi A es) (hl : es.length ≤ 1048576) (hf : ¬ IsFin r s es) :
    Calls Tryz.prog 44 #[graV r s A es.length c, .slice Aw n cw] w fun e w' => ∃ A1 c1, e = .returned (.slice A1 0 c1) ∧ OV w' w.heap.size w'.heap.size 3 1 A1 c1 0 [] ∧ Mid 0 0 w w' := by
  have hm0 : Mid 0 0 w (w.alloc (.cells #[.int .i64 r, .int .i64 s, .slice A es.length c] 29)) := Mid.alloc _ _
  have HF := Lib.hid hf
  clear hf
  go_enter Tryz.func44, Tryz.ntmps44
  go_wp2_with fail
  with_reducible refine (spec_IsFiniteIndex r s A es c _ _ _ (hr.mid hm0 (Or.inl (Nat.zero_le _))) hl false (iff_of_false Bool.false_ne_true HF.out)).mono ?_
  rintro en w1 ⟨rfl, hm1⟩
  replace hm0 := hm0.trans hm1
  have hsz := hm0.size
  have O1 := owns_empty w1 3 1
  have hal := Mid.alloc w1 (.cells #[] 3)
  have hov : OV (w1.alloc (.cells #[] 3)) w.heap.size (w1.alloc (.cells #[] 3)).heap.size 3 1 (some ⟨w1.heap.size, 0, none⟩) 0 0 [] := ⟨Nat.le_refl _, owns_base O1 hsz, fun g hg => (O1.lt g hg).2⟩
  go_wp2_with fail
  go_ret
  exact ⟨_, _, rfl, hov, hm0.trans hal⟩

def WordPermutationIs (r0 s0 : Int) (d0 : List Ed) (d1 : List Int) (res0 : List Int) : Prop := res0 = wordP r0 s0 d0 d1
theorem WordPermutationIs_ex (r0 s0 : Int) (d0 : List Ed) (d1 : List Int) (hl0 : d0.length ≤ 1048576) (o1 : OkI d1) (hl1 : d1.length ≤ 1048576) : ∃ res0, WordPermutationIs r0 s0 d0 d1 res0 := ⟨_, rfl⟩
theorem WordPermutationIs_len {r0 s0 : Int} {d0 : List Ed} {d1 : List Int} {res0 : List Int} (h : WordPermutationIs r0 s0 d0 d1 res0) (hl0 : d0.length ≤ 1048576) (o1 : OkI d1) (hl1 : d1.length ≤ 1048576) : res0.length ≤ 1048576 := by
  obtain rfl : res0 = _ := h
  unfold wordP
  split
  · rename_i h
    have h2 := h.1.cor.gr.size
    rw [permTo_len]
    omega
  · simp
theorem sspec_WordPermutation (r0 s0 : Int) (A0 : Option Addr) (d0 : List Ed) (c0 : Nat) (A1 : Option Addr) (d1 : List Int) (c1 : Nat) (w : World) (lo0 hi0 : Nat) (h0 : OG w lo0 hi0 A0 c0 d0) (hl0 : d0.length ≤ 1048576) (lo1 hi1 : Nat) (h1 : OI w lo1 hi1 A1 c1 d1) (o1 : OkI d1) (hl1 : d1.length ≤ 1048576) (res0 : List Int) (h : WordPermutationIs r0 s0 d0 d1 res0) :
    Calls Tryz.prog 44 #[.agg #[.int .i64 r0, .int .i64 s0, .slice A0 d0.length c0], .slice A1 d1.length c1] w fun e w' => ∃ (A : Option Addr) (c : Nat), e = .returned (.slice A res0.length c) ∧ OI w' w.heap.size w'.heap.size A c res0 ∧ Mid 0 0 w w' := by
  obtain rfl : res0 = _ := h
  by_cases hf : IsFin r0 s0 d0
  · obtain ⟨r, n, rfl, rfl⟩ := hf.cor.gr.nat
    exact spec_WordPermutation_fin r n A0 d0 c0 A1 d1 c1 w lo0 hi0 lo1 hi1 h0.rg (OI.ri h1) hf hl1 o1
  · rw [wordP_inf hf]
    exact spec_WordPermutation_no r0 s0 A0 d0 c0 A1 d1.length c1 w lo0 hi0 h0.rg hl0 hf
theorem simpl_WordPermutation (r0 s0 : Int) (A0 : Option Addr) (d0 : List Ed) (c0 : Nat) (A1 : Option Addr) (d1 : List Int) (c1 : Nat) (w : World) (lo0 hi0 : Nat) (h0 : OG w lo0 hi0 A0 c0 d0) (hl0 : d0.length ≤ 1048576) (lo1 hi1 : Nat) (h1 : OI w lo1 hi1 A1 c1 d1) (o1 : OkI d1) (hl1 : d1.length ≤ 1048576) (res0 : List Int) (h : WordPermutationIs r0 s0 d0 d1 res0) :
    Calls Tryz.prog 48 #[.agg #[.int .i64 r0, .int .i64 s0, .slice A0 d0.length c0], .slice A1 d1.length c1] w fun e w' => ∃ (A : Option Addr) (c : Nat), e = .returned (.slice A res0.length c) ∧ OI w' w.heap.size w'.heap.size A c res0 ∧ Mid 0 0 w w' := by
  obtain rfl : res0 = _ := h
  by_cases hf : IsFin r0 s0 d0
  · obtain ⟨r, n, rfl, rfl⟩ := hf.cor.gr.nat
    exact impl_WordPermutation_fin r n A0 d0 c0 A1 d1 c1 w lo0 hi0 lo1 hi1 h0.rg (OI.ri h1) h0.cnt.1 hf hl1 o1
  · rw [wordP_inf hf]
    exact impl_WordPermutation_no r0 s0 A0 d0 c0 A1 d1.length c1 w lo0 hi0 h0.rg hl0 h0.cnt.1 hf
end Go.Proofs.YtimmnnncgnnkgaaGreat

/- Contracts: ComposePermutations, InversePermutation, FixedPoints. -/
namespace Go.Proofs.YtimmnnncgnnkgaaGreat
set_option linter.unusedVariables false
set_option linter.unusedSimpArgs false
open Go.RowKit

def composeP (p q : List Int) : List Int := p.map (fun x => q.getD x.toNat 0)

end Go.Proofs.YtimmnnncgnnkgaaGreat

/- Contracts: ComposePermutations of the reference. -/
namespace Go.Proofs.YtimmnnncgnnkgaaGreat
set_option linter.unusedVariables false
set_option linter.unusedSimpArgs false
open Go.RowKit

/-- What ComposePermutations hands back. -/
def ComposeIs (p q res : List Int) : Prop := ((IsPerm p ∧ IsPerm q ∧ p.length = q.length) → res = composeP p q) ∧ (¬ (IsPerm p ∧ IsPerm q ∧ p.length = q.length) → res = [])

end Go.Proofs.YtimmnnncgnnkgaaGreat

/- Plain: the group that a list of permutations makes, at most 200 of them. -/
namespace Go.Proofs.YtimmnnncgnnkgaaGreat
set_option linter.unusedVariables false
set_option linter.unusedSimpArgs false
open Classical in
noncomputable def cmpX (p q : List Int) : List Int := if IsPerm p ∧ IsPerm q ∧ p.length = q.length then composeP p q else []
theorem cmpX_is (p q : List Int) : ComposeIs p q (cmpX p q) := ⟨fun h => if_pos h, fun h => if_neg h⟩
open Classical in
/-- One element of the list times each of the action. -/
noncomputable def grpRow (q : List Int) : List (List Int) → List (List Int) → Option (List (List Int))
  | [], st => some st
  | p :: t, st => if cmpX q p ∈ st then grpRow q t st else if st.length = 200 then none else grpRow q t (st ++ [cmpX q p])
theorem grpRow_in {q p : List Int} {t st : List (List Int)} (h : cmpX q p ∈ st) : grpRow q (p :: t) st = grpRow q t st := by rw [grpRow, if_pos h]
theorem grpRow_full {q p : List Int} {t st : List (List Int)} (h : cmpX q p ∉ st) (hl : st.length = 200) : grpRow q (p :: t) st = none := by rw [grpRow, if_neg h, if_pos hl]
theorem grpRow_new {q p : List Int} {t st : List (List Int)} (h : cmpX q p ∉ st) (hl : ¬ st.length = 200) : grpRow q (p :: t) st = grpRow q t (st ++ [cmpX q p]) := by rw [grpRow, if_neg h, if_neg hl]
/-- All of them, from place i on. -/
noncomputable def grpRun (act : List (List Int)) : Nat → Nat → List (List Int) → List (List Int)
  | 0, _, st => st
  | f + 1, i, st => match st[i]? with
    | none => st
    | some q => match grpRow q act st with
      | none => []
      | some st' => grpRun act f (i + 1) st'
theorem grpRun_end {act st : List (List Int)} {f i : Nat} (h : st.length ≤ i) : grpRun act f i st = st := by
  cases f with
  | zero => rfl
  | succ f => rw [grpRun, List.getElem?_eq_none h]
theorem grpRun_none {act st : List (List Int)} {f i : Nat} {q : List Int} (hq : st[i]? = some q) (h : grpRow q act st = none) : grpRun act (f + 1) i st = [] := by
  rw [grpRun, hq]
  simp only [h]
theorem grpRun_some {act st st' : List (List Int)} {f i : Nat} {q : List Int} (hq : st[i]? = some q) (h : grpRow q act st = some st') : grpRun act (f + 1) i st = grpRun act f (i + 1) st' := by
  rw [grpRun, hq]
  simp only [h]
theorem grpRow_len {q : List Int} : ∀ {t st st' : List (List Int)}, st.length ≤ 200 → grpRow q t st = some st' → st'.length ≤ 200
  | [], st, st', hl, h => by
    rw [grpRow] at h
    injection h with h
    subst h
    exact hl
  | p :: t, st, st', hl, h => by
    rw [grpRow] at h
    split at h
    · exact grpRow_len hl h
    · split at h
      · cases h
      · exact grpRow_len (by simp; omega) h
theorem grpRun_len (act : List (List Int)) : ∀ (f i : Nat) {st : List (List Int)}, st.length ≤ 200 → (grpRun act f i st).length ≤ 200
  | 0, i, st, h => h
  | f + 1, i, st, h => by
    rw [grpRun]
    split
    · exact h
    · split
      · exact Nat.zero_le _
      · rename_i hq
        exact grpRun_len act f (i + 1) (grpRow_len h hq)
theorem cmpX_len (p q : List Int) : (cmpX p q).length ≤ 40 := by
  unfold cmpX
  split
  · rename_i h
    have h1 := h.1.1
    simp [composeP]
    omega
  · simp
theorem grpRow_all {m : Nat} (hm : 40 ≤ m) {q : List Int} : ∀ {t st st' : List (List Int)}, (∀ x ∈ st, x.length ≤ m) → grpRow q t st = some st' → ∀ x ∈ st', x.length ≤ m
  | [], st, st', hl, h => by
    rw [grpRow] at h
    injection h with h
    subst h
    exact hl
  | p :: t, st, st', hl, h => by
    rw [grpRow] at h
    split at h
    · exact grpRow_all hm hl h
    · split at h
      · cases h
      · refine grpRow_all hm (fun x hx => ?_) h
        rcases List.mem_append.1 hx with hx | hx
        · exact hl x hx
        · simp at hx
          rw [hx]
          exact Nat.le_trans (cmpX_len _ _) hm
theorem grpRun_all {m : Nat} (hm : 40 ≤ m) (act : List (List Int)) : ∀ (f i : Nat) {st : List (List Int)}, (∀ x ∈ st, x.length ≤ m) → ∀ x ∈ grpRun act f i st, x.length ≤ m
  | 0, i, st, h => h
  | f + 1, i, st, h => by
    rw [grpRun]
    split
    · exact h
    · split
      · simp
      · rename_i hq
        exact grpRun_all hm act f (i + 1) (grpRow_all hm h hq)
end Go.Proofs.YtimmnnncgnnkgaaGreat

/- A growing list of rows of the call's own, beside a list that it reads. -/
namespace Go.Proofs.YtimmnnncgnnkgaaGreat
set_option linter.unusedVariables false
set_option linter.unusedSimpArgs false
open Go.RowKit

/-- A list of rows of the call's own, from block b on, in an outer row of its own from lo on; the list act between a and b. -/
structure Grp (w : World) (lo a b : Nat) (A : Option Addr) (n c : Nat) (rows : List Row) (Aa : Option Addr) (act : List (List Int)) : Prop where
  out : w.ownsRow lo 25 1 (.slice A n c) n (rowsV rows)
  rows : OwnRows w b w.heap.size 3 rows
  act : RSS w a b Aa act
  off : ∀ g, Value.ownBlock (.slice A n c) = some g → g < a ∨ b ≤ g
  lob : lo ≤ b
section
variable {w w' : World} {lo a b : Nat} {A : Option Addr} {n c : Nat} {rows : List Row} {Aa : Option Addr} {act : List (List Int)}
theorem Grp.len (h : Grp w lo a b A n c rows Aa act) : rows.length = n := by
  have := h.out.1
  rw [rowsV_len] at this
  omega
theorem Grp.mid (h : Grp w lo a b A n c rows Aa act) (m : Mid 0 0 w w') : Grp w' lo a b A n c rows Aa act :=
  ⟨owns_mid h.out m (Or.inl (Nat.zero_le _)), (h.rows.mid m (Or.inl (Nat.zero_le _))).wide (Nat.le_refl _) m.size (Nat.le_refl _), h.act.mid m (Or.inl (Nat.zero_le _)), h.off, h.lob⟩
theorem Grp.rss (h : Grp w lo a b A n c rows Aa act) : RSS w lo w.heap.size A (rowsD rows) :=
  (OSS.mk' h.out (h.rows.wide h.lob (Nat.le_refl _) (Nat.le_refl _)) rfl).rss
theorem Grp.row (h : Grp w lo a b A n c rows Aa act) {k : Nat} (hk : k < n) :
    ∃ b off A' c' xs, A = some ⟨b, off, none⟩ ∧ lo ≤ b ∧ b < w.heap.size ∧ (rowsD rows)[k]? = some xs ∧ w.cell? ⟨b, off + k, none⟩ = some (.slice A' xs.length c') ∧ RV w lo w.heap.size A' (ints xs) :=
  h.rss.row (by rw [rowsD_len, h.len]; exact hk)
/-- A row more. -/
theorem Grp.push {W : World} {W' : World} {A' : Option Addr} {c' : Nat} {r : Row} (h : Grp w lo a b A n c rows Aa act) (m : Mid 0 0 w W) (hrow : W.ownsRow w.heap.size 3 1 r.v r.xs.length (ints r.xs))
    (h1 : W'.ownsRow lo 25 1 (.slice A' (n + 1) c') (n + 1) (rowsV rows ++ [r.v])) (h2 : W.grownBy W' (Value.ownBlock (.slice A n c))) (h3 : Value.ownBlock (.slice A' (n + 1) c') = Value.ownBlock (.slice A n c) ∨ Value.ownBlock (.slice A' (n + 1) c') = some (W.heap.size + 1)) :
    Grp W' lo a b A' (n + 1) c' (rows ++ [r]) Aa act := by
  have hbs := h.act.size
  have hms := m.size
  have hG := h.mid m
  refine ⟨by rw [rowsV_append]; exact h1, ?_, ?_, ?_, h.lob⟩
  · have k1 := (h.rows.mid m (Or.inl (Nat.zero_le _))).push (r := r) (base := w.heap.size) (hi' := W.heap.size) hrow (Nat.le_refl _) hbs hms (Nat.le_refl _) (fun g hg => (hrow.lt g hg).2)
    exact (k1.grown hG.out (by decide) h2).wide (Nat.le_refl _) h2.size (Nat.le_refl _)
  · cases hob : Value.ownBlock (.slice A n c) with
    | none =>
      rw [hob] at h2
      exact hG.act.mid (Mid.of_grown (lo := 0) (hi := 0) h2 (by intro g hg; cases hg)) (Or.inl (Nat.zero_le _))
    | some g =>
      rw [hob] at h2
      have := h.off g hob
      exact hG.act.mid (Mid.of_grown (lo := g) (hi := g + 1) h2 (by intro g' hg; injection hg with hg; omega)) (by omega)
  · intro g hg
    rcases h3 with h3 | h3
    · exact h.off g (by rw [← h3]; exact hg)
    · rw [h3] at hg
      injection hg with hg
      omega
end
section
variable {W : World} {ops : Array Oper} {rest : List Oper} {o : Oper} {ac : Act} {Q : Exit → Act → World → Prop}
theorem wpList_pushG {w : World} {lo a b : Nat} {A : Option Addr} {n c : Nat} {rows : List Row} {Aa : Option Addr} {act : List (List Int)} (hgd : o.guard = none) (s x : Operand)
    (ho : o.op = .call { callee := .builtin .append, args := #[s, x], argTypes := #[39, 39] }) (hs : ac.eval s = .slice A n c)
    (h : Grp w lo a b A n c rows Aa act) (m : Mid 0 0 w W) (r : Row) (hrow : W.ownsRow w.heap.size 3 1 r.v r.xs.length (ints r.xs)) (hx : ac.eval x = .slice (some ⟨W.heap.size, 0, none⟩) 1 1) (hn : n ≤ 1048576)
    (hk : ∀ A' c' w', Grp w' lo a b A' (n + 1) c' (rows ++ [r]) Aa act → Mid lo W.heap.size W w' → wpList Tryz.prog ops Q rest (ac.put o.dst (.slice A' (n + 1) c')) w') :
    wpList Tryz.prog ops Q (o :: rest) ac (W.alloc (.cells #[r.v] 25)) := by
  have hbs := h.act.size
  have hms := m.size
  have hlo := h.lob
  refine wpList_push (news := [r.v]) hgd s x 39 ho lo 25 (.slice none 0 0) 1 24 undSSI infoSI rfl (by decide) (.slice A n c) n (rowsV rows) hs (h.mid m).out 1 hx rfl ?_ (by unfold maxLen; omega) (by omega) (by omega) ?_
  · intro u hu
    simp at hu
    subst hu
    rfl
  · intro v' w' h1 h2 h3
    obtain ⟨A', c', rfl, -, -⟩ := owns_shape h1
    exact hk A' c' w' (h.push m hrow h1 h2 h3) (Mid.of_grownRow (h.mid m).out h2)
end
open Classical in
/-- The elements of the group. -/
noncomputable def grpI (r s : Int) (es : List Ed) : List (List Int) := if IsFin r s es then grpRun (actL s.toNat es r.toNat) 201 0 [upto s.toNat] else []
theorem grpI_yes {r n : Nat} {es : List Ed} (h : IsFin r n es) : grpI r n es = grpRun (actL n es r) 201 0 [upto n] := by
  rw [grpI, if_pos h]
  rfl
theorem grpI_no {r s : Int} {es : List Ed} (h : ¬ IsFin r s es) : grpI r s es = [] := if_neg h
theorem grpI_len (r s : Int) (es : List Ed) : (grpI r s es).length ≤ 200 := by
  unfold grpI
  split
  · exact grpRun_len _ _ _ (by simp)
  · simp
theorem sumL_le {m : Nat} : ∀ (l : List (List Int)), (∀ x ∈ l, x.length ≤ m) → sumL l ≤ l.length * m
  | [], _ => by simp [sumL]
  | x :: t, h => by
    have h1 := sumL_le t fun y hy => h y (by simp [hy])
    have h2 := h x (by simp)
    have h3 : sumL (x :: t) = x.length + sumL t := by simp [sumL]
    rw [h3, List.length_cons, Nat.succ_mul]
    omega
theorem grpI_sum (r s : Int) (es : List Ed) : sumL (grpI r s es) ≤ 8000 := by
  have h1 := grpI_len r s es
  have h2 : ∀ x ∈ grpI r s es, x.length ≤ 40 := by
    unfold grpI
    split
    · rename_i h
      have hs := h.cor.gr.size
      exact grpRun_all (Nat.le_refl _) _ _ _ fun x hx => by simp at hx; rw [hx, upto_len]; omega
    · simp
  have h3 := sumL_le _ h2
  have h4 : (grpI r s es).length * 40 ≤ 200 * 40 := Nat.mul_le_mul_right _ h1
  omega
end Go.Proofs.YtimmnnncgnnkgaaGreat

/- Plain: the graph of an action. -/
namespace Go.Proofs.YtimmnnncgnnkgaaGreat
set_option linter.unusedVariables false
set_option linter.unusedSimpArgs false

/-- The edges of one permutation, its first k places. -/
def permE (x : Int) (p : List Int) (k : Nat) : List Ed := (List.range k).map fun (v : Nat) => ⟨(v : Int), x, p.getD v 0⟩
theorem permE_succ {x y : Int} {p : List Int} {k : Nat} (h : p[k]? = some y) : permE x p (k + 1) = permE x p k ++ [⟨(k : Int), x, y⟩] := by simp [permE, List.range_succ, List.getD, h]
theorem permE_len (x : Int) (p : List Int) (k : Nat) : (permE x p k).length = k := by simp [permE]
/-- The edges of the first k permutations of a list. -/
def actEs (l : List (List Int)) : Nat → List Ed
  | 0 => []
  | k + 1 => actEs l k ++ (match l[k]? with | none => [] | some p => permE ((k : Int) + 1) p p.length)
theorem actEs_succ {l : List (List Int)} {k : Nat} {p : List Int} (h : l[k]? = some p) : actEs l (k + 1) = actEs l k ++ permE ((k : Int) + 1) p p.length := by rw [actEs, h]
structure GActOk (rank : Int) (l : List (List Int)) (n : Nat) : Prop where
  rk : 1 ≤ rank ∧ rank ≤ 3
  ln : (l.length : Int) = rank
  n0 : 0 < n
  all : ∀ p ∈ l, IsPerm p ∧ p.length = n
theorem GActOk.n40 {rank : Int} {l : List (List Int)} {n : Nat} (h : GActOk rank l n) : n ≤ 40 := by
  have h1 := h.ln
  have h2 := h.rk
  cases l with
  | nil => simp at h1; omega
  | cons p t =>
    have := h.all p (by simp)
    have h3 := this.1.1
    omega
theorem actEs_len {l : List (List Int)} {n : Nat} (h : ∀ p ∈ l, p.length = n) : ∀ k, k ≤ l.length → (actEs l k).length = k * n
  | 0, _ => by simp [actEs]
  | k + 1, hk => by
    have hp := List.getElem?_eq_getElem (l := l) (i := k) (by omega)
    rw [actEs_succ hp, List.length_append, permE_len, actEs_len h k (by omega), h _ (List.getElem_mem _), Nat.succ_mul]
theorem act_in {rank : Int} {l : List (List Int)} {n : Nat} (h : GActOk rank l n) : ∀ k, k ≤ l.length → ∀ e ∈ actEs l k, InG rank n e
  | 0, _, e, he => by simp [actEs] at he
  | k + 1, hk, e, he => by
    have hp := List.getElem?_eq_getElem (l := l) (i := k) (by omega)
    rw [actEs_succ hp] at he
    rcases List.mem_append.1 he with he | he
    · exact act_in h k (by omega) e he
    · simp only [permE, List.mem_map, List.mem_range] at he
      obtain ⟨v, hv, rfl⟩ := he
      obtain ⟨h1, h2⟩ := h.all _ (List.getElem_mem (by omega : k < l.length))
      have h3 := h1.2.1 (l[k].getD v 0) (by rw [List.getD_eq_getElem?_getD, List.getElem?_eq_getElem hv]; exact List.getElem_mem _)
      have h4 := h.ln
      unfold InG
      simp only
      omega
theorem act_gr {rank : Int} {l : List (List Int)} {n : Nat} (h : GActOk rank l n) : IsGr rank n (canon (actEs l l.length)) := by
  have h40 := h.n40
  have hr := h.rk
  have hn := h.n0
  refine ⟨hr, ⟨by omega, by omega⟩, ?_, ?_, asc_canon _⟩
  · have h1 := canon_len (actEs l l.length)
    rw [actEs_len (fun p hp => (h.all p hp).2) l.length (Nat.le_refl _)] at h1
    have h2 := h.ln
    have h3 : l.length * n ≤ 3 * 40 := Nat.mul_le_mul (by omega) h40
    omega
  · intro e he
    exact act_in h l.length (Nat.le_refl _) e (mem_canon.1 he)
end Go.Proofs.YtimmnnncgnnkgaaGreat

/- GraphOfAction, the program. -/
namespace Go.Proofs.YtimmnnncgnnkgaaGreat
set_option linter.unusedVariables false
set_option linter.unusedSimpArgs false
open Go.RowKit

/-- What GraphOfAction gives. -/
def n0L (l : List (List Int)) : Nat := (l.headD []).length
def GActIs (rank : Int) (l : List (List Int)) (rr rs : Int) (res : List Ed) (b : Bool) : Prop :=
  (b = true ∧ GActOk rank l (n0L l) ∧ rr = rank ∧ rs = (coreA rank ((n0L l : Nat), canon (actEs l l.length))).1 ∧ res = (coreA rank ((n0L l : Nat), canon (actEs l l.length))).2) ∨ (b = false ∧ ¬ GActOk rank l (n0L l) ∧ rr = 0 ∧ rs = 0 ∧ res = [])
theorem GActIs_ex (rank : Int) (l : List (List Int)) : ∃ rr rs res b, GActIs rank l rr rs res b := by
  by_cases h : GActOk rank l (n0L l)
  · exact ⟨_, _, _, _, .inl ⟨rfl, h, rfl, rfl, rfl⟩⟩
  · exact ⟨_, _, _, _, .inr ⟨rfl, h, rfl, rfl, rfl⟩⟩
theorem GActIs.no {rank : Int} {l : List (List Int)} {rr rs : Int} {res : List Ed} {b : Bool} (h : GActIs rank l rr rs res b) (hn : ¬ GActOk rank l (n0L l)) : b = false ∧ rr = 0 ∧ rs = 0 ∧ res = [] := by
  rcases h with ⟨-, h, -⟩ | ⟨h1, -, h2⟩
  · exact absurd h hn
  · exact ⟨h1, h2⟩
theorem GActIs.yes {rank : Int} {l : List (List Int)} {rr rs : Int} {res : List Ed} {b : Bool} (h : GActIs rank l rr rs res b) (hn : GActOk rank l (n0L l)) : b = true ∧ rank = rr ∧ rs = (coreA rank ((n0L l : Nat), canon (actEs l l.length))).1 ∧ res = (coreA rank ((n0L l : Nat), canon (actEs l l.length))).2 := by
  rcases h with ⟨h1, -, h2, h3⟩ | ⟨-, h, -⟩
  · exact ⟨h1, h2.symm, h3⟩
  · exact absurd hn h
theorem GActIs.lens {rank : Int} {l : List (List Int)} {rr rs : Int} {res : List Ed} {b : Bool} (h : GActIs rank l rr rs res b) : res.length ≤ 120 := by
  rcases h with ⟨-, h, -, -, rfl⟩ | ⟨-, -, -, -, rfl⟩
  · exact (coreA_gr (g := ((n0L l : Nat), canon (actEs l l.length))) (act_gr h)).len
  · simp
theorem n0L_at {l : List (List Int)} {p : List Int} (h : l[0]? = some p) : n0L l = p.length := by
  cases l with
  | nil => simp at h
  | cons q t => simp at h; subst h; rfl
theorem inB_rank {x : Int} {b : Bool} (hb : b = true ↔ 1 ≤ x ∧ x ≤ 3) : inB x 1 3 = b := by
  cases b with
  | true => have := hb.1 rfl; unfold inB; simp; omega
  | false =>
    have h : ¬ (1 ≤ x ∧ x ≤ 3) := fun h => by have := hb.2 h; cases this
    unfold inB
    simp
    omega

set_option maxHeartbeats 6400000 in
set_option maxRecDepth 100000 in
theorem impl_GraphOfAction (rank : Int) (A : Option Addr) (l : List (List Int)) (c : Nat) (w : World) (lo hi : Nat) (hr : RSS w lo hi A l) (hl : l.length + sumL l ≤ 1048576) (hwf : (Lit.int .i64 rank).wf = true) (rr rs : Int) (res : List Ed) (b : Bool) (hres : GActIs rank l rr rs res b) :
    Calls Tryz.prog 49 #[.int .i64 rank, .slice A l.length c] w fun e w' => ∃ A1 c1, e = .returned (.tuple #[graV rr rs A1 res.length c1, .bool b]) ∧ OG w' w.heap.size w'.heap.size A1 c1 res ∧ Mid 0 0 w w' := by
  have HR := Lib.hid hres
  clear hres
  obtain ⟨b1, hb1⟩ := bool_of (1 ≤ rank ∧ rank ≤ 3)
  have H1 := Lib.hid hb1
  have hi1 := inB_rank hb1
  clear hb1
  have hm0 : Mid 0 0 w (w.alloc (.cells #[.int .i64 0, .int .i64 0, .slice none 0 0] 29)) := Mid.alloc _ _
  have B2 := Box.new w #[.int .i64 0, .int .i64 0, .slice none 0 0] 29
  go_enter Tryz.func49, Tryz.ntmps49
  go_wp2_with fail
  generalize w.alloc (.cells #[.int .i64 0, .int .i64 0, .slice none 0 0] 29) = w1 at hm0 B2 ⊢
  have hs1 : w.heap.size < w1.heap.size := B2.1
  with_reducible refine (within_at hi1 _).mono ?_
  rintro en w2 ⟨rfl, rfl⟩
  cases b1 with
  | false =>
    have hno : ¬ GActOk rank l (n0L l) := fun h => by have := H1.out.2 h.rk; cases this
    obtain ⟨rfl, rfl, rfl, rfl⟩ := HR.out.no hno
    have z0 := B2.cell 0 rfl
    have z1 := B2.cell 1 rfl
    have z2 := B2.cell 2 rfl
    have zf := B2.2.2
    go_wp2_with fail
    refine bodyPost_ret (v := .tuple #[.agg #[.int .i64 0, .int .i64 0, .slice none 0 0], .bool false]) (by simp [results, Tryz.results49, go_sem, z0, z1, z2, zf]) rfl ⟨none, 0, rfl, OG.nil, ?_⟩
    repeat (first | exact hm0 | refine Mid.storeNew ?_ (by simp; try omega) _)
  | true =>
  have hrk := H1.out.1 rfl
  clear H1 hi1
  by_cases hln : (l.length : Int) = rank
  · have dl : ((l.length : Int) != rank) = false := by simpa using hln
    obtain ⟨B0, o0, Ap0, cp0, p0, rfl, -, hB0, hp0, hc0, -⟩ := (hr.mid hm0 (Or.inl (Nat.zero_le _))).row (k := 0) (by omega)
    have hB0s : B0 < w1.heap.size := by have := (hr.mid hm0 (Or.inl (Nat.zero_le _))).size; omega
    have hn0 := n0L_at hp0
    have hp0l : p0.length ≤ 1048576 := by have := len_le_sumL (List.mem_of_getElem? hp0); omega
    simp only [Nat.add_zero] at hc0
    generalize hnn : p0.length = n at hc0 hn0 hp0l
    have HNN := Lib.hid hn0
    clear hp0 hn0 hnn
    have hzl : (0 : Int) < (l.length : Int) := by omega
    have HLN := Lib.hid hln
    clear hln
    by_cases hz : n = 0
    · have hno : ¬ GActOk rank l n := fun h => by have := h.n0; omega
      have dz : ((n : Int) == 0) = true := by rw [hz]; rfl
      obtain ⟨rfl, rfl, rfl, rfl⟩ := HR.out.no (by rw [HNN.out]; exact hno)
      have z0 := B2.cell 0 rfl
      have z1 := B2.cell 1 rfl
      have z2 := B2.cell 2 rfl
      have zf := B2.2.2
      go_wp2_with fail
      refine bodyPost_ret (v := .tuple #[.agg #[.int .i64 0, .int .i64 0, .slice none 0 0], .bool false]) (by simp [results, Tryz.results49, go_sem, z0, z1, z2, zf]) rfl ⟨none, 0, rfl, OG.nil, ?_⟩
      repeat (first | exact hm0 | refine Mid.storeNew ?_ (by simp; try omega) _)
    have dz : ((n : Int) == 0) = false := by simp only [beq_eq_false_iff_ne]; omega
    have hw0 : IntKind.i64.wrap ((n : Int) * rank) = (n : Int) * rank := IntWalk.i64_in _ (by
      have h1 : 0 ≤ (n : Int) * rank := Int.mul_nonneg (by omega) (by omega)
      have h2 : (n : Int) * rank ≤ 1048576 * 3 := Int.mul_le_mul (by omega) (by omega) (by omega) (by omega)
      omega)
    by_cases hbig : 120 < (n : Int) * rank
    · have hno : ¬ GActOk rank l n := fun h => by
        have h1 := h.n40
        have h2 : (n : Int) * rank ≤ 40 * 3 := Int.mul_le_mul (by omega) (by omega) (by omega) (by omega)
        omega
      have db : decide (120 < (n : Int) * rank) = true := by simpa using hbig
      obtain ⟨rfl, rfl, rfl, rfl⟩ := HR.out.no (by rw [HNN.out]; exact hno)
      have z0 := B2.cell 0 rfl
      have z1 := B2.cell 1 rfl
      have z2 := B2.cell 2 rfl
      have zf := B2.2.2
      go_wp2_with fail
      refine bodyPost_ret (v := .tuple #[.agg #[.int .i64 0, .int .i64 0, .slice none 0 0], .bool false]) (by simp [results, Tryz.results49, go_sem, z0, z1, z2, zf]) rfl ⟨none, 0, rfl, OG.nil, ?_⟩
      repeat (first | exact hm0 | refine Mid.storeNew ?_ (by simp; try omega) _)
    have db : decide (120 < (n : Int) * rank) = false := by simpa using hbig
    have hal := Mid.alloc w1 (.cells #[.int .i64 rank, .int .i64 n, .slice none 0 0] 29)
    have Y3 := Box.new w1 #[.int .i64 rank, .int .i64 n, .slice none 0 0] 29
    have Y2 := B2.mid hal (Or.inr (Nat.zero_le _))
    have hmy := hm0.trans hal
    go_wp2_with fail
    generalize w1.alloc (.cells #[.int .i64 rank, .int .i64 n, .slice none 0 0] 29) = w3 at Y2 Y3 hmy ⊢
    have hs3 : w1.heap.size < w3.heap.size := Y3.1
    clear hal hm0 B2 hc0
    generalize hG : w1.heap.size = Gb at Y3 hs1 hs3 hB0s ⊢
    clear hG
    have hhw := hr.size
    go_loopw [45] (fun i wr => ∃ (k : Nat) (A2 : Option Addr) (n2 c2 : Nat), k ≤ l.length ∧ i = .int .i64 k ∧ Hid (n2 = k * n) ∧ Hid (∀ p ∈ l.take k, IsPerm p ∧ p.length = n) ∧
      wr.ownsRow (Gb + 1) 78 3 (.slice A2 n2 c2) n2 (ints (edI (actEs l k))) ∧
      Box wr w.heap.size [.int .i64 0, .int .i64 0, .slice none 0 0] ∧ Box wr Gb [.int .i64 rank, .int .i64 n, .slice A2 n2 c2] ∧ Mid 0 0 w wr) (fun i _ => l.length - (intOf i).toNat)
    case atStart => exact ⟨0, none, 0, 0, Nat.zero_le _, rfl, Lib.hid (by simp), Lib.hid (by simp), World.ownsRow_nil _ _ _ _, Y2, Y3, hmy⟩
    case round =>
      clear Y2 Y3 hmy
      obtain ⟨wo, hwo⟩ : ∃ wo, wo = wr := ⟨_, rfl⟩
      subst hwo
      obtain ⟨k, A2, n2, c2, hk, rfl, HN, HALL, hown, Z2, Z3, hm⟩ := hrel
      have hGo : Gb < wo.heap.size := Z3.1
      by_cases hlt : k < l.length
      · obtain ⟨Bp, op, Ap, cp, p, he, -, hBp, hp, hcp, hrp⟩ := (hr.mid hm (Or.inl (Nat.zero_le _))).row hlt
        injection he with he
        injection he with he1 he2
        subst he1 he2
        have hpl : p.length ≤ 1048576 := by have := len_le_sumL (List.mem_of_getElem? hp); omega
        have hk1 : (k : Int) < (l.length : Int) := by omega
        have hk0 : (0 : Int) ≤ (k : Int) := by omega
        have HP := Lib.hid hp
        obtain ⟨bp, hbp⟩ := bool_of (IsPerm p)
        have HBP := Lib.hid hbp
        clear hp hbp
        go_wp2_with fail
        have hrp1 : hi ≤ wo.heap.size := hrp.1
        with_reducible refine (impl_IsPermutation Ap p cp _ _ hrp.rs hrp1 hpl bp HBP.out).mono ?_
        rintro en w5 ⟨rfl, hbe5⟩
        have hm5 : Mid 0 0 wo w5 := Mid.of_below hbe5
        have Q2 := Z2.mid hm5 (Or.inr (Nat.zero_le _))
        have Q3 := Z3.mid hm5 (Or.inr (Nat.zero_le _))
        have hown5 := owns_mid hown hm5 (Or.inl (Nat.zero_le _))
        have hm9 := hm.trans hm5
        have hrp5 := hrp.mid hm5 (Or.inl (Nat.zero_le _))
        clear hcp Z2 Z3 hown hm hm5 hbe5 hrp
        cases bp with
        | false =>
          have hno : ¬ GActOk rank l n := fun h => by have := HBP.out.2 (h.all p (List.mem_of_getElem? HP.out)).1; cases this
          obtain ⟨rfl, rfl, rfl, rfl⟩ := HR.out.no (by rw [HNN.out]; exact hno)
          have z0 := Q2.cell 0 rfl
          have z1 := Q2.cell 1 rfl
          have z2 := Q2.cell 2 rfl
          have zf := Q2.2.2
          go_wp2_with fail
          refine bodyPost_ret (v := .tuple #[.agg #[.int .i64 0, .int .i64 0, .slice none 0 0], .bool false]) (by simp [results, Tryz.results49, go_sem, z0, z1, z2, zf]) rfl ⟨none, 0, rfl, OG.nil, ?_⟩
          repeat (first | exact hm9 | refine Mid.storeNew ?_ (by simp; try omega) _)
        | true =>
        have q1 := Q3.cell 1 rfl
        by_cases hpn : p.length = n
        · have dn : ((p.length : Int) != (n : Int)) = false := by rw [hpn]; simp
          have hperm := HBP.out.1 rfl
          have hp40 := hperm.1
          have HPERM := Lib.hid hperm
          clear hperm
          go_wp2_with fail
          clear q1
          go_loopw [63] (fun j wr => ∃ (m : Nat) (A3 : Option Addr) (n3 c3 : Nat), m ≤ p.length ∧ j = .int .i64 m ∧ Hid (n3 = k * n + m) ∧
            wr.ownsRow (Gb + 1) 78 3 (.slice A3 n3 c3) n3 (ints (edI (actEs l k ++ permE ((k : Int) + 1) p m))) ∧
            Box wr w.heap.size [.int .i64 0, .int .i64 0, .slice none 0 0] ∧ Box wr Gb [.int .i64 rank, .int .i64 n, .slice A3 n3 c3] ∧ RV wr lo hi Ap (ints p) ∧ Mid 0 0 w wr) (fun j _ => p.length - (intOf j).toNat)
          case atStart => exact ⟨0, A2, n2, c2, Nat.zero_le _, rfl, HN, by simpa [permE] using hown5, Q2, Q3, hrp5, hm9⟩
          case round =>
            clear hown5 Q2 Q3 hrp5 hm9
            obtain ⟨m, A3, n3, c3, hmp, rfl, HN3, hown, Z2, Z3, hrp, hm⟩ := hrel
            have hn3 : n3 ≤ 1000 := by
              have h1 := HN3.out
              have h2 : k * n ≤ 3 * 40 := Nat.mul_le_mul (by have := HLN.out; omega) (by omega)
              omega
            by_cases hltm : m < p.length
            · obtain ⟨Bx, ox, x, rfl, hBx, hx, hcx⟩ := hrp.at hltm
              have hm1 : (m : Int) < (p.length : Int) := by omega
              have hm00 : (0 : Int) ≤ (m : Int) := by omega
              have hpe := permE_succ (x := (k : Int) + 1) hx
              have HPE := Lib.hid hpe
              have g2 := Z3.cell 2 rfl
              have hwr : Gb + 1 ≤ wr.heap.size := Z3.1
              have HO := Lib.hid hown
              clear hx hpe hown
              go_wp2_with (at_builtin; refine wpList_pushE rfl _ _ rfl (Gb + 1) A3 n3 c3 _ rfl HO.out ⟨(m : Int), (k : Int) + 1, x⟩ rfl (by omega) hwr ?_; intro A4 c4 w4 hown4 hm4; have X3 := Z3.mid hm4 (Or.inl (Nat.lt_succ_self _)); have X2 := Z2.mid hm4 (Or.inl (by omega)); have x2 := X3.cell 2 rfl; have xf := X3.2.2; have HO4 := Lib.hid hown4; clear hown4)
              go_roundw
              case rel =>
                have hst := Mid.setCell w4 (lo := Gb) (hi := Gb + 1) (p := ⟨Gb, 2, none⟩) (.slice A4 (n3 + 1) c4) (Nat.le_refl _) (Nat.lt_succ_self _)
                refine ⟨m + 1, A4, n3 + 1, c4, by omega, by go_num, Lib.hid (by rw [HN3.out]; omega), ?_, X2.mid hst (Or.inl (by omega)), X3.set 2 _ (by simp) rfl, (hrp.mid hm4 (Or.inr (by omega))).mid hst (Or.inr (by omega)), (hm.transNew hm4 (Or.inl (by omega))).storeNew (by show w.heap.size ≤ Gb; omega) _⟩
                have h1 := owns_mid HO4.out hst (Or.inl (Nat.le_refl _))
                rw [HPE.out, ← List.append_assoc]
                exact h1
              case measure => simp [intOf]; omega
            · obtain rfl : m = p.length := by omega
              have hae := actEs_succ HP.out
              rw [← hae] at hown
              go_wp2_with fail
              go_roundw
              case rel =>
                refine ⟨k + 1, A3, n3, c3, by omega, by go_num, Lib.hid (by rw [HN3.out, hpn, Nat.succ_mul]), Lib.hid (fun q hq => ?_), hown, Z2, Z3, hm⟩
                rcases (mem_take_succ HP.out).1 hq with hq | hq
                · exact HALL.out q hq
                · rw [hq]
                  exact ⟨HPERM.out, hpn⟩
              case measure => simp [intOf]; omega
        · have dn : ((p.length : Int) != (n : Int)) = true := by rw [bne_iff_ne]; omega
          have hno : ¬ GActOk rank l n := fun h => hpn (h.all p (List.mem_of_getElem? HP.out)).2
          obtain ⟨rfl, rfl, rfl, rfl⟩ := HR.out.no (by rw [HNN.out]; exact hno)
          have z0 := Q2.cell 0 rfl
          have z1 := Q2.cell 1 rfl
          have z2 := Q2.cell 2 rfl
          have zf := Q2.2.2
          go_wp2_with fail
          refine bodyPost_ret (v := .tuple #[.agg #[.int .i64 0, .int .i64 0, .slice none 0 0], .bool false]) (by simp [results, Tryz.results49, go_sem, z0, z1, z2, zf]) rfl ⟨none, 0, rfl, OG.nil, ?_⟩
          repeat (first | exact hm9 | refine Mid.storeNew ?_ (by simp; try omega) _)
      · obtain rfl : k = l.length := by omega
        rw [List.take_length] at HALL
        have hok : GActOk rank l n := ⟨hrk, HLN.out, by omega, HALL.out⟩
        obtain ⟨rfl, rfl, hrs, hre⟩ := HR.out.yes (by rw [HNN.out]; exact hok)
        rw [HNN.out] at hrs hre
        have hgm := act_gr hok
        have hrg : RG wo (Gb + 1) wo.heap.size A2 (actEs l l.length) := OV.rv (e := 78) (size := 3) (c := c2) (n := n2) ⟨Nat.le_refl _, hown, fun g hg => (hown.lt g hg).2⟩
        have hnl : (actEs l l.length).length = n2 := by rw [HN.out, actEs_len (fun q hq => (HALL.out q hq).2) l.length (Nat.le_refl _)]
        have hn2 : n2 ≤ 1000 := by
          have h1 := HN.out
          have h2 := hok.n40
          have h3 : l.length * n ≤ 3 * 40 := Nat.mul_le_mul (by have := HLN.out; omega) h2
          omega
        have HNL := Lib.hid hnl
        have z2 := Z3.cell 2 rfl
        obtain ⟨rn, rfl⟩ : ∃ rn : Nat, rank = rn := ⟨rank.toNat, by omega⟩
        obtain ⟨ms, hms⟩ : ∃ ms, canon (actEs l l.length) = ms := ⟨_, rfl⟩
        rw [hms] at hgm hrs hre
        obtain ⟨q, qs, hQ, -⟩ := nat_gr (coreA_gr (g := ((n : Int), ms)) hgm)
        have HGM := Lib.hid hgm
        rw [hQ] at hrs hre
        subst hrs
        subst res
        have HQ := Lib.hid hQ
        have HMS := Lib.hid hms
        clear hnl hok HR hgm hQ hms
        go_wp2_with fail
        with_reducible refine (impl_sortedN A2 (actEs l l.length) n2 c2 _ _ _ HNL.out hrg (by omega)).mono ?_
        rintro en w6 ⟨A4, c4, rfl, ho6, hm6⟩
        rw [HMS.out] at ho6 ⊢
        have Q2 := Z2.mid hm6 (Or.inr (Nat.zero_le _))
        have Q3 := Z3.mid hm6 (Or.inr (Nat.zero_le _))
        have hst := Mid.setCell w6 (lo := Gb) (hi := Gb + 1) (p := ⟨Gb, 2, none⟩) (.slice A4 ms.length c4) (Nat.le_refl _) (Nat.lt_succ_self _)
        have R2 := Q2.mid hst (Or.inl (by omega))
        have R3 := Q3.set 2 (.slice A4 ms.length c4) (by simp) rfl
        have ho7 := ho6.mid hst (Or.inl (by omega))
        have hm7 := (hm.trans hm6).storeNew (p := ⟨Gb, 2, none⟩) (by show w.heap.size ≤ Gb; omega) (.slice A4 ms.length c4)
        have q2 := Q3.cell 2 rfl
        have qf := Q3.2.2
        simp only [List.set_cons_succ, List.set_cons_zero] at R3
        have r0 := R3.cell 0 rfl
        have r1 := R3.cell 1 rfl
        have r2 := R3.cell 2 rfl
        clear z2
        go_wp2_with fail
        generalize w6.setCell ⟨Gb, 2, none⟩ (.slice A4 ms.length c4) = w7 at R2 R3 ho7 hm7 r0 r1 r2 ⊢
        have hP := impl_CoreGraph rn n A4 ms c4 w7 _ _ (OG.rg ho7) HGM.out
        rw [HQ.out] at hP
        dsimp only at hP
        have HPP := Lib.hid hP
        clear hP
        with_reducible refine HPP.out.mono ?_
        rintro en w8 ⟨A5, c5, rfl, ho8, hm8⟩
        clear HPP
        have S2 := R2.mid hm8 (Or.inr (Nat.zero_le _))
        have hm9 := hm7.trans hm8
        have hs8 : w.heap.size < w7.heap.size := R2.1
        clear r0 r1 r2 q2
        have z0 := S2.cell 0 rfl
        have z1 := S2.cell 1 rfl
        have z2 := S2.cell 2 rfl
        have zf := S2.2.2
        go_wp2_with fail
        refine bodyPost_ret (v := .tuple #[.agg #[.int .i64 rn, .int .i64 q, .slice A5 qs.length c5], .bool true]) (by simp [results, Tryz.results49, go_sem, z0, z1, z2, zf]) rfl ⟨A5, c5, rfl, ?_, ?_⟩
        · refine OG.wide (OG.mid ho8 (a := w.heap.size) (b := w.heap.size + 1) ?_ (Or.inl (by omega))) (by omega) (by simp) (Nat.le_refl _)
          repeat (first | exact Mid.refl _ _ _ | refine Mid.stored ?_ _ (by simp; try omega) (by simp; try omega))
        · repeat (first | exact hm9 | refine Mid.storeNew ?_ (by simp; try omega) _)
  · have dl : ((l.length : Int) != rank) = true := by simpa using hln
    have hno : ¬ GActOk rank l (n0L l) := fun h => hln h.ln
    obtain ⟨rfl, rfl, rfl, rfl⟩ := HR.out.no hno
    have z0 := B2.cell 0 rfl
    have z1 := B2.cell 1 rfl
    have z2 := B2.cell 2 rfl
    have zf := B2.2.2
    go_wp2_with fail
    refine bodyPost_ret (v := .tuple #[.agg #[.int .i64 0, .int .i64 0, .slice none 0 0], .bool false]) (by simp [results, Tryz.results49, go_sem, z0, z1, z2, zf]) rfl ⟨none, 0, rfl, OG.nil, ?_⟩
    repeat (first | exact hm0 | refine Mid.storeNew ?_ (by simp; try omega) _)
end Go.Proofs.YtimmnnncgnnkgaaGreat

/- GraphOfAction, the reference. -/
namespace Go.Proofs.YtimmnnncgnnkgaaGreat
set_option linter.unusedVariables false
set_option linter.unusedSimpArgs false
open Go.RowKit

set_option maxHeartbeats 6400000 in
set_option maxRecDepth 100000 in
theorem spec_GraphOfAction (rank : Int) (A : Option Addr) (l : List (List Int)) (c : Nat) (w : World) (lo hi : Nat) (hr : RSS w lo hi A l) (hl : l.length + sumL l ≤ 1048576) (hwf : (Lit.int .i64 rank).wf = true) (rr rs : Int) (res : List Ed) (b : Bool) (hres : GActIs rank l rr rs res b) :
    Calls Tryz.prog 45 #[.int .i64 rank, .slice A l.length c] w fun e w' => ∃ A1 c1, e = .returned (.tuple #[graV rr rs A1 res.length c1, .bool b]) ∧ OG w' w.heap.size w'.heap.size A1 c1 res ∧ Mid 0 0 w w' := by
  have HR := Lib.hid hres
  clear hres
  obtain ⟨b1, hb1⟩ := bool_of (1 ≤ rank ∧ rank ≤ 3)
  have H1 := Lib.hid hb1
  have hi1 := inB_rank hb1
  clear hb1
  have hm0 : Mid 0 0 w (w.alloc (.cells #[.int .i64 0, .int .i64 0, .slice none 0 0] 29)) := Mid.alloc _ _
  have B2 := Box.new w #[.int .i64 0, .int .i64 0, .slice none 0 0] 29
  go_enter Tryz.func45, Tryz.ntmps45
  go_wp2_with fail
  generalize w.alloc (.cells #[.int .i64 0, .int .i64 0, .slice none 0 0] 29) = w1 at hm0 B2 ⊢
  have hs1 : w.heap.size < w1.heap.size := B2.1
  with_reducible refine (l1In_at hi1 _).mono ?_
  rintro en w2 ⟨rfl, rfl⟩
  cases b1 with
  | false =>
    have hno : ¬ GActOk rank l (n0L l) := fun h => by have := H1.out.2 h.rk; cases this
    obtain ⟨rfl, rfl, rfl, rfl⟩ := HR.out.no hno
    have z0 := B2.cell 0 rfl
    have z1 := B2.cell 1 rfl
    have z2 := B2.cell 2 rfl
    have zf := B2.2.2
    go_wp2_with fail
    refine bodyPost_ret (v := .tuple #[.agg #[.int .i64 0, .int .i64 0, .slice none 0 0], .bool false]) (by simp [results, Tryz.results45, go_sem, z0, z1, z2, zf]) rfl ⟨none, 0, rfl, OG.nil, ?_⟩
    repeat (first | exact hm0 | refine Mid.storeNew ?_ (by simp; try omega) _)
  | true =>
  have hrk := H1.out.1 rfl
  clear H1 hi1
  by_cases hln : (l.length : Int) = rank
  · have dl : ((l.length : Int) != rank) = false := by simpa using hln
    obtain ⟨B0, o0, Ap0, cp0, p0, rfl, -, hB0, hp0, hc0, -⟩ := (hr.mid hm0 (Or.inl (Nat.zero_le _))).row (k := 0) (by omega)
    have hB0s : B0 < w1.heap.size := by have := (hr.mid hm0 (Or.inl (Nat.zero_le _))).size; omega
    have hn0 := n0L_at hp0
    have hp0l : p0.length ≤ 1048576 := by have := len_le_sumL (List.mem_of_getElem? hp0); omega
    simp only [Nat.add_zero] at hc0
    generalize hnn : p0.length = n at hc0 hn0 hp0l
    have HNN := Lib.hid hn0
    clear hp0 hn0 hnn
    have hzl : (0 : Int) < (l.length : Int) := by omega
    have HLN := Lib.hid hln
    clear hln
    by_cases hz : n = 0
    · have hno : ¬ GActOk rank l n := fun h => by have := h.n0; omega
      have dz : ((n : Int) == 0) = true := by rw [hz]; rfl
      obtain ⟨rfl, rfl, rfl, rfl⟩ := HR.out.no (by rw [HNN.out]; exact hno)
      have z0 := B2.cell 0 rfl
      have z1 := B2.cell 1 rfl
      have z2 := B2.cell 2 rfl
      have zf := B2.2.2
      go_wp2_with fail
      refine bodyPost_ret (v := .tuple #[.agg #[.int .i64 0, .int .i64 0, .slice none 0 0], .bool false]) (by simp [results, Tryz.results45, go_sem, z0, z1, z2, zf]) rfl ⟨none, 0, rfl, OG.nil, ?_⟩
      repeat (first | exact hm0 | refine Mid.storeNew ?_ (by simp; try omega) _)
    have dz : ((n : Int) == 0) = false := by simp only [beq_eq_false_iff_ne]; omega
    have hal := Mid.alloc w1 (.cells #[.int .i64 rank, .int .i64 n, .slice none 0 0] 29)
    have Y3 := Box.new w1 #[.int .i64 rank, .int .i64 n, .slice none 0 0] 29
    have Y2 := B2.mid hal (Or.inr (Nat.zero_le _))
    have hmy := hm0.trans hal
    go_wp2_with fail
    generalize w1.alloc (.cells #[.int .i64 rank, .int .i64 n, .slice none 0 0] 29) = w3 at Y2 Y3 hmy ⊢
    have hs3 : w1.heap.size < w3.heap.size := Y3.1
    clear hal hm0 B2 hc0
    generalize hG : w1.heap.size = Gb at Y3 hs1 hs3 hB0s ⊢
    clear hG
    have hhw := hr.size
    go_loopw [7] (fun i wr => ∃ (k : Nat) (A2 : Option Addr) (c2 hi2 : Nat) (xs : List Ed), k ≤ l.length ∧ i = .int .i64 k ∧ Hid (xs = canon (actEs l k)) ∧ Hid (∀ p ∈ l.take k, IsPerm p ∧ p.length = n) ∧
      OG wr (Gb + 1) hi2 A2 c2 xs ∧
      Box wr w.heap.size [.int .i64 0, .int .i64 0, .slice none 0 0] ∧ Box wr Gb [.int .i64 rank, .int .i64 n, .slice A2 xs.length c2] ∧ Mid 0 0 w wr) (fun i _ => l.length - (intOf i).toNat)
    case atStart => exact ⟨0, none, 0, _, [], Nat.zero_le _, rfl, Lib.hid rfl, Lib.hid (by simp), OG.nil, Y2, Y3, hmy⟩
    case round =>
      clear Y2 Y3 hmy
      obtain ⟨wo, hwo⟩ : ∃ wo, wo = wr := ⟨_, rfl⟩
      subst hwo
      obtain ⟨k, A2, c2, hi2, xs, hk, rfl, HX, HALL, hown, Z2, Z3, hm⟩ := hrel
      have hGo : Gb < wo.heap.size := Z3.1
      have hkr : (k : Int) ≤ rank := by have := HLN.out; omega
      by_cases hlt : k < l.length
      · obtain ⟨Bp, op, Ap, cp, p, he, -, hBp, hp, hcp, hrp⟩ := (hr.mid hm (Or.inl (Nat.zero_le _))).row hlt
        injection he with he
        injection he with he1 he2
        subst he1 he2
        have hpl : p.length ≤ 1048576 := by have := len_le_sumL (List.mem_of_getElem? hp); omega
        have hk1 : (k : Int) < (l.length : Int) := by omega
        have hk2 : (k : Int) < rank := by have := HLN.out; omega
        have hk0 : (0 : Int) ≤ (k : Int) := by omega
        have hBps : B0 < wo.heap.size := by omega
        have HP := Lib.hid hp
        obtain ⟨bp, hbp⟩ := bool_of (IsPerm p)
        have HBP := Lib.hid hbp
        clear hp hbp
        have hIP : ∀ (m : Nat) (os : Array Obj), Calls Tryz.prog 80 #[.slice Ap p.length cp] (wg wo m os) fun e w'' => e = .returned (.bool bp) ∧ ∃ q : GB, w'' = wg wo q.n q.os := fun m os =>
          Calls.wg_of ((spec_IsPermutation Ap p cp _ (wg wo m os) (hrp.mid (Mid.ofWg wo m os) (Or.inl (Nat.zero_le _))).rs hpl bp HBP.out).mono (fun e w' ⟨h1, nd, h2⟩ => ⟨h1, by rw [h2]; exact (Mid.refl 0 0 (wg wo m os)).drewN nd⟩))
        have e0 := wg_cell hBps hcp
        have e1 := wg_cell Z3.1 (Z3.cell 1 rfl)
        cases bp with
        | false =>
          have hno : ¬ GActOk rank l n := fun h => by have := HBP.out.2 (h.all p (List.mem_of_getElem? HP.out)).1; cases this
          go_wp2_with fail
          refine wp_region_quiet_wg (by kernel_rfl) (by kernel_rfl) ?_
          repeat
            (with_reducible refine wpQuiet_step (fun K hK => ?_))
            go_simp
            first
              | ((with_reducible refine hK _ ?_); clear hK K)
              | (rw [if_neg (by decide)]; (with_reducible refine hK _ ?_); clear hK K)
              | (apply Exists.intro; refine ⟨fun _ => ?_, hK _ ?_⟩; ((go_at_call 80; with_reducible exact hIP _ _)); clear hK K)
          with_reducible refine wpQuiet_nil ?_
          intro _ hw'
          obtain ⟨⟨nq, osq⟩, hw''⟩ := hw'
          subst hw''
          have hwg := Mid.ofWg wo nq osq
          generalize wg wo nq osq = w5 at hwg ⊢
          have hm9 := hm.trans hwg
          have Q2 := Z2.mid hwg (Or.inr (Nat.zero_le _))
          clear e0 e1 hIP
          obtain ⟨rfl, rfl, rfl, rfl⟩ := HR.out.no (by rw [HNN.out]; exact hno)
          have z0 := Q2.cell 0 rfl
          have z1 := Q2.cell 1 rfl
          have z2 := Q2.cell 2 rfl
          have zf := Q2.2.2
          go_wp2_with fail
          refine bodyPost_ret (v := .tuple #[.agg #[.int .i64 0, .int .i64 0, .slice none 0 0], .bool false]) (by simp [results, Tryz.results45, go_sem, z0, z1, z2, zf]) rfl ⟨none, 0, rfl, OG.nil, ?_⟩
          repeat (first | exact hm9 | refine Mid.storeNew ?_ (by simp; try omega) _)
        | true =>
        by_cases hpn : p.length = n
        · have dn : ((p.length : Int) != (n : Int)) = false := by rw [hpn]; simp
          have hperm := HBP.out.1 rfl
          have hp40 := hperm.1
          have HPERM := Lib.hid hperm
          have hpl2 : p.length ≤ 40 ∧ (p.length : Int) ≤ n ∧ (n : Int) ≤ p.length := ⟨hp40, by omega, by omega⟩
          have HPN := Lib.hid hpn
          clear hperm hpn
          go_wp2_with fail
          refine wp_region_quiet_wg (by kernel_rfl) (by kernel_rfl) ?_
          repeat
            (with_reducible refine wpQuiet_step (fun K hK => ?_))
            go_simp
            first
              | ((with_reducible refine hK _ ?_); clear hK K)
              | (rw [if_neg (by decide)]; (with_reducible refine hK _ ?_); clear hK K)
              | (apply Exists.intro; refine ⟨fun _ => ?_, hK _ ?_⟩; ((go_at_call 80; with_reducible exact hIP _ _)); clear hK K)
          with_reducible refine wpQuiet_nil ?_
          intro _ hw'
          obtain ⟨⟨nq, osq⟩, hw''⟩ := hw'
          subst hw''
          have hwg := Mid.ofWg wo nq osq
          have hs5 := hwg.size
          generalize wg wo nq osq = w5 at hwg hs5 ⊢
          have Q2 := Z2.mid hwg (Or.inr (Nat.zero_le _))
          have Q3 := Z3.mid hwg (Or.inr (Nat.zero_le _))
          have hown5 := hown.mid hwg (Or.inl (Nat.zero_le _))
          have hrp5 := hrp.mid hwg (Or.inl (Nat.zero_le _))
          have hcp5 := cell_keep hwg hBps (Or.inr (Nat.zero_le _)) hcp
          have hm9 := hm.trans hwg
          clear e0 e1 hIP Z2 Z3 hown hrp hcp hm hwg
          go_wp2_with fail
          go_loopw [8] (fun j wr => ∃ (m : Nat) (A3 : Option Addr) (c3 hi3 : Nat) (ys : List Ed), m ≤ n ∧ j = .int .i64 m ∧ Hid (ys = canon (actEs l k ++ permE ((k : Int) + 1) p m)) ∧
            OG wr (Gb + 1) hi3 A3 c3 ys ∧
            Box wr w.heap.size [.int .i64 0, .int .i64 0, .slice none 0 0] ∧ Box wr Gb [.int .i64 rank, .int .i64 n, .slice A3 ys.length c3] ∧ RV wr lo hi Ap (ints p) ∧ wr.cell? ⟨B0, o0 + k, none⟩ = some (.slice Ap p.length cp) ∧ Mid 0 0 w wr) (fun j _ => n - (intOf j).toNat)
          case atStart => exact ⟨0, A2, c2, hi2, xs, Nat.zero_le _, rfl, Lib.hid (by simpa [permE] using HX.out), hown5, Q2, Q3, hrp5, hcp5, hm9⟩
          case round =>
            clear hown5 Q2 Q3 hrp5 hcp5 hm9 hs5
            obtain ⟨m, A3, c3, hi3, ys, hmp, rfl, HY, hown, Z2, Z3, hrp, hcp, hm⟩ := hrel
            have hyl : ys.length ≤ 1000 := by
              have h1 := canon_len (actEs l k ++ permE ((k : Int) + 1) p m)
              rw [← HY.out, List.length_append, permE_len] at h1
              have h4 : ∀ j, j ≤ k → (actEs l j).length ≤ j * 40 := by
                intro j
                induction j with
                | zero => intro _; simp [actEs]
                | succ j ih =>
                  intro hj
                  have hq := List.getElem?_eq_getElem (l := l) (i := j) (by omega)
                  rw [actEs_succ hq, List.length_append, permE_len, Nat.succ_mul]
                  have h5 := ih (by omega)
                  have h6 := (HALL.out (l[j]'(by omega)) (by rw [List.mem_take_iff_getElem]; exact ⟨j, by omega, rfl⟩)).1.1
                  omega
              have h5 := h4 k (Nat.le_refl _)
              omega
            have z1 := Z3.cell 1 rfl
            have hBws : B0 < wr.heap.size := by have := hm.size; have := hr.size; omega
            by_cases hltm : m < n
            · obtain ⟨Bx, ox, x, rfl, hBx, hx, hcx⟩ := hrp.at (k := m) (by omega)
              have hm1 : (m : Int) < (n : Int) := by omega
              have hmp1 : (m : Int) < (p.length : Int) := by omega
              have hm00 : (0 : Int) ≤ (m : Int) := by omega
              have hpe := permE_succ (x := (k : Int) + 1) hx
              have HPE := Lib.hid hpe
              have hwk : IntKind.i64.wrap ((k : Int) + 1) = (k : Int) + 1 := IntWalk.i64_in _ (by omega)
              have hBxs : Bx < wr.heap.size := by have := hrp.1; omega
              clear hx hpe
              go_wp2_with fail
              have hmd := Mid.drew1 wr
              have U2 := Z2.mid hmd (Or.inr (Nat.zero_le _))
              have U3 := Z3.mid hmd (Or.inr (Nat.zero_le _))
              have hownU := hown.mid hmd (Or.inl (Nat.zero_le _))
              have hrpU := hrp.mid hmd (Or.inl (Nat.zero_le _))
              have hmu := hm.trans hmd
              have hsd := hmd.size
              have g2 := U3.cell 2 rfl
              have f0 := cell_keep hmd hBws (Or.inr (Nat.zero_le _)) hcp
              have f1 := cell_keep hmd hBxs (Or.inr (Nat.zero_le _)) hcx
              clear Z2 Z3 hown hrp hcp hcx hm hmd z1
              refine wp_region_T (S := (fun w' => w'.cell? ⟨Gb, 2, none⟩ = some (.slice A3 ys.length c3) ∧ w'.cell? ⟨B0, o0 + k, none⟩ = some (.slice (some ⟨Bx, ox, none⟩) p.length cp) ∧ w'.cell? ⟨Bx, ox + m, none⟩ = some (.int .i64 x))) 15 (by kernel_rfl) ⟨g2, f0, f1⟩ ?_
              generalize World.drew wr = wz at U2 U3 hownU hrpU hmu hsd f0 f1 g2 ⊢
              have hS : wz.cell? ⟨Gb, 2, none⟩ = some (.slice A3 ys.length c3) ∧ wz.cell? ⟨B0, o0 + k, none⟩ = some (.slice (some ⟨Bx, ox, none⟩) p.length cp) ∧ wz.cell? ⟨Bx, ox + m, none⟩ = some (.int .i64 x) := ⟨g2, f0, f1⟩
              refine wpAnyT_take (i := 0) (v := ?_) rfl (by kernel_rfl) (by kernel_rfl) (by kernel_rfl) (by kernel_rfl) (fun _ _ _ h => h) (Or.inl ⟨by rfl, ?_⟩) hS ?_
              rotate_left
              focus (intro w hSw; (try dsimp only at hSw); go_simp; try with_reducible rfl)
              try simp only [Act.put, List.setIfInBounds_toArray, List.set_cons_zero, List.set_cons_succ, List.getElem_toArray, List.getElem_cons_zero, List.getElem_cons_succ]
              refine wpAnyT_take (i := 1) (v := ?_) rfl (by kernel_rfl) (by kernel_rfl) (by kernel_rfl) (by kernel_rfl) (fun _ _ _ h => h) (Or.inl ⟨by rfl, ?_⟩) hS ?_
              rotate_left
              focus (intro w hSw; (try dsimp only at hSw); go_simp; try with_reducible rfl)
              try simp only [Act.put, List.setIfInBounds_toArray, List.set_cons_zero, List.set_cons_succ, List.getElem_toArray, List.getElem_cons_zero, List.getElem_cons_succ]
              refine wpAnyT_take (i := 2) (v := ?_) rfl (by kernel_rfl) (by kernel_rfl) (by kernel_rfl) (by kernel_rfl) (fun _ _ _ h => h) (Or.inl ⟨by rfl, ?_⟩) hS ?_
              rotate_left
              focus (intro w hSw; (try dsimp only at hSw); go_simp; try with_reducible rfl)
              try simp only [Act.put, List.setIfInBounds_toArray, List.set_cons_zero, List.set_cons_succ, List.getElem_toArray, List.getElem_cons_zero, List.getElem_cons_succ]
              refine wpAnyT_take (i := 3) (v := ?_) rfl (by kernel_rfl) (by kernel_rfl) (by kernel_rfl) (by kernel_rfl) (fun _ _ _ h => h) (Or.inl ⟨by rfl, ?_⟩) hS ?_
              rotate_left
              focus (intro w hSw; (try dsimp only at hSw); go_simp; try with_reducible rfl)
              try simp only [Act.put, List.setIfInBounds_toArray, List.set_cons_zero, List.set_cons_succ, List.getElem_toArray, List.getElem_cons_zero, List.getElem_cons_succ]
              refine wpAnyT_take (i := 4) (v := ?_) rfl (by kernel_rfl) (by kernel_rfl) (by kernel_rfl) (by kernel_rfl) (fun _ _ _ h => h) (Or.inl ⟨by rfl, ?_⟩) hS ?_
              rotate_left
              focus (intro w hSw; (try dsimp only at hSw); go_simp; try with_reducible rfl)
              try simp only [Act.put, List.setIfInBounds_toArray, List.set_cons_zero, List.set_cons_succ, List.getElem_toArray, List.getElem_cons_zero, List.getElem_cons_succ]
              refine wpAnyT_take (i := 5) (v := ?_) rfl (by kernel_rfl) (by kernel_rfl) (by kernel_rfl) (by kernel_rfl) (fun _ _ _ h => h) (Or.inl ⟨by rfl, ?_⟩) hS ?_
              rotate_left
              focus (intro w hSw; (try dsimp only at hSw); go_simp; try with_reducible rfl)
              try simp only [Act.put, List.setIfInBounds_toArray, List.set_cons_zero, List.set_cons_succ, List.getElem_toArray, List.getElem_cons_zero, List.getElem_cons_succ]
              refine wpAnyT_take (i := 6) (v := ?_) rfl (by kernel_rfl) (by kernel_rfl) (by kernel_rfl) (by kernel_rfl) (fun _ _ _ h => h) (Or.inl ⟨by rfl, ?_⟩) hS ?_
              rotate_left
              focus (intro w hSw; (try dsimp only at hSw); go_simp; try with_reducible rfl)
              try simp only [Act.put, List.setIfInBounds_toArray, List.set_cons_zero, List.set_cons_succ, List.getElem_toArray, List.getElem_cons_zero, List.getElem_cons_succ]
              refine wpAnyT_take (i := 7) (v := ?_) rfl (by kernel_rfl) (by kernel_rfl) (by kernel_rfl) (by kernel_rfl) (fun _ _ _ h => h) (Or.inl ⟨by rfl, ?_⟩) hS ?_
              rotate_left
              focus (intro w hSw; (try dsimp only at hSw); go_simp; try with_reducible rfl)
              try simp only [Act.put, List.setIfInBounds_toArray, List.set_cons_zero, List.set_cons_succ, List.getElem_toArray, List.getElem_cons_zero, List.getElem_cons_succ]
              refine wpAnyT_take (i := 8) (v := ?_) rfl (by kernel_rfl) (by kernel_rfl) (by kernel_rfl) (by kernel_rfl) (fun _ _ _ h => h) (Or.inl ⟨by rfl, ?_⟩) hS ?_
              rotate_left
              focus (intro w hSw; (try dsimp only at hSw); go_simp; try with_reducible rfl)
              try simp only [Act.put, List.setIfInBounds_toArray, List.set_cons_zero, List.set_cons_succ, List.getElem_toArray, List.getElem_cons_zero, List.getElem_cons_succ]
              refine wpAnyT_take (i := 9) (v := ?_) rfl (by kernel_rfl) (by kernel_rfl) (by kernel_rfl) (by kernel_rfl) (fun _ _ _ h => h) (Or.inl ⟨by rfl, ?_⟩) hS ?_
              rotate_left
              focus (intro w hSw; (try dsimp only at hSw); go_simp; try with_reducible rfl)
              try simp only [Act.put, List.setIfInBounds_toArray, List.set_cons_zero, List.set_cons_succ, List.getElem_toArray, List.getElem_cons_zero, List.getElem_cons_succ]
              refine wpAnyT_take (i := 10) (v := ?_) rfl (by kernel_rfl) (by kernel_rfl) (by kernel_rfl) (by kernel_rfl) (fun _ _ _ h => h) (Or.inl ⟨by rfl, ?_⟩) hS ?_
              rotate_left
              focus (intro w hSw; (try dsimp only at hSw); go_simp; try with_reducible rfl)
              try simp only [Act.put, List.setIfInBounds_toArray, List.set_cons_zero, List.set_cons_succ, List.getElem_toArray, List.getElem_cons_zero, List.getElem_cons_succ]
              refine wpAnyT_take (i := 11) (v := ?_) rfl (by kernel_rfl) (by kernel_rfl) (by kernel_rfl) (by kernel_rfl) (fun _ _ _ h => h) (Or.inl ⟨by rfl, ?_⟩) hS ?_
              rotate_left
              focus (intro w hSw; (try dsimp only at hSw); go_simp; try with_reducible rfl)
              try simp only [Act.put, List.setIfInBounds_toArray, List.set_cons_zero, List.set_cons_succ, List.getElem_toArray, List.getElem_cons_zero, List.getElem_cons_succ]
              refine wpAnyT_take (i := 12) (v := ?_) rfl (by kernel_rfl) (by kernel_rfl) (by kernel_rfl) (by kernel_rfl) (fun _ _ _ h => h) (Or.inl ⟨by rfl, ?_⟩) hS ?_
              rotate_left
              focus (intro w hSw; (try dsimp only at hSw); go_simp; try with_reducible rfl)
              try simp only [Act.put, List.setIfInBounds_toArray, List.set_cons_zero, List.set_cons_succ, List.getElem_toArray, List.getElem_cons_zero, List.getElem_cons_succ]
              have hP := spec_l4Put A3 ys c3 ⟨(m : Int), (k : Int) + 1, x⟩ wz _ _ hownU.rg (by omega)
              refine wpAnyT_ready (rs := [13]) (by kernel_rfl) (by simp) (AllReadyT.cons rfl (fun K hK => ?_) AllReadyT.nil)
              (go_simp; (with_reducible refine hP.mono ?_); rintro en w9 ⟨A9, c9, rfl, ho9, hm9⟩; have T2' := U2.mid hm9 (Or.inr (Nat.zero_le _)); have T3' := U3.mid hm9 (Or.inr (Nat.zero_le _)); have f0' := cell_keep hm9 (by omega) (Or.inr (Nat.zero_le _)) f0; have f1' := cell_keep hm9 (by omega) (Or.inr (Nat.zero_le _)) f1; go_wp2_with fail)
              refine hK.out _ _ (Or.inr ⟨T3'.cell 2 rfl, f0', f1'⟩) (fun _ => ?_)
              clear hK K
              try simp only [Act.put, List.setIfInBounds_toArray, List.set_cons_zero, List.set_cons_succ, List.getElem_toArray, List.getElem_cons_zero, List.getElem_cons_succ]
              have hmr9 := hmu.trans hm9
              have hrp9 := hrpU.mid hm9 (Or.inl (Nat.zero_le _))
              have hGz : Gb < wz.heap.size := U3.1
              have hS3 := And.intro (T3'.cell 2 rfl) (And.intro f0' f1')
              have hr2 := T3'.cell 2 rfl
              have hrf := T3'.2.2
              clear hS U2 U3 hmu hP hrpU f0 f1 g2
              refine wpAnyT_take (i := 14) (v := ?_) rfl (by kernel_rfl) (by kernel_rfl) (by kernel_rfl) (by kernel_rfl) (fun _ _ _ h => h) (Or.inl ⟨by rfl, ?_⟩) hS3 ?_
              rotate_left
              focus (intro w hSw; (try dsimp only at hSw); go_simp; try with_reducible rfl)
              try simp only [Act.put, List.setIfInBounds_toArray, List.set_cons_zero, List.set_cons_succ, List.getElem_toArray, List.getElem_cons_zero, List.getElem_cons_succ]
              refine wpAnyT_ready (rs := [15]) (by kernel_rfl) (by simp) (AllReadyT.cons rfl (fun K hK => ?_) AllReadyT.nil)
              (go_simp)
              refine hK.out _ _ (Or.inl rfl) (fun _ => ?_)
              clear hK K
              try simp only [Act.put, List.setIfInBounds_toArray, List.set_cons_zero, List.set_cons_succ, List.getElem_toArray, List.getElem_cons_zero, List.getElem_cons_succ]
              refine wpAnyT_done (by kernel_rfl) ?_ _
              go_wp2_with fail
              go_roundw
              case rel =>
                have hst := Mid.setCell w9 (lo := Gb) (hi := Gb + 1) (p := ⟨Gb, 2, none⟩) (.slice A9 (putE ⟨(m : Int), (k : Int) + 1, x⟩ ys).length c9) (Nat.le_refl _) (Nat.lt_succ_self _)
                have hb9 : B0 < w9.heap.size := by have := hm9.size; omega
                refine ⟨m + 1, A9, c9, _, putE ⟨(m : Int), (k : Int) + 1, x⟩ ys, by omega, by go_num, Lib.hid ?_, (ho9.wide (lo' := Gb + 1) hGz (Nat.le_refl _) (Nat.le_refl _)).mid hst (Or.inl (Nat.le_refl _)), T2'.mid hst (Or.inl (by omega)), T3'.set 2 _ (by simp) rfl, hrp9.mid hst (Or.inr (by omega)), cell_keep hst hb9 (Or.inl (by omega)) f0', hmr9.storeNew (by show w.heap.size ≤ Gb; omega) _⟩
                rw [HPE.out, ← List.append_assoc, canon, putAll_snoc, HY.out]
                rfl
              case measure => simp [intOf]; omega
            · obtain rfl : m = n := by omega
              have hae := actEs_succ HP.out
              rw [HPN.out] at hae
              rw [← hae] at HY
              go_wp2_with fail
              go_roundw
              case rel =>
                refine ⟨k + 1, A3, c3, hi3, ys, by omega, by go_num, HY, Lib.hid (fun q hq => ?_), hown, Z2, Z3, hm⟩
                rcases (mem_take_succ HP.out).1 hq with hq | hq
                · exact HALL.out q hq
                · rw [hq]
                  exact ⟨HPERM.out, HPN.out⟩
              case measure => simp [intOf]; omega
        · have dn : ((p.length : Int) != (n : Int)) = true := by rw [bne_iff_ne]; omega
          have hno : ¬ GActOk rank l n := fun h => hpn (h.all p (List.mem_of_getElem? HP.out)).2
          go_wp2_with fail
          refine wp_region_quiet_wg (by kernel_rfl) (by kernel_rfl) ?_
          repeat
            (with_reducible refine wpQuiet_step (fun K hK => ?_))
            go_simp
            first
              | ((with_reducible refine hK _ ?_); clear hK K)
              | (rw [if_neg (by decide)]; (with_reducible refine hK _ ?_); clear hK K)
              | (apply Exists.intro; refine ⟨fun _ => ?_, hK _ ?_⟩; ((go_at_call 80; with_reducible exact hIP _ _)); clear hK K)
          with_reducible refine wpQuiet_nil ?_
          intro _ hw'
          obtain ⟨⟨nq, osq⟩, hw''⟩ := hw'
          subst hw''
          have hwg := Mid.ofWg wo nq osq
          generalize wg wo nq osq = w5 at hwg ⊢
          have hm9 := hm.trans hwg
          have Q2 := Z2.mid hwg (Or.inr (Nat.zero_le _))
          clear e0 e1 hIP
          obtain ⟨rfl, rfl, rfl, rfl⟩ := HR.out.no (by rw [HNN.out]; exact hno)
          have z0 := Q2.cell 0 rfl
          have z1 := Q2.cell 1 rfl
          have z2 := Q2.cell 2 rfl
          have zf := Q2.2.2
          go_wp2_with fail
          refine bodyPost_ret (v := .tuple #[.agg #[.int .i64 0, .int .i64 0, .slice none 0 0], .bool false]) (by simp [results, Tryz.results45, go_sem, z0, z1, z2, zf]) rfl ⟨none, 0, rfl, OG.nil, ?_⟩
          repeat (first | exact hm9 | refine Mid.storeNew ?_ (by simp; try omega) _)
      · obtain rfl : k = l.length := by omega
        rw [List.take_length] at HALL
        have hok : GActOk rank l n := ⟨hrk, HLN.out, by omega, HALL.out⟩
        obtain ⟨rfl, rfl, hrs, hre⟩ := HR.out.yes (by rw [HNN.out]; exact hok)
        rw [HNN.out] at hrs hre
        have hgm := act_gr hok
        have hlr : ¬ (l.length : Int) < rank := by have := HLN.out; omega
        obtain ⟨rn, rfl⟩ : ∃ rn : Nat, rank = rn := ⟨rank.toNat, by omega⟩
        have hms : canon (actEs l l.length) = xs := HX.out.symm
        rw [hms] at hgm hrs hre
        have hx120 := hgm.len
        obtain ⟨q, qs, hQ, -⟩ := nat_gr (coreA_gr (g := ((n : Int), xs)) hgm)
        rw [hQ] at hrs hre
        subst hrs
        subst res
        have d120 : decide (120 < (xs.length : Int)) = false := by simp; omega
        have r0 := Z3.cell 0 rfl
        have r1 := Z3.cell 1 rfl
        have r2 := Z3.cell 2 rfl
        have hP := spec_CoreGraph rn n A2 xs c2 wo _ _ (OG.rg hown) hgm
        rw [hQ] at hP
        dsimp only at hP
        have HPP := Lib.hid hP
        clear hok HR hgm hQ hms hP
        go_wp2_with fail
        with_reducible refine HPP.out.mono ?_
        rintro en w8 ⟨A5, c5, rfl, ho8, hm8⟩
        clear HPP
        have S2 := Z2.mid hm8 (Or.inr (Nat.zero_le _))
        have hm9 := hm.trans hm8
        have hs8 : w.heap.size < wo.heap.size := Z2.1
        clear r0 r1 r2
        have z0 := S2.cell 0 rfl
        have z1 := S2.cell 1 rfl
        have z2 := S2.cell 2 rfl
        have zf := S2.2.2
        go_wp2_with fail
        refine bodyPost_ret (v := .tuple #[.agg #[.int .i64 rn, .int .i64 q, .slice A5 qs.length c5], .bool true]) (by simp [results, Tryz.results45, go_sem, z0, z1, z2, zf]) rfl ⟨A5, c5, rfl, ?_, ?_⟩
        · refine OG.wide (OG.mid ho8 (a := w.heap.size) (b := w.heap.size + 1) ?_ (Or.inl (by omega))) (by omega) (by simp) (Nat.le_refl _)
          repeat (first | exact Mid.refl _ _ _ | refine Mid.stored ?_ _ (by simp; try omega) (by simp; try omega))
        · repeat (first | exact hm9 | refine Mid.storeNew ?_ (by simp; try omega) _)
  · have dl : ((l.length : Int) != rank) = true := by simpa using hln
    have hno : ¬ GActOk rank l (n0L l) := fun h => hln h.ln
    obtain ⟨rfl, rfl, rfl, rfl⟩ := HR.out.no hno
    have z0 := B2.cell 0 rfl
    have z1 := B2.cell 1 rfl
    have z2 := B2.cell 2 rfl
    have zf := B2.2.2
    go_wp2_with fail
    refine bodyPost_ret (v := .tuple #[.agg #[.int .i64 0, .int .i64 0, .slice none 0 0], .bool false]) (by simp [results, Tryz.results45, go_sem, z0, z1, z2, zf]) rfl ⟨none, 0, rfl, OG.nil, ?_⟩
    repeat (first | exact hm0 | refine Mid.storeNew ?_ (by simp; try omega) _)
end Go.Proofs.YtimmnnncgnnkgaaGreat

/- IsWord of the reference. -/
namespace Go.Proofs.YtimmnnncgnnkgaaGreat
set_option linter.unusedVariables false
set_option linter.unusedSimpArgs false
open Go.RowKit

set_option maxHeartbeats 3200000 in
theorem spec_IsWord (rank : Int) (A : Option Addr) (xs : List Int) (c : Nat) (w : World) (B : Nat) (hr : Rs w B A (ints xs)) (hok : OkI xs) (hl : xs.length ≤ 4194304) (r : Bool) (hres : r = true ↔ IsW rank xs) :
    Calls Tryz.prog 53 #[.int .i64 rank, .slice A xs.length c] w fun e w' => e = .returned (.bool r) ∧ ∃ n, w' = w.drewN n := by
  have HOK := Lib.hid hok
  have hR2 : r = true ↔ (RawTo rank xs xs.length ∧ inB rank 1 3 = true ∧ xs.length ≤ 24) := hres.trans ⟨fun h => ⟨(rawTo_all h.1 h.2.1).2 h.2.2.2, by simp [inB]; exact ⟨h.1, h.2.1⟩, h.2.2.1⟩, fun h => by
    have h13 : 1 ≤ rank ∧ rank ≤ 3 := by simpa [inB] using h.2.1
    exact ⟨h13.1, h13.2, h.2.2, (rawTo_all h13.1 h13.2).1 h.1⟩⟩
  have HR := Lib.hid hR2
  clear hok hres hR2
  obtain ⟨nr, hnr⟩ : ∃ nr, wrap64 (-rank) = nr := ⟨_, rfl⟩
  go_enter Tryz.func53, Tryz.ntmps53
  go_wp2_with fail
  go_loopw [5] (fun i wr => ∃ k : Nat, k ≤ xs.length ∧ i = .int .i64 k ∧ (∃ n, wr = w.drewN n) ∧ RawTo rank xs k) (fun i _ => xs.length - (intOf i).toNat)
  case atStart => exact ⟨0, Nat.zero_le _, rfl, ⟨0, rfl⟩, RawTo.zero _ _⟩
  case round =>
    obtain ⟨k, hk, rfl, ⟨nd, rfl⟩, hto⟩ := hrel
    have HT := Lib.hid hto
    clear hto
    by_cases hlt : k < xs.length
    · obtain ⟨b, off, x, rfl, -, hx, hc⟩ := hr.int hlt
      have HX := Lib.hid hx
      clear hx
      have hlt3 : (k : Int) < (xs.length : Int) := by omega
      have hno : ∀ (P : Prop), (RawAt rank xs k x → P) → r = true → P := fun P h hr1 => h ((HR.out.1 hr1).1 k x hlt HX.out)
      have HNO := Lib.hid hno
      clear hno
      by_cases hx0 : (x == 0) = true
      · have hf : r = false := by
          cases r with
          | false => rfl
          | true =>
            refine (HNO.out False (fun h => ?_) rfl).elim
            rw [h.1] at hx0
            cases hx0
        subst hf
        go_wp2_with fail
        go_quiet (fail)
        go_wp2_with fail
        go_ret
        exact ⟨rfl, _, by first | rfl | exact dn _ _ _⟩
      · have hx0' : (x == 0) = false := by simpa using hx0
        clear hx0
        have hC := fun n : Nat => pq (l1In_any x nr rank (w.drewN n))
        by_cases hi : inB x nr rank = false
        · have hf : r = false := by
            cases r with
            | false => rfl
            | true =>
              refine (HNO.out False (fun h => ?_) rfl).elim
              have h2 := h.2.1
              rw [hnr, hi] at h2
              cases h2
          subst hf
          rw [hi] at hC
          have HC := Lib.hid hC
          clear hC hi
          go_wp2_with fail
          go_quiet ((go_at_call 77; first | exact qz0 (HC.out _) | exact qz1 (HC.out _)))
          go_wp2_with fail
          go_ret
          exact ⟨rfl, _, by first | rfl | exact dn _ _ _⟩
        · have hi' : inB x nr rank = true := by simpa using hi
          rw [hi'] at hC
          have HC := Lib.hid hC
          have HI := Lib.hid hi'
          clear hC hi hi'
          cases k with
          | zero =>
            have hc0 : w.cell? ⟨b, off, none⟩ = some (.int .i64 x) := hc
            go_wp2_with fail
            go_quiet ((go_at_call 77; first | exact qz0 (HC.out _) | exact qz1 (HC.out _)))
            go_wp2_with fail
            go_roundw
            case rel => exact ⟨1, by omega, by go_num, ⟨_, by first | rfl | exact dn _ _ _⟩, HT.out.succ HX.out ⟨hx0', by rw [hnr]; exact HI.out, fun y h => absurd h (Nat.lt_irrefl 0)⟩⟩
            case measure => simp [intOf]; omega
          | succ m =>
            obtain ⟨b', off', y, he, -, hy, hcy⟩ := hr.int (show m < xs.length by omega)
            injection he with he
            injection he with he1 he2 _
            subst he1 he2
            have HY := Lib.hid hy
            clear hy
            have hlm3 : (m : Int) < (xs.length : Int) := by omega
            have hm0 : (0 : Int) < (m : Int) + 1 := by omega
            have hp1 : (m : Int) + 1 - 1 = (m : Int) := by omega
            obtain ⟨ny, hny⟩ : ∃ ny, wrap64 (-y) = ny := ⟨_, rfl⟩
            by_cases hxy : (x == ny) = true
            · have hf : r = false := by
                cases r with
                | false => rfl
                | true =>
                  refine (HNO.out False (fun h => ?_) rfl).elim
                  have h2 := h.2.2 y (Nat.succ_pos m) HY.out
                  rw [hny, hxy] at h2
                  cases h2
              subst hf
              go_wp2_with fail
              go_quiet ((go_at_call 77; first | exact qz0 (HC.out _) | exact qz1 (HC.out _)))
              go_wp2_with fail
              go_ret
              exact ⟨rfl, _, by first | rfl | exact dn _ _ _⟩
            · have hxy' : (x == ny) = false := by simpa using hxy
              clear hxy
              go_wp2_with fail
              go_quiet ((go_at_call 77; first | exact qz0 (HC.out _) | exact qz1 (HC.out _)))
              go_wp2_with fail
              go_roundw
              case rel =>
                refine ⟨m + 1 + 1, by omega, by go_num, ⟨_, by first | rfl | exact dn _ _ _⟩, HT.out.succ HX.out ⟨hx0', by rw [hnr]; exact HI.out, fun z _ hz => ?_⟩⟩
                rw [Nat.add_sub_cancel, HY.out] at hz
                obtain rfl := Option.some.inj hz
                rw [hny]
                exact hxy'
              case measure => simp [intOf]; omega
    · obtain rfl : k = xs.length := by omega
      have hrv : r = (inB rank 1 3 && decide ((xs.length : Int) ≤ 24)) := by
        rw [Bool.eq_iff_iff, HR.out]
        simp only [Bool.and_eq_true, decide_eq_true_eq]
        exact ⟨fun h => ⟨h.2.1, by omega⟩, fun h => ⟨HT.out, h.1, by omega⟩⟩
      by_cases hib : inB rank 1 3 = false
      · rw [hib] at hrv
        have HI := Lib.hid hib
        clear hib
        simp only [Bool.false_and] at hrv
        subst hrv
        go_wp2_with fail
        refine (l1In_any _ _ _ _).mono ?_
        rintro e w' ⟨rfl, rfl⟩
        rw [HI.out]
        go_wp2_with fail
        go_ret
        exact ⟨rfl, _, rfl⟩
      · have hib' : inB rank 1 3 = true := by simpa using hib
        rw [hib'] at hrv
        have HI := Lib.hid hib'
        simp only [Bool.true_and] at hrv
        clear hib hib'
        subst hrv
        go_wp2_with fail
        refine (l1In_any _ _ _ _).mono ?_
        rintro e w' ⟨rfl, rfl⟩
        rw [HI.out]
        go_wp2_with fail
        go_ret
        exact ⟨rfl, _, rfl⟩
end Go.Proofs.YtimmnnncgnnkgaaGreat

/- IsMorphism, both sides, and in the laws' words. -/
namespace Go.Proofs.YtimmnnncgnnkgaaGreat
set_option linter.unusedVariables false
set_option linter.unusedSimpArgs false
open Go.RowKit

def IsMor (rk : Int) (d : List (List Int)) : Prop := 1 ≤ rk ∧ rk ≤ 3 ∧ (d.length : Int) = rk ∧ ∀ xs ∈ d, IsW rk xs
/-- The first k rows are words. -/
def WordsTo (rk : Int) (d : List (List Int)) (k : Nat) : Prop := ∀ j xs, j < k → d[j]? = some xs → IsW rk xs
theorem WordsTo.zero (rk : Int) (d : List (List Int)) : WordsTo rk d 0 := fun j x h => absurd h (Nat.not_lt_zero j)
theorem WordsTo.succ {rk : Int} {d : List (List Int)} {k : Nat} {x : List Int} (h : WordsTo rk d k) (hx : d[k]? = some x) (hl : IsW rk x) : WordsTo rk d (k + 1) := by
  intro j z hj hz
  rcases Nat.lt_or_eq_of_le (Nat.le_of_lt_succ hj) with h1 | rfl
  · exact h j z h1 hz
  · rw [hx] at hz
    obtain rfl := Option.some.inj hz
    exact hl
theorem wordsTo_all {rk : Int} {d : List (List Int)} : WordsTo rk d d.length ↔ ∀ xs ∈ d, IsW rk xs := by
  constructor
  · intro h x hx
    obtain ⟨j, hj⟩ := List.mem_iff_getElem?.1 hx
    exact h j x (List.getElem?_eq_some_iff.1 hj).1 hj
  · exact fun h j x _ hx => h x (List.mem_of_getElem? hx)
theorem bool_ofR (p : Prop) : ∃ r : Bool, r = true ↔ p := by
  by_cases h : p
  · exact ⟨true, by simp [h]⟩
  · exact ⟨false, by simp [h]⟩
theorem row_le {d : List (List Int)} {xs : List Int} (h : xs ∈ d) (hl : d.length + sumL d ≤ 1048576) : xs.length ≤ 4194304 := by
  have := len_le_sumL h
  omega

set_option maxHeartbeats 3200000 in
theorem spec_IsMorphism (rk : Int) (A : Option Addr) (d : List (List Int)) (c : Nat) (w : World) (lo hi : Nat) (hr : RSS w lo hi A d) (hok : OkSS d) (hl : d.length + sumL d ≤ 1048576) (r : Bool) (hres : r = true ↔ IsMor rk d) :
    Calls Tryz.prog 42 #[.agg #[.int .i64 rk, .slice A d.length c]] w (Stp (.bool r) w) := by
  have HOK := Lib.hid hok
  have HR := Lib.hid hres
  clear hok hres
  have hb0 : Mid 0 0 w (w.alloc (.cells #[.int .i64 rk, .slice A d.length c] 44)) := Mid.alloc _ _
  have hbx := Box.new w #[.int .i64 rk, .slice A d.length c] 44
  have hrb := hr.mid hb0 (Or.inl (Nat.zero_le _))
  go_enter Tryz.func42, Tryz.ntmps42
  go_wp2_with fail
  obtain ⟨wb, hwb⟩ : ∃ wb, wb = w.alloc (.cells #[.int .i64 rk, .slice A d.length c] 44) := ⟨_, rfl⟩
  rw [← hwb] at hb0 hbx hrb ⊢
  clear hwb hr
  have k0 := hbx.cell 0 rfl
  have k1 := hbx.cell 1 rfl
  go_loopw [3] (fun i wr => ∃ k : Nat, k ≤ d.length ∧ i = .int .i64 k ∧ (∃ n, wr = wb.drewN n) ∧ WordsTo rk d k) (fun i _ => d.length - (intOf i).toNat)
  case atStart => exact ⟨0, Nat.zero_le _, rfl, ⟨0, rfl⟩, WordsTo.zero _ _⟩
  case round =>
    obtain ⟨k, hk, rfl, ⟨nd, rfl⟩, hto⟩ := hrel
    have HT := Lib.hid hto
    clear hto
    by_cases hlt : k < d.length
    · obtain ⟨b, off, A', c', xs, rfl, -, -, hx, hc, hrx⟩ := hrb.row hlt
      have hm := List.mem_of_getElem? hx
      have hlx := row_le hm hl
      have hox := HOK.out.2 xs hm
      have HX := Lib.hid hx
      have HM := Lib.hid hm
      clear hx hm
      obtain ⟨v, hv⟩ := bool_ofR (IsW rk xs)
      have hC := fun n : Nat => spec_IsWord rk A' xs c' (wb.drewN n) _ (hrx.rs.drewN n) hox hlx v hv
      have HV := Lib.hid hv
      have HC := Lib.hid hC
      have HO := Lib.hid hox
      clear hC hv hox hrx
      have hlt3 : (k : Int) < (d.length : Int) := by omega
      cases v with
      | false =>
        have hf : r = false := by
          cases r with
          | false => rfl
          | true =>
            have := HV.out.2 ((HR.out.1 rfl).2.2.2 xs HM.out)
            cases this
        subst hf
        go_wp2_with fail
        go_quiet ((go_at_call 53; first | exact qz0 (HC.out _) | exact qz1 (HC.out _)))
        go_wp2_with fail
        go_ret
        exact ⟨rfl, (hb0.drewN nd).drewN _⟩
      | true =>
        have hw := HV.out.1 rfl
        have HW := Lib.hid hw
        clear hw HV
        go_wp2_with fail
        go_quiet ((go_at_call 53; first | exact qz0 (HC.out _) | exact qz1 (HC.out _)))
        go_wp2_with fail
        go_roundw
        case rel => exact ⟨k + 1, by omega, by go_num, ⟨_, by first | rfl | exact dn _ _ _⟩, HT.out.succ HX.out HW.out⟩
        case measure => simp [intOf]; omega
    · obtain rfl : k = d.length := by omega
      have hrv : r = (inB rk 1 3 && ((d.length : Int) == rk)) := by
        rw [Bool.eq_iff_iff, HR.out]
        simp only [Bool.and_eq_true, beq_iff_eq, inB, decide_eq_true_eq]
        exact ⟨fun h => ⟨⟨h.1, h.2.1⟩, h.2.2.1⟩, fun h => ⟨h.1.1, h.1.2, h.2, wordsTo_all.1 HT.out⟩⟩
      by_cases hib : inB rk 1 3 = false
      · rw [hib] at hrv
        have HI := Lib.hid hib
        clear hib
        simp only [Bool.false_and] at hrv
        subst hrv
        go_wp2_with fail
        refine (l1In_any _ _ _ _).mono ?_
        rintro e w' ⟨rfl, rfl⟩
        rw [HI.out]
        go_wp2_with fail
        go_ret
        exact ⟨rfl, hb0.drewN _⟩
      · have hib' : inB rk 1 3 = true := by simpa using hib
        rw [hib'] at hrv
        have HI := Lib.hid hib'
        simp only [Bool.true_and] at hrv
        clear hib hib'
        cases r with
        | true =>
          have hq : ((d.length : Int) == rk) = true := hrv.symm
          clear hrv
          go_wp2_with fail
          refine (l1In_any _ _ _ _).mono ?_
          rintro e w' ⟨rfl, rfl⟩
          rw [HI.out]
          go_wp2_with fail
          go_ret
          exact ⟨rfl, hb0.drewN _⟩
        | false =>
          have hq : ((d.length : Int) == rk) = false := hrv.symm
          clear hrv
          go_wp2_with fail
          refine (l1In_any _ _ _ _).mono ?_
          rintro e w' ⟨rfl, rfl⟩
          rw [HI.out]
          go_wp2_with fail
          go_ret
          exact ⟨rfl, hb0.drewN _⟩

set_option maxHeartbeats 3200000 in
theorem impl_IsMorphism (rk : Int) (A : Option Addr) (d : List (List Int)) (c : Nat) (w : World) (lo hi : Nat) (hr : RSS w lo hi A d) (hok : OkSS d) (hl : d.length + sumL d ≤ 1048576) (r : Bool) (hres : r = true ↔ IsMor rk d) :
    Calls Tryz.prog 46 #[.agg #[.int .i64 rk, .slice A d.length c]] w (Stp (.bool r) w) := by
  have HOK := Lib.hid hok
  have HR := Lib.hid hres
  clear hok hres
  have hb0 : Mid 0 0 w (w.alloc (.cells #[.int .i64 rk, .slice A d.length c] 44)) := Mid.alloc _ _
  have hbx := Box.new w #[.int .i64 rk, .slice A d.length c] 44
  have hrb := hr.mid hb0 (Or.inl (Nat.zero_le _))
  clear hr
  by_cases hib : inB rk 1 3 = false
  · have hf : r = false := by
      cases r with
      | false => rfl
      | true =>
        have h := HR.out.1 rfl
        simp [inB] at hib
        have := h.1
        have := h.2.1
        omega
    subst hf
    have HI := Lib.hid hib
    clear hib
    go_enter Tryz.func46, Tryz.ntmps46
    go_wp2_with fail
    refine (within_any _ _ _ _).mono ?_
    rintro e w' ⟨rfl, rfl⟩
    rw [HI.out]
    go_wp2_with fail
    go_ret
    exact ⟨rfl, hb0⟩
  · have hib' : inB rk 1 3 = true := by simpa using hib
    have HI := Lib.hid hib'
    clear hib hib'
    by_cases hq : ((d.length : Int) != rk) = true
    · have hf : r = false := by
        cases r with
        | false => rfl
        | true =>
          have h := HR.out.1 rfl
          simp at hq
          exact absurd h.2.2.1 hq
      subst hf
      go_enter Tryz.func46, Tryz.ntmps46
      go_wp2_with fail
      refine (within_any _ _ _ _).mono ?_
      rintro e w' ⟨rfl, rfl⟩
      rw [HI.out]
      go_wp2_with fail
      go_ret
      exact ⟨rfl, hb0⟩
    · have hq' : ((d.length : Int) != rk) = false := by simpa using hq
      have hrv : r = true ↔ WordsTo rk d d.length := HR.out.trans ⟨fun h => wordsTo_all.2 h.2.2.2, fun h => by
        have h13 : 1 ≤ rk ∧ rk ≤ 3 := by simpa [inB] using HI.out
        exact ⟨h13.1, h13.2, by simpa using hq', wordsTo_all.1 h⟩⟩
      have HR2 := Lib.hid hrv
      clear hrv HR hq
      go_enter Tryz.func46, Tryz.ntmps46
      go_wp2_with fail
      refine (within_any _ _ _ _).mono ?_
      rintro e w' ⟨rfl, rfl⟩
      rw [HI.out]
      go_wp2_with fail
      obtain ⟨wb, hwb⟩ : ∃ wb, wb = w.alloc (.cells #[.int .i64 rk, .slice A d.length c] 44) := ⟨_, rfl⟩
      rw [← hwb] at hb0 hbx hrb ⊢
      clear hwb
      have k0 := hbx.cell 0 rfl
      have k1 := hbx.cell 1 rfl
      go_loop [4, 20] (fun _ i => ∃ k : Nat, k ≤ d.length ∧ i = .int .i64 k ∧ WordsTo rk d k) (fun _ i => d.length - (intOf i).toNat)
      case atStart => exact ⟨0, Nat.zero_le _, rfl, WordsTo.zero _ _⟩
      case round =>
        obtain ⟨k, hk, rfl, hto⟩ := hrel
        have HT := Lib.hid hto
        clear hto
        by_cases hlt : k < d.length
        · obtain ⟨b, off, A', c', xs, rfl, -, -, hx, hc, hrx⟩ := hrb.row hlt
          have hm := List.mem_of_getElem? hx
          have hlx := row_le hm hl
          have hox := HOK.out.2 xs hm
          have HX := Lib.hid hx
          have HM := Lib.hid hm
          clear hx hm
          obtain ⟨v, hv⟩ := bool_ofR (IsW rk xs)
          have HV := Lib.hid hv
          have HO := Lib.hid hox
          clear hv hox
          cases v with
          | false =>
            have hf : r = false := by
              cases r with
              | false => rfl
              | true =>
                have := HV.out.2 (HR2.out.1 rfl k xs hlt HX.out)
                cases this
            subst hf
            go_wp2_with fail
            refine (impl_IsWord rk A' xs c' _ _ hrx.rs HO.out hlx _ HV.out).mono ?_
            rintro e w' ⟨rfl, rfl⟩
            go_wp2_with fail
            go_ret
            exact ⟨rfl, hb0⟩
          | true =>
            have hw := HV.out.1 rfl
            have HW := Lib.hid hw
            clear hw HV
            go_wp2_with fail
            refine (impl_IsWord rk A' xs c' _ _ hrx.rs HO.out hlx true (iff_of_true rfl HW.out)).mono ?_
            rintro e w' ⟨rfl, rfl⟩
            go_wp2_with fail
            go_round
            case rel => exact ⟨k + 1, by omega, by go_num, HT.out.succ HX.out HW.out⟩
            case measure => simp [intOf]; omega
        · obtain rfl : k = d.length := by omega
          obtain rfl : r = true := HR2.out.2 HT.out
          go_wp2_with fail
          go_ret
          exact ⟨rfl, hb0⟩

def IsMorphismIs (r : Int) (d : List (List Int)) (res : Bool) : Prop := res = true ↔ IsMor r d
theorem IsMorphismIs_ex (r : Int) (d : List (List Int)) (_ : (Lit.int .i64 r).wf = true) (_ : OkSS d) (_ : d.length + sumL d ≤ 1048576) : ∃ res, IsMorphismIs r d res := bool_ofR _
theorem sspec_IsMorphism (r : Int) (A : Option Addr) (d : List (List Int)) (c : Nat) (w : World) (lo hi : Nat) (h : RSS w lo hi A d) (_b : (Lit.int .i64 r).wf = true) (_o : OkSS d) (hl : d.length + sumL d ≤ 1048576) (res : Bool) (hres : IsMorphismIs r d res) :
    Calls Tryz.prog 42 #[.agg #[.int .i64 r, .slice A d.length c]] w (Stp (.bool res) w) := spec_IsMorphism r A d c w lo hi h _o hl res hres
theorem simpl_IsMorphism (r : Int) (A : Option Addr) (d : List (List Int)) (c : Nat) (w : World) (lo hi : Nat) (h : RSS w lo hi A d) (_b : (Lit.int .i64 r).wf = true) (_o : OkSS d) (hl : d.length + sumL d ≤ 1048576) (res : Bool) (hres : IsMorphismIs r d res) :
    Calls Tryz.prog 46 #[.agg #[.int .i64 r, .slice A d.length c]] w (Stp (.bool res) w) := impl_IsMorphism r A d c w lo hi h _o hl res hres
end Go.Proofs.YtimmnnncgnnkgaaGreat

/- Plain: how far a word can be read; the graph with the rest of the word added; the base moved; the flower of some words. -/
namespace Go.Proofs.YtimmnnncgnnkgaaGreat
set_option linter.unusedVariables false
set_option linter.unusedSimpArgs false

/-- The vertex to which the first letters lead, and how many can be read. -/
def rdA (es : List Ed) : Int → List Int → Int × Nat
  | v, [] => (v, 0)
  | v, x :: t => if nextV es v x < 0 then (v, 0) else ((rdA es (nextV es v x) t).1, (rdA es (nextV es v x) t).2 + 1)
theorem rdA_le (es : List Ed) : ∀ (w : List Int) (v : Int), (rdA es v w).2 ≤ w.length
  | [], v => Nat.le_refl _
  | x :: t, v => by
    rw [rdA]
    split
    · exact Nat.zero_le _
    · exact Nat.succ_le_succ (rdA_le es t _)
theorem rdA_in {r s : Int} {es : List Ed} (hg : ∀ e ∈ es, InG r s e) : ∀ (w : List Int) {v : Int}, 0 ≤ v ∧ v < s → 0 ≤ (rdA es v w).1 ∧ (rdA es v w).1 < s
  | [], v, h => h
  | x :: t, v, h => by
    rw [rdA]
    split
    · exact h
    · have := nextV_cases hg v x
      exact rdA_in hg t (by omega)
theorem WordP.drop {r : Int} {w : List Int} (h : WordP r w) (n : Nat) : WordP r (w.drop n) := by
  refine ⟨fun x hx => h.1 x (List.mem_of_mem_drop hx), fun k x y hx hy => ?_⟩
  rw [List.getElem?_drop] at hx hy
  exact h.2 (n + k) x y hx (by rw [← hy]; congr 1)
theorem IsW.drop {r : Int} {w : List Int} (h : IsW r w) (n : Nat) : IsW r (w.drop n) := ⟨h.1, h.2.1, by have := h.2.2.1; rw [List.length_drop]; omega, h.2.2.2.drop n⟩
theorem gr_more {r s : Int} {es : List Ed} (h : IsGr r s es) (hs : s < 40) : IsGr r (s + 1) es := by
  have h1 := h.size
  exact ⟨h.rank, ⟨by omega, by omega⟩, h.len, fun e he => by have := h.all e he; unfold InG at *; omega, h.asc⟩
/-- The graph with what cannot be read of a word added: its size, its edges, the vertex to which the whole word leads. -/
def ExtIs (r s : Int) (es : List Ed) (w : List Int) (b : Bool) (s2 : Int) (es2 : List Ed) (x : Int) : Prop :=
  (b = true ∧ (rdA es 0 w).2 = w.length ∧ s2 = s ∧ es2 = es ∧ x = (rdA es 0 w).1) ∨
  (b = true ∧ (rdA es 0 w).2 < w.length ∧ s < 40 ∧ PathOk r (s + 1) es (rdA es 0 w).1 (w.drop (rdA es 0 w).2) s ∧ s2 = s + 1 + ((w.drop (rdA es 0 w).2).length : Int) - 1 ∧
    es2 = canon (es ++ pathE (rdA es 0 w).1 (s + 1) (w.drop (rdA es 0 w).2) s (w.drop (rdA es 0 w).2).length) ∧ x = s) ∨
  (b = false ∧ (rdA es 0 w).2 < w.length ∧ ¬ (s < 40 ∧ PathOk r (s + 1) es (rdA es 0 w).1 (w.drop (rdA es 0 w).2) s) ∧ s2 = 0 ∧ es2 = [] ∧ x = 0)
theorem ext_ex (r s : Int) (es : List Ed) (w : List Int) : ∃ b s2 es2 x, ExtIs r s es w b s2 es2 x := by
  rcases Nat.lt_or_ge (rdA es 0 w).2 w.length with h | h
  · by_cases hc : s < 40 ∧ PathOk r (s + 1) es (rdA es 0 w).1 (w.drop (rdA es 0 w).2) s
    · exact ⟨_, _, _, _, .inr (.inl ⟨rfl, h, hc.1, hc.2, rfl, rfl, rfl⟩)⟩
    · exact ⟨_, _, _, _, .inr (.inr ⟨rfl, h, hc, rfl, rfl, rfl⟩)⟩
  · have := rdA_le es w 0
    exact ⟨_, _, _, _, .inl ⟨rfl, by omega, rfl, rfl, rfl⟩⟩
theorem ExtIs.gr {r s : Int} {es : List Ed} {w : List Int} {s2 : Int} {es2 : List Ed} {x : Int} (h : ExtIs r s es w true s2 es2 x) (hg : IsGr r s es) : IsGr r s2 es2 ∧ 0 ≤ x ∧ x < s2 := by
  have hs := hg.size
  rcases h with ⟨-, -, rfl, rfl, rfl⟩ | ⟨-, -, h1, h2, rfl, rfl, rfl⟩ | ⟨h, -⟩
  · exact ⟨hg, rdA_in hg.all w (by omega)⟩
  · have hl : 0 < (w.drop (rdA es 0 w).2).length := List.length_pos_iff.2 h2.ne
    exact ⟨path_gr h2, by omega, by omega⟩
  · cases h
/-- The base moved to v. -/
def mvOrd (s v : Int) : List Int := v :: but v.toNat s.toNat
noncomputable def moveA (r s : Int) (es : List Ed) (v : Int) : Int × List Ed := coreA r (s, partE (mvOrd s v) es)
theorem mvOrd_ok {s v : Int} (h : 0 ≤ v ∧ v < s) : (mvOrd s v).length = s.toNat ∧ (mvOrd s v).Nodup ∧ ∀ x ∈ mvOrd s v, 0 ≤ x ∧ x < s := by
  refine ⟨?_, ?_, ?_⟩
  · have := but_len v.toNat (k := s.toNat) (by omega)
    simp only [mvOrd, List.length_cons, this]
    omega
  · refine List.nodup_cons.2 ⟨fun hm => ?_, but_nodup _ _⟩
    obtain ⟨u, -, hu, he⟩ := mem_but.1 hm
    omega
  · intro x hx
    rcases List.mem_cons.1 hx with rfl | hx
    · exact h
    · have := but_range hx
      omega
theorem mv_gr {r s : Int} {es : List Ed} {v : Int} (hg : IsGr r s es) (h : 0 ≤ v ∧ v < s) : IsGr r s (partE (mvOrd s v) es) := by
  obtain ⟨h1, -, -⟩ := mvOrd_ok h
  have h2 := partE_gr hg (order := mvOrd s v) (by simp [mvOrd]) (by have := hg.size; omega)
  rw [h1] at h2
  rw [show ((s.toNat : Nat) : Int) = s by omega] at h2
  exact h2
theorem moveA_gr {r s : Int} {es : List Ed} {v : Int} (hg : IsGr r s es) (h : 0 ≤ v ∧ v < s) : IsGr r (moveA r s es v).1 (moveA r s es v).2 := coreA_gr (g := (s, partE (mvOrd s v) es)) (mv_gr hg h)
def MoveIs (r s : Int) (es : List Ed) (v : Int) (rs : Int) (res : List Ed) (b : Bool) : Prop :=
  (b = true ∧ (IsFol r s es ∧ 0 ≤ v ∧ v < s) ∧ rs = (moveA r s es v).1 ∧ res = (moveA r s es v).2) ∨ (b = false ∧ ¬ (IsFol r s es ∧ 0 ≤ v ∧ v < s) ∧ rs = s ∧ res = es)
/-- The flower of some words. -/
def petalA (g : Int × List Ed) (w : List Int) : Int × List Ed := if w = [] then g else (g.1 + (w.length : Int) - 1, canon (g.2 ++ pathE 0 g.1 w 0 w.length))
def flowA (l : List (List Int)) (g : Int × List Ed) : Int × List Ed := l.foldl petalA g
theorem flowA_take {l : List (List Int)} {k : Nat} {w : List Int} (h : l[k]? = some w) (g : Int × List Ed) : flowA (l.take (k + 1)) g = petalA (flowA (l.take k) g) w := by
  unfold flowA
  rw [List.take_add_one, h]
  simp [List.foldl_append]
end Go.Proofs.YtimmnnncgnnkgaaGreat

/- Plain: the hair of a word leaves a folded graph folded. -/
namespace Go.Proofs.YtimmnnncgnnkgaaGreat
set_option linter.unusedVariables false
set_option linter.unusedSimpArgs false

theorem pw_of {es : List Ed} (ha : Asc es) (h : ∀ e ∈ es, ∀ f ∈ es, e ≠ f → ¬ Clash e f) : es.Pairwise fun e f => ¬ Clash e f := by
  refine List.Pairwise.imp_of_mem (fun {e f} he hf hl => h e he f hf ?_) ha
  rintro rfl
  exact absurd hl (LtE.irrefl _)
theorem clash_same : ∀ {es : List Ed}, (es.Pairwise fun e f => ¬ Clash e f) → ∀ {e f : Ed}, e ∈ es → f ∈ es → Clash e f → e = f
  | [], _, e, f, he, _, _ => by simp at he
  | g :: t, h, e, f, he, hf, hc => by
    rw [List.pairwise_cons] at h
    rcases List.mem_cons.1 he with h1 | h1
    · rcases List.mem_cons.1 hf with h2 | h2
      · exact h1.trans h2.symm
      · subst h1
        exact absurd hc (h.1 f h2)
    · rcases List.mem_cons.1 hf with h2 | h2
      · subst h2
        exact absurd hc.symm (h.1 e h1)
      · exact clash_same h.2 h1 h2 hc
theorem pathV_inj {u s : Int} {n i j : Nat} (hu : u < s) (hi : i ≤ n) (hj : j ≤ n) (h : pathV u (s + 1) n s i = pathV u (s + 1) n s j) : i = j := by
  unfold pathV at h
  by_cases h1 : i = 0 <;> by_cases h2 : j = 0 <;> by_cases h3 : i < n <;> by_cases h4 : j < n <;> simp only [h1, h2, h3, h4, if_true, if_false] at h <;> omega
theorem pathV_new {u s : Int} {n i : Nat} (hi : 0 < i) : s ≤ pathV u (s + 1) n s i := by
  unfold pathV
  split
  · omega
  · split <;> omega
theorem rdA_stuck (es : List Ed) : ∀ (w : List Int) (v : Int), (rdA es v w).2 < w.length → nextV es (rdA es v w).1 ((w.drop (rdA es v w).2).getD 0 0) < 0
  | [], v, h => absurd h (Nat.not_lt_zero _)
  | x :: t, v, h => by
    by_cases hx : nextV es v x < 0
    · have h1 : rdA es v (x :: t) = (v, 0) := by rw [rdA, if_pos hx]
      rw [h1]
      exact hx
    · have h1 : rdA es v (x :: t) = ((rdA es (nextV es v x) t).1, (rdA es (nextV es v x) t).2 + 1) := by rw [rdA, if_neg hx]
      rw [h1] at h ⊢
      exact rdA_stuck es t _ (Nat.lt_of_succ_lt_succ h)
theorem hair_fol {r s : Int} {es : List Ed} (hf : IsFol r s es) {u : Int} (hu : 0 ≤ u ∧ u < s) {w : List Int} (h : PathOk r (s + 1) es u w s) (hx : nextV es u (w.getD 0 0) < 0) :
    IsFol r (s + 1 + (w.length : Int) - 1) (canon (es ++ pathE u (s + 1) w s w.length)) := by
  have hw := h.word.2.2.2
  have hm : ∀ i, i < w.length → w.getD i 0 ≠ 0 := fun i hi => by
    have : w.getD i 0 ∈ w := by rw [List.getD_eq_getElem?_getD, List.getElem?_eq_getElem hi]; exact List.getElem_mem hi
    exact (hw.1 _ this).1
  have hold : ∀ i, i < w.length → ∀ f ∈ es, ¬ Clash (stepE (pathV u (s + 1) w.length s i) (w.getD i 0) (pathV u (s + 1) w.length s (i + 1))) f := by
    intro i hi f hfe hc
    have hin := hf.gr.all f hfe
    have h1 := pathV_new (u := u) (s := s) (n := w.length) (i := i + 1) (Nat.succ_pos _)
    have h0 := hm i hi
    rcases Nat.eq_zero_or_pos i with rfl | hp
    · have h2 : pathV u (s + 1) w.length s 0 = u := by simp [pathV]
      rw [h2] at hc
      generalize pathV u (s + 1) w.length s (0 + 1) = v1 at hc h1
      generalize w.getD 0 0 = x at hc h0 hx
      have hne : ¬ ∃ e ∈ es, ∃ t, endOf u x e = some t := fun h3 => by
        have := (nextV_pos_iff hf.gr.all u x).2 h3
        omega
      unfold stepE Clash at hc
      unfold InG at hin
      split at hc
      · simp only at hc
        exact hne ⟨f, hfe, f.a, endOf_some.2 (.inr ⟨by omega, by omega, by omega, rfl⟩)⟩
      · simp only at hc
        exact hne ⟨f, hfe, f.b, endOf_some.2 (.inl ⟨by omega, by omega, by omega, rfl⟩)⟩
    · have h2 := pathV_new (u := u) (s := s) (n := w.length) hp
      unfold stepE Clash at hc
      unfold InG at hin
      split at hc <;> simp only at hc <;> omega
  have hnew : ∀ i j, i < j → j < w.length → ¬ Clash (stepE (pathV u (s + 1) w.length s i) (w.getD i 0) (pathV u (s + 1) w.length s (i + 1))) (stepE (pathV u (s + 1) w.length s j) (w.getD j 0) (pathV u (s + 1) w.length s (j + 1))) := by
    intro i j hij hj hc
    have n1 : pathV u (s + 1) w.length s i ≠ pathV u (s + 1) w.length s j := fun e => by have := pathV_inj hu.2 (by omega) (by omega) e; omega
    have n2 : pathV u (s + 1) w.length s (i + 1) ≠ pathV u (s + 1) w.length s (j + 1) := fun e => by have := pathV_inj hu.2 (by omega) (by omega) e; omega
    have n3 : pathV u (s + 1) w.length s i ≠ pathV u (s + 1) w.length s (j + 1) := fun e => by have := pathV_inj hu.2 (by omega) (by omega) e; omega
    have hi0 := hm i (by omega)
    have hj0 := hm j hj
    by_cases e1 : i + 1 = j
    · subst e1
      have hr := hw.2 i (w.getD i 0) (w.getD (i + 1) 0) (by rw [List.getD_eq_getElem?_getD, List.getElem?_eq_getElem (by omega)]; rfl) (by rw [List.getD_eq_getElem?_getD, List.getElem?_eq_getElem hj]; rfl)
      generalize w.getD i 0 = x at *
      generalize w.getD (i + 1) 0 = y at *
      generalize pathV u (s + 1) w.length s i = v1 at *
      generalize pathV u (s + 1) w.length s (i + 1 + 1) = v3 at *
      generalize pathV u (s + 1) w.length s (i + 1) = v2 at *
      unfold stepE Clash at hc
      split at hc <;> split at hc <;> simp only at hc <;> omega
    · have n4 : pathV u (s + 1) w.length s (i + 1) ≠ pathV u (s + 1) w.length s j := fun e => by have := pathV_inj hu.2 (by omega) (by omega) e; omega
      unfold stepE Clash at hc
      split at hc <;> split at hc <;> simp only at hc <;> omega
  refine ⟨path_gr h, pw_of (asc_canon _) fun e he f hf' hne hc => ?_⟩
  rcases List.mem_append.1 (mem_canon.1 he) with h1 | h1
  · rcases List.mem_append.1 (mem_canon.1 hf') with h2 | h2
    · exact hne (clash_same hf.fol h1 h2 hc)
    · simp only [pathE, List.mem_map, List.mem_range] at h2
      obtain ⟨i, hi, rfl⟩ := h2
      exact hold i hi e h1 hc.symm
  · simp only [pathE, List.mem_map, List.mem_range] at h1
    obtain ⟨i, hi, rfl⟩ := h1
    rcases List.mem_append.1 (mem_canon.1 hf') with h2 | h2
    · exact hold i hi f h2 hc
    · simp only [pathE, List.mem_map, List.mem_range] at h2
      obtain ⟨j, hj, rfl⟩ := h2
      rcases Nat.lt_trichotomy i j with h3 | rfl | h3
      · exact hnew i j h3 hj hc
      · exact hne rfl
      · exact hnew j i h3 hi hc.symm
theorem ExtIs.fol {r s : Int} {es : List Ed} {w : List Int} {s2 : Int} {es2 : List Ed} {x : Int} (h : ExtIs r s es w true s2 es2 x) (hf : IsFol r s es) : IsFol r s2 es2 := by
  have hs := hf.gr.size
  rcases h with ⟨-, -, rfl, rfl, rfl⟩ | ⟨-, h0, h1, h2, rfl, rfl, rfl⟩ | ⟨h, -⟩
  · exact hf
  · exact hair_fol hf (rdA_in hf.gr.all w (by omega)) h2 (rdA_stuck es w 0 h0)
  · cases h
end Go.Proofs.YtimmnnncgnnkgaaGreat

/- Plain: words kept out of a subgroup. -/
namespace Go.Proofs.YtimmnnncgnnkgaaGreat
set_option linter.unusedVariables false
set_option linter.unusedSimpArgs false

theorem take_snocL {α : Type} {l : List α} {k : Nat} {x : α} (h : l[k]? = some x) : l.take (k + 1) = l.take k ++ [x] := by
  obtain ⟨h1, h2⟩ := List.getElem?_eq_some_iff.1 h
  rw [List.take_succ_eq_append_getElem h1, h2]
/-- A reduced word stays as it is. -/
theorem red_word {r : Int} {w : List Int} (h : WordP r w) : red [] w = w := by
  have hk : ∀ k, k ≤ w.length → red [] (w.take k) = w.take k := by
    intro k
    induction k with
    | zero => intro _; simp [red]
    | succ k ih =>
      intro hle
      have hx : w[k]? = some w[k] := List.getElem?_eq_getElem (by omega)
      have ht : w.take (k + 1) = w.take k ++ [w[k]] := List.take_succ_eq_append_getElem (by omega)
      rw [red_step w hx, ih (by omega), ht]
      cases k with
      | zero => simp [redStep]
      | succ j =>
        have ha : w[j]? = some w[j] := List.getElem?_eq_getElem (by omega)
        have ht2 : w.take (j + 1) = w.take j ++ [w[j]] := List.take_succ_eq_append_getElem (by omega)
        have hne := h.2 j _ _ ha hx
        rw [ht2, redStep_push (by unfold invB; simp; omega)]
  have := hk w.length (Nat.le_refl _)
  rwa [List.take_length] at this
/-- The word leads from the base to the base. -/
def LoopP (es : List Ed) (w : List Int) : Prop := (rdA es 0 w).2 = w.length ∧ (rdA es 0 w).1 = 0
/-- The graph with what cannot be read of some words added, one after the other. -/
def ExtsIs (r : Int) : Int → List Ed → List (List Int) → Bool → Int → List Ed → Prop
  | s, es, [], b, s2, es2 => b = true ∧ s2 = s ∧ es2 = es
  | s, es, w :: t, b, s2, es2 => ∃ b1 s1 es1 x, ExtIs r s es w b1 s1 es1 x ∧ ((b1 = false ∧ b = false) ∨ (b1 = true ∧ ExtsIs r s1 es1 t b s2 es2))
theorem exts_ex (r : Int) : ∀ (l : List (List Int)) (s : Int) (es : List Ed), ∃ b s2 es2, ExtsIs r s es l b s2 es2
  | [], s, es => ⟨true, s, es, rfl, rfl, rfl⟩
  | w :: t, s, es => by
    obtain ⟨b1, s1, es1, x, h⟩ := ext_ex r s es w
    cases b1 with
    | false => exact ⟨false, 0, [], false, s1, es1, x, h, .inl ⟨rfl, rfl⟩⟩
    | true =>
      obtain ⟨b, s2, es2, h2⟩ := exts_ex r t s1 es1
      exact ⟨b, s2, es2, true, s1, es1, x, h, .inr ⟨rfl, h2⟩⟩
theorem ExtsIs.fol {r : Int} : ∀ {l : List (List Int)} {s : Int} {es : List Ed} {s2 : Int} {es2 : List Ed}, ExtsIs r s es l true s2 es2 → IsFol r s es → IsFol r s2 es2
  | [], s, es, s2, es2, h, hf => by
    obtain ⟨-, rfl, rfl⟩ := h
    exact hf
  | w :: t, s, es, s2, es2, h, hf => by
    obtain ⟨b1, s1, es1, x, h1, ⟨-, h2⟩ | ⟨rfl, h2⟩⟩ := h
    · cases h2
    · exact h2.fol (h1.fol hf)
/-- One step of the run, seen from the list's k-th word. -/
theorem ExtsIs.step {r s : Int} {es : List Ed} {l : List (List Int)} {b : Bool} {s2 : Int} {es2 : List Ed} {k : Nat} {w : List Int} (h : ExtsIs r s es (l.drop k) b s2 es2) (hw : l[k]? = some w) :
    ∃ b1 s1 es1 x, ExtIs r s es w b1 s1 es1 x ∧ (b1 = false → b = false) ∧ (b1 = true → ExtsIs r s1 es1 (l.drop (k + 1)) b s2 es2) := by
  have hd : l.drop k = w :: l.drop (k + 1) := by
    have hk := (List.getElem?_eq_some_iff.1 hw)
    rw [List.drop_eq_getElem_cons hk.1, hk.2]
  rw [hd] at h
  obtain ⟨b1, s1, es1, x, h1, ⟨h2, h3⟩ | ⟨h2, h3⟩⟩ := h
  · exact ⟨b1, s1, es1, x, h1, fun _ => h3, fun h => by rw [h2] at h; cases h⟩
  · exact ⟨b1, s1, es1, x, h1, (fun h => by rw [h2] at h; cases h), fun _ => h3⟩
def SepOk (r s : Int) (es : List Ed) (l : List (List Int)) : Prop := IsCor r s es ∧ l.length ≤ 6 ∧ ∀ w ∈ l, IsW r w ∧ ¬ LoopP es w
def SepIs (r s : Int) (es : List Ed) (l : List (List Int)) (rr rs : Int) (res : List Ed) (b : Bool) : Prop :=
  (¬ SepOk r s es l ∧ b = false ∧ rr = 0 ∧ rs = 0 ∧ res = []) ∨
  (SepOk r s es l ∧ ∃ b1 s2 es2, ExtsIs r s es l b1 s2 es2 ∧ ((b1 = false ∧ b = false ∧ rr = 0 ∧ rs = 0 ∧ res = []) ∨
    (b1 = true ∧ b = true ∧ rr = r ∧ rs = (coreA r (s2, canon (es2 ++ addLs s2 es2 r.toNat))).1 ∧ res = (coreA r (s2, canon (es2 ++ addLs s2 es2 r.toNat))).2)))
theorem SepIs_ex (r s : Int) (es : List Ed) (l : List (List Int)) : ∃ rr rs res b, SepIs r s es l rr rs res b := by
  by_cases h : SepOk r s es l
  · obtain ⟨b1, s2, es2, he⟩ := exts_ex r l s es
    cases b1 with
    | false => exact ⟨_, _, _, _, .inr ⟨h, _, _, _, he, .inl ⟨rfl, rfl, rfl, rfl, rfl⟩⟩⟩
    | true => exact ⟨_, _, _, _, .inr ⟨h, _, _, _, he, .inr ⟨rfl, rfl, rfl, rfl, rfl⟩⟩⟩
  · exact ⟨_, _, _, _, .inl ⟨h, rfl, rfl, rfl, rfl⟩⟩
theorem SepIs.no {r s : Int} {es : List Ed} {l : List (List Int)} {rr rs : Int} {res : List Ed} {b : Bool} (h : SepIs r s es l rr rs res b) (hn : ¬ SepOk r s es l) : b = false ∧ rr = 0 ∧ rs = 0 ∧ res = [] := by
  rcases h with ⟨-, h⟩ | ⟨h, -⟩
  · exact h
  · exact absurd h hn
/-- The run that decides, whether or not the words are fit. -/
theorem SepIs.run {r s : Int} {es : List Ed} {l : List (List Int)} {rr rs : Int} {res : List Ed} {b : Bool} (h : SepIs r s es l rr rs res b) :
    ∃ b1 s2 es2, ExtsIs r s es l b1 s2 es2 ∧ (b1 = false → b = false ∧ rr = 0 ∧ rs = 0 ∧ res = []) ∧
      (SepOk r s es l → b1 = true → b = true ∧ rr = r ∧ rs = (coreA r (s2, canon (es2 ++ addLs s2 es2 r.toNat))).1 ∧ res = (coreA r (s2, canon (es2 ++ addLs s2 es2 r.toNat))).2) := by
  rcases h with ⟨hn, h⟩ | ⟨-, b1, s2, es2, he, h⟩
  · obtain ⟨b1, s2, es2, he⟩ := exts_ex r l s es
    exact ⟨b1, s2, es2, he, fun _ => h, fun h => absurd h hn⟩
  · refine ⟨b1, s2, es2, he, fun hb => ?_, fun _ hb => ?_⟩
    · rcases h with ⟨-, h⟩ | ⟨h, -⟩
      · exact h
      · rw [hb] at h; cases h
    · rcases h with ⟨h, -⟩ | ⟨-, h⟩
      · rw [hb] at h; cases h
      · exact h
theorem SepIs.lens {r s : Int} {es : List Ed} {l : List (List Int)} {rr rs : Int} {res : List Ed} {b : Bool} (h : SepIs r s es l rr rs res b) : res.length ≤ 120 := by
  rcases h with ⟨-, -, -, -, rfl⟩ | ⟨hc, b1, s2, es2, he, ⟨-, -, -, -, rfl⟩ | ⟨rfl, -, -, -, rfl⟩⟩
  · simp
  · simp
  · have hf := he.fol hc.1.fol
    exact (coreA_gr (g := (s2, canon (es2 ++ addLs s2 es2 r.toNat))) (complete_gr hf)).len
end Go.Proofs.YtimmnnncgnnkgaaGreat

/- Regions that draw their order, with cells that every operation but the last ones leaves as they are. -/
namespace Go.Proofs.YtimmnnncgnnkgaaGreat
set_option linter.unusedVariables false
set_option linter.unusedSimpArgs false
open Go.RowKit

section
variable {P : Program} {ops : Array Oper} {Q : Exit → Act → World → Prop} {md : Region.Mode} {S : World → Prop} {Z : List Nat}

/-- Whatever order is picked from here on; S holds behind every operation but those of Z. -/
def wpAnyZ (P : Program) (md : Region.Mode) (ops : Array Oper) (Q : Exit → Act → World → Prop) (S : World → Prop) (Z : List Nat) : Nat → Array Bool → Act → World → Prop
  | 0, listed, a, w => Region.ready md ops listed = [] ∧ Q .normal a w
  | fuel + 1, listed, a, w =>
    (Region.ready md ops listed = [] → Q .normal a w) ∧
    ∀ i ∈ Region.ready md ops listed, wpOp P ops Q i (fun a' w' => (i ∈ Z ∨ S w') ∧ wpAnyZ P md ops Q S Z fuel (listed.setIfInBounds i true) a' w') a w
theorem wpAny_of_Z : ∀ (fuel : Nat) (listed : Array Bool) (a : Act) (w : World), wpAnyZ P md ops Q S Z fuel listed a w → wpAny P md ops Q fuel listed a w
  | 0, _, _, _, h => h
  | fuel + 1, _, _, _, h => ⟨h.1, fun i hi => wpOp_mono (fun a' w' h' => wpAny_of_Z fuel _ a' w' h'.2) (h.2 i hi)⟩
/-- The last operation does not come up while one that it waits for has not. -/
theorem not_lastZ {z i : Nat} {listed : Array Bool} (hz : Region.waitsFor md ops z i = true) (hun : listed.getD i true = false) : z ∉ Region.ready md ops listed := by
  intro hr
  obtain ⟨-, oz, hoz, hall⟩ := mem_ready.1 hr
  obtain ⟨oz', hoz', e, he, hb, hon⟩ := Region.waitsFor_spec hz
  obtain rfl : oz' = oz := Option.some.inj (hoz'.symm.trans hoz)
  have h1 := hall e he hb
  rw [hon, getD_both hun] at h1
  cases h1
theorem not_lastC {i m : Nat} {C : List Nat} {listed : Array Bool} (hC : ∀ m ∈ C, listed.getD m true = false ∧ ∃ p ∈ i :: C, Region.waitsFor md ops m p = true) (hi : listed.getD i true = false) (hm : m ∈ C) : m ∉ Region.ready md ops listed := by
  obtain ⟨-, p, hp, hw⟩ := hC m hm
  have hun : listed.getD p true = false := by
    rcases List.mem_cons.1 hp with rfl | hp
    · exact hi
    · exact (hC p hp).1
  exact not_lastZ hw hun
theorem wpAnyZ_firstC {i : Nat} {oi : Oper} {v : Value} {C : List Nat} (hi : ops[i]? = some oi) (hsel : ∀ (j : Nat) (o : Oper) cs b, ops[j]? = some o → o.op ≠ .select cs b)
    (hQ : ∀ c a w, Q (.panic c) (a.put oi.dst v) w → Q (.panic c) a w) (hZC : ∀ z ∈ Z, z ∈ C) :
    ∀ (fuel : Nat) (listed : Array Bool) (a : Act) (w : World),
      (∀ j oj, ops[j]? = some oj → j ≠ i → listed.getD j true = false → (∀ e ∈ oj.after, Region.binds md e = true → e.on ≠ i) → oi.apart ops oj = true) →
      (∀ m ∈ C, listed.getD m true = false ∧ ∃ p ∈ i :: C, Region.waitsFor md ops m p = true) →
      i ∈ Region.ready md ops listed → YieldsIf P ops S oi v a → S w →
      wpAnyZ P md ops Q S Z fuel (listed.setIfInBounds i true) (a.put oi.dst v) w → wpAnyZ P md ops Q S Z (fuel + 1) listed a w := by
  intro fuel
  induction fuel with
  | zero =>
    intro listed a w _ _ hr hy hS H
    refine ⟨fun h => (by rw [h] at hr; cases hr), fun j hj => ?_⟩
    by_cases hji : j = i
    · subst hji; exact hy.wpOp hi hS ⟨.inr hS, H⟩
    · have := ready_mono hj hji
      rw [H.1] at this
      cases this
  | succ fuel ih =>
    intro listed a w hfree hC hr hy hS H
    refine ⟨fun h => (by rw [h] at hr; cases hr), fun j hj => ?_⟩
    by_cases hji : j = i
    · subst hji; exact hy.wpOp hi hS ⟨.inr hS, H⟩
    · have hjC : j ∉ C := fun e => not_lastC hC (mem_ready.1 hr).1 e hj
      have hjz : j ∉ Z := fun e => hjC (hZC j e)
      have h1 := H.2 j (ready_mono hj hji)
      obtain ⟨hjun, oj, hoj, hall⟩ := mem_ready.1 hj
      have hnot : ∀ e ∈ oj.after, Region.binds md e = true → e.on ≠ i := fun e he hb heq => by
        have h1 := hall e he hb
        have h0 := (mem_ready.1 hr).1
        rw [heq] at h1
        rcases Nat.lt_or_ge i listed.size with h' | h'
        · simp [h'] at h0 h1; rw [h0] at h1; cases h1
        · simp [Array.getElem?_eq_none h'] at h1
      have h2 := wpOp_putIf hoj (hfree j oj hoj hji hjun hnot) (fun cs b => hsel i oi cs b hi) (fun cs b => hsel j oj cs b hoj) hQ hy h1
      have hfree' : ∀ k ok, ops[k]? = some ok → k ≠ i → (listed.setIfInBounds j true).getD k true = false →
          (∀ e ∈ ok.after, Region.binds md e = true → e.on ≠ i) → oi.apart ops ok = true := fun k ok hk hki hun hno => by
        refine hfree k ok hk hki ?_ hno
        by_cases hjk : j = k
        · subst hjk; exact hjun
        · rw [getD_set_ne true hjk] at hun; exact hun
      have hC' : ∀ m ∈ C, (listed.setIfInBounds j true).getD m true = false ∧ ∃ p ∈ i :: C, Region.waitsFor md ops m p = true := fun m hm => by
        refine ⟨?_, (hC m hm).2⟩
        have hjm : j ≠ m := fun e => hjC (e ▸ hm)
        rw [getD_set_ne true hjm]
        exact (hC m hm).1
      refine wpOp_mono (fun a' w' h3 => ?_) h2
      have hS' : S w' := h3.2.1.resolve_left hjz
      refine ⟨.inr hS', ih (listed.setIfInBounds j true) a' w' hfree' hC' (ready_mono hr (Ne.symm hji)) h3.1 hS' ?_⟩
      rw [Array.setIfInBounds_comm _ _ hji]
      exact h3.2.2
theorem wpAnyZ_takeC (C : List Nat) {i : Nat} {oi : Oper} {v : Value} {fuel : Nat} {listed : Array Bool} {a : Act} {w : World} (hi : ops[i]? = some oi)
    (hs : Region.noSelect ops = true) (hf : Region.free md ops listed i = true) (hr : (Region.ready md ops listed).contains i = true)
    (hz : ((Z.all fun z => C.contains z) && C.all fun m => (listed.getD m true == false) && (i :: C).any fun p => Region.waitsFor md ops m p) = true)
    (hQ : ∀ c a w, Q (.panic c) (a.put oi.dst v) w → Q (.panic c) a w) (hy : YieldsIf P ops S oi v a) (hS : S w)
    (h : wpAnyZ P md ops Q S Z fuel (listed.setIfInBounds i true) (a.put oi.dst v) w) : wpAnyZ P md ops Q S Z (fuel + 1) listed a w := by
  rw [Bool.and_eq_true] at hz
  refine wpAnyZ_firstC hi (Region.noSelect_spec hs) hQ (C := C) (fun z hzm => by simpa using List.all_eq_true.1 hz.1 z hzm) fuel listed a w (Region.free_spec hi hf) (fun m hm => ?_) (by simpa using hr) hy hS h
  have := List.all_eq_true.1 hz.2 m hm
  rw [Bool.and_eq_true] at this
  refine ⟨by simpa using this.1, ?_⟩
  obtain ⟨p, hp, hw⟩ := List.any_eq_true.1 this.2
  exact ⟨p, hp, hw⟩
def AllReadyZ (P : Program) (md : Region.Mode) (ops : Array Oper) (Q : Exit → Act → World → Prop) (S : World → Prop) (Z : List Nat) (fuel : Nat) (listed : Array Bool) (a : Act) (w : World) (rs : List Nat) : Prop :=
  ∀ i ∈ rs, wpOp P ops Q i (fun a' w' => (i ∈ Z ∨ S w') ∧ wpAnyZ P md ops Q S Z fuel (listed.setIfInBounds i true) a' w') a w
theorem AllReadyZ.nil {fuel : Nat} {listed : Array Bool} {a : Act} {w : World} : AllReadyZ P md ops Q S Z fuel listed a w [] := fun _ h => by cases h
theorem AllReadyZ.cons {fuel : Nat} {listed : Array Bool} {a : Act} {w : World} {i : Nat} {o : Oper} {rs : List Nat} (ho : ops[i]? = some o)
    (h : ∀ K' : Act → World → Prop, Shut (∀ a w, (i ∈ Z ∨ S w) → ((i ∈ Z ∨ S w) → wpAnyZ P md ops Q S Z fuel (listed.setIfInBounds i true) a w) → K' a w) → if Region.wanted o (yielded ops a.tmps) = true then Oper.wp P o a w K' Q else K' (a.put o.dst undef) w)
    (hs : AllReadyZ P md ops Q S Z fuel listed a w rs) : AllReadyZ P md ops Q S Z fuel listed a w (i :: rs) := fun j hj => by
  rcases List.mem_cons.1 hj with rfl | hj
  · exact wpOp_step ho (fun K' hK => h K' (fun a w hS hW => hK a w ⟨hS, hW hS⟩))
  · exact hs j hj
theorem wpAnyZ_ready {rs : List Nat} {fuel : Nat} {listed : Array Bool} {a : Act} {w : World} (hr : Region.ready md ops listed = rs) (hne : rs ≠ [])
    (h : AllReadyZ P md ops Q S Z fuel listed a w rs) : wpAnyZ P md ops Q S Z (fuel + 1) listed a w :=
  ⟨fun h0 => absurd (hr.symm.trans h0) hne, fun i hi => h i (hr ▸ hi)⟩
theorem wpAnyZ_done {listed : Array Bool} {a : Act} {w : World} (hr : Region.ready md ops listed = []) (h : Q .normal a w) : ∀ fuel, wpAnyZ P md ops Q S Z fuel listed a w
  | 0 => ⟨hr, h⟩
  | _ + 1 => ⟨fun _ => h, by rw [hr]; simp⟩
theorem wp_region_Z {id : Nat} {a : Act} {w : World} (Z : List Nat) (hm : P.follows .mixedOrders = true) (hS : S w.drew)
    (h : wpAnyZ P .any ops Q S Z ops.size (Array.replicate ops.size false) a w.drew) : (Code.region id ops true).wp P Q a w :=
  wp_region_any hm (wpAny_of_Z _ _ _ _ h)
end
end Go.Proofs.YtimmnnncgnnkgaaGreat

/- PreimageOf, both sides. -/
namespace Go.Proofs.YtimmnnncgnnkgaaGreat
set_option linter.unusedVariables false
set_option linter.unusedSimpArgs false
open Go.RowKit

def PreOk (r0 : Int) (d : List (List Int)) (r s : Int) (es : List Ed) : Prop := IsMor r0 d ∧ IsFin r s es ∧ r = r0
def PreIs (r0 : Int) (d : List (List Int)) (r s : Int) (es : List Ed) (rr rs : Int) (res : List Ed) (b : Bool) : Prop :=
  (¬ PreOk r0 d r s es ∧ b = false ∧ rr = 0 ∧ rs = 0 ∧ res = []) ∨ (PreOk r0 d r s es ∧ GActIs r0 (d.map (wordP r s es)) rr rs res b)
theorem PreIs_ex (r0 : Int) (d : List (List Int)) (r s : Int) (es : List Ed) : ∃ rr rs res b, PreIs r0 d r s es rr rs res b := by
  by_cases h : PreOk r0 d r s es
  · obtain ⟨rr, rs, res, b, hg⟩ := GActIs_ex r0 (d.map (wordP r s es))
    exact ⟨rr, rs, res, b, .inr ⟨h, hg⟩⟩
  · exact ⟨_, _, _, _, .inl ⟨h, rfl, rfl, rfl, rfl⟩⟩
theorem PreIs.no {r0 : Int} {d : List (List Int)} {r s : Int} {es : List Ed} {rr rs : Int} {res : List Ed} {b : Bool} (h : PreIs r0 d r s es rr rs res b) (hn : ¬ PreOk r0 d r s es) : b = false ∧ rr = 0 ∧ rs = 0 ∧ res = [] := by
  rcases h with ⟨-, h⟩ | ⟨h, -⟩
  · exact h
  · exact absurd h hn
theorem PreIs.yes {r0 : Int} {d : List (List Int)} {r s : Int} {es : List Ed} {rr rs : Int} {res : List Ed} {b : Bool} (h : PreIs r0 d r s es rr rs res b) (hn : PreOk r0 d r s es) : GActIs r0 (d.map (wordP r s es)) rr rs res b := by
  rcases h with ⟨h, -⟩ | ⟨-, h⟩
  · exact absurd hn h
  · exact h
theorem PreIs.lens {r0 : Int} {d : List (List Int)} {r s : Int} {es : List Ed} {rr rs : Int} {res : List Ed} {b : Bool} (h : PreIs r0 d r s es rr rs res b) : res.length ≤ 120 := by
  rcases h with ⟨-, -, -, -, rfl⟩ | ⟨-, h⟩
  · simp
  · exact h.lens
theorem wordP_len {r s : Int} {es : List Ed} {wd : List Int} (hs : s ≤ 40) : (wordP r s es wd).length ≤ 40 := by
  unfold wordP
  split
  · rw [permTo_len]
    omega
  · simp


set_option maxHeartbeats 3200000 in
set_option maxRecDepth 20000 in
theorem impl_PreimageOf (r0 : Int) (Ad : Option Addr) (d : List (List Int)) (cd : Nat) (r s : Int) (A : Option Addr) (es : List Ed) (c : Nat) (w : World) (lo hi lo2 hi2 : Nat) (hd : RSS w lo hi Ad d) (hok : OkSS d) (hdl : d.length + sumL d ≤ 1048576) (hr : RG w lo2 hi2 A es) (hl : es.length ≤ 1048576) (hcl : es.length ≤ c) (rr rs : Int) (res : List Ed) (b : Bool) (hres : PreIs r0 d r s es rr rs res b) :
    Calls Tryz.prog 22 #[.agg #[.int .i64 r0, .slice Ad d.length cd], graV r s A es.length c] w fun e w' => ∃ A1 c1, e = .returned (.tuple #[graV rr rs A1 res.length c1, .bool b]) ∧ OG w' w.heap.size w'.heap.size A1 c1 res ∧ Mid 0 0 w w' := by
  have HR := Lib.hid hres
  have HOK := Lib.hid hok
  clear hres hok
  have hm0 : Mid 0 0 w (((w.alloc (.cells #[.int .i64 r0, .slice Ad d.length cd] 44)).alloc (.cells #[.int .i64 r, .int .i64 s, .slice A es.length c] 29)).alloc (.cells #[.int .i64 0, .int .i64 0, .slice none 0 0] 29)) := ((Mid.alloc _ _).trans (Mid.alloc _ _)).trans (Mid.alloc _ _)
  have B0 := ((Box.new w #[.int .i64 r0, .slice Ad d.length cd] 44).mid (Mid.alloc _ (.cells #[.int .i64 r, .int .i64 s, .slice A es.length c] 29)) (Or.inr (Nat.zero_le _))).mid (Mid.alloc _ (.cells #[.int .i64 0, .int .i64 0, .slice none 0 0] 29)) (Or.inr (Nat.zero_le _))
  have B1 := (Box.new (w.alloc (.cells #[.int .i64 r0, .slice Ad d.length cd] 44)) #[.int .i64 r, .int .i64 s, .slice A es.length c] 29).mid (Mid.alloc _ (.cells #[.int .i64 0, .int .i64 0, .slice none 0 0] 29)) (Or.inr (Nat.zero_le _))
  have B2 := Box.new ((w.alloc (.cells #[.int .i64 r0, .slice Ad d.length cd] 44)).alloc (.cells #[.int .i64 r, .int .i64 s, .slice A es.length c] 29)) #[.int .i64 0, .int .i64 0, .slice none 0 0] 29
  simp only [World.size_alloc] at B1 B2
  obtain ⟨bm, hbm⟩ := bool_of (IsMor r0 d)
  have HM := Lib.hid hbm
  obtain ⟨bf, hbf⟩ := bool_of (IsFin r s es)
  have HF := Lib.hid hbf
  clear hbm hbf
  go_enter Tryz.func22, Tryz.ntmps22
  go_wp2_with fail
  generalize hw1 : ((w.alloc (.cells #[.int .i64 r0, .slice Ad d.length cd] 44)).alloc (.cells #[.int .i64 r, .int .i64 s, .slice A es.length c] 29)).alloc (.cells #[.int .i64 0, .int .i64 0, .slice none 0 0] 29) = w1 at hm0 B0 B1 B2 ⊢
  have hs1 : w1.heap.size = w.heap.size + 1 + 1 + 1 := by rw [← hw1]; simp
  have HS := Lib.hid hs1
  clear hw1 hs1
  with_reducible refine (impl_IsMorphism r0 Ad d cd _ _ _ (hd.mid hm0 (Or.inl (Nat.zero_le _))) HOK.out hdl bm HM.out).mono ?_
  rintro en w2 ⟨rfl, hm2⟩
  replace B0 := B0.mid hm2 (Or.inr (Nat.zero_le _))
  replace B1 := B1.mid hm2 (Or.inr (Nat.zero_le _))
  replace B2 := B2.mid hm2 (Or.inr (Nat.zero_le _))
  replace hm0 := hm0.trans hm2
  have p0 := B0.cell 0 rfl
  have p1 := B0.cell 1 rfl
  have q0 := B1.cell 0 rfl
  have q1 := B1.cell 1 rfl
  have q2 := B1.cell 2 rfl
  cases bm with
  | false =>
    have hno : ¬ PreOk r0 d r s es := fun h => by have := HM.out.2 h.1; cases this
    obtain ⟨rfl, rfl, rfl, rfl⟩ := HR.out.no hno
    have z0 := B2.cell 0 rfl
    have z1 := B2.cell 1 rfl
    have z2 := B2.cell 2 rfl
    have zf := B2.2.2
    go_wp2_with fail
    refine bodyPost_ret (v := .tuple #[.agg #[.int .i64 0, .int .i64 0, .slice none 0 0], .bool false]) (by simp [results, Tryz.results22, go_sem, z0, z1, z2, zf]) rfl ⟨none, 0, rfl, OG.nil, ?_⟩
    repeat (first | exact hm0 | refine Mid.storeNew ?_ (by simp; try omega) _)
  | true =>
  have hmor := HM.out.1 rfl
  have hms2 := hm2.size
  clear hm2 HM
  go_wp2_with fail
  with_reducible refine (impl_IsFiniteIndex r s A es c _ _ _ (hr.mid hm0 (Or.inl (Nat.zero_le _))) hl hcl bf HF.out).mono ?_
  rintro en w3 ⟨rfl, hm3⟩
  replace B0 := B0.mid hm3 (Or.inr (Nat.zero_le _))
  replace B1 := B1.mid hm3 (Or.inr (Nat.zero_le _))
  replace B2 := B2.mid hm3 (Or.inr (Nat.zero_le _))
  replace hm0 := hm0.trans hm3
  have hms3 := hm3.size
  clear p0 p1 q0 q1 q2 hm3
  have p0 := B0.cell 0 rfl
  have p1 := B0.cell 1 rfl
  have q0 := B1.cell 0 rfl
  have q1 := B1.cell 1 rfl
  have q2 := B1.cell 2 rfl
  cases bf with
  | false =>
    have hno : ¬ PreOk r0 d r s es := fun h => by have := HF.out.2 h.2.1; cases this
    obtain ⟨rfl, rfl, rfl, rfl⟩ := HR.out.no hno
    have z0 := B2.cell 0 rfl
    have z1 := B2.cell 1 rfl
    have z2 := B2.cell 2 rfl
    have zf := B2.2.2
    go_wp2_with fail
    refine bodyPost_ret (v := .tuple #[.agg #[.int .i64 0, .int .i64 0, .slice none 0 0], .bool false]) (by simp [results, Tryz.results22, go_sem, z0, z1, z2, zf]) rfl ⟨none, 0, rfl, OG.nil, ?_⟩
    repeat (first | exact hm0 | refine Mid.storeNew ?_ (by simp; try omega) _)
  | true =>
  have hfin := HF.out.1 rfl
  clear HF
  by_cases hrk : r = r0
  · have hRA := HR.out.yes ⟨hmor, hfin, hrk⟩
    subst hrk
    obtain ⟨r, n, rfl, rfl⟩ := hfin.cor.gr.nat
    have hg1 := hfin.cor.gr.rank
    have hg2 := hfin.cor.gr.size
    have hg3 := hfin.cor.gr.len
    have hdn : d.length = r := by have := hmor.2.2.1; omega
    have HDN := Lib.hid hdn
    clear hdn
    have hw30 : w.heap.size < w3.heap.size := B0.1
    have HFI := Lib.hid hfin
    have HWD := Lib.hid hmor.2.2.2
    have HRA := Lib.hid hRA
    have beq0 : ((r : Int) != (r : Int)) = false := by simp
    have O0 := owns_empty w3 25 1
    have hal := Mid.alloc w3 (.cells #[] 25)
    have hL : w.heap.size + 3 ≤ w3.heap.size := by have := HS.out; omega
    have hG0 : Grp (w3.alloc (.cells #[] 25)) w3.heap.size (w3.heap.size + 1) (w3.heap.size + 1) (some ⟨w3.heap.size, 0, none⟩) 0 0 [] none [] := ⟨O0, OwnRows.nil, ⟨[], rfl, ⟨by simp, fun h => absurd rfl h⟩, by simp⟩, fun g _ => by omega, by omega⟩
    clear hRA hmor hfin HR O0
    go_wp2_with fail
    clear p0 p1 q0 q1 q2
    replace B0 := B0.mid hal (Or.inr (Nat.zero_le _))
    replace B1 := B1.mid hal (Or.inr (Nat.zero_le _))
    replace B2 := B2.mid hal (Or.inr (Nat.zero_le _))
    replace hm0 := hm0.trans hal
    generalize w3.alloc (.cells #[] 25) = w4 at hG0 B0 B1 B2 hm0 ⊢
    generalize (some (⟨w3.heap.size, 0, none⟩ : Addr)) = A0 at hG0 ⊢
    generalize w3.heap.size = L at hG0 hL
    go_loopw [6, 29] (fun out iv wr => ∃ (k : Nat) (rows : List Row) (A1 : Option Addr) (c1 : Nat), k ≤ d.length ∧ iv = .int .i64 k ∧ out = .slice A1 k c1 ∧ Hid (rowsD rows = (d.take k).map (wordP r n es)) ∧ Hid (Grp wr L (L + 1) (L + 1) A1 k c1 rows none []) ∧
      Box wr w.heap.size [.int .i64 r, .slice Ad d.length cd] ∧ Box wr (w.heap.size + 1) [.int .i64 r, .int .i64 n, .slice A es.length c] ∧ Box wr (w.heap.size + 1 + 1) [.int .i64 0, .int .i64 0, .slice none 0 0] ∧ Mid 0 0 w wr) (fun _ iv _ => d.length - (intOf iv).toNat)
    case atStart => exact ⟨0, [], A0, 0, Nat.zero_le _, rfl, rfl, Lib.hid rfl, Lib.hid hG0, B0, B1, B2, hm0⟩
    case round =>
      clear hG0 B0 B1 B2 hm0 hal
      obtain ⟨k, rows, A1, c1, hk, rfl, rfl, HD, HG, B0, B1, B2, hm⟩ := hrel
      have p0 := B0.cell 0 rfl
      have p1 := B0.cell 1 rfl
      have q0 := B1.cell 0 rfl
      have q1 := B1.cell 1 rfl
      have q2 := B1.cell 2 rfl
      by_cases hlt : k < d.length
      · obtain ⟨Bd, od, Ak, ck, xs, hAd, hb1, hb2, hxs, hcell, hrv⟩ := (hd.mid hm (Or.inl (Nat.zero_le _))).row hlt
        subst hAd
        have hxm := List.mem_of_getElem? hxs
        have hx24 : xs.length ≤ 24 := (HWD.out xs hxm).2.2.1
        have HOX := Lib.hid (HOK.out.2 xs hxm)
        have HXS := Lib.hid hxs
        have hk0 : (0 : Int) ≤ (k : Int) := by omega
        have hk1 : (k : Int) < (d.length : Int) := by omega
        have hk2 : (k : Int) < (r : Int) := by have := HDN.out; omega
        clear hxm hxs
        go_wp2_with fail
        with_reducible refine (impl_WordPermutation_fin r n A es c Ak xs ck _ lo2 hi2 lo hi (hr.mid hm (Or.inl (Nat.zero_le _))) hrv hcl HFI.out (by omega) HOX.out).mono ?_
        rintro en w6 ⟨A7, c7, rfl, hov, hm6⟩
        have hov2 := hov.2.1
        replace B0 := B0.mid hm6 (Or.inr (Nat.zero_le _))
        replace B1 := B1.mid hm6 (Or.inr (Nat.zero_le _))
        replace B2 := B2.mid hm6 (Or.inr (Nat.zero_le _))
        replace hm := hm.trans hm6
        have HOW := Lib.hid hov2
        have hb2 := B2.1
        clear p0 p1 q0 q1 q2 hcell hov hov2 hrv
        go_wp2_with (at_builtin; refine wpList_pushG rfl _ _ rfl rfl HG.out hm6 ⟨A7, c7, wordP r n es xs⟩ HOW.out rfl (by omega) ?_; intro A10 c10 w10 hG10 hm10)
        go_roundw
        case rel =>
          refine ⟨k + 1, rows ++ [⟨A7, c7, wordP r n es xs⟩], A10, c10, by omega, by go_num, rfl, Lib.hid ?_, Lib.hid hG10, B0.mid hm10 (Or.inl (by omega)), B1.mid hm10 (Or.inl (by omega)), B2.mid hm10 (Or.inl (by omega)), hm.transNew hm10 (Or.inl (by omega))⟩
          rw [rowsD_append, HD.out, take_snocL HXS.out, List.map_append]
          rfl
        case measure => simp [intOf]; omega
      · obtain rfl : k = d.length := by omega
        have hnr : ¬ (d.length : Int) < (r : Int) := by have := HDN.out; omega
        have hd3 : d.length ≤ 3 := by have := HDN.out; omega
        have hD := HD.out
        rw [List.take_length] at hD
        have hl1 : sumL (d.map (wordP r n es)) ≤ d.length * 40 := by
          have := sumL_le (m := 40) (d.map (wordP r n es)) (fun x hx => by obtain ⟨y, -, rfl⟩ := List.mem_map.1 hx; exact wordP_len (by omega))
          rwa [List.length_map] at this
        have hrs := HG.out.rss
        rw [hD] at hrs
        have hC := fun W lo hi h => impl_GraphOfAction r A1 (d.map (wordP r n es)) c1 W lo hi h (by rw [List.length_map]; omega) (wf_small (by omega) (by omega)) rr rs res b HRA.out
        simp only [List.length_map] at hC
        have HC := Lib.hid hC
        clear hC hD HD hl1
        go_wp2_with fail
        with_reducible refine (HC.out _ _ _ hrs).mono ?_
        rintro en w8 ⟨A8, c8, rfl, ho8, hm8⟩
        replace B0 := B0.mid hm8 (Or.inr (Nat.zero_le _))
        replace B1 := B1.mid hm8 (Or.inr (Nat.zero_le _))
        replace B2 := B2.mid hm8 (Or.inr (Nat.zero_le _))
        replace hm := hm.trans hm8
        have hb2 := B2.1
        have hL8 := hm8.size
        have hLr : L ≤ wr.heap.size := Nat.le_trans (Nat.le_succ _) HG.out.act.size
        have z0 := B2.cell 0 rfl
        have z1 := B2.cell 1 rfl
        have z2 := B2.cell 2 rfl
        have zf := B2.2.2
        clear p0 p1 q0 q1 q2
        go_wp2_with fail
        refine bodyPost_ret (v := .tuple #[.agg #[.int .i64 rr, .int .i64 rs, .slice A8 res.length c8], .bool b]) (by simp [results, Tryz.results22, go_sem, z0, z1, z2, zf]) rfl ⟨A8, c8, rfl, ?_, ?_⟩
        · refine OG.wide (OG.mid ho8 (a := w.heap.size + 2) (b := w.heap.size + 3) ?_ (Or.inl (by omega))) (by omega) (by simp) (Nat.le_refl _)
          repeat (first | exact Mid.refl _ _ _ | refine Mid.stored ?_ _ (by simp; try omega) (by simp; try omega))
        · repeat (first | exact hm | refine Mid.storeNew ?_ (by simp; try omega) _)
  · have hno : ¬ PreOk r0 d r s es := fun h => hrk h.2.2
    obtain ⟨rfl, rfl, rfl, rfl⟩ := HR.out.no hno
    have bne : (r != r0) = true := by simpa using hrk
    have z0 := B2.cell 0 rfl
    have z1 := B2.cell 1 rfl
    have z2 := B2.cell 2 rfl
    have zf := B2.2.2
    clear hrk hmor hfin
    go_wp2_with fail
    refine bodyPost_ret (v := .tuple #[.agg #[.int .i64 0, .int .i64 0, .slice none 0 0], .bool false]) (by simp [results, Tryz.results22, go_sem, z0, z1, z2, zf]) rfl ⟨none, 0, rfl, OG.nil, ?_⟩
    repeat (first | exact hm0 | refine Mid.storeNew ?_ (by simp; try omega) _)


set_option maxHeartbeats 3200000 in
set_option maxRecDepth 20000 in
theorem spec_PreimageOf (r0 : Int) (Ad : Option Addr) (d : List (List Int)) (cd : Nat) (r s : Int) (A : Option Addr) (es : List Ed) (c : Nat) (w : World) (lo hi lo2 hi2 : Nat) (hd : RSS w lo hi Ad d) (hok : OkSS d) (hdl : d.length + sumL d ≤ 1048576) (hr : RG w lo2 hi2 A es) (hl : es.length ≤ 1048576) (rr rs : Int) (res : List Ed) (b : Bool) (hres : PreIs r0 d r s es rr rs res b) :
    Calls Tryz.prog 20 #[.agg #[.int .i64 r0, .slice Ad d.length cd], graV r s A es.length c] w fun e w' => ∃ A1 c1, e = .returned (.tuple #[graV rr rs A1 res.length c1, .bool b]) ∧ OG w' w.heap.size w'.heap.size A1 c1 res ∧ Mid 0 0 w w' := by
  have HR := Lib.hid hres
  have HOK := Lib.hid hok
  clear hres hok
  have hm0 : Mid 0 0 w (((w.alloc (.cells #[.int .i64 r0, .slice Ad d.length cd] 44)).alloc (.cells #[.int .i64 r, .int .i64 s, .slice A es.length c] 29)).alloc (.cells #[.int .i64 0, .int .i64 0, .slice none 0 0] 29)) := ((Mid.alloc _ _).trans (Mid.alloc _ _)).trans (Mid.alloc _ _)
  have B0 := ((Box.new w #[.int .i64 r0, .slice Ad d.length cd] 44).mid (Mid.alloc _ (.cells #[.int .i64 r, .int .i64 s, .slice A es.length c] 29)) (Or.inr (Nat.zero_le _))).mid (Mid.alloc _ (.cells #[.int .i64 0, .int .i64 0, .slice none 0 0] 29)) (Or.inr (Nat.zero_le _))
  have B1 := (Box.new (w.alloc (.cells #[.int .i64 r0, .slice Ad d.length cd] 44)) #[.int .i64 r, .int .i64 s, .slice A es.length c] 29).mid (Mid.alloc _ (.cells #[.int .i64 0, .int .i64 0, .slice none 0 0] 29)) (Or.inr (Nat.zero_le _))
  have B2 := Box.new ((w.alloc (.cells #[.int .i64 r0, .slice Ad d.length cd] 44)).alloc (.cells #[.int .i64 r, .int .i64 s, .slice A es.length c] 29)) #[.int .i64 0, .int .i64 0, .slice none 0 0] 29
  simp only [World.size_alloc] at B1 B2
  obtain ⟨bm, hbm⟩ := bool_of (IsMor r0 d)
  have HM := Lib.hid hbm
  obtain ⟨bf, hbf⟩ := bool_of (IsFin r s es)
  have HF := Lib.hid hbf
  clear hbm hbf
  go_enter Tryz.func20, Tryz.ntmps20
  go_wp2_with fail
  generalize hw1 : ((w.alloc (.cells #[.int .i64 r0, .slice Ad d.length cd] 44)).alloc (.cells #[.int .i64 r, .int .i64 s, .slice A es.length c] 29)).alloc (.cells #[.int .i64 0, .int .i64 0, .slice none 0 0] 29) = w1 at hm0 B0 B1 B2 ⊢
  have hs1 : w1.heap.size = w.heap.size + 1 + 1 + 1 := by rw [← hw1]; simp
  have HS := Lib.hid hs1
  clear hw1 hs1
  with_reducible refine (spec_IsMorphism r0 Ad d cd _ _ _ (hd.mid hm0 (Or.inl (Nat.zero_le _))) HOK.out hdl bm HM.out).mono ?_
  rintro en w2 ⟨rfl, hm2⟩
  replace B0 := B0.mid hm2 (Or.inr (Nat.zero_le _))
  replace B1 := B1.mid hm2 (Or.inr (Nat.zero_le _))
  replace B2 := B2.mid hm2 (Or.inr (Nat.zero_le _))
  replace hm0 := hm0.trans hm2
  have p0 := B0.cell 0 rfl
  have p1 := B0.cell 1 rfl
  have q0 := B1.cell 0 rfl
  have q1 := B1.cell 1 rfl
  have q2 := B1.cell 2 rfl
  cases bm with
  | false =>
    have hno : ¬ PreOk r0 d r s es := fun h => by have := HM.out.2 h.1; cases this
    obtain ⟨rfl, rfl, rfl, rfl⟩ := HR.out.no hno
    have z0 := B2.cell 0 rfl
    have z1 := B2.cell 1 rfl
    have z2 := B2.cell 2 rfl
    have zf := B2.2.2
    go_wp2_with fail
    refine bodyPost_ret (v := .tuple #[.agg #[.int .i64 0, .int .i64 0, .slice none 0 0], .bool false]) (by simp [results, Tryz.results20, go_sem, z0, z1, z2, zf]) rfl ⟨none, 0, rfl, OG.nil, ?_⟩
    repeat (first | exact hm0 | refine Mid.storeNew ?_ (by simp; try omega) _)
  | true =>
  have hmor := HM.out.1 rfl
  have hms2 := hm2.size
  clear hm2 HM
  go_wp2_with fail
  with_reducible refine (spec_IsFiniteIndex r s A es c _ _ _ (hr.mid hm0 (Or.inl (Nat.zero_le _))) hl bf HF.out).mono ?_
  rintro en w3 ⟨rfl, hm3⟩
  replace B0 := B0.mid hm3 (Or.inr (Nat.zero_le _))
  replace B1 := B1.mid hm3 (Or.inr (Nat.zero_le _))
  replace B2 := B2.mid hm3 (Or.inr (Nat.zero_le _))
  replace hm0 := hm0.trans hm3
  have hms3 := hm3.size
  clear p0 p1 q0 q1 q2 hm3
  have p0 := B0.cell 0 rfl
  have p1 := B0.cell 1 rfl
  have q0 := B1.cell 0 rfl
  have q1 := B1.cell 1 rfl
  have q2 := B1.cell 2 rfl
  cases bf with
  | false =>
    have hno : ¬ PreOk r0 d r s es := fun h => by have := HF.out.2 h.2.1; cases this
    obtain ⟨rfl, rfl, rfl, rfl⟩ := HR.out.no hno
    have z0 := B2.cell 0 rfl
    have z1 := B2.cell 1 rfl
    have z2 := B2.cell 2 rfl
    have zf := B2.2.2
    go_wp2_with fail
    refine bodyPost_ret (v := .tuple #[.agg #[.int .i64 0, .int .i64 0, .slice none 0 0], .bool false]) (by simp [results, Tryz.results20, go_sem, z0, z1, z2, zf]) rfl ⟨none, 0, rfl, OG.nil, ?_⟩
    repeat (first | exact hm0 | refine Mid.storeNew ?_ (by simp; try omega) _)
  | true =>
  have hfin := HF.out.1 rfl
  clear HF
  by_cases hrk : r = r0
  · have hRA := HR.out.yes ⟨hmor, hfin, hrk⟩
    subst hrk
    obtain ⟨r, n, rfl, rfl⟩ := hfin.cor.gr.nat
    have hg1 := hfin.cor.gr.rank
    have hg2 := hfin.cor.gr.size
    have hg3 := hfin.cor.gr.len
    have hdn : d.length = r := by have := hmor.2.2.1; omega
    have HDN := Lib.hid hdn
    clear hdn
    have hw30 : w.heap.size < w3.heap.size := B0.1
    have HFI := Lib.hid hfin
    have HWD := Lib.hid hmor.2.2.2
    have HRA := Lib.hid hRA
    have beq0 : ((r : Int) != (r : Int)) = false := by simp
    have O0 := owns_empty w3 25 1
    have hal := Mid.alloc w3 (.cells #[] 25)
    have hL : w.heap.size + 3 ≤ w3.heap.size := by have := HS.out; omega
    have hG0 : Grp (w3.alloc (.cells #[] 25)) w3.heap.size (w3.heap.size + 1) (w3.heap.size + 1) (some ⟨w3.heap.size, 0, none⟩) 0 0 [] none [] := ⟨O0, OwnRows.nil, ⟨[], rfl, ⟨by simp, fun h => absurd rfl h⟩, by simp⟩, fun g _ => by omega, by omega⟩
    clear hRA hmor hfin HR O0
    go_wp2_with fail
    clear p0 p1 q0 q1 q2
    replace B0 := B0.mid hal (Or.inr (Nat.zero_le _))
    replace B1 := B1.mid hal (Or.inr (Nat.zero_le _))
    replace B2 := B2.mid hal (Or.inr (Nat.zero_le _))
    replace hm0 := hm0.trans hal
    generalize w3.alloc (.cells #[] 25) = w4 at hG0 B0 B1 B2 hm0 ⊢
    generalize (some (⟨w3.heap.size, 0, none⟩ : Addr)) = A0 at hG0 ⊢
    generalize w3.heap.size = L at hG0 hL
    go_loopw [6, 7] (fun out iv wr => ∃ (k : Nat) (rows : List Row) (A1 : Option Addr) (c1 : Nat), k ≤ d.length ∧ iv = .int .i64 k ∧ out = .slice A1 k c1 ∧ Hid (rowsD rows = (d.take k).map (wordP r n es)) ∧ Hid (Grp wr L (L + 1) (L + 1) A1 k c1 rows none []) ∧
      Box wr w.heap.size [.int .i64 r, .slice Ad d.length cd] ∧ Box wr (w.heap.size + 1) [.int .i64 r, .int .i64 n, .slice A es.length c] ∧ Box wr (w.heap.size + 1 + 1) [.int .i64 0, .int .i64 0, .slice none 0 0] ∧ Mid 0 0 w wr) (fun _ iv _ => d.length - (intOf iv).toNat)
    case atStart => exact ⟨0, [], A0, 0, Nat.zero_le _, rfl, rfl, Lib.hid rfl, Lib.hid hG0, B0, B1, B2, hm0⟩
    case round =>
      clear hG0 B0 B1 B2 hm0 hal
      obtain ⟨k, rows, A1, c1, hk, rfl, rfl, HD, HG, B0, B1, B2, hm⟩ := hrel
      have p0 := B0.cell 0 rfl
      have p1 := B0.cell 1 rfl
      have q0 := B1.cell 0 rfl
      have q1 := B1.cell 1 rfl
      have q2 := B1.cell 2 rfl
      by_cases hlt : k < d.length
      · obtain ⟨Bd, od, Ak, ck, xs, hAd, hb1, hb2, hxs, hcell, hrv⟩ := (hd.mid hm (Or.inl (Nat.zero_le _))).row hlt
        subst hAd
        have hxm := List.mem_of_getElem? hxs
        have hx24 : xs.length ≤ 24 := (HWD.out xs hxm).2.2.1
        have HOX := Lib.hid (HOK.out.2 xs hxm)
        have HXS := Lib.hid hxs
        have hk0 : (0 : Int) ≤ (k : Int) := by omega
        have hk1 : (k : Int) < (d.length : Int) := by omega
        have hk2 : (k : Int) < (r : Int) := by have := HDN.out; omega
        clear hxm hxs
        go_wp2_with fail
        have hmd := Mid.drew1 wr
        have hBd : Bd < wr.heap.size := by have := hd.size; have := hm.size; omega
        have hcell2 := cell_keep hmd hBd (Or.inr (Nat.zero_le _)) hcell
        have hrv2 := hrv.mid hmd (Or.inl (Nat.zero_le _))
        have hG2 := HG.out.mid hmd
        clear hcell hrv HG p0 p1 q0 q1 q2
        replace B0 := B0.mid hmd (Or.inr (Nat.zero_le _))
        replace B1 := B1.mid hmd (Or.inr (Nat.zero_le _))
        replace B2 := B2.mid hmd (Or.inr (Nat.zero_le _))
        replace hm := hm.trans hmd
        clear hmd hBd
        have p0 := B0.cell 0 rfl
        have p1 := B0.cell 1 rfl
        have q0 := B1.cell 0 rfl
        have q1 := B1.cell 1 rfl
        have q2 := B1.cell 2 rfl
        refine wp_region_Z (S := (fun w' => (w'.cell? ⟨w.heap.size + 1, 0, none⟩ = some (.int .i64 r) ∧ w'.cell? ⟨w.heap.size + 1, 1, none⟩ = some (.int .i64 n) ∧ w'.cell? ⟨w.heap.size + 1, 2, none⟩ = some (.slice A es.length c)) ∧ w'.cell? ⟨w.heap.size, 1, none⟩ = some (.slice (some ⟨Bd, od, none⟩) d.length cd) ∧ w'.cell? ⟨Bd, od + k, none⟩ = some (.slice Ak xs.length ck))) [] (by kernel_rfl) ⟨⟨q0, q1, q2⟩, p1, hcell2⟩ ?_
        generalize World.drew wr = wz at B0 B1 B2 hm hG2 hrv2 hcell2 p0 p1 q0 q1 q2 ⊢
        have hS : (wz.cell? ⟨w.heap.size + 1, 0, none⟩ = some (.int .i64 r) ∧ wz.cell? ⟨w.heap.size + 1, 1, none⟩ = some (.int .i64 n) ∧ wz.cell? ⟨w.heap.size + 1, 2, none⟩ = some (.slice A es.length c)) ∧ wz.cell? ⟨w.heap.size, 1, none⟩ = some (.slice (some ⟨Bd, od, none⟩) d.length cd) ∧ wz.cell? ⟨Bd, od + k, none⟩ = some (.slice Ak xs.length ck) := ⟨⟨q0, q1, q2⟩, p1, hcell2⟩
        refine wpAnyZ_takeC [] (i := 0) (v := ?_) rfl (by kernel_rfl) (by kernel_rfl) (by kernel_rfl) (by kernel_rfl) (fun _ _ _ h => h) (Or.inl ⟨by rfl, ?_⟩) hS ?_
        rotate_left
        focus (intro w hSw; (try dsimp only at hSw); go_simp; try with_reducible rfl)
        try simp only [Act.put, List.setIfInBounds_toArray, List.set_cons_zero, List.set_cons_succ, List.getElem_toArray, List.getElem_cons_zero, List.getElem_cons_succ]
        refine wpAnyZ_takeC [] (i := 1) (v := ?_) rfl (by kernel_rfl) (by kernel_rfl) (by kernel_rfl) (by kernel_rfl) (fun _ _ _ h => h) (Or.inl ⟨by rfl, ?_⟩) hS ?_
        rotate_left
        focus (intro w hSw; (try dsimp only at hSw); go_simp; try with_reducible rfl)
        try simp only [Act.put, List.setIfInBounds_toArray, List.set_cons_zero, List.set_cons_succ, List.getElem_toArray, List.getElem_cons_zero, List.getElem_cons_succ]
        refine wpAnyZ_takeC [] (i := 2) (v := ?_) rfl (by kernel_rfl) (by kernel_rfl) (by kernel_rfl) (by kernel_rfl) (fun _ _ _ h => h) (Or.inl ⟨by rfl, ?_⟩) hS ?_
        rotate_left
        focus (intro w hSw; (try dsimp only at hSw); go_simp; try with_reducible rfl)
        try simp only [Act.put, List.setIfInBounds_toArray, List.set_cons_zero, List.set_cons_succ, List.getElem_toArray, List.getElem_cons_zero, List.getElem_cons_succ]
        refine wpAnyZ_takeC [] (i := 3) (v := ?_) rfl (by kernel_rfl) (by kernel_rfl) (by kernel_rfl) (by kernel_rfl) (fun _ _ _ h => h) (Or.inl ⟨by rfl, ?_⟩) hS ?_
        rotate_left
        focus (intro w hSw; (try dsimp only at hSw); go_simp; try with_reducible rfl)
        try simp only [Act.put, List.setIfInBounds_toArray, List.set_cons_zero, List.set_cons_succ, List.getElem_toArray, List.getElem_cons_zero, List.getElem_cons_succ]
        refine wpAnyZ_takeC [] (i := 4) (v := ?_) rfl (by kernel_rfl) (by kernel_rfl) (by kernel_rfl) (by kernel_rfl) (fun _ _ _ h => h) (Or.inl ⟨by rfl, ?_⟩) hS ?_
        rotate_left
        focus (intro w hSw; (try dsimp only at hSw); go_simp; try with_reducible rfl)
        try simp only [Act.put, List.setIfInBounds_toArray, List.set_cons_zero, List.set_cons_succ, List.getElem_toArray, List.getElem_cons_zero, List.getElem_cons_succ]
        refine wpAnyZ_takeC [] (i := 5) (v := ?_) rfl (by kernel_rfl) (by kernel_rfl) (by kernel_rfl) (by kernel_rfl) (fun _ _ _ h => h) (Or.inl ⟨by rfl, ?_⟩) hS ?_
        rotate_left
        focus (intro w hSw; (try dsimp only at hSw); go_simp; try with_reducible rfl)
        try simp only [Act.put, List.setIfInBounds_toArray, List.set_cons_zero, List.set_cons_succ, List.getElem_toArray, List.getElem_cons_zero, List.getElem_cons_succ]
        have hBz : Bd < wz.heap.size := by have := hd.size; have := hm.size; omega
        refine wpAnyZ_ready (rs := [6]) (by kernel_rfl) (by simp) (AllReadyZ.cons rfl (fun K hK => ?_) AllReadyZ.nil)
        (go_simp; (with_reducible refine (spec_WordPermutation_fin r n A es c Ak xs ck wz lo2 hi2 lo hi (hr.mid hm (Or.inl (Nat.zero_le _))) hrv2 HFI.out (by omega) HOX.out).mono ?_); rintro en w6 ⟨A7, c7, rfl, hov, hm6⟩; have B06 := B0.mid hm6 (Or.inr (Nat.zero_le _)); have B16 := B1.mid hm6 (Or.inr (Nat.zero_le _)); have hcell6 := cell_keep hm6 hBz (Or.inr (Nat.zero_le _)) hcell2; go_wp2_with fail)
        refine hK.out _ _ (Or.inr ⟨⟨B16.cell 0 rfl, B16.cell 1 rfl, B16.cell 2 rfl⟩, B06.cell 1 rfl, hcell6⟩) (fun _ => ?_)
        clear hK K
        try simp only [Act.put, List.setIfInBounds_toArray, List.set_cons_zero, List.set_cons_succ, List.getElem_toArray, List.getElem_cons_zero, List.getElem_cons_succ]
        refine wpAnyZ_ready (rs := [7]) (by kernel_rfl) (by simp) (AllReadyZ.cons rfl (fun K hK => ?_) AllReadyZ.nil)
        go_simp
        refine hK.out _ _ (Or.inr ⟨⟨B16.cell 0 rfl, B16.cell 1 rfl, B16.cell 2 rfl⟩, B06.cell 1 rfl, hcell6⟩) (fun _ => ?_)
        clear hK K
        try simp only [Act.put, List.setIfInBounds_toArray, List.set_cons_zero, List.set_cons_succ, List.getElem_toArray, List.getElem_cons_zero, List.getElem_cons_succ]
        refine wpAnyZ_done (by kernel_rfl) ?_ _
        have hov2 := hov.2.1
        have HG := Lib.hid hG2
        have HOW := Lib.hid hov2
        clear hS p0 p1 q0 q1 q2 hcell2 hcell6 B06 B16 hov hov2 hrv2 hBz hG2
        replace B0 := B0.mid hm6 (Or.inr (Nat.zero_le _))
        replace B1 := B1.mid hm6 (Or.inr (Nat.zero_le _))
        replace B2 := B2.mid hm6 (Or.inr (Nat.zero_le _))
        replace hm := hm.trans hm6
        have hb2 := B2.1
        go_wp2_with (at_builtin; refine wpList_pushG rfl _ _ rfl rfl HG.out hm6 ⟨A7, c7, wordP r n es xs⟩ HOW.out rfl (by omega) ?_; intro A10 c10 w10 hG10 hm10)
        go_roundw
        case rel =>
          refine ⟨k + 1, rows ++ [⟨A7, c7, wordP r n es xs⟩], A10, c10, by omega, by go_num, rfl, Lib.hid ?_, Lib.hid hG10, B0.mid hm10 (Or.inl (by omega)), B1.mid hm10 (Or.inl (by omega)), B2.mid hm10 (Or.inl (by omega)), hm.transNew hm10 (Or.inl (by omega))⟩
          rw [rowsD_append, HD.out, take_snocL HXS.out, List.map_append]
          rfl
        case measure => simp [intOf]; omega
      · obtain rfl : k = d.length := by omega
        have hnr : ¬ (d.length : Int) < (r : Int) := by have := HDN.out; omega
        have hd3 : d.length ≤ 3 := by have := HDN.out; omega
        have hD := HD.out
        rw [List.take_length] at hD
        have hl1 : sumL (d.map (wordP r n es)) ≤ d.length * 40 := by
          have := sumL_le (m := 40) (d.map (wordP r n es)) (fun x hx => by obtain ⟨y, -, rfl⟩ := List.mem_map.1 hx; exact wordP_len (by omega))
          rwa [List.length_map] at this
        have hrs := HG.out.rss
        rw [hD] at hrs
        have hC := fun W lo hi h => spec_GraphOfAction r A1 (d.map (wordP r n es)) c1 W lo hi h (by rw [List.length_map]; omega) (wf_small (by omega) (by omega)) rr rs res b HRA.out
        simp only [List.length_map] at hC
        have HC := Lib.hid hC
        clear hC hD HD hl1
        go_wp2_with fail
        with_reducible refine (HC.out _ _ _ hrs).mono ?_
        rintro en w8 ⟨A8, c8, rfl, ho8, hm8⟩
        replace B0 := B0.mid hm8 (Or.inr (Nat.zero_le _))
        replace B1 := B1.mid hm8 (Or.inr (Nat.zero_le _))
        replace B2 := B2.mid hm8 (Or.inr (Nat.zero_le _))
        replace hm := hm.trans hm8
        have hb2 := B2.1
        have hL8 := hm8.size
        have hLr : L ≤ wr.heap.size := Nat.le_trans (Nat.le_succ _) HG.out.act.size
        have z0 := B2.cell 0 rfl
        have z1 := B2.cell 1 rfl
        have z2 := B2.cell 2 rfl
        have zf := B2.2.2
        clear p0 p1 q0 q1 q2
        have Y20 := Box.new w8 #[.int .i64 rr, .int .i64 rs, .slice A8 res.length c8] 29
        have hb20 : w.heap.size + 1 + 1 < w8.heap.size := hb2
        have q0 := Y20.cell 0 rfl
        have q1 := Y20.cell 1 rfl
        have q2 := Y20.cell 2 rfl
        go_wp2_with fail
        refine bodyPost_ret (v := .tuple #[.agg #[.int .i64 rr, .int .i64 rs, .slice A8 res.length c8], .bool b]) (by simp [results, Tryz.results20, go_sem, z0, z1, z2, zf, q0, q1, q2, hb20, World.cell?_alloc_lt]) rfl ⟨A8, c8, rfl, ?_, ?_⟩
        · refine OG.wide (OG.mid ho8 (a := w.heap.size + 2) (b := w.heap.size + 3) ?_ (Or.inl (by omega))) (by omega) (by simp; try omega) (Nat.le_refl _)
          repeat (first | exact Mid.refl _ _ _ | refine Mid.trans ?_ (Mid.zero (Mid.alloc _ _)) | refine Mid.stored ?_ _ (by simp; try omega) (by simp; try omega))
        · repeat (first | exact hm | refine Mid.trans ?_ (Mid.alloc _ _) | refine Mid.storeNew ?_ (by simp; try omega) _)
  · have hno : ¬ PreOk r0 d r s es := fun h => hrk h.2.2
    obtain ⟨rfl, rfl, rfl, rfl⟩ := HR.out.no hno
    have bne : (r != r0) = true := by simpa using hrk
    have z0 := B2.cell 0 rfl
    have z1 := B2.cell 1 rfl
    have z2 := B2.cell 2 rfl
    have zf := B2.2.2
    clear hrk hmor hfin
    go_wp2_with fail
    refine bodyPost_ret (v := .tuple #[.agg #[.int .i64 0, .int .i64 0, .slice none 0 0], .bool false]) (by simp [results, Tryz.results20, go_sem, z0, z1, z2, zf]) rfl ⟨none, 0, rfl, OG.nil, ?_⟩
    repeat (first | exact hm0 | refine Mid.storeNew ?_ (by simp; try omega) _)

end Go.Proofs.YtimmnnncgnnkgaaGreat

/- The law on PreimageOf: its data. -/
namespace Go.Proofs.YtimmnnncgnnkgaaGreat
set_option linter.unusedVariables false
open Go.RowKit
def PreimageOfIs (r0 : Int) (d0 : List (List Int)) (r1 s1 : Int) (d1 : List Ed) (rr0 rs0 : Int) (res0 : List Ed) (res1 : Bool) : Prop := PreIs r0 d0 r1 s1 d1 rr0 rs0 res0 res1
theorem PreimageOfIs_ex (r0 : Int) (d0 : List (List Int)) (r1 s1 : Int) (d1 : List Ed) (b0 : (Lit.int .i64 r0).wf = true) (o0 : OkSS d0) (hl0 : d0.length + sumL d0 ≤ 1048576) (hl1 : d1.length ≤ 1048576) : ∃ rr0 rs0 res0 res1, PreimageOfIs r0 d0 r1 s1 d1 rr0 rs0 res0 res1 := PreIs_ex r0 d0 r1 s1 d1
theorem PreimageOfIs_len {r0 : Int} {d0 : List (List Int)} {r1 s1 : Int} {d1 : List Ed} {rr0 rs0 : Int} {res0 : List Ed} {res1 : Bool} (h : PreimageOfIs r0 d0 r1 s1 d1 rr0 rs0 res0 res1) (b0 : (Lit.int .i64 r0).wf = true) (o0 : OkSS d0) (hl0 : d0.length + sumL d0 ≤ 1048576) (hl1 : d1.length ≤ 1048576) : res0.length ≤ 1048576 := by
  have := PreIs.lens h
  omega
theorem sspec_PreimageOf (r0 : Int) (A0 : Option Addr) (d0 : List (List Int)) (c0 : Nat) (r1 s1 : Int) (A1 : Option Addr) (d1 : List Ed) (c1 : Nat) (w : World) (lo0 hi0 : Nat) (h0 : OSS w lo0 hi0 25 3 A0 c0 d0) (b0 : (Lit.int .i64 r0).wf = true) (o0 : OkSS d0) (hl0 : d0.length + sumL d0 ≤ 1048576) (lo1 hi1 : Nat) (h1 : OG w lo1 hi1 A1 c1 d1) (hl1 : d1.length ≤ 1048576) (rr0 rs0 : Int) (res0 : List Ed) (res1 : Bool) (h : PreimageOfIs r0 d0 r1 s1 d1 rr0 rs0 res0 res1) :
    Calls Tryz.prog 20 #[.agg #[.int .i64 r0, .slice A0 d0.length c0], .agg #[.int .i64 r1, .int .i64 s1, .slice A1 d1.length c1]] w fun e w' => ∃ (A : Option Addr) (c : Nat), e = .returned (.tuple #[.agg #[.int .i64 rr0, .int .i64 rs0, .slice A res0.length c], .bool res1]) ∧ OG w' w.heap.size w'.heap.size A c res0 ∧ Mid 0 0 w w' :=
  spec_PreimageOf r0 A0 d0 c0 r1 s1 A1 d1 c1 w lo0 hi0 lo1 hi1 h0.rss o0 hl0 h1.rg hl1 rr0 rs0 res0 res1 h
theorem simpl_PreimageOf (r0 : Int) (A0 : Option Addr) (d0 : List (List Int)) (c0 : Nat) (r1 s1 : Int) (A1 : Option Addr) (d1 : List Ed) (c1 : Nat) (w : World) (lo0 hi0 : Nat) (h0 : OSS w lo0 hi0 25 3 A0 c0 d0) (b0 : (Lit.int .i64 r0).wf = true) (o0 : OkSS d0) (hl0 : d0.length + sumL d0 ≤ 1048576) (lo1 hi1 : Nat) (h1 : OG w lo1 hi1 A1 c1 d1) (hl1 : d1.length ≤ 1048576) (rr0 rs0 : Int) (res0 : List Ed) (res1 : Bool) (h : PreimageOfIs r0 d0 r1 s1 d1 rr0 rs0 res0 res1) :
    Calls Tryz.prog 22 #[.agg #[.int .i64 r0, .slice A0 d0.length c0], .agg #[.int .i64 r1, .int .i64 s1, .slice A1 d1.length c1]] w fun e w' => ∃ (A : Option Addr) (c : Nat), e = .returned (.tuple #[.agg #[.int .i64 rr0, .int .i64 rs0, .slice A res0.length c], .bool res1]) ∧ OG w' w.heap.size w'.heap.size A c res0 ∧ Mid 0 0 w w' :=
  impl_PreimageOf r0 A0 d0 c0 r1 s1 A1 d1 c1 w lo0 hi0 lo1 hi1 h0.rss o0 hl0 h1.rg hl1 h1.cnt.1 rr0 rs0 res0 res1 h
end Go.Proofs.YtimmnnncgnnkgaaGreat
