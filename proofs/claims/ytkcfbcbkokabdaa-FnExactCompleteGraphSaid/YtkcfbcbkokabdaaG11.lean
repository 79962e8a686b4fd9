
/- The library's Compact at a row of edges of the call's own. -/
import Derived.Test.YtkcfbcbkokabdaaG8
import Derived.Test.YtkcfbcbkokabdaaM13
import Derived.Test.YtkcfbcbkokabdaaM4
import Derived.BigQuiet
namespace Go.Proofs.Ytkcfbcbkokabdaa
set_option linter.unusedVariables false
set_option linter.unusedSimpArgs false
open Go.RowKit

abbrev tE : TypeId := 48
/-- What owned edges read. -/
theorem owns_ed {w : World} {lo g n c : Nat} {ys : List Ed} (h : w.ownsRow lo 48 3 (.slice (some ⟨g, 0, none⟩) n c) n (ints (edI ys))) {i : Nat} {e : Ed} (hi : ys[i]? = some e) :
    w.cell? ⟨g, i * 3, none⟩ = some (.int .i64 e.a) ∧ w.cell? ⟨g, i * 3 + 1, none⟩ = some (.int .i64 e.l) ∧ w.cell? ⟨g, i * 3 + 2, none⟩ = some (.int .i64 e.b) := by
  obtain ⟨g0, g1, g2⟩ := edI_at hi
  have hl := h.1
  rw [ints_len, edI_len] at hl
  have hil := (List.getElem?_eq_some_iff.1 hi).1
  exact ⟨by rw [h.cellAt _ (by omega), ints_get, g0]; rfl, by rw [h.cellAt _ (by omega), ints_get, g1]; rfl, by rw [h.cellAt _ (by omega), ints_get, g2]; rfl⟩
theorem edI_set (ys : List Ed) {k : Nat} (e : Ed) (hk : k < ys.length) :
    (((ints (edI ys)).set (k * 3) (.int .i64 e.a)).set (k * 3 + 1) (.int .i64 e.l)).set (k * 3 + 2) (.int .i64 e.b) = ints (edI (ys.set k e)) := by
  have h := edI_fill (ys.set k e) (k := k) (e := e) (by rw [List.getElem?_set_self hk]) (ints (edI ys)) (by rw [ints_len, edI_len]; simp)
  have h1 : ints (edI ((ys.set k e).take k)) ++ (ints (edI ys)).drop (k * 3) = ints (edI ys) := by
    rw [List.take_set_of_le (Nat.le_refl _), edI_take, show ints ((edI ys).take (k * 3)) = (ints (edI ys)).take (k * 3) by simp [ints]]
    exact List.take_append_drop _ _
  rw [h1] at h
  rw [h]
  have h2 : (ints (edI ys)).drop ((k + 1) * 3) = ints (edI ((ys.set k e).drop (k + 1))) := by
    rw [List.drop_set_of_lt (by omega), edI_drop]
    simp [ints]
  rw [h2, ← ints_append, ← edI_append, List.take_append_drop]
theorem owns_setE {w : World} {lo g n c : Nat} {ys : List Ed} (h : w.ownsRow lo 48 3 (.slice (some ⟨g, 0, none⟩) n c) n (ints (edI ys))) {k : Nat} (e : Ed) (hk : k < ys.length) :
    (((w.setCell ⟨g, k * 3, none⟩ (.int .i64 e.a)).setCell ⟨g, k * 3 + 1, none⟩ (.int .i64 e.l)).setCell ⟨g, k * 3 + 2, none⟩ (.int .i64 e.b)).ownsRow lo 48 3 (.slice (some ⟨g, 0, none⟩) n c) n (ints (edI (ys.set k e))) := by
  have := owns_setK (owns_setK (owns_setK h (k * 3) (.int .i64 e.a) rfl) (k * 3 + 1) (.int .i64 e.l) rfl) (k * 3 + 2) (.int .i64 e.b) rfl
  rwa [edI_set ys e hk] at this
theorem owns_setsPast {lo g n c size : Nat} {e : TypeId} {xs : List Value} : ∀ (vs : List Value) (o : Nat) {w : World}, n * size ≤ o → w.ownsRow lo e size (.slice (some ⟨g, 0, none⟩) n c) n xs → (w.setCells g o vs).ownsRow lo e size (.slice (some ⟨g, 0, none⟩) n c) n xs
  | [], _, _, _, h => h
  | v :: r, o, w, ho, h => owns_setsPast r (o + 1) (by omega) (owns_setK h o v (List.set_eq_of_length_le (by have := h.1; omega)))
theorem grown_setCells {w0 : World} {g : Nat} : ∀ (vs : List Value) (o : Nat) {w : World}, w0.grownBy w (some g) → w0.grownBy (w.setCells g o vs) (some g)
  | [], _, _, h => h
  | v :: r, o, w, h => grown_setCells r (o + 1) (grown_setCell h o v)
theorem run_clear3 (w : World) (ty : TypeId) (b o n c : Nat) (hn : 0 < n)
    (hc : ∀ j, j < n * 3 → (w.cell? ⟨b, o + j, none⟩).isSome = true) (hf : ∀ j, j < n * 3 → w.frozen? ⟨b, o + j, none⟩ = false) :
    (Builtin.clear_ #[27] ty #[.slice (some ⟨b, o, none⟩) n c]).run Try.prog w = .ok (.tuple #[]) (w.setCells b o (List.replicate (n * 3) (.int .i64 0))) := by
  have hzc : (Builtin.zeroCells (Value.agg #[.int .i64 0, .int .i64 0, .int .i64 0]).cells n).toList = List.replicate (n * 3) (.int .i64 0) := by
    apply List.ext_getElem
    · simp [Builtin.zeroCells, Value.cells]
    · intro i h1 h2
      have h3 : i % 3 < 3 := Nat.mod_lt _ (by decide)
      simp [Builtin.zeroCells, Value.cells]
      rcases (show i % 3 = 0 ∨ i % 3 = 1 ∨ i % 3 = 2 by omega) with h | h | h <;> simp [h]
  have hst := run_storeCells_cells (P := Try.prog) b o (List.replicate (n * 3) (.int .i64 0)) 0 w (by simpa using hc) (by simpa using hf) (by intro v hv'; rw [List.eq_of_mem_replicate hv']; rfl)
  simp only [Nat.add_zero] at hst
  have hv := Try.zeroValue48
  obtain ⟨m, rfl⟩ : ∃ m, n = m + 1 := ⟨n - 1, by omega⟩
  simp [Builtin.clear_, run_underlying undSE, hv, hzc, hst]

set_option maxHeartbeats 3200000 in
theorem compactE (g : Nat) (es : List Ed) (c : Nat) (w : World) (lo : Nat) (ho : w.ownsRow lo 48 3 (.slice (some ⟨g, 0, none⟩) es.length c) es.length (ints (edI es))) (hl : es.length ≤ 1048576) :
    Calls Try.prog 69 #[.slice (some ⟨g, 0, none⟩) es.length c] w fun e w' => e = .returned (.slice (some ⟨g, 0, none⟩) (compE es).length c) ∧
      w'.ownsRow lo 48 3 (.slice (some ⟨g, 0, none⟩) (compE es).length c) (compE es).length (ints (edI (compE es))) ∧ w.grownBy w' (some g) := by
  obtain ⟨hcc, hcm⟩ : es.length ≤ c ∧ c ≤ maxLen := by
    obtain ⟨A', c', hv, h1, h2⟩ := owns_shape ho
    injection hv with _ _ h3
    subst h3
    exact ⟨h1, h2⟩
  have hcm : c ≤ 9223372036854775807 := by unfold maxLen at hcm; omega
  by_cases h2 : es.length < 2
  · have hd : decide ((es.length : Int) < 2) = true := by simp; omega
    have hc1 := compE_one es (by omega)
    go_enter Try.func69, Try.ntmps69
    go_wp2_with fail
    go_ret
    rw [hc1]
    exact ⟨rfl, ho, World.grownBy.refl _ _⟩
  have hd : decide ((es.length : Int) < 2) = false := by simp; omega
  have HO := Lib.hid ho
  clear ho
  go_enter Try.func69, Try.ntmps69
  go_wp2_with fail
  go_loopw [3] (fun i wr => ∃ k q : Nat, 1 ≤ k ∧ k ≤ es.length ∧ i = .int .i64 k ∧ Hid (compE (es.take k) = es.take k) ∧ wr = w.drewN q) (fun i _ => es.length - (intOf i).toNat)
  case atStart => exact ⟨1, 0, Nat.le_refl _, by omega, rfl, Lib.hid (compE_one _ (by simp; omega)), rfl⟩
  case round =>
    obtain ⟨k, q, hk1, hk, rfl, HC, rfl⟩ := hrel
    by_cases hlt : k < es.length
    · obtain ⟨e, he⟩ := get_of_lt es hlt
      obtain ⟨f, hf⟩ := get_of_lt es (show k - 1 < es.length by omega)
      obtain ⟨c0, c1, c2⟩ := owns_ed HO.out he
      obtain ⟨m, hm⟩ : ∃ m, k = m + 1 := ⟨k - 1, by omega⟩
      have hf' := hf
      rw [hm, Nat.add_sub_cancel] at hf'
      obtain ⟨p0, p1, p2⟩ := owns_ed HO.out hf'
      have hk0 : (0 : Int) ≤ (k : Int) := by omega
      have hkn : (k : Int) < (es.length : Int) := by omega
      have hkm : (k : Int) - 1 = (m : Int) := by omega
      have hwm : IntKind.i64.wrap (m : Int) = (m : Int) := IntWalk.i64_in _ (by omega)
      have hm0 : (0 : Int) ≤ (m : Int) := by omega
      have hmn : (m : Int) < (es.length : Int) := by omega
      have hgd := guardEd e f
      have HE := Lib.hid he
      have HF := Lib.hid hf
      have HM := Lib.hid hm
      by_cases hef : e = f
      · have hq := eqlEd_run e f (show decide (e = f) = true by simp [hef])
        have HEF := Lib.hid hef
        have hck : (c = k) = False := eq_false (by omega)
        have hkc : (k : Int) ≤ (c : Int) := by omega
        clear he hf hf' hm hef
        go_wp2_with fail
        go_quiet (fail)
        clear hq hgd c0 c1 c2 p0 p1 p2 hkm hwm
        go_wp2_with fail
        have HS := HC.out
        go_loopw [3, 5] (fun s3 s5 wr => ∃ kk k2 : Nat, ∃ ys : List Ed, s3 = .int .i64 kk ∧ s5 = .int .i64 k2 ∧ 1 ≤ k2 ∧ k + k2 ≤ es.length ∧ Hid (CompAt es (k + k2) kk ys) ∧
            wr.ownsRow lo 48 3 (.slice (some ⟨g, 0, none⟩) es.length c) es.length (ints (edI ys)) ∧ w.grownBy wr (some g)) (fun _ s5 _ => es.length - (intOf s5).toNat)
        case atStart => exact ⟨k, 1, es, rfl, rfl, Nat.le_refl _, by omega, Lib.hid (CompAt.start HC.out (by omega) HE.out (by rw [HEF.out]; exact HF.out)), HO.out, grown_of_below (below_drewN (Below.refl _ w) _) _⟩
        case round =>
          obtain ⟨kk, k2, ys, rfl, rfl, h1, hle, HI, hown, hg⟩ := hrel
          have hlt1 := HI.out.lt
          have hfz := fun i => hown.frozenAt i
          have hylen := HI.out.len
          have HY := Lib.hid hylen
          clear hylen HS
          by_cases hlt2 : k + k2 < es.length
          · obtain ⟨e1, he1⟩ := get_of_lt es hlt2
            obtain ⟨m2, hm2⟩ : ∃ m2, k2 = m2 + 1 := ⟨k2 - 1, by omega⟩
            obtain ⟨f1, hf1⟩ := get_of_lt es (show k + m2 < es.length by omega)
            obtain ⟨c0, c1, c2⟩ := owns_ed hown ((HI.out.high _ (by omega)).trans he1)
            obtain ⟨p0, p1, p2⟩ := owns_ed hown ((HI.out.high _ (by omega)).trans hf1)
            rw [show (k + k2) * 3 = k * 3 + k2 * 3 by omega] at c0 c1 c2
            rw [show (k + m2) * 3 = k * 3 + m2 * 3 by omega] at p0 p1 p2
            obtain ⟨old, hold⟩ := get_of_lt ys (show kk < ys.length by have := HY.out; omega)
            obtain ⟨o0, o1, o2⟩ := owns_ed hown hold
            have hf1' : es[k + k2 - 1]? = some f1 := by rw [hm2, show k + (m2 + 1) - 1 = k + m2 by omega]; exact hf1
            have HE1 := Lib.hid he1
            have HF1 := Lib.hid hf1'
            have HOW := Lib.hid hown
            have hk20 : (0 : Int) ≤ (k2 : Int) := by omega
            have hk2n : (k2 : Int) < (es.length : Int) - (k : Int) := by omega
            have hk2N : k2 < es.length - k := by omega
            have hkm2 : (k2 : Int) - 1 = (m2 : Int) := by omega
            have hwm2 : IntKind.i64.wrap (m2 : Int) = (m2 : Int) := IntWalk.i64_in _ (by omega)
            have hm20 : (0 : Int) ≤ (m2 : Int) := by omega
            have hm2n : (m2 : Int) < (es.length : Int) - (k : Int) := by omega
            have hkk0 : (0 : Int) ≤ (kk : Int) := by omega
            have hkkn : (kk : Int) < (es.length : Int) := by omega
            have hgd := guardEd e1 f1
            clear he1 hf1 hf1' hold hown hm2
            by_cases hef1 : e1 = f1
            · have hq := neqEd_run e1 f1 (show decide (e1 ≠ f1) = false by simp [hef1])
              have HEF1 := Lib.hid hef1
              clear hef1
              go_wp2_with fail
              go_quiet (fail)
              go_wp2_with fail
              go_roundw
              case rel => exact ⟨kk, k2 + 1, ys, rfl, by go_num, by omega, by omega, Lib.hid (HI.out.skip HE1.out (by rw [HEF1.out]; exact HF1.out)), owns_drewN HOW.out _, grown_trans hg (grown_of_below (below_drewN (Below.refl _ _) _) _)⟩
              case measure => simp [intOf]; omega
            · have hq := neqEd_run e1 f1 (show decide (e1 ≠ f1) = true by simp [hef1])
              have HEF1 := Lib.hid hef1
              clear hef1
              go_wp2_with fail
              go_quiet (fail)
              go_wp2_with fail
              go_roundw
              case rel => exact ⟨kk + 1, k2 + 1, ys.set kk e1, by go_num, by go_num, by omega, by omega, Lib.hid (HI.out.keep HE1.out HF1.out HEF1.out), owns_setE (owns_drewN HOW.out _) e1 (by have := HY.out; omega), grown_setCell (grown_setCell (grown_setCell (grown_trans hg (grown_of_below (below_drewN (Below.refl _ _) _) _)) _ _) _ _) _ _⟩
              case measure => simp [intOf]; omega
          · have hend : k + k2 = es.length := by omega
            have hk2n : ¬ (k2 : Int) < (es.length : Int) - (k : Int) := by omega
            have hk2N : ¬ k2 < es.length - k := by omega
            have hkkc : (c = kk) = False := eq_false (by omega)
            have hkk0 : (0 : Int) ≤ (kk : Int) := by omega
            have hkkn : (kk : Int) ≤ (es.length : Int) := by omega
            have hcl : ∀ ty, (Builtin.clear_ #[27] ty #[.slice (some ⟨g, kk * 3, none⟩) (es.length - kk) (c - kk)]).run Try.prog wr = .ok (.tuple #[]) (wr.setCells g (kk * 3) (List.replicate ((es.length - kk) * 3) (.int .i64 0))) :=
              fun ty => run_clear3 wr ty g (kk * 3) _ _ (by omega) (fun j hj => by rw [hown.cellAt _ (by omega), List.getElem?_eq_getElem (by have := hown.1; omega)]; rfl) (fun j hj => hfz _)
            have HOW := Lib.hid hown
            have HN := Lib.hid hend
            clear hown hend hfz
            go_wp2_with fail
            go_ret
            have hI := HI.out
            rw [HN.out] at hI
            obtain ⟨d1, d2⟩ := hI.done
            have h3 := owns_setsPast (List.replicate ((es.length - kk) * 3) (.int .i64 0)) (kk * 3) (Nat.le_refl _) (owns_cut HOW.out (m := kk) (by omega))
            rw [show (ints (edI ys)).take (kk * 3) = ints (edI (ys.take kk)) by rw [edI_take]; simp [ints], d2] at h3
            rw [d1] at h3 ⊢
            exact ⟨rfl, h3, grown_setCells _ _ hg⟩
      · have hq := eqlEd_run e f (show decide (e = f) = false by simp [hef])
        have HEF := Lib.hid hef
        clear he hf hf' hm hef
        go_wp2_with fail
        go_quiet (fail)
        go_wp2_with fail
        go_roundw
        case rel => exact ⟨k + 1, _, by omega, by omega, by go_num, Lib.hid (compE_grow HC.out (by omega) HE.out HF.out HEF.out), rfl⟩
        case measure => simp [intOf]; omega
    · obtain rfl : k = es.length := by omega
      have hce : compE es = es := by have := HC.out; rwa [List.take_length] at this
      have HCE := Lib.hid hce
      clear hce
      go_wp2_with fail
      go_ret
      rw [HCE.out]
      exact ⟨rfl, HO.out, grown_of_below (below_drewN (Below.refl _ w) q) _⟩
end Go.Proofs.Ytkcfbcbkokabdaa
