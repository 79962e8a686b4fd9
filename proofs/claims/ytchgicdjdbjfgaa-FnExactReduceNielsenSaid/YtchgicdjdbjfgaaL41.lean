/- ReduceNielsen of the reference; both in the laws' words. -/
import Derived.Test.YtchgicdjdbjfgaaL40
namespace Go.Proofs.Ytchgicdjdbjfgaa
set_option linter.unusedVariables false
set_option linter.unusedSimpArgs false
open Go.RowKit

set_option maxHeartbeats 3200000 in
theorem spec_ReduceNielsen (A : Option Addr) (d : List (List Int)) (c : Nat) (w : World) (lo hi : Nat) (hr : RSS w lo hi A d) (hok : ∀ xs ∈ d, OkI xs) (hl : d.length + sumL d ≤ 1048576) (b : Bool) (hb : b = true ↔ AreW 3 d) (x : List (List Int)) (ms : List Mv) (hres : runR d b = (x, ms)) :
    Calls Try.prog 38 #[.slice A d.length c] w (RetRN x ms w) := by
  have HOK := Lib.hid hok
  have HB := Lib.hid hb
  have HRES := Lib.hid hres
  have H28 := Lib.hid (fun xs (hx : xs ∈ d) => show xs.length ≤ 1073741824 by have := len_le_sumL hx; omega)
  clear hok hb hres
  go_enter Try.func38, Try.ntmps38
  go_wp2_with fail
  with_reducible refine (spec_l20Copy A d c _ _ _ hr (by omega) H28.out).mono ?_
  rintro e w1 ⟨A1, c1, rfl, ho1, hm1⟩
  have hal : Mid 0 0 w1 (w1.alloc (.cells #[] 68)) := Mid.alloc _ _
  have hmv := owns_empty w1 68 4
  have hoA := ho1.mid hal (Or.inl (Nat.zero_le _))
  have hmA := hm1.trans hal
  have hvA : Apart w _ w.heap.size w1.heap.size _ 0 [] := ⟨owns_base hmv hm1.size, ⟨_, rfl, Or.inr (Nat.le_refl _)⟩, Nat.le_refl _⟩
  clear hal hmv ho1 hm1
  go_wp2_with fail
  go_loopw [4, 5, 6, 7, 8] (fun v4 v5 i _ _ wr => ∃ k cur mv A c lo1 hi1, v4 = .slice A (List.length cur) c ∧ i = .int .i64 ((k : Nat) : Int) ∧ (b = false → k = 0) ∧ RnAt d k cur mv ∧ OSS wr lo1 hi1 27 3 A c cur ∧ Apart w wr lo1 hi1 v5 k mv ∧ Mid 0 0 w wr ∧ (b = false → cur = d ∧ mv = []))
    (fun _ _ i _ _ _ => 400 - (intOf i).toNat)
  case atStart => exact ⟨0, d, [], A1, c1, _, _, rfl, rfl, fun _ => rfl, RnAt.zero d, hoA, hvA, hmA, fun _ => ⟨rfl, rfl⟩⟩
  case round =>
    clear hoA hvA hmA
    obtain ⟨k, cur, mv, A2, c2, lo1, hi1, rfl, rfl, hk0, hat, ho, hv, hm, hf⟩ := hrel
    have HAT := Lib.hid hat
    have hk4 := hat.le
    have hl2 : cur.length + sumL cur ≤ 1048576 := by have := hat.less.len; have := hat.less.sum; omega
    have HOC := Lib.hid (hat.less.ok HOK.out)
    have hszm := hm.size
    have HF := Lib.hid hf
    have HK0 := Lib.hid hk0
    clear hat hf hk0
    obtain ⟨A3, c3, rfl, -, -⟩ := owns_shape hv.own
    have hrw := hr.mid hm (Or.inl (Nat.zero_le _))
    cases hbc : b with
    | false =>
      subst hbc
      have hn : ¬ AreW 3 d := fun h => by have := HB.out.2 h; cases this
      have HN := Lib.hid hn
      obtain rfl := HK0.out rfl
      obtain ⟨rfl, rfl⟩ := HF.out rfl
      have hx : x = cur ∧ ms = [] := by have := HRES.out; simp [runR] at this; exact ⟨this.1.symm, this.2⟩
      obtain ⟨rfl, rfl⟩ := hx
      clear HB hn HRES HF HK0 HAT
      go_wp2_with fail
      refine (spec_l20Words A x c _ _ _ hrw HOK.out hl false (iff_of_false Bool.false_ne_true HN.out)).mono ?_
      rintro e w' ⟨rfl, n, rfl⟩
      go_wp2_with fail
      go_ret2
      have hdn : Mid 0 0 wr (wr.drewN n) := (Mid.refl 0 0 wr).drewN n
      exact RetRN.mk (ho.mid hdn (Or.inl (Nat.zero_le _))) rfl (hv.mid hdn) (hm.trans hdn)
    | true =>
      subst hbc
      have HW := Lib.hid (HB.out.1 rfl)
      have hrun : runN 400 d = (x, ms) := by have := HRES.out; simpa [runR] using this
      have HRUN := Lib.hid hrun
      clear HB hrun HRES HF HK0
      by_cases hlt : k < 400
      · have hlt3 : (k : Int) < 400 := by omega
        rcases nextM_cases cur with hn | ⟨⟨ka, ia, ja, sa⟩, hn⟩
        · have HN := Lib.hid hn
          clear hn
          go_wp2_with fail
          refine (spec_l20Words A d c _ _ _ hrw HOK.out hl true (iff_of_true rfl HW.out)).mono ?_
          rintro e w' ⟨rfl, n, rfl⟩
          have hdn : Mid 0 0 wr (wr.drewN n) := (Mid.refl 0 0 wr).drewN n
          have hod := ho.mid hdn (Or.inl (Nat.zero_le _))
          go_wp2_with fail
          refine (spec_NextMove0 A2 cur c2 _ _ _ hod.rsc HOC.out hl2 HN.out).mono ?_
          rintro e w2 ⟨rfl, hm2⟩
          have hal : Mid 0 0 w2 (w2.alloc (.cells #[.int .i64 0, .int .i64 0, .int .i64 0, .int .i64 0] 68)) := Mid.alloc _ _
          have hmm := (hdn.trans hm2).trans hal
          go_wp2_with fail
          go_ret2
          have hd := HAT.out.done (.inl HN.out)
          rw [HRUN.out] at hd
          injection hd with e1 e2
          subst e1 e2
          exact RetRN.mk (ho.mid hmm (Or.inl (Nat.zero_le _))) HAT.out.len (hv.mid hmm) (hm.trans hmm)
        · have HN := Lib.hid hn
          clear hn
          obtain ⟨y, t, hy⟩ : ∃ y t, applyM cur ⟨ka, ia, ja, sa⟩ = (y, t) := ⟨_, _, rfl⟩
          have HY := Lib.hid hy
          clear hy
          go_wp2_with fail
          refine (spec_l20Words A d c _ _ _ hrw HOK.out hl true (iff_of_true rfl HW.out)).mono ?_
          rintro e w' ⟨rfl, n, rfl⟩
          have hdn : Mid 0 0 wr (wr.drewN n) := (Mid.refl 0 0 wr).drewN n
          have hod := ho.mid hdn (Or.inl (Nat.zero_le _))
          go_wp2_with fail
          refine (spec_NextMove1 A2 cur c2 _ _ _ hod.rsc HOC.out hl2 HN.out).mono ?_
          rintro e w2 ⟨rfl, hm2⟩
          have hal : Mid 0 0 w2 (w2.alloc (.cells #[.int .i64 ka, .int .i64 ia, .int .i64 ja, .int .i64 sa] 68)) := Mid.alloc _ _
          have hbx := Box.new w2 #[.int .i64 ka, .int .i64 ia, .int .i64 ja, .int .i64 sa] 68
          have hmm := (hdn.trans hm2).trans hal
          have hoB := ho.mid hmm (Or.inl (Nat.zero_le _))
          have hvB := owns_mid hv.own hmm (Or.inl (Nat.zero_le _))
          have hblkB := hv.blk
          have hmB := hm.trans hmm
          go_wp2_with fail
          refine (spec_ApplyMoveY A2 cur c2 ka ia ja sa _ _ _ hoB.rss HOC.out hl2 y t HY.out).mono ?_
          rintro e w3 ⟨A4, c4, rfl, ho4, hm4⟩
          have hbx3 := hbx.mid hm4 (Or.inr (Nat.zero_le _))
          have y0 := hbx3.cell 0 rfl
          have y1 := hbx3.cell 1 rfl
          have y2 := hbx3.cell 2 rfl
          have y3 := hbx3.cell 3 rfl
          have hvC := owns_mid hvB hm4 (Or.inl (Nat.zero_le _))
          have hmC := hmB.trans hm4
          have hszB := hmB.size
          have hszC := hmC.size
          go_wp2_with (at_builtin; refine wpList_push rfl _ _ 42 rfl w.heap.size 68 (.agg #[.int .i64 0, .int .i64 0, .int .i64 0, .int .i64 0]) 4 32 undSMv infoMv rfl (by decide) _ _ _ rfl hvC 1 [.int .i64 ka, .int .i64 ia, .int .i64 ja, .int .i64 sa] rfl rfl ?c1 ?c2 ?c3 hszC ?next)
          case c1 => simp [Value.oneCell']
          case c2 => unfold maxLen; omega
          case c3 => omega
          case next =>
            intro v6 w6 hv6 hg6 hbk6
            obtain ⟨A6, c6, rfl, -, -⟩ := owns_shape hv6
            go_wp2_with fail
            go_roundw
            case rel =>
              have hat2 := HAT.out.succ hlt HN.out HY.out
              have hm6 := hmC.grownNew hg6 (fun g hg => (hvC.lt g hg).1)
              have ho6 := ho4.grown hvC (by decide) (by decide) hg6
              refine ⟨k + 1, y, mv ++ [⟨ka, ia, ja, sa⟩], A4, c4, _, _, rfl, by go_num, (fun h => by cases h), hat2, ho6, ⟨?_, ?_, by simpa using hszB⟩, hm6, (fun h => by cases h)⟩
              · rw [mvsI_append, mvsI_one, ints_append]
                exact hv6
              · obtain ⟨g, hg, hgd⟩ := hblkB
                have hgl := (hvB.lt g hg).2
                rcases hbk6 with hb | hb
                · exact ⟨g, by rw [hb]; exact hg, Or.inl (by simpa using hgl)⟩
                · exact ⟨_, hb, Or.inr (by simp)⟩
            case measure => simp [intOf]; omega
      · obtain rfl : k = 400 := by omega
        go_wp2_with fail
        go_ret2
        have hd := HAT.out.done (.inr rfl)
        rw [HRUN.out] at hd
        injection hd with e1 e2
        subst e1 e2
        exact RetRN.mk ho HAT.out.len hv hm

def ReduceNielsenIs (d : List (List Int)) (x : List (List Int)) (ms : List Mv) : Prop := ∃ b : Bool, (b = true ↔ AreW 3 d) ∧ runR d b = (x, ms)
theorem ReduceNielsenIs_ex (d : List (List Int)) (_ : OkSS d) (_ : d.length + sumL d ≤ 1048576) : ∃ x ms, ReduceNielsenIs d x ms := by
  obtain ⟨b, hb⟩ := bool_of (AreW 3 d)
  exact ⟨_, _, b, hb, rfl⟩
theorem runR_props {d x : List (List Int)} {ms : List Mv} {b : Bool} (h : runR d b = (x, ms)) : x.length + sumL x ≤ d.length + sumL d ∧ ms.length ≤ 400 := by
  cases b with
  | false => simp [runR] at h; obtain ⟨rfl, rfl⟩ := h; simp
  | true =>
    have h2 : runN 400 d = (x, ms) := by simpa [runR] using h
    have h3 := runN_less 400 d
    rw [h2] at h3
    have := h3.1.len
    have := h3.1.sum
    have := h3.2
    constructor
    · show x.length + sumL x ≤ _
      simp only at *
      omega
    · assumption
theorem ReduceNielsenIs_len0 {d x : List (List Int)} {ms : List Mv} (h : ReduceNielsenIs d x ms) (_ : OkSS d) (hl : d.length + sumL d ≤ 1048576) : x.length + sumL x ≤ 1048576 := by
  obtain ⟨b, _, h⟩ := h
  have := (runR_props h).1
  omega
theorem ReduceNielsenIs_len1 {d x : List (List Int)} {ms : List Mv} (h : ReduceNielsenIs d x ms) (_ : OkSS d) (_ : d.length + sumL d ≤ 1048576) : ms.length ≤ 400 := by
  obtain ⟨b, _, h⟩ := h
  exact (runR_props h).2
theorem sspec_ReduceNielsen (A : Option Addr) (d : List (List Int)) (c : Nat) (w : World) (lo hi : Nat) (h : RSS w lo hi A d) (ho : OkSS d) (hl : d.length + sumL d ≤ 1048576) (x : List (List Int)) (ms : List Mv) (hres : ReduceNielsenIs d x ms) :
    Calls Try.prog 38 #[.slice A d.length c] w (RetRN x ms w) := by
  obtain ⟨b, h1, h2⟩ := hres
  exact spec_ReduceNielsen A d c w lo hi h ho.2 hl b h1 x ms h2
theorem simpl_ReduceNielsen (A : Option Addr) (d : List (List Int)) (c : Nat) (w : World) (lo hi : Nat) (h : RSS w lo hi A d) (ho : OkSS d) (hl : d.length + sumL d ≤ 1048576) (x : List (List Int)) (ms : List Mv) (hres : ReduceNielsenIs d x ms) :
    Calls Try.prog 39 #[.slice A d.length c] w (RetRN x ms w) := by
  obtain ⟨b, h1, h2⟩ := hres
  exact impl_ReduceNielsen A d c w lo hi h ho.2 hl b h1 x ms h2
/-- The laws' helpers at lists of moves. -/
theorem eqMvS (A A' : Option Addr) (ms : List Mv) (c c' : Nat) (w : World) (lo hi lo' hi' : Nat) (hr : RV w lo hi A (ints (mvsI ms))) (hr' : RV w lo' hi' A' (ints (mvsI ms))) (hl : ms.length ≤ 400) :
    Calls Try.prog 40 #[.slice A ms.length c, .slice A' ms.length c'] w (Stp (.bool true) w) :=
  eqMoveS_flat A A' (mvsI ms) ms.length c c' w lo hi lo' hi' hr hr' (mvsI_len ms) (by omega)
theorem markMvS (A : Option Addr) (ms : List Mv) (c : Nat) (q : Int) (w : World) (lo hi : Nat) (ho : OM w lo hi A c ms) (hq : 0 ≤ q) (hq2 : q ≤ 8388608) (hl : ms.length ≤ 400) :
    Calls Try.prog 41 #[.slice A ms.length c, .int .i64 q] w fun e w' => e = .returned (.int .i64 (q + 4 * (ms.length : Int))) ∧ OV w' lo hi 68 4 A c ms.length (ints (marks q (ms.length * 4))) ∧ Mid lo hi w w' :=
  markMoveS_flat A (mvsI ms) ms.length c q w lo hi ho hq hq2 (mvsI_len ms) (by omega)
theorem heldMvS (A : Option Addr) (ms : List Mv) (c : Nat) (q : Int) (w : World) (lo hi : Nat) (hr : RV w lo hi A (ints (marks q (ms.length * 4)))) (hq : 0 ≤ q) (hq2 : q ≤ 8388608) (hl : ms.length ≤ 400) :
    Calls Try.prog 42 #[.slice A ms.length c, .int .i64 q] w (Stp (.int .i64 (q + 4 * (ms.length : Int))) w) :=
  heldMoveS_flat A ms.length c q w lo hi hr hq hq2 (by omega)
end Go.Proofs.Ytchgicdjdbjfgaa
