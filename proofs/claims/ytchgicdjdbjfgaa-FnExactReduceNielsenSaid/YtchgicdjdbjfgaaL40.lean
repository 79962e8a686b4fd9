/- ReduceNielsen, both sides. -/
import Derived.Test.YtchgicdjdbjfgaaL38
import Derived.Test.YtchgicdjdbjfgaaL39
namespace Go.Proofs.Ytchgicdjdbjfgaa
set_option linter.unusedVariables false
set_option linter.unusedSimpArgs false
open Go.RowKit

theorem infoMv : (Try.prog.info? 68).map (fun i => (i.zero, i.size, i.bytes)) = some (some (.agg #[.int .i64 0, .int .i64 0, .int .i64 0, .int .i64 0]), 4, 32) := by kernel_rfl
theorem undSMv : Try.prog.underlying 42 = some (.slice 68) := by kernel_rfl
/-- What ReduceNielsen makes. -/
def runR (d : List (List Int)) (b : Bool) : List (List Int) × List Mv := if b then runN 400 d else (d, [])
/-- A slice of moves of the call's own. -/
abbrev OM (w : World) (lo hi : Nat) (A : Option Addr) (c : Nat) (ms : List Mv) : Prop := OV w lo hi 68 4 A c ms.length (ints (mvsI ms))
abbrev RetRN (x : List (List Int)) (ms : List Mv) (w : World) (e : Ending) (w' : World) : Prop :=
  ∃ A c A2 c2 lo hi lo2 hi2, e = .returned (.tuple #[.slice A x.length c, .slice A2 ms.length c2]) ∧ OSS w' lo hi 27 3 A c x ∧ OM w' lo2 hi2 A2 c2 ms ∧ (w.heap.size ≤ lo ∧ w.heap.size ≤ lo2 ∧ hi ≤ w'.heap.size ∧ hi2 ≤ w'.heap.size ∧ (hi2 ≤ lo ∨ hi ≤ lo2)) ∧ Mid 0 0 w w'
theorem OSS.grown {w w' : World} {lo hi : Nat} {A : Option Addr} {c : Nat} {xss : List (List Int)} {base : Nat} {e' : TypeId} {s' : Nat} {v' : Value} {n' : Nat} {xs' : List Value} (h : OSS w lo hi 27 3 A c xss) (ho : w.ownsRow base e' s' v' n' xs') (h1 : 27 ≠ e') (h2 : 3 ≠ e') (hg : w.grownBy w' v'.ownBlock) :
    OSS w' lo hi 27 3 A c xss := by
  obtain ⟨h0, rows, ha, hb, hc⟩ := h
  exact ⟨Nat.le_trans h0 hg.size, rows, ha, hb.grown hg (owns_ne hb.2.1 ho h1), hc.grown ho h2 hg⟩
/-- The list of words and the list of moves lie apart. -/
structure Apart (w wr : World) (lo hi : Nat) (v : Value) (k : Nat) (mv : List Mv) : Prop where
  own : wr.ownsRow w.heap.size 68 4 v k (ints (mvsI mv))
  blk : ∃ g, v.ownBlock = some g ∧ (g < lo ∨ hi ≤ g)
  low : w.heap.size ≤ lo
theorem Apart.mid {w wr w' : World} {lo hi : Nat} {v : Value} {k : Nat} {mv : List Mv} (h : Apart w wr lo hi v k mv) (m : Mid 0 0 wr w') : Apart w w' lo hi v k mv := ⟨owns_mid h.own m (Or.inl (Nat.zero_le _)), h.blk, h.low⟩
theorem RetRN.mk {x : List (List Int)} {ms : List Mv} {w w' : World} {lo hi : Nat} {A : Option Addr} {c k : Nat} {v : Value} (ho : OSS w' lo hi 27 3 A c x) (hk : ms.length = k) (hv : Apart w w' lo hi v k ms) (hm : Mid 0 0 w w') :
    RetRN x ms w (.returned (.tuple #[.slice A x.length c, v])) w' := by
  subst hk
  obtain ⟨hv, ⟨g, hg, hd⟩, hlow⟩ := hv
  have hg2 := hv.lt g hg
  obtain ⟨A2, c2, rfl, -, -⟩ := owns_shape hv
  have hb : w'.ownsRow g 68 4 (.slice A2 ms.length c2) ms.length (ints (mvsI ms)) := by
    refine ⟨hv.1, ?_⟩
    rcases hv.2 with hn | ⟨g', cap, cur, he, hb, rest⟩
    · exact .inl hn
    · refine .inr ⟨g', cap, cur, he, ?_, rest⟩
      rw [he] at hg
      simp [Value.ownBlock] at hg
      omega
  exact ⟨A, c, A2, c2, lo, hi, g, g + 1, rfl, ho, ⟨hg2.2, hb, fun g' h' => by rw [hg] at h'; injection h' with h'; omega⟩, ⟨hlow, hg2.1, ho.size, hg2.2, by omega⟩, hm⟩
theorem nextM_cases (d : List (List Int)) : nextM d = none ∨ ∃ m, nextM d = some m := by cases nextM d <;> simp
theorem impl_NextMove0 (A : Option Addr) (d : List (List Int)) (c : Nat) (w : World) (lo hi : Nat) (hr : RSC w lo hi A d) (hok : ∀ xs ∈ d, OkI xs) (hl : d.length + sumL d ≤ 1048576) (h : nextM d = none) :
    Calls Try.prog 64 #[.slice A d.length c] w fun e w' => e = .returned (.tuple #[.agg #[.int .i64 0, .int .i64 0, .int .i64 0, .int .i64 0], .bool false]) ∧ Mid 0 0 w w' := by
  have := impl_NextMove A d c w lo hi hr hok hl
  unfold RetNM at this
  rw [h] at this
  exact this
theorem spec_NextMove0 (A : Option Addr) (d : List (List Int)) (c : Nat) (w : World) (lo hi : Nat) (hr : RSC w lo hi A d) (hok : ∀ xs ∈ d, OkI xs) (hl : d.length + sumL d ≤ 1048576) (h : nextM d = none) :
    Calls Try.prog 61 #[.slice A d.length c] w fun e w' => e = .returned (.tuple #[.agg #[.int .i64 0, .int .i64 0, .int .i64 0, .int .i64 0], .bool false]) ∧ Mid 0 0 w w' := by
  have := spec_NextMove A d c w lo hi hr hok hl
  unfold RetNM at this
  rw [h] at this
  exact this
theorem impl_NextMove1 (A : Option Addr) (d : List (List Int)) (c : Nat) (w : World) (lo hi : Nat) (hr : RSC w lo hi A d) (hok : ∀ xs ∈ d, OkI xs) (hl : d.length + sumL d ≤ 1048576) {a b j s : Int} (h : nextM d = some ⟨a, b, j, s⟩) :
    Calls Try.prog 64 #[.slice A d.length c] w fun e w' => e = .returned (.tuple #[.agg #[.int .i64 a, .int .i64 b, .int .i64 j, .int .i64 s], .bool true]) ∧ Mid 0 0 w w' := by
  have := impl_NextMove A d c w lo hi hr hok hl
  unfold RetNM at this
  rw [h] at this
  exact this
theorem spec_NextMove1 (A : Option Addr) (d : List (List Int)) (c : Nat) (w : World) (lo hi : Nat) (hr : RSC w lo hi A d) (hok : ∀ xs ∈ d, OkI xs) (hl : d.length + sumL d ≤ 1048576) {a b j s : Int} (h : nextM d = some ⟨a, b, j, s⟩) :
    Calls Try.prog 61 #[.slice A d.length c] w fun e w' => e = .returned (.tuple #[.agg #[.int .i64 a, .int .i64 b, .int .i64 j, .int .i64 s], .bool true]) ∧ Mid 0 0 w w' := by
  have := spec_NextMove A d c w lo hi hr hok hl
  unfold RetNM at this
  rw [h] at this
  exact this
theorem impl_ApplyMoveY (A : Option Addr) (d : List (List Int)) (c : Nat) (a b j s : Int) (w : World) (lo hi : Nat) (h : RSS w lo hi A d) (ho : ∀ xs ∈ d, OkI xs) (hl : d.length + sumL d ≤ 1048576) (x : List (List Int)) (t : Bool) (hx : applyM d ⟨a, b, j, s⟩ = (x, t)) :
    Calls Try.prog 84 #[.slice A d.length c, .agg #[.int .i64 a, .int .i64 b, .int .i64 j, .int .i64 s]] w fun e w' => ∃ A2 c2, e = .returned (.tuple #[.slice A2 x.length c2, .bool t]) ∧ OSS w' w.heap.size w'.heap.size 27 3 A2 c2 x ∧ Mid 0 0 w w' := by
  have := impl_ApplyMove A d c ⟨a, b, j, s⟩ w lo hi h ho hl
  unfold RetMv at this
  rw [hx] at this
  exact this
theorem spec_ApplyMoveY (A : Option Addr) (d : List (List Int)) (c : Nat) (a b j s : Int) (w : World) (lo hi : Nat) (h : RSS w lo hi A d) (ho : ∀ xs ∈ d, OkI xs) (hl : d.length + sumL d ≤ 1048576) (x : List (List Int)) (t : Bool) (hx : applyM d ⟨a, b, j, s⟩ = (x, t)) :
    Calls Try.prog 82 #[.slice A d.length c, .agg #[.int .i64 a, .int .i64 b, .int .i64 j, .int .i64 s]] w fun e w' => ∃ A2 c2, e = .returned (.tuple #[.slice A2 x.length c2, .bool t]) ∧ OSS w' w.heap.size w'.heap.size 27 3 A2 c2 x ∧ Mid 0 0 w w' := by
  have := spec_ApplyMove A d c ⟨a, b, j, s⟩ w lo hi h ho hl
  unfold RetMv at this
  rw [hx] at this
  exact this
/-- What the loop keeps. -/
structure RnAt (d : List (List Int)) (k : Nat) (cur : List (List Int)) (ms : List Mv) : Prop where
  len : ms.length = k
  le : k ≤ 400
  run : runN 400 d = ((runN (400 - k) cur).1, ms ++ (runN (400 - k) cur).2)
  less : Less d cur
theorem RnAt.zero (d : List (List Int)) : RnAt d 0 d [] := ⟨rfl, by omega, by simp, ⟨Nat.le_refl _, Nat.le_refl _, fun h => h⟩⟩
theorem RnAt.succ {d : List (List Int)} {k : Nat} {cur x : List (List Int)} {ms : List Mv} {m : Mv} {t : Bool} (h : RnAt d k cur ms) (hk : k < 400) (hm : nextM cur = some m) (hx : applyM cur m = (x, t)) : RnAt d (k + 1) x (ms ++ [m]) := by
  have hl := nextM_less hm
  rw [hx] at hl
  refine ⟨by simp [h.len], hk, ?_, ⟨Nat.le_trans hl.len h.less.len, Nat.le_trans hl.sum h.less.sum, fun ho => hl.ok (h.less.ok ho)⟩⟩
  obtain ⟨j, hj⟩ : ∃ j, 400 - k = j + 1 := ⟨400 - k - 1, by omega⟩
  rw [h.run, hj, runN_some hm, hx, show 400 - (k + 1) = j from by omega]
  simp
theorem RnAt.done {d : List (List Int)} {k : Nat} {cur : List (List Int)} {ms : List Mv} (h : RnAt d k cur ms) (he : nextM cur = none ∨ k = 400) : runN 400 d = (cur, ms) := by
  rw [h.run]
  rcases he with he | he
  · rw [runN_none he]; simp
  · subst he
    simp [runN]

set_option maxHeartbeats 3200000 in
theorem impl_ReduceNielsen (A : Option Addr) (d : List (List Int)) (c : Nat) (w : World) (lo hi : Nat) (hr : RSS w lo hi A d) (hok : ∀ xs ∈ d, OkI xs) (hl : d.length + sumL d ≤ 1048576) (b : Bool) (hb : b = true ↔ AreW 3 d) (x : List (List Int)) (ms : List Mv) (hres : runR d b = (x, ms)) :
    Calls Try.prog 39 #[.slice A d.length c] w (RetRN x ms w) := by
  have HOK := Lib.hid hok
  have HB := Lib.hid hb
  have HRES := Lib.hid hres
  have H28 := Lib.hid (fun xs (hx : xs ∈ d) => show xs.length ≤ 1073741824 by have := len_le_sumL hx; omega)
  clear hok hb hres
  cases hbc : b with
  | false =>
    subst hbc
    have hn : ¬ AreW 3 d := fun h => by have := HB.out.2 h; cases this
    have hx : x = d ∧ ms = [] := by have := HRES.out; simp [runR] at this; exact ⟨this.1.symm, this.2⟩
    obtain ⟨rfl, rfl⟩ := hx
    have HN := Lib.hid hn
    clear HB hn HRES
    go_enter Try.func39, Try.ntmps39
    go_wp2_with fail
    with_reducible refine (impl_copyLists A x c _ _ _ hr (by omega) H28.out).mono ?_
    rintro e w1 ⟨A1, c1, rfl, ho1, hm1⟩
    have hal : Mid 0 0 w1 (w1.alloc (.cells #[] 68)) := Mid.alloc _ _
    have hmv := owns_empty w1 68 4
    have hr1 := hr.mid (hm1.trans hal) (Or.inl (Nat.zero_le _))
    go_wp2_with fail
    refine (impl_AreWords 3 A x c _ _ _ hr1 HOK.out hl false (iff_of_false Bool.false_ne_true HN.out)).mono ?_
    rintro e w' ⟨rfl, rfl⟩
    go_wp2_with fail
    go_ret2
    exact RetRN.mk (ho1.mid hal (Or.inl (Nat.zero_le _))) rfl ⟨owns_base hmv hm1.size, ⟨_, rfl, Or.inr (Nat.le_refl _)⟩, Nat.le_refl _⟩ (hm1.trans hal)
  | true =>
    subst hbc
    have HW := Lib.hid (HB.out.1 rfl)
    have hrun : runN 400 d = (x, ms) := by have := HRES.out; simpa [runR] using this
    have HRUN := Lib.hid hrun
    clear HB hrun HRES
    go_enter Try.func39, Try.ntmps39
    go_wp2_with fail
    with_reducible refine (impl_copyLists A d c _ _ _ hr (by omega) H28.out).mono ?_
    rintro e w1 ⟨A1, c1, rfl, ho1, hm1⟩
    have hal : Mid 0 0 w1 (w1.alloc (.cells #[] 68)) := Mid.alloc _ _
    have hmv := owns_empty w1 68 4
    have hr1 := hr.mid (hm1.trans hal) (Or.inl (Nat.zero_le _))
    have hoA := ho1.mid hal (Or.inl (Nat.zero_le _))
    have hmA := hm1.trans hal
    have hvA : Apart w _ w.heap.size w1.heap.size _ 0 [] := ⟨owns_base hmv hm1.size, ⟨_, rfl, Or.inr (Nat.le_refl _)⟩, Nat.le_refl _⟩
    go_wp2_with fail
    refine (impl_AreWords 3 A d c _ _ _ hr1 HOK.out hl true (iff_of_true rfl HW.out)).mono ?_
    rintro e w' ⟨rfl, rfl⟩
    go_wp2_with fail
    clear hal hmv hr1 ho1 hm1
    go_loopw [4, 5, 6, 7] (fun v4 v5 _ _ wr => ∃ k cur mv A c lo1 hi1, v4 = .slice A (List.length cur) c ∧ RnAt d k cur mv ∧ OSS wr lo1 hi1 27 3 A c cur ∧ Apart w wr lo1 hi1 v5 k mv ∧ Mid 0 0 w wr)
      (fun _ v5 _ _ _ => 400 - (match v5 with | .slice _ n _ => n | _ => 0))
    case atStart => exact ⟨0, d, [], A1, c1, _, _, rfl, RnAt.zero d, hoA, hvA, hmA⟩
    case round =>
      clear hoA hvA hmA
      obtain ⟨k, cur, mv, A2, c2, lo1, hi1, rfl, hat, ho, hv, hm⟩ := hrel
      have HAT := Lib.hid hat
      have hk4 := hat.le
      have hl2 : cur.length + sumL cur ≤ 1048576 := by have := hat.less.len; have := hat.less.sum; omega
      have HOC := Lib.hid (hat.less.ok HOK.out)
      have hszm := hm.size
      clear hat
      obtain ⟨A3, c3, rfl, -, -⟩ := owns_shape hv.own
      by_cases hlt : k < 400
      · have hlt3 : (k : Int) < 400 := by omega
        rcases nextM_cases cur with hn | ⟨⟨ka, ia, ja, sa⟩, hn⟩
        · have HN := Lib.hid hn
          clear hn
          go_wp2_with fail
          with_reducible refine (impl_NextMove0 A2 cur c2 _ _ _ ho.rsc HOC.out hl2 HN.out).mono ?_
          rintro e w2 ⟨rfl, hm2⟩
          have hal : Mid 0 0 w2 (w2.alloc (.cells #[.int .i64 0, .int .i64 0, .int .i64 0, .int .i64 0] 68)) := Mid.alloc _ _
          have hmm := hm2.trans hal
          go_wp2_with fail
          go_ret2
          have hd := HAT.out.done (.inl HN.out)
          rw [HRUN.out] at hd
          injection hd with e1 e2
          subst e1 e2
          exact RetRN.mk (ho.mid hmm (Or.inl (Nat.zero_le _))) HAT.out.len (hv.mid hmm) (hm.trans hmm)
        · have HN := Lib.hid hn
          clear hn
          obtain ⟨y, t, hy⟩ : ∃ y t, applyM cur ⟨ka, ia, ja, sa⟩ = (y, t) := ⟨_, _, rfl⟩
          have HY := Lib.hid hy
          clear hy
          go_wp2_with fail
          with_reducible refine (impl_NextMove1 A2 cur c2 _ _ _ ho.rsc HOC.out hl2 HN.out).mono ?_
          rintro e w2 ⟨rfl, hm2⟩
          have hal : Mid 0 0 w2 (w2.alloc (.cells #[.int .i64 ka, .int .i64 ia, .int .i64 ja, .int .i64 sa] 68)) := Mid.alloc _ _
          have hbx := Box.new w2 #[.int .i64 ka, .int .i64 ia, .int .i64 ja, .int .i64 sa] 68
          have hmm := hm2.trans hal
          have hoB := ho.mid hmm (Or.inl (Nat.zero_le _))
          have hvB := owns_mid hv.own hmm (Or.inl (Nat.zero_le _))
          have hblkB := hv.blk
          have hmB := hm.trans hmm
          go_wp2_with fail
          refine (impl_ApplyMoveY A2 cur c2 ka ia ja sa _ _ _ hoB.rss HOC.out hl2 y t HY.out).mono ?_
          rintro e w3 ⟨A4, c4, rfl, ho4, hm4⟩
          have hbx3 := hbx.mid hm4 (Or.inr (Nat.zero_le _))
          have y0 := hbx3.cell 0 rfl
          have y1 := hbx3.cell 1 rfl
          have y2 := hbx3.cell 2 rfl
          have y3 := hbx3.cell 3 rfl
          have hvC := owns_mid hvB hm4 (Or.inl (Nat.zero_le _))
          have hmC := hmB.trans hm4
          have hszB := hmB.size
          have hszC := hmC.size
          have hal2 : Mid 0 0 w3 (w3.alloc (.cells #[.int .i64 ka, .int .i64 ia, .int .i64 ja, .int .i64 sa] 68)) := Mid.alloc _ _
          have ho5 := ho4.mid hal2 (Or.inl (Nat.zero_le _))
          have hvD := owns_mid hvC hal2 (Or.inl (Nat.zero_le _))
          go_wp2_with (at_builtin; refine wpList_push rfl _ _ 42 rfl w.heap.size 68 (.agg #[.int .i64 0, .int .i64 0, .int .i64 0, .int .i64 0]) 4 32 undSMv infoMv rfl (by decide) _ _ _ rfl hvC 1 [.int .i64 ka, .int .i64 ia, .int .i64 ja, .int .i64 sa] rfl rfl ?c1 ?c2 ?c3 hszC ?next)
          case c1 => simp [Value.oneCell']
          case c2 => unfold maxLen; omega
          case c3 => omega
          case next =>
            intro v6 w6 hv6 hg6 hbk6
            obtain ⟨A6, c6, rfl, -, -⟩ := owns_shape hv6
            go_wp2_with fail
            go_roundw
            case rel =>
              have hat2 := HAT.out.succ hlt HN.out HY.out
              have hm6 := hmC.grownNew hg6 (fun g hg => (hvC.lt g hg).1)
              have ho6 := ho4.grown hvC (by decide) (by decide) hg6
              refine ⟨k + 1, y, mv ++ [⟨ka, ia, ja, sa⟩], A4, c4, _, _, rfl, hat2, ho6, ⟨?_, ?_, by simpa using hszB⟩, hm6⟩
              · rw [mvsI_append, mvsI_one, ints_append]
                exact hv6
              · obtain ⟨g, hg, hgd⟩ := hblkB
                have hgl := (hvB.lt g hg).2
                rcases hbk6 with hb | hb
                · exact ⟨g, by rw [hb]; exact hg, Or.inl (by simpa using hgl)⟩
                · exact ⟨_, hb, Or.inr (by simp)⟩
            case measure => simp; omega
      · obtain rfl : k = 400 := by omega
        go_wp2_with fail
        go_ret2
        have hd := HAT.out.done (.inr rfl)
        rw [HRUN.out] at hd
        injection hd with e1 e2
        subst e1 e2
        exact RetRN.mk ho HAT.out.len hv hm
end Go.Proofs.Ytchgicdjdbjfgaa
