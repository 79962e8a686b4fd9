/- Contracts and lemmas of this seat, many texts in one: see the words ahead of each. No condition beyond those typed in each lemma. -/
import Derived.Test.YtkdmffjnkciecaaGreatPk4
import Derived.Test.YtkdmffjnkciecaaGreatPk1
import Derived.IntWalk

/- read, WalkWord, WordPermutation; the law's data. -/
namespace Go.Proofs.YtkdmffjnkciecaaGreat
set_option linter.unusedVariables false
set_option linter.unusedSimpArgs false
open Go.RowKit

/-- Where a list of letters leads. -/
def goV (es : List Ed) : Int → List Int → Option Int
  | v, [] => some v
  | v, x :: t => if nextV es v x < 0 then none else goV es (nextV es v x) t
theorem goV_app (es : List Ed) : ∀ (a b : List Int) (v : Int), goV es v (a ++ b) = (goV es v a).bind fun u => goV es u b
  | [], b, v => rfl
  | x :: a, b, v => by
    rw [List.cons_append, goV, goV]
    split
    · rfl
    · exact goV_app es a b _
theorem goV_one (es : List Ed) (v x : Int) : goV es v [x] = if nextV es v x < 0 then none else some (nextV es v x) := by
  rw [goV]
  rfl
theorem goV_stop {es : List Ed} {v u x : Int} {w : List Int} {k : Nat} (h : goV es v (w.take k) = some u) (hx : w[k]? = some x) (hn : nextV es u x < 0) : goV es v w = none := by
  have h1 : w = w.take k ++ (x :: w.drop (k + 1)) := by rw [← drop_of w hx, List.take_append_drop]
  rw [h1, goV_app, h, Option.bind_some, goV, if_pos hn]
theorem goV_next {es : List Ed} {v u x : Int} {w : List Int} {k : Nat} (h : goV es v (w.take k) = some u) (hx : w[k]? = some x) (hn : ¬ nextV es u x < 0) : goV es v (w.take (k + 1)) = some (nextV es u x) := by
  rw [take_snocI hx, goV_app, h, Option.bind_some, goV_one, if_neg hn]

set_option maxHeartbeats 3200000 in
theorem impl_read (r n : Nat) (A : Option Addr) (es : List Ed) (c : Nat) (v : Int) (Aw : Option Addr) (wd : List Int) (cw : Nat) (w : World) (lo hi lo' hi' : Nat) (hr : RG w lo hi A es) (hw : RV w lo' hi' Aw (ints wd)) (hg : IsGr r n es) (hwl : wd.length ≤ 1048576) (hok : OkI wd) :
    Calls Tryz.prog 81 #[graV r n A es.length c, .int .i64 v, .slice Aw wd.length cw] w fun e w' => ∃ (u : Int) (k : Nat), e = .returned (.tuple #[.int .i64 u, .int .i64 k]) ∧ k ≤ wd.length ∧ goV es v (wd.take k) = some u ∧ (k = wd.length ∨ ∃ x, wd[k]? = some x ∧ nextV es u x < 0) ∧ Mid 0 0 w w' := by
  have hl := hg.len
  have HGL := Lib.hid (show ∀ e ∈ es, 1 ≤ e.l ∧ e.l ≤ 3 from fun e he => by have := hg.all e he; have := hg.rank; unfold InG at *; omega)
  have HG := Lib.hid hg
  have HOK := Lib.hid hok
  have hm0 : Mid 0 0 w (w.alloc (.cells #[.int .i64 r, .int .i64 n, .slice A es.length c] 30)) := Mid.alloc _ _
  have b0 := Box.new w #[.int .i64 r, .int .i64 n, .slice A es.length c] 30
  clear hg hok
  go_enter Tryz.func81, Tryz.ntmps81
  go_wp2_with fail
  go_loopw [1, 13] (fun vv iv wr => ∃ (k : Nat) (u : Int), k ≤ wd.length ∧ iv = .int .i64 k ∧ vv = .int .i64 u ∧ Hid (goV es v (wd.take k) = some u) ∧ Box wr w.heap.size [.int .i64 r, .int .i64 n, .slice A es.length c] ∧ Mid 0 0 w wr) (fun _ i _ => wd.length - (intOf i).toNat)
  case atStart => exact ⟨0, v, Nat.zero_le _, rfl, rfl, Lib.hid rfl, b0, hm0⟩
  case round =>
    clear b0 hm0
    obtain ⟨k, u, hk, rfl, rfl, HV, b0, hm⟩ := hrel
    have p0 := b0.cell 0 rfl
    have p1 := b0.cell 1 rfl
    have p2 := b0.cell 2 rfl
    by_cases hlt : k < wd.length
    · obtain ⟨B, off, x, rfl, hbh, hx, hcx⟩ := (hw.mid hm (Or.inl (Nat.zero_le _))).at hlt
      have hxr := HOK.out x (List.mem_of_getElem? hx)
      have hk1 : (k : Int) < (wd.length : Int) := by omega
      have HX := Lib.hid hx
      clear hx
      go_wp2_with fail
      with_reducible refine (impl_NextVertex r n A es c u x _ lo hi (hr.mid hm (Or.inl (Nat.zero_le _))) (by omega) HGL.out (by omega) (by omega)).mono ?_
      rintro en w6 ⟨rfl, hm6⟩
      replace b0 := b0.mid hm6 (Or.inr (Nat.zero_le _))
      replace hm := hm.trans hm6
      generalize htx : nextV es u x = t
      by_cases ht : t < 0
      · have d1 : decide (t < 0) = true := by simpa using ht
        have HN : Hid (nextV es u x < 0) := Lib.hid (by rw [htx]; exact ht)
        clear ht htx hcx p0 p1 p2
        go_wp2_with fail
        go_ret2
        exact ⟨u, k, rfl, hk, HV.out, .inr ⟨x, HX.out, HN.out⟩, hm⟩
      · have d1 : decide (t < 0) = false := by simpa using ht
        have HN := Lib.hid (goV_next HV.out HX.out (by rw [htx]; exact ht))
        rw [htx] at HN
        clear ht htx hcx p0 p1 p2
        go_wp2_with fail
        go_roundw
        case rel => exact ⟨k + 1, t, by omega, by go_num, rfl, HN, b0, hm⟩
        case measure => simp [intOf]; omega
    · obtain rfl : k = wd.length := by omega
      go_wp2_with fail
      go_ret2
      exact ⟨u, wd.length, rfl, Nat.le_refl _, HV.out, .inl rfl, hm⟩

set_option maxHeartbeats 3200000 in
theorem spec_WalkWord (r n v : Nat) (A : Option Addr) (es : List Ed) (c : Nat) (Aw : Option Addr) (wd : List Int) (cw : Nat) (w : World) (lo hi lo' hi' : Nat) (hr : RG w lo hi A es) (hw : RV w lo' hi' Aw (ints wd)) (hf : IsFol r n es) (hv : v < n) (hwl : wd.length ≤ 1048576) (hok : OkI wd) :
    Calls Tryz.prog 78 #[graV r n A es.length c, .int .i64 v, .slice Aw wd.length cw] w fun e w' => ∃ (u : Int) (b : Bool), e = .returned (.tuple #[.int .i64 u, .bool b]) ∧ (b = true → goV es v wd = some u) ∧ (b = false → goV es v wd = none) ∧ Mid 0 0 w w' := by
  have hg := hf.gr
  have hl := hg.len
  have hn40 : n ≤ 40 := by have := hg.size; omega
  have HGL := Lib.hid (show ∀ e ∈ es, 1 ≤ e.l ∧ e.l ≤ 3 from fun e he => by have := hg.all e he; have := hg.rank; unfold InG at *; omega)
  have HF := Lib.hid hf
  have HOK := Lib.hid hok
  have hm0 : Mid 0 0 w (w.alloc (.cells #[.int .i64 r, .int .i64 n, .slice A es.length c] 30)) := Mid.alloc _ _
  have b0 := Box.new w #[.int .i64 r, .int .i64 n, .slice A es.length c] 30
  have hib : inB (v : Int) 0 ((n : Int) - 1) = true := by unfold inB; simp; omega
  clear hg hok hf
  go_enter Tryz.func78, Tryz.ntmps78
  go_wp2_with fail
  with_reducible refine (spec_IsFolded r n A es c _ _ _ (hr.mid hm0 (Or.inl (Nat.zero_le _))) (by omega) true (iff_of_true rfl HF.out)).mono ?_
  rintro en w1 ⟨rfl, hm1⟩
  replace b0 := b0.mid hm1 (Or.inr (Nat.zero_le _))
  replace hm0 := hm0.trans hm1
  have p0 := b0.cell 0 rfl
  have p1 := b0.cell 1 rfl
  have p2 := b0.cell 2 rfl
  go_wp2_with fail
  with_reducible refine (l1In_at hib _).mono ?_
  rintro en w2 ⟨rfl, rfl⟩
  go_wp2_with fail
  clear p0 p1 p2 hm1
  go_loopw [1, 8] (fun vv iv wr => ∃ (k : Nat) (u : Int), k ≤ wd.length ∧ iv = .int .i64 k ∧ vv = .int .i64 u ∧ Hid (goV es v (wd.take k) = some u) ∧ Box wr w.heap.size [.int .i64 r, .int .i64 n, .slice A es.length c] ∧ Mid 0 0 w wr) (fun _ i _ => wd.length - (intOf i).toNat)
  case atStart => exact ⟨0, v, Nat.zero_le _, rfl, rfl, Lib.hid rfl, b0, hm0⟩
  case round =>
    clear b0 hm0
    obtain ⟨k, u, hk, rfl, rfl, HV, b0, hm⟩ := hrel
    by_cases hlt : k < wd.length
    · obtain ⟨B, off, x, rfl, hbh, hx, hcx⟩ := (hw.mid hm (Or.inl (Nat.zero_le _))).at hlt
      have hxr := HOK.out x (List.mem_of_getElem? hx)
      have hk1 : (k : Int) < (wd.length : Int) := by omega
      have hk0 : (0 : Int) ≤ (k : Int) := by omega
      have HX := Lib.hid hx
      have hBs : B < wr.heap.size := by have := hw.1; have := hm.size; omega
      have k0 := wg_cell b0.1 (b0.cell 0 rfl)
      have k1 := wg_cell b0.1 (b0.cell 1 rfl)
      have k2 := wg_cell b0.1 (b0.cell 2 rfl)
      have k4 := wg_cell hBs hcx
      have hA := fun m os => spec_NextVertex r n A es c u x (wg wr m os) lo hi (hr.mid (hm.trans (Mid.ofWg wr m os)) (Or.inl (Nat.zero_le _))) (by omega) HGL.out (by omega) (by omega)
      clear hx hcx
      go_wp2_with fail
      refine wp_region_quiet_wg (by kernel_rfl) (by kernel_rfl) ?_
      repeat
        (with_reducible refine wpQuiet_step (fun K hK => ?_))
        go_simp
        first
          | ((with_reducible refine hK _ ?_); clear hK K)
          | (rw [if_neg (by decide)]; (with_reducible refine hK _ ?_); clear hK K)
          | (apply Exists.intro; refine ⟨fun _ => ?_, hK _ ?_⟩; ((go_at_call 71; exact Calls.wg_of (hA _ _))); clear hK K)
      with_reducible refine wpQuiet_nil ?_
      intro _ hw'
      obtain ⟨⟨nq, osq⟩, hw''⟩ := hw'
      subst hw''
      have hwg := Mid.ofWg wr nq osq
      generalize wg wr nq osq = w6 at hwg ⊢
      replace b0 := b0.mid hwg (Or.inr (Nat.zero_le _))
      replace hm := hm.trans hwg
      generalize htx : nextV es u x = t
      clear k0 k1 k2 k4 hA
      by_cases ht : t < 0
      · have d1 : decide (t < 0) = true := by simpa using ht
        have HN := Lib.hid (goV_stop HV.out HX.out (by rw [htx]; exact ht))
        clear ht htx
        go_wp2_with fail
        go_ret2
        exact ⟨-1, false, rfl, (fun h => nomatch h), fun _ => HN.out, hm⟩
      · have d1 : decide (t < 0) = false := by simpa using ht
        have HN := Lib.hid (goV_next HV.out HX.out (by rw [htx]; exact ht))
        rw [htx] at HN
        clear ht htx
        go_wp2_with fail
        go_roundw
        case rel => exact ⟨k + 1, t, by omega, by go_num, rfl, HN, b0, hm⟩
        case measure => simp [intOf]; omega
    · obtain rfl : k = wd.length := by omega
      rw [List.take_length] at HV
      go_wp2_with fail
      go_ret2
      exact ⟨u, true, rfl, fun _ => HV.out, (fun h => nomatch h), hm⟩

/-- Where the word leads from each vertex, if it leads on from all below k. -/
def permTo (es : List Ed) (wd : List Int) (k : Nat) : List Int := (List.range k).map fun (v : Nat) => (goV es v wd).getD 0
theorem permTo_succ {es : List Ed} {wd : List Int} {k : Nat} {u : Int} (h : goV es (k : Int) wd = some u) : permTo es wd (k + 1) = permTo es wd k ++ [u] := by simp [permTo, List.range_succ, h]
theorem permTo_len (es : List Ed) (wd : List Int) (k : Nat) : (permTo es wd k).length = k := by simp [permTo]
open Classical in
noncomputable def wordP (r s : Int) (es : List Ed) (wd : List Int) : List Int := if IsFin r s es ∧ ∀ v : Nat, v < s.toNat → goV es v wd ≠ none then permTo es wd s.toNat else []
theorem wordP_yes {r n : Nat} {es : List Ed} {wd : List Int} (h : IsFin r n es) (h2 : ∀ v : Nat, v < n → goV es v wd ≠ none) : wordP r n es wd = permTo es wd n := if_pos ⟨h, h2⟩
theorem wordP_no {r n : Nat} {es : List Ed} {wd : List Int} {v : Nat} (hv : v < n) (h2 : goV es v wd = none) : wordP r n es wd = [] := if_neg fun h => h.2 v hv h2
theorem wordP_inf {r s : Int} {es : List Ed} {wd : List Int} (h : ¬ IsFin r s es) : wordP r s es wd = [] := if_neg fun h' => h h'.1

set_option maxHeartbeats 3200000 in
set_option maxRecDepth 20000 in
theorem impl_WordPermutation_fin (r n : Nat) (A : Option Addr) (es : List Ed) (c : Nat) (Aw : Option Addr) (wd : List Int) (cw : Nat) (w : World) (lo hi lo' hi' : Nat) (hr : RG w lo hi A es) (hw : RV w lo' hi' Aw (ints wd)) (hcl : es.length ≤ c) (hf : IsFin r n es) (hwl : wd.length ≤ 1048576) (hok : OkI wd) :
    Calls Tryz.prog 51 #[graV r n A es.length c, .slice Aw wd.length cw] w fun e w' => ∃ A1 c1, e = .returned (.slice A1 (wordP r n es wd).length c1) ∧ OV w' w.heap.size w'.heap.size 3 1 A1 c1 (wordP r n es wd).length (ints (wordP r n es wd)) ∧ Mid 0 0 w w' := by
  have hl := hf.cor.gr.len
  have hn40 : n ≤ 40 := by have := hf.cor.gr.size; omega
  have HF := Lib.hid hf
  have HOK := Lib.hid hok
  clear hf hok
  have O0 := owns_empty (w.alloc (.cells #[.int .i64 r, .int .i64 n, .slice A es.length c] 30)) 3 1
  rw [World.size_alloc] at O0
  have hm0 : Mid 0 0 w ((w.alloc (.cells #[.int .i64 r, .int .i64 n, .slice A es.length c] 30)).alloc (.cells #[] 3)) := (Mid.alloc _ _).trans (Mid.alloc _ _)
  have b0 := (Box.new w #[.int .i64 r, .int .i64 n, .slice A es.length c] 30).mid (Mid.alloc _ (.cells #[] 3)) (Or.inr (Nat.zero_le _))
  go_enter Tryz.func51, Tryz.ntmps51
  go_wp2_with fail
  with_reducible refine (impl_IsFiniteIndex r n A es c _ _ _ (hr.mid hm0 (Or.inl (Nat.zero_le _))) (by omega) hcl true (iff_of_true rfl HF.out)).mono ?_
  rintro en w1 ⟨rfl, hm1⟩
  replace b0 := b0.mid hm1 (Or.inr (Nat.zero_le _))
  replace O0 := owns_mid O0 hm1 (Or.inl (Nat.zero_le _))
  replace hm0 := hm0.trans hm1
  clear hm1
  go_wp2_with fail
  go_loopw [5, 6] (fun out vv wr => ∃ (v : Nat) (A1 : Option Addr) (c1 : Nat), v ≤ n ∧ vv = .int .i64 v ∧ out = .slice A1 v c1 ∧ Hid (∀ u : Nat, u < v → goV es u wd ≠ none) ∧ wr.ownsRow (w.heap.size + 1) 3 1 (.slice A1 v c1) v (ints (permTo es wd v)) ∧
      Box wr w.heap.size [.int .i64 r, .int .i64 n, .slice A es.length c] ∧ Mid 0 0 w wr) (fun _ v _ => n - (intOf v).toNat)
  case atStart => exact ⟨0, _, 0, Nat.zero_le _, rfl, rfl, Lib.hid (fun u h => absurd h (Nat.not_lt_zero _)), O0, b0, hm0⟩
  case round =>
    clear O0 b0 hm0
    obtain ⟨v, A1, c1, hv, rfl, rfl, HU, hout, b0, hm⟩ := hrel
    have p0 := b0.cell 0 rfl
    have p1 := b0.cell 1 rfl
    have p2 := b0.cell 2 rfl
    by_cases hlt : v < n
    · have hv1 : (v : Int) < (n : Int) := by omega
      have hv0 : (0 : Int) ≤ (v : Int) := by omega
      go_wp2_with fail
      with_reducible refine (impl_read r n A es c v Aw wd cw _ _ _ _ _ (hr.mid hm (Or.inl (Nat.zero_le _))) (hw.mid hm (Or.inl (Nat.zero_le _))) HF.out.cor.gr hwl HOK.out).mono ?_
      rintro en w6 ⟨u, k, rfl, hk, hgo, hend, hm6⟩
      have hcase : (k = wd.length ∧ goV es (v : Int) wd = some u) ∨ (k < wd.length ∧ goV es (v : Int) wd = none) := by
        rcases hend with rfl | ⟨x, hx, hn⟩
        · left
          exact ⟨rfl, by rw [List.take_length] at hgo; exact hgo⟩
        · right
          exact ⟨(List.getElem?_eq_some_iff.1 hx).1, goV_stop hgo hx hn⟩
      clear hgo hend
      replace b0 := b0.mid hm6 (Or.inr (Nat.zero_le _))
      replace hout := owns_mid hout hm6 (Or.inl (Nat.zero_le _))
      replace hm := hm.trans hm6
      clear p0 p1 p2 hm6
      rcases hcase with ⟨hk1, hgo⟩ | ⟨hk1, hgo⟩
      · have HS := Lib.hid (permTo_succ hgo)
        have HU2 : Hid (∀ u : Nat, u < v + 1 → goV es u wd ≠ none) := Lib.hid (by
          intro q hq
          by_cases h : q < v
          · exact HU.out q h
          · obtain rfl : q = v := by omega
            rw [hgo]
            exact fun h => by cases h)
        have HO := Lib.hid hout
        have hsz : w.heap.size + 1 ≤ w6.heap.size := b0.1
        clear hgo hout
        subst hk1
        go_wp2_with (at_builtin; refine wpList_pushI rfl _ _ rfl (w.heap.size + 1) A1 v c1 _ rfl HO.out u rfl (by omega) hsz ?_; intro A9 c9 w9 ho9 hm9)
        go_roundw
        case rel => exact ⟨v + 1, A9, c9, by omega, by go_num, rfl, HU2, by rw [HS.out]; exact ho9, b0.mid hm9 (Or.inl (Nat.lt_succ_self _)), hm.transNew hm9 (Or.inl (Nat.le_succ _))⟩
        case measure => simp [intOf]; omega
      · have HW := Lib.hid (wordP_no (r := r) hlt hgo)
        have O1 := owns_empty w6 3 1
        have hal := Mid.alloc w6 (.cells #[] 3)
        have hsz := hm.size
        clear hgo
        go_wp2_with fail
        go_ret
        refine ⟨some ⟨w6.heap.size, 0, none⟩, 0, by rw [HW.out]; rfl, ?_, hm.trans hal⟩
        rw [HW.out]
        exact ⟨Nat.le_refl _, owns_base O1 hsz, fun g hg => (O1.lt g hg).2⟩
    · obtain rfl : v = n := by omega
      have HW := Lib.hid (wordP_yes HF.out HU.out)
      have HL := Lib.hid (permTo_len es wd v)
      have hov : OV wr (w.heap.size + 1) wr.heap.size 3 1 A1 c1 v (ints (permTo es wd v)) := ⟨Nat.le_refl _, hout, fun g hg => (hout.lt g hg).2⟩
      go_wp2_with fail
      go_ret
      exact ⟨A1, c1, by rw [HW.out, HL.out]; rfl, by rw [HW.out, HL.out]; exact hov.wide (Nat.le_succ _) (Nat.le_refl _) (Nat.le_refl _), hm⟩

set_option maxHeartbeats 1600000 in
theorem impl_WordPermutation_no (r s : Int) (A : Option Addr) (es : List Ed) (c : Nat) (Aw : Option Addr) (n cw : Nat) (w : World) (lo hi : Nat) (hr : RG w lo hi A es) (hl : es.length ≤ 1048576) (hcl : es.length ≤ c) (hf : ¬ IsFin r s es) :
    Calls Tryz.prog 51 #[graV r s A es.length c, .slice Aw n cw] w fun e w' => ∃ A1 c1, e = .returned (.slice A1 0 c1) ∧ OV w' w.heap.size w'.heap.size 3 1 A1 c1 0 [] ∧ Mid 0 0 w w' := by
  have hm0 : Mid 0 0 w ((w.alloc (.cells #[.int .i64 r, .int .i64 s, .slice A es.length c] 30)).alloc (.cells #[] 3)) := (Mid.alloc _ _).trans (Mid.alloc _ _)
  have O0 := owns_empty (w.alloc (.cells #[.int .i64 r, .int .i64 s, .slice A es.length c] 30)) 3 1
  rw [World.size_alloc] at O0
  have HF := Lib.hid hf
  clear hf
  go_enter Tryz.func51, Tryz.ntmps51
  go_wp2_with fail
  with_reducible refine (impl_IsFiniteIndex r s A es c _ _ _ (hr.mid hm0 (Or.inl (Nat.zero_le _))) hl hcl false (iff_of_false Bool.false_ne_true HF.out)).mono ?_
  rintro en w1 ⟨rfl, hm1⟩
  replace O0 := owns_mid O0 hm1 (Or.inl (Nat.zero_le _))
  replace hm0 := hm0.trans hm1
  have hov : OV w1 (w.heap.size + 1) w1.heap.size 3 1 (some ⟨w.heap.size + 1, 0, none⟩) 0 0 [] := ⟨Nat.le_refl _, O0, fun g hg => (O0.lt g hg).2⟩
  go_wp2_with fail
  go_ret
  exact ⟨_, _, rfl, hov.wide (Nat.le_succ _) (Nat.le_refl _) (Nat.le_refl _), hm0⟩

set_option maxHeartbeats 3200000 in
set_option maxRecDepth 20000 in
theorem spec_WordPermutation_fin (r n : Nat) (A : Option Addr) (es : List Ed) (c : Nat) (Aw : Option Addr) (wd : List Int) (cw : Nat) (w : World) (lo hi lo' hi' : Nat) (hr : RG w lo hi A es) (hw : RV w lo' hi' Aw (ints wd)) (hf : IsFin r n es) (hwl : wd.length ≤ 1048576) (hok : OkI wd) :
    Calls Tryz.prog 49 #[graV r n A es.length c, .slice Aw wd.length cw] w fun e w' => ∃ A1 c1, e = .returned (.slice A1 (wordP r n es wd).length c1) ∧ OV w' w.heap.size w'.heap.size 3 1 A1 c1 (wordP r n es wd).length (ints (wordP r n es wd)) ∧ Mid 0 0 w w' := by
  have hl := hf.cor.gr.len
  have hn40 : n ≤ 40 := by have := hf.cor.gr.size; omega
  have HF := Lib.hid hf
  have HOK := Lib.hid hok
  clear hf hok
  have hm0 : Mid 0 0 w (w.alloc (.cells #[.int .i64 r, .int .i64 n, .slice A es.length c] 30)) := Mid.alloc _ _
  have b0 := Box.new w #[.int .i64 r, .int .i64 n, .slice A es.length c] 30
  go_enter Tryz.func49, Tryz.ntmps49
  go_wp2_with fail
  with_reducible refine (spec_IsFiniteIndex r n A es c _ _ _ (hr.mid hm0 (Or.inl (Nat.zero_le _))) (by omega) true (iff_of_true rfl HF.out)).mono ?_
  rintro en w1 ⟨rfl, hm1⟩
  replace b0 := b0.mid hm1 (Or.inr (Nat.zero_le _))
  replace hm0 := hm0.trans hm1
  have O0 := owns_base (base' := w.heap.size + 1) (owns_empty w1 3 1) b0.1
  have hal := Mid.alloc w1 (.cells #[] 3)
  replace b0 := b0.mid hal (Or.inr (Nat.zero_le _))
  replace hm0 := hm0.trans hal
  clear hm1 hal
  go_wp2_with fail
  go_loopw [5, 6] (fun out vv wr => ∃ (v : Nat) (A1 : Option Addr) (c1 : Nat), v ≤ n ∧ vv = .int .i64 v ∧ out = .slice A1 v c1 ∧ Hid (∀ u : Nat, u < v → goV es u wd ≠ none) ∧ wr.ownsRow (w.heap.size + 1) 3 1 (.slice A1 v c1) v (ints (permTo es wd v)) ∧
      Box wr w.heap.size [.int .i64 r, .int .i64 n, .slice A es.length c] ∧ Mid 0 0 w wr) (fun _ v _ => n - (intOf v).toNat)
  case atStart => exact ⟨0, _, 0, Nat.zero_le _, rfl, rfl, Lib.hid (fun u h => absurd h (Nat.not_lt_zero _)), O0, b0, hm0⟩
  case round =>
    clear O0 b0 hm0
    obtain ⟨v, A1, c1, hv, rfl, rfl, HU, hout, b0, hm⟩ := hrel
    have p0 := b0.cell 0 rfl
    have p1 := b0.cell 1 rfl
    have p2 := b0.cell 2 rfl
    by_cases hlt : v < n
    · have hv1 : (v : Int) < (n : Int) := by omega
      have hv0 : (0 : Int) ≤ (v : Int) := by omega
      go_wp2_with fail
      with_reducible refine (spec_WalkWord r n v A es c Aw wd cw _ _ _ _ _ (hr.mid hm (Or.inl (Nat.zero_le _))) (hw.mid hm (Or.inl (Nat.zero_le _))) HF.out.cor.fol hlt hwl HOK.out).mono ?_
      rintro en w6 ⟨u, bb, rfl, hb1, hb2, hm6⟩
      have hcase : (bb = true ∧ goV es (v : Int) wd = some u) ∨ (bb = false ∧ goV es (v : Int) wd = none) := by
        cases bb with
        | true => exact .inl ⟨rfl, hb1 rfl⟩
        | false => exact .inr ⟨rfl, hb2 rfl⟩
      clear hb1 hb2
      replace b0 := b0.mid hm6 (Or.inr (Nat.zero_le _))
      replace hout := owns_mid hout hm6 (Or.inl (Nat.zero_le _))
      replace hm := hm.trans hm6
      clear p0 p1 p2 hm6
      rcases hcase with ⟨hk1, hgo⟩ | ⟨hk1, hgo⟩
      · have HS := Lib.hid (permTo_succ hgo)
        have HU2 : Hid (∀ u : Nat, u < v + 1 → goV es u wd ≠ none) := Lib.hid (by
          intro q hq
          by_cases h : q < v
          · exact HU.out q h
          · obtain rfl : q = v := by omega
            rw [hgo]
            exact fun h => by cases h)
        have HO := Lib.hid hout
        have hsz : w.heap.size + 1 ≤ w6.heap.size := b0.1
        clear hgo hout
        subst hk1
        go_wp2_with (at_builtin; refine wpList_pushI rfl _ _ rfl (w.heap.size + 1) A1 v c1 _ rfl HO.out u rfl (by omega) hsz ?_; intro A9 c9 w9 ho9 hm9)
        go_roundw
        case rel => exact ⟨v + 1, A9, c9, by omega, by go_num, rfl, HU2, by rw [HS.out]; exact ho9, b0.mid hm9 (Or.inl (Nat.lt_succ_self _)), hm.transNew hm9 (Or.inl (Nat.le_succ _))⟩
        case measure => simp [intOf]; omega
      · have HW := Lib.hid (wordP_no (r := r) hlt hgo)
        have O1 := owns_empty w6 3 1
        have hal := Mid.alloc w6 (.cells #[] 3)
        have hsz := hm.size
        clear hgo
        subst hk1
        go_wp2_with fail
        go_ret
        refine ⟨some ⟨w6.heap.size, 0, none⟩, 0, by rw [HW.out]; rfl, ?_, hm.trans hal⟩
        rw [HW.out]
        exact ⟨Nat.le_refl _, owns_base O1 hsz, fun g hg => (O1.lt g hg).2⟩
    · obtain rfl : v = n := by omega
      have HW := Lib.hid (wordP_yes HF.out HU.out)
      have HL := Lib.hid (permTo_len es wd v)
      have hov : OV wr (w.heap.size + 1) wr.heap.size 3 1 A1 c1 v (ints (permTo es wd v)) := ⟨Nat.le_refl _, hout, fun g hg => (hout.lt g hg).2⟩
      go_wp2_with fail
      go_ret
      exact ⟨A1, c1, by rw [HW.out, HL.out]; rfl, by rw [HW.out, HL.out]; exact hov.wide (Nat.le_succ _) (Nat.le_refl _) (Nat.le_refl _), hm⟩

set_option maxHeartbeats 1600000 in
theorem spec_WordPermutation_no (r s : Int) (A : Option Addr) (es : List Ed) (c : Nat) (Aw : Option Addr) (n cw : Nat) (w : World) (lo hi : Nat) (hr : RG w lo hi A es) (hl : es.length ≤ 1048576) (hf : ¬ IsFin r s es) :
    Calls Tryz.prog 49 #[graV r s A es.length c, .slice Aw n cw] w fun e w' => ∃ A1 c1, e = .returned (.slice A1 0 c1) ∧ OV w' w.heap.size w'.heap.size 3 1 A1 c1 0 [] ∧ Mid 0 0 w w' := by
  have hm0 : Mid 0 0 w (w.alloc (.cells #[.int .i64 r, .int .i64 s, .slice A es.length c] 30)) := Mid.alloc _ _
  have HF := Lib.hid hf
  clear hf
  go_enter Tryz.func49, Tryz.ntmps49
  go_wp2_with fail
  with_reducible refine (spec_IsFiniteIndex r s A es c _ _ _ (hr.mid hm0 (Or.inl (Nat.zero_le _))) hl false (iff_of_false Bool.false_ne_true HF.out)).mono ?_
  rintro en w1 ⟨rfl, hm1⟩
  replace hm0 := hm0.trans hm1
  have hsz := hm0.size
  have O1 := owns_empty w1 3 1
  have hal := Mid.alloc w1 (.cells #[] 3)
  have hov : OV (w1.alloc (.cells #[] 3)) w.heap.size (w1.alloc (.cells #[] 3)).heap.size 3 1 (some ⟨w1.heap.size, 0, none⟩) 0 0 [] := ⟨Nat.le_refl _, owns_base O1 hsz, fun g hg => (O1.lt g hg).2⟩
  go_wp2_with fail
  go_ret
  exact ⟨_, _, rfl, hov, hm0.trans hal⟩

def WordPermutationIs (r0 s0 : Int) (d0 : List Ed) (d1 : List Int) (res0 : List Int) : Prop := res0 = wordP r0 s0 d0 d1
theorem WordPermutationIs_ex (r0 s0 : Int) (d0 : List Ed) (d1 : List Int) (hl0 : d0.length ≤ 1048576) (o1 : OkI d1) (hl1 : d1.length ≤ 1048576) : ∃ res0, WordPermutationIs r0 s0 d0 d1 res0 := ⟨_, rfl⟩
theorem WordPermutationIs_len {r0 s0 : Int} {d0 : List Ed} {d1 : List Int} {res0 : List Int} (h : WordPermutationIs r0 s0 d0 d1 res0) (hl0 : d0.length ≤ 1048576) (o1 : OkI d1) (hl1 : d1.length ≤ 1048576) : res0.length ≤ 1048576 := by
  obtain rfl : res0 = _ := h
  unfold wordP
  split
  · rename_i h
    have h2 := h.1.cor.gr.size
    rw [permTo_len]
    omega
  · simp
theorem sspec_WordPermutation (r0 s0 : Int) (A0 : Option Addr) (d0 : List Ed) (c0 : Nat) (A1 : Option Addr) (d1 : List Int) (c1 : Nat) (w : World) (lo0 hi0 : Nat) (h0 : OG w lo0 hi0 A0 c0 d0) (hl0 : d0.length ≤ 1048576) (lo1 hi1 : Nat) (h1 : OI w lo1 hi1 A1 c1 d1) (o1 : OkI d1) (hl1 : d1.length ≤ 1048576) (res0 : List Int) (h : WordPermutationIs r0 s0 d0 d1 res0) :
    Calls Tryz.prog 49 #[.agg #[.int .i64 r0, .int .i64 s0, .slice A0 d0.length c0], .slice A1 d1.length c1] w fun e w' => ∃ (A : Option Addr) (c : Nat), e = .returned (.slice A res0.length c) ∧ OI w' w.heap.size w'.heap.size A c res0 ∧ Mid 0 0 w w' := by
  obtain rfl : res0 = _ := h
  by_cases hf : IsFin r0 s0 d0
  · obtain ⟨r, n, rfl, rfl⟩ := hf.cor.gr.nat
    exact spec_WordPermutation_fin r n A0 d0 c0 A1 d1 c1 w lo0 hi0 lo1 hi1 h0.rg (OI.ri h1) hf hl1 o1
  · rw [wordP_inf hf]
    exact spec_WordPermutation_no r0 s0 A0 d0 c0 A1 d1.length c1 w lo0 hi0 h0.rg hl0 hf
theorem simpl_WordPermutation (r0 s0 : Int) (A0 : Option Addr) (d0 : List Ed) (c0 : Nat) (A1 : Option Addr) (d1 : List Int) (c1 : Nat) (w : World) (lo0 hi0 : Nat) (h0 : OG w lo0 hi0 A0 c0 d0) (hl0 : d0.length ≤ 1048576) (lo1 hi1 : Nat) (h1 : OI w lo1 hi1 A1 c1 d1) (o1 : OkI d1) (hl1 : d1.length ≤ 1048576) (res0 : List Int) (h : WordPermutationIs r0 s0 d0 d1 res0) :
    Calls Tryz.prog 51 #[.agg #[.int .i64 r0, .int .i64 s0, .slice A0 d0.length c0], .slice A1 d1.length c1] w fun e w' => ∃ (A : Option Addr) (c : Nat), e = .returned (.slice A res0.length c) ∧ OI w' w.heap.size w'.heap.size A c res0 ∧ Mid 0 0 w w' := by
  obtain rfl : res0 = _ := h
  by_cases hf : IsFin r0 s0 d0
  · obtain ⟨r, n, rfl, rfl⟩ := hf.cor.gr.nat
    exact impl_WordPermutation_fin r n A0 d0 c0 A1 d1 c1 w lo0 hi0 lo1 hi1 h0.rg (OI.ri h1) h0.cnt.1 hf hl1 o1
  · rw [wordP_inf hf]
    exact impl_WordPermutation_no r0 s0 A0 d0 c0 A1 d1.length c1 w lo0 hi0 h0.rg hl0 h0.cnt.1 hf
end Go.Proofs.YtkdmffjnkciecaaGreat

/- InNormalCore, of both; the law's data. -/
namespace Go.Proofs.YtkdmffjnkciecaaGreat
set_option linter.unusedVariables false
set_option linter.unusedSimpArgs false
open Go.RowKit

/-- The word moves no vertex of a subgroup of finite index. -/
def InCore (r s : Int) (es : List Ed) (wd : List Int) : Prop := IsFin r s es ∧ wordP r s es wd = upto s.toNat
def InNormalCoreIs (r0 s0 : Int) (d0 : List Ed) (d1 : List Int) (res0 : Bool) : Prop := res0 = true ↔ InCore r0 s0 d0 d1

theorem InNormalCoreIs_ex (r0 s0 : Int) (d0 : List Ed) (d1 : List Int) (hl0 : d0.length ≤ 1048576) (o1 : OkI d1) (hl1 : d1.length ≤ 1048576) : ∃ res0, InNormalCoreIs r0 s0 d0 d1 res0 := bool_of _
end Go.Proofs.YtkdmffjnkciecaaGreat

/- OrderOfPermutation, both sides. -/
namespace Go.Proofs.YtkdmffjnkciecaaGreat
set_option linter.unusedVariables false
set_option linter.unusedSimpArgs false
open Go.RowKit

def ordStep (n : Nat) (c : Int) : Nat := n / Nat.gcd n c.toNat * c.toNat
def ordN (cy : List Int) : Nat := cy.foldl ordStep 1
structure OrdAt (cy : List Int) (k : Nat) (n : Nat) : Prop where
  val : n = ordN (cy.take k)
  pos : 1 ≤ n
  le : (n : Int) ≤ 2 ^ (cy.take k).sum.toNat
theorem sum_nonneg {cy : List Int} (h : ∀ c ∈ cy, 1 ≤ c) : 0 ≤ cy.sum := by
  induction cy with
  | nil => simp
  | cons c t ih =>
    have := h c List.mem_cons_self
    have := ih (fun x hx => h x (List.mem_cons_of_mem _ hx))
    simp; omega
theorem OrdAt.zero (cy : List Int) : OrdAt cy 0 1 := ⟨by simp [ordN], by omega, by simp⟩
theorem OrdAt.succ {cy : List Int} {k n c : Nat} (hp : ∀ c ∈ cy, 1 ≤ c) (h : OrdAt cy k n) (hc : cy[k]? = some (c : Int)) : OrdAt cy (k + 1) (n / Nat.gcd n c * c) := by
  have hc1 : 1 ≤ c := by have := hp c (List.mem_of_getElem? hc); omega
  have hg : 0 < Nat.gcd n c := Nat.gcd_pos_of_pos_left _ h.pos
  have hdv : Nat.gcd n c ≤ n := Nat.le_of_dvd h.pos (Nat.gcd_dvd_left _ _)
  have hq : 1 ≤ n / Nat.gcd n c := (Nat.one_le_div_iff hg).2 hdv
  have hs0 : 0 ≤ (cy.take k).sum := sum_nonneg (fun x hx => hp x (List.mem_of_mem_take hx))
  refine ⟨?_, Nat.mul_pos hq hc1, ?_⟩
  · rw [take_succ_of cy hc]
    simp [ordN, List.foldl_append, ordStep]
    rw [show List.foldl ordStep 1 (cy.take k) = n from h.val.symm]
  · rw [take_succ_of cy hc, List.sum_append]
    have e : ((cy.take k).sum + ([(c : Int)] : List Int).sum).toNat = (cy.take k).sum.toNat + c := by simp; omega
    rw [e, Int.pow_add]
    have h1 : (n / Nat.gcd n c : Nat) ≤ n := Nat.div_le_self _ _
    have h2 : c < 2 ^ c := Nat.lt_two_pow_self
    have h3 : ((n / Nat.gcd n c * c : Nat) : Int) ≤ ((n * 2 ^ c : Nat) : Int) := by
      have := Nat.mul_le_mul h1 (Nat.le_of_lt h2)
      omega
    refine Int.le_trans h3 ?_
    rw [Int.natCast_mul]
    have h4 : ((2 ^ c : Nat) : Int) = 2 ^ c := by simp
    rw [h4]
    exact Int.mul_le_mul_of_nonneg_right h.le (by rw [← h4]; omega)
theorem OrdAt.bound {cy : List Int} {k n : Nat} (hp : ∀ c ∈ cy, 1 ≤ c) (hs : cy.sum ≤ 40) (h : OrdAt cy k n) : n ≤ 1099511627776 := by
  have h1 : (cy.take k).sum ≤ 40 := by
    have e := List.take_append_drop k cy
    have : (cy.take k).sum + (cy.drop k).sum = cy.sum := by rw [← List.sum_append, e]
    have := sum_nonneg (fun x hx => hp x (List.mem_of_mem_drop hx) : ∀ c ∈ cy.drop k, 1 ≤ c)
    omega
  have h2 : (2 : Int) ^ (cy.take k).sum.toNat ≤ 2 ^ 40 := by
    have h3 : (2 : Nat) ^ (cy.take k).sum.toNat ≤ 2 ^ 40 := Nat.pow_le_pow_right (by omega) (by omega)
    exact_mod_cast h3
  have h5 := Int.le_trans h.le h2
  have e : (2 : Int) ^ 40 = 1099511627776 := by decide
  rw [e] at h5
  omega
theorem sum_perm {xs ys : List Int} (h : xs.Perm ys) : xs.sum = ys.sum := by
  induction h with
  | nil => rfl
  | cons x _ ih => simp [ih]
  | swap x y l => simp; omega
  | trans _ _ h1 h2 => exact h1.trans h2
theorem cyc_facts {p : List Int} (h : IsPerm p) : (∀ c ∈ cyc p, 1 ≤ c) ∧ (cyc p).sum ≤ 40 := by
  obtain ⟨vis, out, h2⟩ := CycOut.get h.2.1 p.length (Nat.le_refl _)
  have hp := downL_perm out
  unfold cyc
  rw [h2.st]
  refine ⟨fun c hc => h2.pos c (hp.mem_iff.1 hc), ?_⟩
  rw [sum_perm hp, h2.sum]
  have := h2.hv.le
  have := h.1
  omega
def OrderOfPermutationIs (p : List Int) (res : Int) : Prop := ∃ cy, CycIs p cy ∧ ((IsPerm p → res = (ordN cy : Int)) ∧ (¬ IsPerm p → res = 0))
theorem OrderOfPermutationIs_ex (p : List Int) (_ : OkI p) (_ : p.length ≤ 1048576) : ∃ res, OrderOfPermutationIs p res := by
  by_cases h : IsPerm p
  · exact ⟨_, cyc p, ⟨fun _ => rfl, fun h' => absurd h h'⟩, fun _ => rfl, fun h' => absurd h h'⟩
  · exact ⟨0, [], ⟨fun h' => absurd h' h, fun _ => rfl⟩, fun h' => absurd h' h, fun _ => rfl⟩

set_option maxHeartbeats 400000 in
theorem spec_l17Gcd (a b : Nat) (w : World) (ha : a ≤ 1099511627776) (hb : b ≤ 1099511627776) :
    Calls Tryz.prog 80 #[.int .i64 a, .int .i64 b] w fun e w' => e = .returned (.int .i64 (Nat.gcd a b : Nat)) ∧ w = w' := by
  go_enter Tryz.func80, Tryz.ntmps80
  go_wp2_with fail
  go_loop [0, 1, 5] (fun x y _ => ∃ a' b' : Nat, x = .int .i64 a' ∧ y = .int .i64 b' ∧ Nat.gcd a' b' = Nat.gcd a b ∧ a' ≤ 1099511627776 ∧ b' ≤ 1099511627776) (fun _ y _ => (intOf y).toNat)
  case atStart => exact ⟨a, b, rfl, rfl, rfl, ha, hb⟩
  case round =>
    obtain ⟨a', b', rfl, rfl, hg, ha', hb'⟩ := hrel
    have HG := Lib.hid hg
    clear hg
    by_cases h0 : 0 < b'
    · have h03 : (0 : Int) < (b' : Int) := by omega
      have hml := Nat.mod_lt a' h0
      go_wp2_with fail
      go_round
      case rel =>
        refine ⟨b', a' % b', rfl, by first | rfl | go_num, ?_, hb', by omega⟩
        rw [← HG.out, Nat.gcd_comm a' b', Nat.gcd_comm b' (a' % b'), ← Nat.gcd_rec]
      case measure => simp [intOf]; omega
    · obtain rfl : b' = 0 := by omega
      go_wp2_with fail
      go_ret
      have := HG.out
      rw [Nat.gcd_zero_right] at this
      subst this
      exact ⟨rfl, rfl⟩

set_option maxHeartbeats 1600000 in
theorem simpl_OrderOfPermutation (A : Option Addr) (p : List Int) (c : Nat) (w : World) (lo hi : Nat) (h : RI w lo hi A p) (_o : OkI p) (hl : p.length ≤ 1048576) (res : Int) (hres : OrderOfPermutationIs p res) :
    Calls Tryz.prog 52 #[.slice A p.length c] w (Stp (.int .i64 res) w) := by
  obtain ⟨cy, hcy, hr1, hr2⟩ := hres
  have hr := h.rs
  have HCY := Lib.hid hcy
  have hlc := hcy.len hl
  clear h hcy
  by_cases hp : IsPerm p
  · have HRES := Lib.hid (hr1 hp)
    have hf := cyc_facts hp
    rw [← HCY.out.1 hp] at hf
    have HF := Lib.hid hf
    have HP := Lib.hid hp
    clear hp hr1 hr2 hf
    go_enter Tryz.func52, Tryz.ntmps52
    go_wp2_with fail
    with_reducible refine (impl_IsPermutation A p c _ _ hr (Nat.le_refl _) hl true (iff_of_true rfl HP.out)).mono ?_
    rintro e w1 ⟨rfl, hb1⟩
    have hr1 := (hr.below hb1).more hb1.size
    go_wp2_with fail
    with_reducible refine (impl_CycleType A p c _ _ hr1 (Nat.le_refl _) hl cy HCY.out).mono ?_
    rintro e w2 ⟨A2, c2, rfl, ho2, hb2⟩
    have hrc : Rs w2 w2.heap.size A2 (ints cy) := Rs.of_own ho2
    have hm2 := (Mid.of_below (lo := 0) (hi := 0) hb1).trans (Mid.of_below hb2)
    go_wp2_with fail
    go_loopw [3, 5, 6, 7, 14] (fun nv _ _ _ i wr => ∃ k n : Nat, k ≤ cy.length ∧ i = .int .i64 k ∧ nv = .int .i64 n ∧ OrdAt cy k n ∧ ∃ m, wr = w2.drewN m) (fun _ _ _ _ i _ => cy.length - (intOf i).toNat)
    case atStart => exact ⟨0, 1, Nat.zero_le _, rfl, rfl, OrdAt.zero cy, 0, rfl⟩
    case round =>
      obtain ⟨k, n, hk, rfl, rfl, hat, md, rfl⟩ := hrel
      have HAT := Lib.hid hat
      have hn1 := hat.pos
      have hn2 := hat.bound HF.out.1 HF.out.2
      clear hat
      by_cases hlt : k < cy.length
      · obtain ⟨b, off, x, rfl, -, hx, hc⟩ := hrc.int hlt
        have hx1 := HF.out.1 x (List.mem_of_getElem? hx)
        obtain ⟨d, rfl⟩ : ∃ d : Nat, x = (d : Int) := ⟨x.toNat, by omega⟩
        have hnext := HAT.out.succ HF.out.1 hx
        have hnb := hnext.bound HF.out.1 HF.out.2
        have hd40 : d ≤ 1099511627776 := by
          have h1 := Nat.div_mul_le_self n (Nat.gcd n d)
          have hg : 0 < Nat.gcd n d := Nat.gcd_pos_of_pos_left _ hn1
          have hq : 1 ≤ n / Nat.gcd n d := (Nat.one_le_div_iff hg).2 (Nat.le_of_dvd hn1 (Nat.gcd_dvd_left _ _))
          have := Nat.mul_le_mul_right d hq
          omega
        have HNX := Lib.hid hnext
        clear hx hnext
        go_wp2_with fail
        go_loopw [6, 7] (fun av bv wr2 => ∃ a b' : Nat, av = .int .i64 a ∧ bv = .int .i64 b' ∧ Nat.gcd a b' = Nat.gcd n d ∧ a ≤ 1099511627776 ∧ b' ≤ 1099511627776 ∧ ∃ m, wr2 = w2.drewN m) (fun _ bv _ => (intOf bv).toNat)
        case atStart => exact ⟨n, d, rfl, rfl, rfl, hn2, hd40, md, rfl⟩
        case round =>
          obtain ⟨a, b', rfl, rfl, hg, ha, hb, m2, rfl⟩ := hrel
          have HG := Lib.hid hg
          clear hg
          by_cases h0 : b' = 0
          · subst h0
            have hga := HG.out
            rw [Nat.gcd_zero_right] at hga
            have ha1 : 1 ≤ a := by rw [hga]; exact Nat.gcd_pos_of_pos_left _ hn1
            have hnb2 : n / a * d ≤ 1099511627776 := by rw [hga]; exact hnb
            have HGA := Lib.hid hga
            have hz : (((0 : Nat) : Int) != 0) = false := by simp
            have hq0 : (0 : Int) ≤ (n : Int) / (a : Int) := Int.ediv_nonneg (by omega) (by omega)
            have hqe : (n : Int) / (a : Int) = ((n / a : Nat) : Int) := by simp
            have hmul : (n : Int) / (a : Int) * (d : Int) = ((n / a * d : Nat) : Int) := by rw [hqe, Int.natCast_mul]
            have hmb : (n : Int) / (a : Int) * (d : Int) ≤ 1099511627776 := by rw [hmul]; omega
            have hmb0 : 0 ≤ (n : Int) / (a : Int) * (d : Int) := by rw [hmul]; omega
            have HMUL := Lib.hid hmul
            clear hga hqe hmul
            go_wp2_with fail
            go_roundw
            case rel =>
              refine ⟨k + 1, n / a * d, by omega, by go_num, ?_, by rw [HGA.out]; exact HNX.out, m2, rfl⟩
              have hq1 : (n : Int) / (a : Int) ≤ 1099511627776 := by
                have h1 := Nat.div_le_self n a
                have e : (n : Int) / (a : Int) = ((n / a : Nat) : Int) := by simp
                rw [e]
                omega
              have e1 := IntWalk.wrap64_in ((n : Int) / (a : Int)) ⟨by omega, by omega⟩
              have e2 := IntWalk.wrap64_in ((n : Int) / (a : Int) * (d : Int)) ⟨by omega, by omega⟩
              show Value.int .i64 _ = Value.int .i64 ((n / a * d : Nat) : Int)
              first | rw [e1, e2, HMUL.out] | rw [e2, HMUL.out] | rw [HMUL.out]
            case measure => simp [intOf]; omega
          · have hz : ((b' : Int) != 0) = true := by simp; omega
            have hb1 : (1 : Int) ≤ (b' : Int) := by omega
            have hml := Nat.mod_lt a (show 0 < b' by omega)
            go_wp2_with fail
            go_quiet (fail)
            go_wp2_with fail
            go_roundw
            case rel =>
              refine ⟨b', a % b', rfl, ?_, ?_, hb, by omega, _, by first | rfl | exact dn _ _ _⟩
              · first | rfl | go_num | simp
              · rw [← HG.out, Nat.gcd_comm a b', Nat.gcd_comm b' (a % b'), ← Nat.gcd_rec]
            case measure =>
              have e : ((a : Int) % (b' : Int)) = ((a % b' : Nat) : Int) := by simp
              show ((a : Int) % (b' : Int)).toNat < ((b' : Int)).toNat
              rw [e]
              omega
      · obtain rfl : k = cy.length := by omega
        go_wp2_with fail
        go_ret
        have h2 := HAT.out.val
        rw [List.take_length] at h2
        have h3 := HRES.out
        rw [← h2] at h3
        subst h3
        exact ⟨rfl, hm2.drewN _⟩
  · obtain rfl : res = 0 := hr2 hp
    have HN := Lib.hid hp
    clear hp hr1 hr2
    go_enter Tryz.func52, Tryz.ntmps52
    go_wp2_with fail
    with_reducible refine (impl_IsPermutation A p c _ _ hr (Nat.le_refl _) hl false (iff_of_false Bool.false_ne_true HN.out)).mono ?_
    rintro e w1 ⟨rfl, hb1⟩
    go_wp2_with fail
    go_ret
    exact ⟨rfl, Mid.of_below hb1⟩

set_option maxHeartbeats 1600000 in
theorem sspec_OrderOfPermutation (A : Option Addr) (p : List Int) (c : Nat) (w : World) (lo hi : Nat) (h : RI w lo hi A p) (_o : OkI p) (hl : p.length ≤ 1048576) (res : Int) (hres : OrderOfPermutationIs p res) :
    Calls Tryz.prog 50 #[.slice A p.length c] w (Stp (.int .i64 res) w) := by
  obtain ⟨cy, hcy, hr1, hr2⟩ := hres
  have hr := h.rs
  have HCY := Lib.hid hcy
  have hlc := hcy.len hl
  clear h hcy
  by_cases hp : IsPerm p
  · have HRES := Lib.hid (hr1 hp)
    have hf := cyc_facts hp
    rw [← HCY.out.1 hp] at hf
    have HF := Lib.hid hf
    have HP := Lib.hid hp
    clear hp hr1 hr2 hf
    go_enter Tryz.func50, Tryz.ntmps50
    go_wp2_with fail
    with_reducible refine (spec_CycleType A p c _ _ hr (Nat.le_refl _) hl cy HCY.out).mono ?_
    rintro e w2 ⟨A2, c2, rfl, ho2, hb2⟩
    have hrc : Rs w2 w2.heap.size A2 (ints cy) := Rs.of_own ho2
    have hr1 := (hr.below hb2).more hb2.size
    have hm2 := Mid.of_below (lo := 0) (hi := 0) hb2
    go_wp2_with fail
    go_loopw [4, 5] (fun nv i wr => ∃ k n : Nat, k ≤ cy.length ∧ i = .int .i64 k ∧ nv = .int .i64 n ∧ OrdAt cy k n ∧ ∃ m, wr = w2.drewN m) (fun _ i _ => cy.length - (intOf i).toNat)
    case atStart => exact ⟨0, 1, Nat.zero_le _, rfl, rfl, OrdAt.zero cy, 0, rfl⟩
    case round =>
      obtain ⟨k, n, hk, rfl, rfl, hat, md, rfl⟩ := hrel
      have HAT := Lib.hid hat
      have hn1 := hat.pos
      have hn2 := hat.bound HF.out.1 HF.out.2
      clear hat
      by_cases hlt : k < cy.length
      · obtain ⟨b, off, x, rfl, -, hx, hc⟩ := hrc.int hlt
        have hx1 := HF.out.1 x (List.mem_of_getElem? hx)
        obtain ⟨d, rfl⟩ : ∃ d : Nat, x = (d : Int) := ⟨x.toNat, by omega⟩
        have hnext := HAT.out.succ HF.out.1 hx
        have hnb := hnext.bound HF.out.1 HF.out.2
        have hg1 : 1 ≤ Nat.gcd n d := Nat.gcd_pos_of_pos_left _ hn1
        have hd40 : d ≤ 1099511627776 := by
          have hq : 1 ≤ n / Nat.gcd n d := (Nat.one_le_div_iff hg1).2 (Nat.le_of_dvd hn1 (Nat.gcd_dvd_left _ _))
          have := Nat.mul_le_mul_right d hq
          omega
        have HNX := Lib.hid hnext
        obtain ⟨gg, hgg⟩ : ∃ gg, gg = Nat.gcd n d := ⟨_, rfl⟩
        rw [← hgg] at hnb hg1
        have hC := fun W => spec_l17Gcd n d W hn2 hd40
        rw [← hgg] at hC
        have HC := Lib.hid hC
        have HGG := Lib.hid hgg
        have hk3 : (k : Int) < (cy.length : Int) := by omega
        have hk0 : (0 : Int) ≤ (k : Int) := by omega
        have hg3 : (1 : Int) ≤ (gg : Int) := by omega
        have hn0 : (0 : Int) ≤ (n : Int) := by omega
        clear hx hnext hgg hC
        go_wp2_with fail
        go_quiet ((go_at_call 80; first | exact qz0 (pq (HC.out _)) | exact qz1 (pq (HC.out _))))
        go_wp2_with fail
        go_roundw
        case rel =>
          refine ⟨k + 1, n / gg * d, by omega, by go_num, ?_, by rw [HGG.out]; exact HNX.out, _, by first | rfl | exact dn _ _ _⟩
          have h1 := Nat.div_le_self n gg
          have e : (n : Int) / (gg : Int) = ((n / gg : Nat) : Int) := by simp
          have p0 : (0 : Int) ≤ ((n / gg : Nat) : Int) := Int.natCast_nonneg _
          have p1 : ((n / gg : Nat) : Int) ≤ 1099511627776 := by
            have h5 : n / gg ≤ 1099511627776 := Nat.le_trans h1 hn2
            exact Int.ofNat_le.2 h5
          have e1 := IntWalk.wrap64_in ((n : Int) / (gg : Int)) ⟨by rw [e]; exact Int.le_trans (by decide) p0, by rw [e]; exact Int.le_trans p1 (by decide)⟩
          have em : (n : Int) / (gg : Int) * (d : Int) = ((n / gg * d : Nat) : Int) := by rw [e, Int.natCast_mul]
          have q0 : (0 : Int) ≤ ((n / gg * d : Nat) : Int) := Int.natCast_nonneg _
          have q1 : ((n / gg * d : Nat) : Int) ≤ 1099511627776 := Int.ofNat_le.2 hnb
          have e2 := IntWalk.wrap64_in ((n : Int) / (gg : Int) * (d : Int)) ⟨by rw [em]; exact Int.le_trans (by decide) q0, by rw [em]; exact Int.le_trans q1 (by decide)⟩
          show Value.int .i64 _ = Value.int .i64 ((n / gg * d : Nat) : Int)
          first | rw [e1, e2, em] | rw [e2, em] | rw [em]
        case measure => simp [intOf]; omega
      · obtain rfl : k = cy.length := by omega
        go_wp2_with fail
        with_reducible refine (spec_IsPermutation A p c _ _ (hr1.drewN md) hl true (iff_of_true rfl HP.out)).mono ?_
        rintro e w' ⟨rfl, nd, rfl⟩
        go_wp2_with fail
        go_ret
        have h2 := HAT.out.val
        rw [List.take_length] at h2
        have h3 := HRES.out
        rw [← h2] at h3
        subst h3
        exact ⟨rfl, by first | exact hm2.drewN _ | exact (hm2.drewN _).drewN _⟩
  · obtain rfl : res = 0 := hr2 hp
    have HN := Lib.hid hp
    obtain rfl : cy = [] := HCY.out.2 hp
    clear hp hr1 hr2
    go_enter Tryz.func50, Tryz.ntmps50
    go_wp2_with fail
    with_reducible refine (spec_CycleType A p c _ _ hr (Nat.le_refl _) hl [] HCY.out).mono ?_
    rintro e w2 ⟨A2, c2, rfl, ho2, hb2⟩
    have hr1 := (hr.below hb2).more hb2.size
    have hm2 := Mid.of_below (lo := 0) (hi := 0) hb2
    go_wp2_with fail
    go_loopw [4, 5] (fun _ i wr => i = .int .i64 0 ∧ wr = w2) (fun _ i _ => 0)
    case atStart => exact ⟨rfl, rfl⟩
    case round =>
      obtain ⟨rfl, rfl⟩ := hrel
      go_wp2_with fail
      with_reducible refine (spec_IsPermutation A p c _ _ hr1 hl false (iff_of_false Bool.false_ne_true HN.out)).mono ?_
      rintro e w' ⟨rfl, nd, rfl⟩
      go_wp2_with fail
      go_ret
      exact ⟨rfl, hm2.drewN _⟩
end Go.Proofs.YtkdmffjnkciecaaGreat

/- OrderModulo, both sides; the law's data. -/
namespace Go.Proofs.YtkdmffjnkciecaaGreat
set_option linter.unusedVariables false
set_option linter.unusedSimpArgs false
open Go.RowKit
theorem goV_in {r s : Int} {es : List Ed} (hg : ∀ e ∈ es, InG r s e) : ∀ (w : List Int) {v u : Int}, 0 ≤ v ∧ v < s → goV es v w = some u → 0 ≤ u ∧ u < s
  | [], v, u, h, hu => by
    rw [goV] at hu
    injection hu with hu
    subst hu
    exact h
  | x :: t, v, u, h, hu => by
    rw [goV] at hu
    split at hu
    · cases hu
    · have := nextV_cases hg v x
      exact goV_in hg t (by omega) hu
theorem wordP_ok (r s : Int) (es : List Ed) (wd : List Int) : OkI (wordP r s es wd) := by
  intro x hx
  unfold wordP at hx
  split at hx
  · rename_i h
    have hs := h.1.cor.gr.size
    simp only [permTo, List.mem_map, List.mem_range] at hx
    obtain ⟨v, hv, rfl⟩ := hx
    have h2 := h.2 v hv
    cases hq : goV es (v : Int) wd with
    | none => exact absurd hq h2
    | some u =>
      have := goV_in h.1.cor.gr.all wd (by omega) hq
      simp only [Option.getD_some]
      omega
  · cases hx
def OrderModuloIs (r0 s0 : Int) (d0 : List Ed) (d1 : List Int) (res0 : Int) : Prop := ∃ v, OrderOfPermutationIs (wordP r0 s0 d0 d1) v ∧ res0 = if (wordP r0 s0 d0 d1).length = 0 then 0 else v
theorem OrderModuloIs_ex (r0 s0 : Int) (d0 : List Ed) (d1 : List Int) (hl0 : d0.length ≤ 1048576) (o1 : OkI d1) (hl1 : d1.length ≤ 1048576) : ∃ res0, OrderModuloIs r0 s0 d0 d1 res0 := by
  obtain ⟨v, hv⟩ := OrderOfPermutationIs_ex (wordP r0 s0 d0 d1) (wordP_ok r0 s0 d0 d1) (WordPermutationIs_len (r0 := r0) (s0 := s0) (d0 := d0) (d1 := d1) rfl hl0 o1 hl1)
  exact ⟨_, v, hv, rfl⟩

set_option maxHeartbeats 1600000 in
set_option maxRecDepth 20000 in
theorem sspec_OrderModulo (r0 s0 : Int) (A0 : Option Addr) (d0 : List Ed) (c0 : Nat) (A1 : Option Addr) (d1 : List Int) (c1 : Nat) (w : World) (lo0 hi0 : Nat) (h0 : OG w lo0 hi0 A0 c0 d0) (hl0 : d0.length ≤ 1048576) (lo1 hi1 : Nat) (h1 : OI w lo1 hi1 A1 c1 d1) (o1 : OkI d1) (hl1 : d1.length ≤ 1048576) (res0 : Int) (h : OrderModuloIs r0 s0 d0 d1 res0) :
    Calls Tryz.prog 20 #[.agg #[.int .i64 r0, .int .i64 s0, .slice A0 d0.length c0], .slice A1 d1.length c1] w fun e w' => e = .returned (.int .i64 res0) ∧ Mid 0 0 w w' := by
  have hm0 : Mid 0 0 w (w.alloc (.cells #[.int .i64 r0, .int .i64 s0, .slice A0 d0.length c0] 30)) := Mid.alloc _ _
  have hP := fun W h0 h1 => sspec_WordPermutation r0 s0 A0 d0 c0 A1 d1 c1 W lo0 hi0 h0 hl0 lo1 hi1 h1 o1 hl1 _ rfl
  have hpl := WordPermutationIs_len (r0 := r0) (s0 := s0) (d0 := d0) (d1 := d1) rfl hl0 o1 hl1
  have hpo := wordP_ok r0 s0 d0 d1
  obtain ⟨v, hv, hres⟩ := h
  generalize wordP r0 s0 d0 d1 = p at hP hpl hpo hv hres
  have HP := Lib.hid hP
  have HV := Lib.hid hv
  have HPO := Lib.hid hpo
  clear hP hv hpo
  go_enter Tryz.func20, Tryz.ntmps20
  go_wp2_with fail
  with_reducible refine (HP.out _ (h0.mid hm0 (Or.inl (Nat.zero_le _))) (h1.mid hm0 (Or.inl (Nat.zero_le _)))).mono ?_
  rintro en w1 ⟨A2, c2, rfl, ho2, hm1⟩
  by_cases hz : p.length = 0
  · rw [if_pos hz] at hres
    subst hres
    have d1 : ((p.length : Int) == 0) = true := by rw [hz]; rfl
    clear hz
    go_wp2_with fail
    go_ret
    exact ⟨rfl, hm0.trans hm1⟩
  · rw [if_neg hz] at hres
    subst hres
    have d1 : ((p.length : Int) == 0) = false := by simp only [beq_eq_false_iff_ne]; omega
    clear hz
    go_wp2_with fail
    with_reducible refine (sspec_OrderOfPermutation A2 p c2 w1 _ _ ho2.ri HPO.out hpl _ HV.out).mono ?_
    rintro en w2 ⟨rfl, hm2⟩
    go_wp2_with fail
    go_ret
    exact ⟨rfl, (hm0.trans hm1).trans hm2⟩

set_option maxHeartbeats 1600000 in
set_option maxRecDepth 20000 in
theorem simpl_OrderModulo (r0 s0 : Int) (A0 : Option Addr) (d0 : List Ed) (c0 : Nat) (A1 : Option Addr) (d1 : List Int) (c1 : Nat) (w : World) (lo0 hi0 : Nat) (h0 : OG w lo0 hi0 A0 c0 d0) (hl0 : d0.length ≤ 1048576) (lo1 hi1 : Nat) (h1 : OI w lo1 hi1 A1 c1 d1) (o1 : OkI d1) (hl1 : d1.length ≤ 1048576) (res0 : Int) (h : OrderModuloIs r0 s0 d0 d1 res0) :
    Calls Tryz.prog 22 #[.agg #[.int .i64 r0, .int .i64 s0, .slice A0 d0.length c0], .slice A1 d1.length c1] w fun e w' => e = .returned (.int .i64 res0) ∧ Mid 0 0 w w' := by
  have hm0 : Mid 0 0 w (w.alloc (.cells #[.int .i64 r0, .int .i64 s0, .slice A0 d0.length c0] 30)) := Mid.alloc _ _
  have hP := fun W h0 h1 => simpl_WordPermutation r0 s0 A0 d0 c0 A1 d1 c1 W lo0 hi0 h0 hl0 lo1 hi1 h1 o1 hl1 _ rfl
  have hpl := WordPermutationIs_len (r0 := r0) (s0 := s0) (d0 := d0) (d1 := d1) rfl hl0 o1 hl1
  have hpo := wordP_ok r0 s0 d0 d1
  obtain ⟨v, hv, hres⟩ := h
  generalize wordP r0 s0 d0 d1 = p at hP hpl hpo hv hres
  have HP := Lib.hid hP
  have HV := Lib.hid hv
  have HPO := Lib.hid hpo
  clear hP hv hpo
  go_enter Tryz.func22, Tryz.ntmps22
  go_wp2_with fail
  with_reducible refine (HP.out _ (h0.mid hm0 (Or.inl (Nat.zero_le _))) (h1.mid hm0 (Or.inl (Nat.zero_le _)))).mono ?_
  rintro en w1 ⟨A2, c2, rfl, ho2, hm1⟩
  by_cases hz : p.length = 0
  · rw [if_pos hz] at hres
    subst hres
    have d1 : ((p.length : Int) == 0) = true := by rw [hz]; rfl
    clear hz
    go_wp2_with fail
    go_ret
    exact ⟨rfl, hm0.trans hm1⟩
  · rw [if_neg hz] at hres
    subst hres
    have d1 : ((p.length : Int) == 0) = false := by simp only [beq_eq_false_iff_ne]; omega
    clear hz
    go_wp2_with fail
    with_reducible refine (simpl_OrderOfPermutation A2 p c2 w1 _ _ ho2.ri HPO.out hpl _ HV.out).mono ?_
    rintro en w2 ⟨rfl, hm2⟩
    go_wp2_with fail
    go_ret
    exact ⟨rfl, (hm0.trans hm1).trans hm2⟩

end Go.Proofs.YtkdmffjnkciecaaGreat
