/- Contracts and lemmas of this seat, many texts in one: see the words ahead of each. No condition beyond those typed in each lemma. -/
import Derived.Test.YtimmnnncgnnkgaaGreatSw5
import Derived.Test.YtimmnnncgnnkgaaGreatSw1
import Derived.Test.YtimmnnncgnnkgaaGreatSw3
import Derived.Test.YtimmnnncgnnkgaaGreatSw2

/- read, WalkWord, WordPermutation; the law's data. -/
namespace Go.Proofs.YtimmnnncgnnkgaaGreat
set_option linter.unusedVariables false
set_option linter.unusedSimpArgs false
open Go.RowKit

/-- Where a list of letters leads. -/
def goV (es : List Ed) : Int → List Int → Option Int
  | v, [] => some v
  | v, x :: t => if nextV es v x < 0 then none else goV es (nextV es v x) t
theorem goV_app (es : List Ed) : ∀ (a b : List Int) (v : Int), goV es v (a ++ b) = (goV es v a).bind fun u => goV es u b
  | [], b, v => rfl
  | x :: a, b, v => by
    rw [List.cons_append, goV, goV]
    split
    · rfl
    · exact goV_app es a b _
theorem goV_one (es : List Ed) (v x : Int) : goV es v [x] = if nextV es v x < 0 then none else some (nextV es v x) := by
  rw [goV]
  rfl
theorem goV_stop {es : List Ed} {v u x : Int} {w : List Int} {k : Nat} (h : goV es v (w.take k) = some u) (hx : w[k]? = some x) (hn : nextV es u x < 0) : goV es v w = none := by
  have h1 : w = w.take k ++ (x :: w.drop (k + 1)) := by rw [← drop_of w hx, List.take_append_drop]
  rw [h1, goV_app, h, Option.bind_some, goV, if_pos hn]
theorem goV_next {es : List Ed} {v u x : Int} {w : List Int} {k : Nat} (h : goV es v (w.take k) = some u) (hx : w[k]? = some x) (hn : ¬ nextV es u x < 0) : goV es v (w.take (k + 1)) = some (nextV es u x) := by
  rw [take_snocI hx, goV_app, h, Option.bind_some, goV_one, if_neg hn]

set_option maxHeartbeats 3200000 in
theorem impl_read (r n : Nat) (A : Option Addr) (es : List Ed) (c : Nat) (v : Int) (Aw : Option Addr) (wd : List Int) (cw : Nat) (w : World) (lo hi lo' hi' : Nat) (hr : RG w lo hi A es) (hw : RV w lo' hi' Aw (ints wd)) (hg : IsGr r n es) (hwl : wd.length ≤ 1048576) (hok : OkI wd) :
    Calls Tryz.prog 84 #[graV r n A es.length c, .int .i64 v, .slice Aw wd.length cw] w fun e w' => ∃ (u : Int) (k : Nat), e = .returned (.tuple #[.int .i64 u, .int .i64 k]) ∧ k ≤ wd.length ∧ goV es v (wd.take k) = some u ∧ (k = wd.length ∨ ∃ x, wd[k]? = some x ∧ nextV es u x < 0) ∧ Mid 0 0 w w' := by
  have hl := hg.len
  have HGL := Lib.hid (show ∀ e ∈ es, 1 ≤ e.l ∧ e.l ≤ 3 from fun e he => by have := hg.all e he; have := hg.rank; unfold InG at *; omega)
  have HG := Lib.hid hg
  have HOK := Lib.hid hok
  have hm0 : Mid 0 0 w (w.alloc (.cells #[.int .i64 r, .int .i64 n, .slice A es.length c] 29)) := Mid.alloc _ _
  have b0 := Box.new w #[.int .i64 r, .int .i64 n, .slice A es.length c] 29
  clear hg hok
  go_enter Tryz.func84, Tryz.ntmps84
  go_wp2_with fail
  go_loopw [1, 13] (fun vv iv wr => ∃ (k : Nat) (u : Int), k ≤ wd.length ∧ iv = .int .i64 k ∧ vv = .int .i64 u ∧ Hid (goV es v (wd.take k) = some u) ∧ Box wr w.heap.size [.int .i64 r, .int .i64 n, .slice A es.length c] ∧ Mid 0 0 w wr) (fun _ i _ => wd.length - (intOf i).toNat)
  case atStart => exact ⟨0, v, Nat.zero_le _, rfl, rfl, Lib.hid rfl, b0, hm0⟩
  case round =>
    clear b0 hm0
    obtain ⟨k, u, hk, rfl, rfl, HV, b0, hm⟩ := hrel
    have p0 := b0.cell 0 rfl
    have p1 := b0.cell 1 rfl
    have p2 := b0.cell 2 rfl
    by_cases hlt : k < wd.length
    · obtain ⟨B, off, x, rfl, hbh, hx, hcx⟩ := (hw.mid hm (Or.inl (Nat.zero_le _))).at hlt
      have hxr := HOK.out x (List.mem_of_getElem? hx)
      have hk1 : (k : Int) < (wd.length : Int) := by omega
      have HX := Lib.hid hx
      clear hx
      go_wp2_with fail
      with_reducible refine (impl_NextVertex r n A es c u x _ lo hi (hr.mid hm (Or.inl (Nat.zero_le _))) (by omega) HGL.out (by omega) (by omega)).mono ?_
      rintro en w6 ⟨rfl, hm6⟩
      replace b0 := b0.mid hm6 (Or.inr (Nat.zero_le _))
      replace hm := hm.trans hm6
      generalize htx : nextV es u x = t
      by_cases ht : t < 0
      · have d1 : decide (t < 0) = true := by simpa using ht
        have HN : Hid (nextV es u x < 0) := Lib.hid (by rw [htx]; exact ht)
        clear ht htx hcx p0 p1 p2
        go_wp2_with fail
        go_ret2
        exact ⟨u, k, rfl, hk, HV.out, .inr ⟨x, HX.out, HN.out⟩, hm⟩
      · have d1 : decide (t < 0) = false := by simpa using ht
        have HN := Lib.hid (goV_next HV.out HX.out (by rw [htx]; exact ht))
        rw [htx] at HN
        clear ht htx hcx p0 p1 p2
        go_wp2_with fail
        go_roundw
        case rel => exact ⟨k + 1, t, by omega, by go_num, rfl, HN, b0, hm⟩
        case measure => simp [intOf]; omega
    · obtain rfl : k = wd.length := by omega
      go_wp2_with fail
      go_ret2
      exact ⟨u, wd.length, rfl, Nat.le_refl _, HV.out, .inl rfl, hm⟩

set_option maxHeartbeats 3200000 in
theorem spec_WalkWord (r n v : Nat) (A : Option Addr) (es : List Ed) (c : Nat) (Aw : Option Addr) (wd : List Int) (cw : Nat) (w : World) (lo hi lo' hi' : Nat) (hr : RG w lo hi A es) (hw : RV w lo' hi' Aw (ints wd)) (hf : IsFol r n es) (hv : v < n) (hwl : wd.length ≤ 1048576) (hok : OkI wd) :
    Calls Tryz.prog 79 #[graV r n A es.length c, .int .i64 v, .slice Aw wd.length cw] w fun e w' => ∃ (u : Int) (b : Bool), e = .returned (.tuple #[.int .i64 u, .bool b]) ∧ (b = true → goV es v wd = some u) ∧ (b = false → goV es v wd = none) ∧ Mid 0 0 w w' := by
  have hg := hf.gr
  have hl := hg.len
  have hn40 : n ≤ 40 := by have := hg.size; omega
  have HGL := Lib.hid (show ∀ e ∈ es, 1 ≤ e.l ∧ e.l ≤ 3 from fun e he => by have := hg.all e he; have := hg.rank; unfold InG at *; omega)
  have HF := Lib.hid hf
  have HOK := Lib.hid hok
  have hm0 : Mid 0 0 w (w.alloc (.cells #[.int .i64 r, .int .i64 n, .slice A es.length c] 29)) := Mid.alloc _ _
  have b0 := Box.new w #[.int .i64 r, .int .i64 n, .slice A es.length c] 29
  have hib : inB (v : Int) 0 ((n : Int) - 1) = true := by unfold inB; simp; omega
  clear hg hok hf
  go_enter Tryz.func79, Tryz.ntmps79
  go_wp2_with fail
  with_reducible refine (spec_IsFolded r n A es c _ _ _ (hr.mid hm0 (Or.inl (Nat.zero_le _))) (by omega) true (iff_of_true rfl HF.out)).mono ?_
  rintro en w1 ⟨rfl, hm1⟩
  replace b0 := b0.mid hm1 (Or.inr (Nat.zero_le _))
  replace hm0 := hm0.trans hm1
  have p0 := b0.cell 0 rfl
  have p1 := b0.cell 1 rfl
  have p2 := b0.cell 2 rfl
  go_wp2_with fail
  with_reducible refine (l1In_at hib _).mono ?_
  rintro en w2 ⟨rfl, rfl⟩
  go_wp2_with fail
  clear p0 p1 p2 hm1
  go_loopw [1, 8] (fun vv iv wr => ∃ (k : Nat) (u : Int), k ≤ wd.length ∧ iv = .int .i64 k ∧ vv = .int .i64 u ∧ Hid (goV es v (wd.take k) = some u) ∧ Box wr w.heap.size [.int .i64 r, .int .i64 n, .slice A es.length c] ∧ Mid 0 0 w wr) (fun _ i _ => wd.length - (intOf i).toNat)
  case atStart => exact ⟨0, v, Nat.zero_le _, rfl, rfl, Lib.hid rfl, b0, hm0⟩
  case round =>
    clear b0 hm0
    obtain ⟨k, u, hk, rfl, rfl, HV, b0, hm⟩ := hrel
    by_cases hlt : k < wd.length
    · obtain ⟨B, off, x, rfl, hbh, hx, hcx⟩ := (hw.mid hm (Or.inl (Nat.zero_le _))).at hlt
      have hxr := HOK.out x (List.mem_of_getElem? hx)
      have hk1 : (k : Int) < (wd.length : Int) := by omega
      have hk0 : (0 : Int) ≤ (k : Int) := by omega
      have HX := Lib.hid hx
      have hBs : B < wr.heap.size := by have := hw.1; have := hm.size; omega
      have k0 := wg_cell b0.1 (b0.cell 0 rfl)
      have k1 := wg_cell b0.1 (b0.cell 1 rfl)
      have k2 := wg_cell b0.1 (b0.cell 2 rfl)
      have k4 := wg_cell hBs hcx
      have hA := fun m os => spec_NextVertex r n A es c u x (wg wr m os) lo hi (hr.mid (hm.trans (Mid.ofWg wr m os)) (Or.inl (Nat.zero_le _))) (by omega) HGL.out (by omega) (by omega)
      clear hx hcx
      go_wp2_with fail
      refine wp_region_quiet_wg (by kernel_rfl) (by kernel_rfl) ?_
      repeat
        (with_reducible refine wpQuiet_step (fun K hK => ?_))
        go_simp
        first
          | ((with_reducible refine hK _ ?_); clear hK K)
          | (rw [if_neg (by decide)]; (with_reducible refine hK _ ?_); clear hK K)
          | (apply Exists.intro; refine ⟨fun _ => ?_, hK _ ?_⟩; ((go_at_call 93; exact Calls.wg_of (hA _ _))); clear hK K)
      with_reducible refine wpQuiet_nil ?_
      intro _ hw'
      obtain ⟨⟨nq, osq⟩, hw''⟩ := hw'
      subst hw''
      have hwg := Mid.ofWg wr nq osq
      generalize wg wr nq osq = w6 at hwg ⊢
      replace b0 := b0.mid hwg (Or.inr (Nat.zero_le _))
      replace hm := hm.trans hwg
      generalize htx : nextV es u x = t
      clear k0 k1 k2 k4 hA
      by_cases ht : t < 0
      · have d1 : decide (t < 0) = true := by simpa using ht
        have HN := Lib.hid (goV_stop HV.out HX.out (by rw [htx]; exact ht))
        clear ht htx
        go_wp2_with fail
        go_ret2
        exact ⟨-1, false, rfl, (fun h => nomatch h), fun _ => HN.out, hm⟩
      · have d1 : decide (t < 0) = false := by simpa using ht
        have HN := Lib.hid (goV_next HV.out HX.out (by rw [htx]; exact ht))
        rw [htx] at HN
        clear ht htx
        go_wp2_with fail
        go_roundw
        case rel => exact ⟨k + 1, t, by omega, by go_num, rfl, HN, b0, hm⟩
        case measure => simp [intOf]; omega
    · obtain rfl : k = wd.length := by omega
      rw [List.take_length] at HV
      go_wp2_with fail
      go_ret2
      exact ⟨u, true, rfl, fun _ => HV.out, (fun h => nomatch h), hm⟩

/-- Where the word leads from each vertex, if it leads on from all below k. -/
def permTo (es : List Ed) (wd : List Int) (k : Nat) : List Int := (List.range k).map fun (v : Nat) => (goV es v wd).getD 0
open Classical in
noncomputable def wordP (r s : Int) (es : List Ed) (wd : List Int) : List Int := if IsFin r s es ∧ ∀ v : Nat, v < s.toNat → goV es v wd ≠ none then permTo es wd s.toNat else []
def WordPermutationIs (r0 s0 : Int) (d0 : List Ed) (d1 : List Int) (res0 : List Int) : Prop := res0 = wordP r0 s0 d0 d1
end Go.Proofs.YtimmnnncgnnkgaaGreat

/- Regions that draw their order, with cells that every operation but the last ones leaves as they are. -/
namespace Go.Proofs.YtimmnnncgnnkgaaGreat
set_option linter.unusedVariables false
set_option linter.unusedSimpArgs false
open Go.RowKit

section
variable {P : Program} {ops : Array Oper} {Q : Exit → Act → World → Prop} {md : Region.Mode} {S : World → Prop} {Z : List Nat}

/-- Whatever order is picked from here on; S holds behind every operation but those of Z. -/
def wpAnyZ (P : Program) (md : Region.Mode) (ops : Array Oper) (Q : Exit → Act → World → Prop) (S : World → Prop) (Z : List Nat) : Nat → Array Bool → Act → World → Prop
  | 0, listed, a, w => Region.ready md ops listed = [] ∧ Q .normal a w
  | fuel + 1, listed, a, w =>
    (Region.ready md ops listed = [] → Q .normal a w) ∧
    ∀ i ∈ Region.ready md ops listed, wpOp P ops Q i (fun a' w' => (i ∈ Z ∨ S w') ∧ wpAnyZ P md ops Q S Z fuel (listed.setIfInBounds i true) a' w') a w
theorem wpAny_of_Z : ∀ (fuel : Nat) (listed : Array Bool) (a : Act) (w : World), wpAnyZ P md ops Q S Z fuel listed a w → wpAny P md ops Q fuel listed a w
  | 0, _, _, _, h => h
  | fuel + 1, _, _, _, h => ⟨h.1, fun i hi => wpOp_mono (fun a' w' h' => wpAny_of_Z fuel _ a' w' h'.2) (h.2 i hi)⟩
/-- The last operation does not come up while one that it waits for has not. -/
theorem not_lastZ {z i : Nat} {listed : Array Bool} (hz : Region.waitsFor md ops z i = true) (hun : listed.getD i true = false) : z ∉ Region.ready md ops listed := by
  intro hr
  obtain ⟨-, oz, hoz, hall⟩ := mem_ready.1 hr
  obtain ⟨oz', hoz', e, he, hb, hon⟩ := Region.waitsFor_spec hz
  obtain rfl : oz' = oz := Option.some.inj (hoz'.symm.trans hoz)
  have h1 := hall e he hb
  rw [hon, getD_both hun] at h1
  cases h1
theorem not_lastC {i m : Nat} {C : List Nat} {listed : Array Bool} (hC : ∀ m ∈ C, listed.getD m true = false ∧ ∃ p ∈ i :: C, Region.waitsFor md ops m p = true) (hi : listed.getD i true = false) (hm : m ∈ C) : m ∉ Region.ready md ops listed := by
  obtain ⟨-, p, hp, hw⟩ := hC m hm
  have hun : listed.getD p true = false := by
    rcases List.mem_cons.1 hp with rfl | hp
    · exact hi
    · exact (hC p hp).1
  exact not_lastZ hw hun
theorem wpAnyZ_firstC {i : Nat} {oi : Oper} {v : Value} {C : List Nat} (hi : ops[i]? = some oi) (hsel : ∀ (j : Nat) (o : Oper) cs b, ops[j]? = some o → o.op ≠ .select cs b)
    (hQ : ∀ c a w, Q (.panic c) (a.put oi.dst v) w → Q (.panic c) a w) (hZC : ∀ z ∈ Z, z ∈ C) :
    ∀ (fuel : Nat) (listed : Array Bool) (a : Act) (w : World),
      (∀ j oj, ops[j]? = some oj → j ≠ i → listed.getD j true = false → (∀ e ∈ oj.after, Region.binds md e = true → e.on ≠ i) → oi.apart ops oj = true) →
      (∀ m ∈ C, listed.getD m true = false ∧ ∃ p ∈ i :: C, Region.waitsFor md ops m p = true) →
      i ∈ Region.ready md ops listed → YieldsIf P ops S oi v a → S w →
      wpAnyZ P md ops Q S Z fuel (listed.setIfInBounds i true) (a.put oi.dst v) w → wpAnyZ P md ops Q S Z (fuel + 1) listed a w := by
  intro fuel
  induction fuel with
  | zero =>
    intro listed a w _ _ hr hy hS H
    refine ⟨fun h => (by rw [h] at hr; cases hr), fun j hj => ?_⟩
    by_cases hji : j = i
    · subst hji; exact hy.wpOp hi hS ⟨.inr hS, H⟩
    · have := ready_mono hj hji
      rw [H.1] at this
      cases this
  | succ fuel ih =>
    intro listed a w hfree hC hr hy hS H
    refine ⟨fun h => (by rw [h] at hr; cases hr), fun j hj => ?_⟩
    by_cases hji : j = i
    · subst hji; exact hy.wpOp hi hS ⟨.inr hS, H⟩
    · have hjC : j ∉ C := fun e => not_lastC hC (mem_ready.1 hr).1 e hj
      have hjz : j ∉ Z := fun e => hjC (hZC j e)
      have h1 := H.2 j (ready_mono hj hji)
      obtain ⟨hjun, oj, hoj, hall⟩ := mem_ready.1 hj
      have hnot : ∀ e ∈ oj.after, Region.binds md e = true → e.on ≠ i := fun e he hb heq => by
        have h1 := hall e he hb
        have h0 := (mem_ready.1 hr).1
        rw [heq] at h1
        rcases Nat.lt_or_ge i listed.size with h' | h'
        · simp [h'] at h0 h1; rw [h0] at h1; cases h1
        · simp [Array.getElem?_eq_none h'] at h1
      have h2 := wpOp_putIf hoj (hfree j oj hoj hji hjun hnot) (fun cs b => hsel i oi cs b hi) (fun cs b => hsel j oj cs b hoj) hQ hy h1
      have hfree' : ∀ k ok, ops[k]? = some ok → k ≠ i → (listed.setIfInBounds j true).getD k true = false →
          (∀ e ∈ ok.after, Region.binds md e = true → e.on ≠ i) → oi.apart ops ok = true := fun k ok hk hki hun hno => by
        refine hfree k ok hk hki ?_ hno
        by_cases hjk : j = k
        · subst hjk; exact hjun
        · rw [getD_set_ne true hjk] at hun; exact hun
      have hC' : ∀ m ∈ C, (listed.setIfInBounds j true).getD m true = false ∧ ∃ p ∈ i :: C, Region.waitsFor md ops m p = true := fun m hm => by
        refine ⟨?_, (hC m hm).2⟩
        have hjm : j ≠ m := fun e => hjC (e ▸ hm)
        rw [getD_set_ne true hjm]
        exact (hC m hm).1
      refine wpOp_mono (fun a' w' h3 => ?_) h2
      have hS' : S w' := h3.2.1.resolve_left hjz
      refine ⟨.inr hS', ih (listed.setIfInBounds j true) a' w' hfree' hC' (ready_mono hr (Ne.symm hji)) h3.1 hS' ?_⟩
      rw [Array.setIfInBounds_comm _ _ hji]
      exact h3.2.2
theorem wpAnyZ_takeC (C : List Nat) {i : Nat} {oi : Oper} {v : Value} {fuel : Nat} {listed : Array Bool} {a : Act} {w : World} (hi : ops[i]? = some oi)
    (hs : Region.noSelect ops = true) (hf : Region.free md ops listed i = true) (hr : (Region.ready md ops listed).contains i = true)
    (hz : ((Z.all fun z => C.contains z) && C.all fun m => (listed.getD m true == false) && (i :: C).any fun p => Region.waitsFor md ops m p) = true)
    (hQ : ∀ c a w, Q (.panic c) (a.put oi.dst v) w → Q (.panic c) a w) (hy : YieldsIf P ops S oi v a) (hS : S w)
    (h : wpAnyZ P md ops Q S Z fuel (listed.setIfInBounds i true) (a.put oi.dst v) w) : wpAnyZ P md ops Q S Z (fuel + 1) listed a w := by
  rw [Bool.and_eq_true] at hz
  refine wpAnyZ_firstC hi (Region.noSelect_spec hs) hQ (C := C) (fun z hzm => by simpa using List.all_eq_true.1 hz.1 z hzm) fuel listed a w (Region.free_spec hi hf) (fun m hm => ?_) (by simpa using hr) hy hS h
  have := List.all_eq_true.1 hz.2 m hm
  rw [Bool.and_eq_true] at this
  refine ⟨by simpa using this.1, ?_⟩
  obtain ⟨p, hp, hw⟩ := List.any_eq_true.1 this.2
  exact ⟨p, hp, hw⟩
def AllReadyZ (P : Program) (md : Region.Mode) (ops : Array Oper) (Q : Exit → Act → World → Prop) (S : World → Prop) (Z : List Nat) (fuel : Nat) (listed : Array Bool) (a : Act) (w : World) (rs : List Nat) : Prop :=
  ∀ i ∈ rs, wpOp P ops Q i (fun a' w' => (i ∈ Z ∨ S w') ∧ wpAnyZ P md ops Q S Z fuel (listed.setIfInBounds i true) a' w') a w
theorem AllReadyZ.nil {fuel : Nat} {listed : Array Bool} {a : Act} {w : World} : AllReadyZ P md ops Q S Z fuel listed a w [] := fun _ h => by cases h
theorem AllReadyZ.cons {fuel : Nat} {listed : Array Bool} {a : Act} {w : World} {i : Nat} {o : Oper} {rs : List Nat} (ho : ops[i]? = some o)
    (h : ∀ K' : Act → World → Prop, Shut (∀ a w, (i ∈ Z ∨ S w) → ((i ∈ Z ∨ S w) → wpAnyZ P md ops Q S Z fuel (listed.setIfInBounds i true) a w) → K' a w) → if Region.wanted o (yielded ops a.tmps) = true then Oper.wp P o a w K' Q else K' (a.put o.dst undef) w)
    (hs : AllReadyZ P md ops Q S Z fuel listed a w rs) : AllReadyZ P md ops Q S Z fuel listed a w (i :: rs) := fun j hj => by
  rcases List.mem_cons.1 hj with rfl | hj
  · exact wpOp_step ho (fun K' hK => h K' (fun a w hS hW => hK a w ⟨hS, hW hS⟩))
  · exact hs j hj
theorem wpAnyZ_ready {rs : List Nat} {fuel : Nat} {listed : Array Bool} {a : Act} {w : World} (hr : Region.ready md ops listed = rs) (hne : rs ≠ [])
    (h : AllReadyZ P md ops Q S Z fuel listed a w rs) : wpAnyZ P md ops Q S Z (fuel + 1) listed a w :=
  ⟨fun h0 => absurd (hr.symm.trans h0) hne, fun i hi => h i (hr ▸ hi)⟩
theorem wpAnyZ_done {listed : Array Bool} {a : Act} {w : World} (hr : Region.ready md ops listed = []) (h : Q .normal a w) : ∀ fuel, wpAnyZ P md ops Q S Z fuel listed a w
  | 0 => ⟨hr, h⟩
  | _ + 1 => ⟨fun _ => h, by rw [hr]; simp⟩
theorem wp_region_Z {id : Nat} {a : Act} {w : World} (Z : List Nat) (hm : P.follows .mixedOrders = true) (hS : S w.drew)
    (h : wpAnyZ P .any ops Q S Z ops.size (Array.replicate ops.size false) a w.drew) : (Code.region id ops true).wp P Q a w :=
  wp_region_any hm (wpAny_of_Z _ _ _ _ h)
end
end Go.Proofs.YtimmnnncgnnkgaaGreat

/- ReadLength (reference), extend (program). -/
namespace Go.Proofs.YtimmnnncgnnkgaaGreat
set_option linter.unusedVariables false
set_option linter.unusedSimpArgs false
open Go.RowKit

theorem rdA_is {es : List Ed} : ∀ {w : List Int} {v u : Int} {k : Nat}, goV es v (w.take k) = some u → k ≤ w.length → (k = w.length ∨ ∃ x, w[k]? = some x ∧ nextV es u x < 0) → rdA es v w = (u, k)
  | [], v, u, k, h, hk, h2 => by
    obtain rfl : k = 0 := by simpa using hk
    rw [List.take_nil, goV] at h
    injection h with h
    subst h
    rfl
  | x :: t, v, u, 0, h, hk, h2 => by
    rw [List.take_zero, goV] at h
    injection h with h
    subst h
    rcases h2 with h2 | ⟨y, hy, hn⟩
    · simp at h2
    · simp at hy
      subst hy
      rw [rdA, if_pos hn]
  | x :: t, v, u, k + 1, h, hk, h2 => by
    rw [List.take_succ_cons, goV] at h
    split at h
    · cases h
    · rename_i hn
      have ih := rdA_is (w := t) h (by simpa using hk) (by
        rcases h2 with h2 | ⟨y, hy, hy2⟩
        · exact .inl (by simpa using h2)
        · exact .inr ⟨y, by simpa using hy, hy2⟩)
      rw [rdA, if_neg hn, ih]
theorem goV_rdA {es : List Ed} : ∀ (w : List Int) (v : Int), goV es v (w.take (rdA es v w).2) = some (rdA es v w).1
  | [], v => rfl
  | x :: t, v => by
    by_cases hn : nextV es v x < 0
    · rw [rdA, if_pos hn]
      rfl
    · rw [rdA, if_neg hn]
      simp only [List.take_succ_cons, goV, if_neg hn]
      exact goV_rdA t _
/-- The rest of a row. -/
theorem RV.dropI {w : World} {lo hi b off : Nat} {xs : List Int} (h : RV w lo hi (some ⟨b, off, none⟩) (ints xs)) (k : Nat) : RV w lo hi (some ⟨b, off + k, none⟩) (ints (xs.drop k)) := by
  refine ⟨h.1, fun hn => ?_⟩
  obtain ⟨b', off', hA, h1, h2, h3⟩ := h.2 (by intro h0; apply hn; simp [ints] at h0 ⊢; rw [h0]; simp)
  injection hA with hA
  injection hA with e1 e2
  subst e1 e2
  refine ⟨b, off + k, rfl, h1, h2, fun j u hu => ?_⟩
  have := h3 (k + j) u (by
    simp only [ints, List.getElem?_map, List.getElem?_drop] at hu ⊢
    exact hu)
  rw [Nat.add_assoc]
  exact this

set_option maxHeartbeats 1600000 in
theorem spec_ReadLength (r n v : Nat) (A : Option Addr) (es : List Ed) (c : Nat) (Aw : Option Addr) (wd : List Int) (cw : Nat) (w : World) (lo hi lo' hi' : Nat) (hr : RG w lo hi A es) (hw : RV w lo' hi' Aw (ints wd)) (hf : IsFol r n es) (hv : v < n) (hwl : wd.length ≤ 1048576) (hok : OkI wd) :
    Calls Tryz.prog 89 #[graV r n A es.length c, .int .i64 v, .slice Aw wd.length cw] w fun e w' => e = .returned (.int .i64 ((rdA es v wd).2 : Nat)) ∧ Mid 0 0 w w' := by
  have hg := hf.gr
  have hl := hg.len
  have hn40 : n ≤ 40 := by have := hg.size; omega
  have HGL := Lib.hid (show ∀ e ∈ es, 1 ≤ e.l ∧ e.l ≤ 3 from fun e he => by have := hg.all e he; have := hg.rank; unfold InG at *; omega)
  have HF := Lib.hid hf
  have HOK := Lib.hid hok
  have hm0 : Mid 0 0 w (w.alloc (.cells #[.int .i64 r, .int .i64 n, .slice A es.length c] 29)) := Mid.alloc _ _
  have b0 := Box.new w #[.int .i64 r, .int .i64 n, .slice A es.length c] 29
  have hib : inB (v : Int) 0 ((n : Int) - 1) = true := by unfold inB; simp; omega
  have hw1 : IntKind.i64.wrap ((n : Int) - 1) = (n : Int) - 1 := IntWalk.i64_in _ (by omega)
  obtain ⟨kk, hkk⟩ : ∃ kk, (rdA es (v : Int) wd).2 = kk := ⟨_, rfl⟩
  have HKK := Lib.hid hkk
  rw [hkk]
  clear hg hok hf hkk
  go_enter Tryz.func89, Tryz.ntmps89
  go_wp2_with fail
  with_reducible refine (spec_IsFolded r n A es c _ _ _ (hr.mid hm0 (Or.inl (Nat.zero_le _))) (by omega) true (iff_of_true rfl HF.out)).mono ?_
  rintro en w1 ⟨rfl, hm1⟩
  replace b0 := b0.mid hm1 (Or.inr (Nat.zero_le _))
  replace hm0 := hm0.trans hm1
  have p0 := b0.cell 0 rfl
  have p1 := b0.cell 1 rfl
  have p2 := b0.cell 2 rfl
  go_wp2_with fail
  with_reducible refine (l1In_at hib _).mono ?_
  rintro en w2 ⟨rfl, rfl⟩
  go_wp2_with fail
  clear p0 p1 p2 hm1
  go_loopw [1, 7] (fun vv iv wr => ∃ (k : Nat) (u : Int), k ≤ wd.length ∧ iv = .int .i64 k ∧ vv = .int .i64 u ∧ Hid (goV es v (wd.take k) = some u) ∧ Box wr w.heap.size [.int .i64 r, .int .i64 n, .slice A es.length c] ∧ Mid 0 0 w wr) (fun _ i _ => wd.length - (intOf i).toNat)
  case atStart => exact ⟨0, v, Nat.zero_le _, rfl, rfl, Lib.hid rfl, b0, hm0⟩
  case round =>
    clear b0 hm0
    obtain ⟨k, u, hk, rfl, rfl, HV, b0, hm⟩ := hrel
    by_cases hlt : k < wd.length
    · obtain ⟨B, off, x, rfl, hbh, hx, hcx⟩ := (hw.mid hm (Or.inl (Nat.zero_le _))).at hlt
      have hxr := HOK.out x (List.mem_of_getElem? hx)
      have hk1 : (k : Int) < (wd.length : Int) := by omega
      have hk0 : (0 : Int) ≤ (k : Int) := by omega
      have HX := Lib.hid hx
      have hBs : B < wr.heap.size := by have := hw.1; have := hm.size; omega
      have k0 := wg_cell b0.1 (b0.cell 0 rfl)
      have k1 := wg_cell b0.1 (b0.cell 1 rfl)
      have k2 := wg_cell b0.1 (b0.cell 2 rfl)
      have k4 := wg_cell hBs hcx
      have hA := fun m os => spec_NextVertex r n A es c u x (wg wr m os) lo hi (hr.mid (hm.trans (Mid.ofWg wr m os)) (Or.inl (Nat.zero_le _))) (by omega) HGL.out (by omega) (by omega)
      clear hx hcx
      go_wp2_with fail
      refine wp_region_quiet_wg (by kernel_rfl) (by kernel_rfl) ?_
      repeat
        (with_reducible refine wpQuiet_step (fun K hK => ?_))
        go_simp
        first
          | ((with_reducible refine hK _ ?_); clear hK K)
          | (rw [if_neg (by decide)]; (with_reducible refine hK _ ?_); clear hK K)
          | (apply Exists.intro; refine ⟨fun _ => ?_, hK _ ?_⟩; ((go_at_call 93; exact Calls.wg_of (hA _ _))); clear hK K)
      with_reducible refine wpQuiet_nil ?_
      intro _ hw'
      obtain ⟨⟨nq, osq⟩, hw''⟩ := hw'
      subst hw''
      have hwg := Mid.ofWg wr nq osq
      generalize wg wr nq osq = w6 at hwg ⊢
      replace b0 := b0.mid hwg (Or.inr (Nat.zero_le _))
      replace hm := hm.trans hwg
      generalize htx : nextV es u x = t
      clear k0 k1 k2 k4 hA
      by_cases ht : t < 0
      · have d1 : decide (t < 0) = true := by simpa using ht
        have hfin := rdA_is HV.out hk (.inr ⟨x, HX.out, by rw [htx]; exact ht⟩)
        have HK : Hid (kk = k) := Lib.hid (by rw [← HKK.out, hfin])
        clear ht htx hfin
        go_wp2_with fail
        go_ret
        exact ⟨by rw [HK.out]; rfl, hm⟩
      · have d1 : decide (t < 0) = false := by simpa using ht
        have HN := Lib.hid (goV_next HV.out HX.out (by rw [htx]; exact ht))
        rw [htx] at HN
        clear ht htx
        go_wp2_with fail
        go_roundw
        case rel => exact ⟨k + 1, t, by omega, by go_num, rfl, HN, b0, hm⟩
        case measure => simp [intOf]; omega
    · obtain rfl : k = wd.length := by omega
      have hfin := rdA_is HV.out hk (.inl rfl)
      have HK : Hid (kk = wd.length) := Lib.hid (by rw [← HKK.out, hfin])
      clear hfin
      go_wp2_with fail
      go_ret
      exact ⟨by rw [HK.out]; rfl, hm⟩
end Go.Proofs.YtimmnnncgnnkgaaGreat

/- extend and ConjugateSubgroup, the program. -/
namespace Go.Proofs.YtimmnnncgnnkgaaGreat
set_option linter.unusedVariables false
set_option linter.unusedSimpArgs false
open Go.RowKit

theorem ExtIs.full {r s : Int} {es : List Ed} {w : List Int} {b : Bool} {s2 : Int} {es2 : List Ed} {x : Int} (h : ExtIs r s es w b s2 es2 x) (hk : (rdA es 0 w).2 = w.length) : b = true ∧ s2 = s ∧ es2 = es ∧ x = (rdA es 0 w).1 := by
  rcases h with ⟨h1, -, h2⟩ | ⟨-, h1, -⟩ | ⟨-, h1, -⟩
  · exact ⟨h1, h2⟩
  · omega
  · omega
theorem ExtIs.more {r s : Int} {es : List Ed} {w : List Int} {b : Bool} {s2 : Int} {es2 : List Ed} {x : Int} (h : ExtIs r s es w b s2 es2 x) (hk : (rdA es 0 w).2 < w.length) (hp : s < 40 ∧ PathOk r (s + 1) es (rdA es 0 w).1 (w.drop (rdA es 0 w).2) s) :
    b = true ∧ s2 = s + 1 + ((w.drop (rdA es 0 w).2).length : Int) - 1 ∧ es2 = canon (es ++ pathE (rdA es 0 w).1 (s + 1) (w.drop (rdA es 0 w).2) s (w.drop (rdA es 0 w).2).length) ∧ x = s := by
  rcases h with ⟨-, h1, -⟩ | ⟨h1, -, -, -, h2⟩ | ⟨-, -, h1, -⟩
  · omega
  · exact ⟨h1, h2⟩
  · exact absurd hp h1
theorem ExtIs.not {r s : Int} {es : List Ed} {w : List Int} {b : Bool} {s2 : Int} {es2 : List Ed} {x : Int} (h : ExtIs r s es w b s2 es2 x) (hk : (rdA es 0 w).2 < w.length) (hp : ¬ (s < 40 ∧ PathOk r (s + 1) es (rdA es 0 w).1 (w.drop (rdA es 0 w).2) s)) :
    b = false ∧ s2 = 0 ∧ es2 = [] ∧ x = 0 := by
  rcases h with ⟨-, h1, -⟩ | ⟨-, -, h1, h2, -⟩ | ⟨h1, -, -, h2⟩
  · omega
  · exact absurd ⟨h1, h2⟩ hp
  · exact ⟨h1, h2⟩

end Go.Proofs.YtimmnnncgnnkgaaGreat

/- ConjugateSubgroup, the program. -/
namespace Go.Proofs.YtimmnnncgnnkgaaGreat
set_option linter.unusedVariables false
set_option linter.unusedSimpArgs false
open Go.RowKit

/-- What ConjugateSubgroup gives. -/
def CjIs (r s : Int) (es : List Ed) (wd : List Int) (rr rs : Int) (res : List Ed) (b : Bool) : Prop :=
  (¬ (IsCor r s es ∧ IsW r wd) ∧ b = false ∧ rr = 0 ∧ rs = 0 ∧ res = []) ∨
  ((IsCor r s es ∧ IsW r wd) ∧ ∃ b1 s2 es2 x, ExtIs r s es wd b1 s2 es2 x ∧ ((b1 = false ∧ b = false ∧ rr = 0 ∧ rs = 0 ∧ res = []) ∨ (b1 = true ∧ rr = r ∧ MoveIs r s2 es2 x rs res b)))
theorem CjIs.lens {r s : Int} {es : List Ed} {wd : List Int} {rr rs : Int} {res : List Ed} {b : Bool} (h : CjIs r s es wd rr rs res b) : res.length ≤ 120 := by
  rcases h with ⟨-, -, -, -, rfl⟩ | ⟨hc, b1, s2, es2, x, he, ⟨-, -, -, -, rfl⟩ | ⟨rfl, -, hm⟩⟩
  · simp
  · simp
  · have hg := he.gr hc.1.gr
    rcases hm with ⟨-, hf, -, rfl⟩ | ⟨-, -, -, rfl⟩
    · exact (moveA_gr hg.1 hg.2).len
    · exact hg.1.len
theorem CjIs.no {r s : Int} {es : List Ed} {wd : List Int} {rr rs : Int} {res : List Ed} {b : Bool} (h : CjIs r s es wd rr rs res b) (hn : ¬ (IsCor r s es ∧ IsW r wd)) : b = false ∧ rr = 0 ∧ rs = 0 ∧ res = [] := by
  rcases h with ⟨-, h⟩ | ⟨h, -⟩
  · exact h
  · exact absurd h hn
theorem CjIs.yes {r s : Int} {es : List Ed} {wd : List Int} {rr rs : Int} {res : List Ed} {b : Bool} (h : CjIs r s es wd rr rs res b) (hn : IsCor r s es ∧ IsW r wd) :
    ∃ b1 s2 es2 x, ExtIs r s es wd b1 s2 es2 x ∧ ((b1 = false ∧ b = false ∧ rr = 0 ∧ rs = 0 ∧ res = []) ∨ (b1 = true ∧ rr = r ∧ MoveIs r s2 es2 x rs res b)) := by
  rcases h with ⟨h, -⟩ | ⟨-, h⟩
  · exact absurd hn h
  · exact h

end Go.Proofs.YtimmnnncgnnkgaaGreat

/- ConjugateSubgroup, the reference. -/
namespace Go.Proofs.YtimmnnncgnnkgaaGreat
set_option linter.unusedVariables false
set_option linter.unusedSimpArgs false
open Go.RowKit

theorem RV.takeI {w : World} {lo hi : Nat} {A : Option Addr} {xs : List Int} (h : RV w lo hi A (ints xs)) (k : Nat) : RV w lo hi A (ints (xs.take k)) := by
  refine ⟨h.1, fun hn => ?_⟩
  obtain ⟨b, off, hA, h1, h2, h3⟩ := h.2 (by intro h0; apply hn; simp [ints] at h0 ⊢; right; exact h0)
  refine ⟨b, off, hA, h1, h2, fun j u hu => h3 j u ?_⟩
  simp only [ints, List.getElem?_map, List.getElem?_take] at hu ⊢
  split at hu
  · exact hu
  · cases hu

end Go.Proofs.YtimmnnncgnnkgaaGreat

/- ReduceLetters and MultiplyWords of the reference. -/
namespace Go.Proofs.YtimmnnncgnnkgaaGreat
set_option linter.unusedVariables false
set_option linter.unusedSimpArgs false
open Go.RowKit

theorem invB_spec {a x : Int} (ha : -9223372036854775808 ≤ a ∧ a ≤ 9223372036854775807) (hx : -9223372036854775808 ≤ x ∧ x ≤ 9223372036854775807) :
    invB a x = true ↔ (x ≠ 0 ∧ a = wrap64 (-x) ∧ a ≠ x) := by
  rw [invB_iff, wrap_neg hx.1 hx.2]
  unfold negI minI
  split <;> omega

/-- What holds of the list so far. -/
def RdOut (w wr : World) (v : Value) (out : List Int) : Prop := wr.ownsRow w.heap.size 3 1 v out.length (ints out) ∧ Below w.heap.size w wr
set_option maxHeartbeats 6400000 in
theorem spec_ReduceLetters (A : Option Addr) (xs : List Int) (c : Nat) (w : World) (B : Nat) (hr : Rs w B A (ints xs)) (hB : B ≤ w.heap.size) (hok : OkI xs) (hl : xs.length ≤ 268435456) :
    Calls Tryz.prog 88 #[.slice A xs.length c] w fun e w' => RetI 3 (red [] xs) w e w' := by
  have HOK := Lib.hid hok
  clear hok
  have hb0 := (Below.refl w.heap.size w).alloc (Nat.le_refl _) (.cells #[] 3)
  have ho0 := owns_empty w 3 1
  go_enter Tryz.func88, Tryz.ntmps88
  go_wp2_with fail
  go_loopw [3, 4, 5] (fun v i _ wr => ∃ k : Nat, k ≤ xs.length ∧ i = .int .i64 k ∧ RdOut w wr v (red [] (xs.take k))) (fun _ i _ _ => xs.length - (intOf i).toNat)
  case atStart => exact ⟨0, Nat.zero_le _, rfl, ho0, hb0⟩
  case round =>
    obtain ⟨k, hk, rfl, hown, hb⟩ := hrel
    have hsz := hb.size
    by_cases hlt : k < xs.length
    · obtain ⟨b, off, x, rfl, -, hxx, hc⟩ := ((hr.more hB).below hb).int hlt
      have hlt3 : (k : Int) < (xs.length : Int) := by omega
      have hst := red_step xs hxx []
      have hbx := HOK.out x (List.mem_of_getElem? hxx)
      have hlen := red_len [] (xs.take k)
      rw [List.length_take, List.length_nil, Nat.zero_add] at hlen
      have hok1 : OkI (red [] (xs.take k)) := red_ok fun y hy => HOK.out y (List.mem_of_mem_take hy)
      obtain ⟨out1, ho1⟩ : ∃ o, o = red [] (xs.take k) := ⟨_, rfl⟩
      rw [← ho1] at hown hst hlen hok1
      have HBX := Lib.hid hbx
      have HST := Lib.hid hst
      clear ho1 hxx hbx hst
      rcases Nat.eq_zero_or_pos out1.length with he | hp
      · obtain rfl := List.eq_nil_of_length_eq_zero he
        clear he hok1 hlen
        obtain ⟨A1, c1, rfl, -, -⟩ := owns_shape hown
        go_wp2_with fail
        go_quiet (fail)
        go_wp2_with (at_builtin; refine wpList_push rfl _ _ 25 rfl w.heap.size 3 (.int .i64 0) 1 8 undSI infoI rfl (by decide) _ _ _ rfl (owns_drewN hown _) 1 [.int .i64 x] rfl rfl (one_of_ints [x]) (by unfold maxLen; simp) (by simp) hsz ?n1)
        case n1 =>
          intro v' w1 hown1 hgr _
          go_wp2_with fail
          go_roundw
          case rel =>
            refine ⟨k + 1, by omega, by go_num, ?_, hb.grown (owns_row hgr) hsz (fun g hg => (hown.lt g hg).1)⟩
            rw [HST.out, redStep_empty]
            exact hown1
          case measure => simp [intOf]; omega
      · obtain ⟨ys, a, rfl⟩ := eq_concat out1 hp
        have hba := hok1 a (by simp)
        rw [List.length_append] at hown hlen
        simp only [List.length_cons, List.length_nil, Nat.zero_add] at hown hlen
        clear hp hok1
        obtain ⟨A1, c1, rfl, hnc, -⟩ := owns_shape hown
        obtain ⟨g, rfl, -, -⟩ := owns_addr hown (Nat.succ_pos _)
        have hca : wr.cell? ⟨g, ys.length, none⟩ = some (.int .i64 a) := by
          rw [hown.cellAt ys.length (by omega)]
          simp [ints]
        have hiff := invB_spec hba HBX.out
        have HI := Lib.hid hiff
        clear hba hiff
        obtain ⟨nx, hnx⟩ : ∃ nx, wrap64 (-x) = nx := ⟨_, rfl⟩
        have hp0 : (0 : Int) < (ys.length : Int) + 1 := by omega
        have hp1 : (ys.length : Int) + 1 - 1 = (ys.length : Int) := by omega
        have hys : ys.length ≤ c1 := by omega
        by_cases hpop : invB a x = true
        · obtain ⟨h1, h2, h3⟩ := HI.out.1 hpop
          have hx0 : (x != 0) = true := by simpa using h1
          have hanx : (a == nx) = true := by rw [← hnx]; simpa using h2
          have hax : (a != x) = true := by simpa using h3
          have HP := Lib.hid hpop
          clear h1 h2 h3 hpop
          go_wp2_with fail
          go_quiet (fail)
          go_wp2_with fail
          go_roundw
          case rel =>
            refine ⟨k + 1, by omega, by go_num, ?_, by first | exact below_drewN hb _ | exact hb⟩
            rw [HST.out, redStep_pop HP.out]
            have h1 := owns_cut hown (Nat.le_succ ys.length)
            rw [Nat.mul_one, ints_append, List.take_left' (ints_len ys)] at h1
            exact owns_drewN h1 _
          case measure => simp [intOf]; omega
        · have hpf : invB a x = false := by simpa using hpop
          have HP := Lib.hid hpf
          have hcases : (x != 0) = false ∨ ((x != 0) = true ∧ (a == nx) = false) ∨ ((x != 0) = true ∧ (a == nx) = true ∧ (a != x) = false) := by
            rw [← hnx]
            by_cases h1 : x = 0
            · left; simpa using h1
            · by_cases h2 : a = wrap64 (-x)
              · right; right
                refine ⟨by simpa using h1, by simpa using h2, ?_⟩
                cases hv : (a != x) with
                | false => rfl
                | true => exact absurd (HI.out.2 ⟨h1, h2, by simpa using hv⟩) hpop
              · right; left
                exact ⟨by simpa using h1, by simpa using h2⟩
          clear hpop hpf
          rcases hcases with h1 | ⟨h1, h2⟩ | ⟨h1, h2, h3⟩
          · go_wp2_with fail
            go_quiet (fail)
            go_wp2_with (at_builtin; refine wpList_push rfl _ _ 25 rfl w.heap.size 3 (.int .i64 0) 1 8 undSI infoI rfl (by decide) _ _ _ rfl (owns_drewN hown _) 1 [.int .i64 x] rfl rfl (one_of_ints [x]) (by unfold maxLen; omega) (by omega) hsz ?n2)
            case n2 =>
              intro v' w1 hown1 hgr _
              go_wp2_with fail
              go_roundw
              case rel =>
                refine ⟨k + 1, by omega, by go_num, ?_, hb.grown (owns_row hgr) hsz (fun g hg => (hown.lt g hg).1)⟩
                rw [HST.out, redStep_push HP.out, ints_append, List.length_append, List.length_append]
                exact hown1
              case measure => simp [intOf]; omega
          · go_wp2_with fail
            go_quiet (fail)
            go_wp2_with (at_builtin; refine wpList_push rfl _ _ 25 rfl w.heap.size 3 (.int .i64 0) 1 8 undSI infoI rfl (by decide) _ _ _ rfl (owns_drewN hown _) 1 [.int .i64 x] rfl rfl (one_of_ints [x]) (by unfold maxLen; omega) (by omega) hsz ?n3)
            case n3 =>
              intro v' w1 hown1 hgr _
              go_wp2_with fail
              go_roundw
              case rel =>
                refine ⟨k + 1, by omega, by go_num, ?_, hb.grown (owns_row hgr) hsz (fun g hg => (hown.lt g hg).1)⟩
                rw [HST.out, redStep_push HP.out, ints_append, List.length_append, List.length_append]
                exact hown1
              case measure => simp [intOf]; omega
          · go_wp2_with fail
            go_quiet (fail)
            go_wp2_with (at_builtin; refine wpList_push rfl _ _ 25 rfl w.heap.size 3 (.int .i64 0) 1 8 undSI infoI rfl (by decide) _ _ _ rfl (owns_drewN hown _) 1 [.int .i64 x] rfl rfl (one_of_ints [x]) (by unfold maxLen; omega) (by omega) hsz ?n4)
            case n4 =>
              intro v' w1 hown1 hgr _
              go_wp2_with fail
              go_roundw
              case rel =>
                refine ⟨k + 1, by omega, by go_num, ?_, hb.grown (owns_row hgr) hsz (fun g hg => (hown.lt g hg).1)⟩
                rw [HST.out, redStep_push HP.out, ints_append, List.length_append, List.length_append]
                exact hown1
              case measure => simp [intOf]; omega
    · obtain rfl : k = xs.length := by omega
      rw [List.take_length] at hown
      have hlr := red_nil_len xs
      obtain ⟨out, hout⟩ : ∃ o, o = red [] xs := ⟨_, rfl⟩
      rw [← hout] at hown hlr
      have HO := Lib.hid hout
      clear hout
      obtain ⟨A1, c1, rfl, hnc, -⟩ := owns_shape hown
      have ho2 := owns_empty wr 3 1
      have ho2' : (wr.alloc (.cells #[] 3)).ownsRow w.heap.size 3 1 (.slice (some ⟨wr.heap.size, 0, none⟩) 0 0) 0 [] := owns_base ho2 hsz
      have hra : Rs (wr.alloc (.cells #[] 3)) wr.heap.size A1 (ints out) := (Rs.of_own hown).alloc (Nat.le_refl _) _
      have hla : (ints out).length = out.length * 1 := by rw [ints_len]; omega
      go_wp2_with (at_builtin; refine wpList_cat rfl _ _ 25 rfl w.heap.size 3 (.int .i64 0) 1 8 undSI infoI rfl (by decide) _ _ _ rfl ho2' A1 out.length c1 wr.heap.size (ints out) rfl hra hla (one_of_ints _) ?c2 ?c3 (by simp; omega) ?next)
      case c2 => unfold maxLen; omega
      case c3 => omega
      case next =>
        intro v1 w1 hown1 hgr1 _
        have hb1 : Below w.heap.size w w1 := (hb.grown (World.grownBy_alloc wr _ none) hsz (by intro g h; cases h)).grown hgr1 (by simp; omega) (fun g hg => (ho2'.lt g hg).1)
        go_wp2_with fail
        go_ret
        rw [← HO.out]
        exact RetI.mk rfl (by simpa using hown1) hb1
end Go.Proofs.YtimmnnncgnnkgaaGreat

/- loops, Contains and l16Hair. -/
namespace Go.Proofs.YtimmnnncgnnkgaaGreat
set_option linter.unusedVariables false
set_option linter.unusedSimpArgs false
open Go.RowKit

set_option maxHeartbeats 1600000 in
theorem impl_loops (r n : Nat) (A : Option Addr) (es : List Ed) (c : Nat) (Aw : Option Addr) (wd : List Int) (cw : Nat) (w : World) (lo hi lo' hi' : Nat) (hr : RG w lo hi A es) (hw : RV w lo' hi' Aw (ints wd)) (hg : IsGr r n es) (hwl : wd.length ≤ 1048576) (hok : OkI wd) (b : Bool) (hb : b = true ↔ LoopP es wd) :
    Calls Tryz.prog 60 #[graV r n A es.length c, .slice Aw wd.length cw] w fun e w' => e = .returned (.bool b) ∧ Mid 0 0 w w' := by
  have hm0 : Mid 0 0 w (w.alloc (.cells #[.int .i64 r, .int .i64 n, .slice A es.length c] 29)) := Mid.alloc _ _
  have b0 := Box.new w #[.int .i64 r, .int .i64 n, .slice A es.length c] 29
  have HB := Lib.hid hb
  clear hb
  go_enter Tryz.func60, Tryz.ntmps60
  go_wp2_with fail
  with_reducible refine (impl_read r n A es c 0 Aw wd cw _ _ _ _ _ (hr.mid hm0 (Or.inl (Nat.zero_le _))) (hw.mid hm0 (Or.inl (Nat.zero_le _))) hg hwl hok).mono ?_
  rintro en w2 ⟨u, k, rfl, hk, hgo, hend, hm2⟩
  have hrd : rdA es 0 wd = (u, k) := rdA_is hgo hk hend
  have hL : LoopP es wd ↔ k = wd.length ∧ u = 0 := by unfold LoopP; rw [hrd]
  have HL := Lib.hid hL
  clear hgo hend hrd hL
  rcases (Decidable.em (k = wd.length)).symm with h1 | h1
  · have dk : ((k : Int) == (wd.length : Int)) = false := by simp only [beq_eq_false_iff_ne]; omega
    obtain rfl : b = false := bool_no HB.out fun h => h1 (HL.out.1 h).1
    clear h1
    go_wp2_with fail
    go_ret
    exact ⟨rfl, hm0.trans hm2⟩
  · subst h1
    rcases (Decidable.em (u = 0)).symm with h2 | h2
    · have dk : (u == 0) = false := by simpa using h2
      obtain rfl : b = false := bool_no HB.out fun h => h2 (HL.out.1 h).2
      clear h2
      go_wp2_with fail
      go_ret
      exact ⟨rfl, hm0.trans hm2⟩
    · subst h2
      obtain rfl : b = true := HB.out.2 (HL.out.2 ⟨rfl, rfl⟩)
      go_wp2_with fail
      go_ret
      exact ⟨rfl, hm0.trans hm2⟩

theorem rdA_go (es : List Ed) : ∀ (w : List Int) (v u : Int), goV es v w = some u ↔ rdA es v w = (u, w.length)
  | [], v, u => by simp [goV, rdA]
  | x :: t, v, u => by
    rw [goV, rdA]
    split
    · constructor
      · intro h; cases h
      · intro h
        have := congrArg Prod.snd h
        simp at this
    · rw [rdA_go es t _ u]
      constructor
      · intro h; rw [h]; rfl
      · intro h
        have h1 := congrArg Prod.fst h
        have h2 := congrArg Prod.snd h
        simp at h1 h2
        exact Prod.ext h1 h2
theorem loop_go {es : List Ed} {w : List Int} : LoopP es w ↔ goV es 0 w = some 0 := by
  rw [rdA_go]
  constructor
  · intro h; exact Prod.ext h.2 h.1
  · intro h; exact ⟨congrArg Prod.snd h, congrArg Prod.fst h⟩

set_option maxHeartbeats 3200000 in
set_option maxRecDepth 20000 in
theorem spec_Contains (r n : Nat) (A : Option Addr) (es : List Ed) (c : Nat) (Aw : Option Addr) (wd : List Int) (cw : Nat) (w : World) (lo hi lo' hi' : Nat) (hr : RG w lo hi A es) (hw : RV w lo' hi' Aw (ints wd)) (hc : IsCor r n es) (hword : IsW r wd) (hwl : wd.length ≤ 1048576) (hok : OkI wd) (b : Bool) (hb : b = true ↔ LoopP es wd) :
    Calls Tryz.prog 54 #[graV r n A es.length c, .slice Aw wd.length cw] w fun e w' => e = .returned (.bool b) ∧ Mid 0 0 w w' := by
  have hm0 : Mid 0 0 w (w.alloc (.cells #[.int .i64 r, .int .i64 n, .slice A es.length c] 29)) := Mid.alloc _ _
  have b0 := Box.new w #[.int .i64 r, .int .i64 n, .slice A es.length c] 29
  have HB : Hid (b = true ↔ goV es 0 wd = some 0) := Lib.hid (hb.trans loop_go)
  have HOK := Lib.hid hok
  have HC := Lib.hid hc
  have hsz := hc.gr.size
  have hl := hc.gr.len
  have hRL := fun W (h : RV W lo' hi' Aw (ints wd)) => spec_ReduceLetters Aw wd cw W hi' h.rs h.1 hok (by omega)
  rw [red_word hword.2.2.2] at hRL
  have HRL := Lib.hid hRL
  have hWW : ∀ (W : World) (A4 : Option Addr) (c4 a4 b4 : Nat), RG W lo hi A es → RV W a4 b4 A4 (ints wd) → Calls Tryz.prog 79 #[graV r n A es.length c, .int .i64 0, .slice A4 wd.length c4] W fun e w' => ∃ (u : Int) (b : Bool), e = .returned (.tuple #[.int .i64 u, .bool b]) ∧ (b = true → goV es 0 wd = some u) ∧ (b = false → goV es 0 wd = none) ∧ Mid 0 0 W w' :=
    fun W A4 c4 a4 b4 h1 h2 => spec_WalkWord r n 0 A es c A4 wd c4 W lo hi a4 b4 h1 h2 hc.fol (by omega) hwl hok
  have HWW := Lib.hid hWW
  clear hb hok hc hRL hword hWW
  go_enter Tryz.func54, Tryz.ntmps54
  go_wp2_with fail
  generalize (w.alloc (.cells #[.int .i64 r, .int .i64 n, .slice A es.length c] 29)) = w1 at hm0 b0 ⊢
  have hmd := Mid.drew1 w1
  replace b0 := b0.mid hmd (Or.inr (Nat.zero_le _))
  replace hm0 := hm0.trans hmd
  have p0 := b0.cell 0 rfl
  have p1 := b0.cell 1 rfl
  have p2 := b0.cell 2 rfl
  clear hmd
  refine wp_region_Z (S := (fun w' => w'.cell? ⟨w.heap.size, 0, none⟩ = some (.int .i64 r) ∧ w'.cell? ⟨w.heap.size, 1, none⟩ = some (.int .i64 n) ∧ w'.cell? ⟨w.heap.size, 2, none⟩ = some (.slice A es.length c))) [] (by kernel_rfl) ⟨p0, p1, p2⟩ ?_
  generalize World.drew w1 = wz at b0 hm0 p0 p1 p2 ⊢
  have hS : wz.cell? ⟨w.heap.size, 0, none⟩ = some (.int .i64 r) ∧ wz.cell? ⟨w.heap.size, 1, none⟩ = some (.int .i64 n) ∧ wz.cell? ⟨w.heap.size, 2, none⟩ = some (.slice A es.length c) := ⟨p0, p1, p2⟩
  refine wpAnyZ_takeC [] (i := 0) (v := ?_) rfl (by kernel_rfl) (by kernel_rfl) (by kernel_rfl) (by kernel_rfl) (fun _ _ _ h => h) (Or.inl ⟨by rfl, ?_⟩) hS ?_
  rotate_left
  focus (intro w hSw; (try dsimp only at hSw); go_simp; try with_reducible rfl)
  try simp only [Act.put, List.setIfInBounds_toArray, List.set_cons_zero, List.set_cons_succ, List.getElem_toArray, List.getElem_cons_zero, List.getElem_cons_succ]
  refine wpAnyZ_takeC [] (i := 1) (v := ?_) rfl (by kernel_rfl) (by kernel_rfl) (by kernel_rfl) (by kernel_rfl) (fun _ _ _ h => h) (Or.inl ⟨by rfl, ?_⟩) hS ?_
  rotate_left
  focus (intro w hSw; (try dsimp only at hSw); go_simp; try with_reducible rfl)
  try simp only [Act.put, List.setIfInBounds_toArray, List.set_cons_zero, List.set_cons_succ, List.getElem_toArray, List.getElem_cons_zero, List.getElem_cons_succ]
  refine wpAnyZ_ready (rs := [2]) (by kernel_rfl) (by simp) (AllReadyZ.cons rfl (fun K hK => ?_) AllReadyZ.nil)
  (go_simp; (with_reducible refine (HRL.out _ (hw.mid hm0 (Or.inl (Nat.zero_le _)))).mono ?_); rintro en w4 ⟨A4, c4, rfl, ho4, hbe4⟩; have hm4 : Mid 0 0 wz w4 := Mid.of_below hbe4; have b04 := b0.mid hm4 (Or.inr (Nat.zero_le _)); go_wp2_with fail)
  refine hK.out _ _ (Or.inr ⟨b04.cell 0 rfl, b04.cell 1 rfl, b04.cell 2 rfl⟩) (fun _ => ?_)
  clear hK K
  try simp only [Act.put, List.setIfInBounds_toArray, List.set_cons_zero, List.set_cons_succ, List.getElem_toArray, List.getElem_cons_zero, List.getElem_cons_succ]
  replace hm0 := hm0.trans hm4
  clear hS p0 p1 p2 b0
  refine wpAnyZ_ready (rs := [3]) (by kernel_rfl) (by simp) (AllReadyZ.cons rfl (fun K hK => ?_) AllReadyZ.nil)
  (go_simp; (with_reducible refine (HWW.out w4 A4 c4 _ _ (hr.mid hm0 (Or.inl (Nat.zero_le _))) (owns_rv ho4)).mono ?_); rintro en w5 ⟨u, bb, rfl, h1, h2, hm5⟩; have b05 := b04.mid hm5 (Or.inr (Nat.zero_le _)); go_wp2_with fail)
  refine hK.out _ _ (Or.inr ⟨b05.cell 0 rfl, b05.cell 1 rfl, b05.cell 2 rfl⟩) (fun _ => ?_)
  clear hK K
  try simp only [Act.put, List.setIfInBounds_toArray, List.set_cons_zero, List.set_cons_succ, List.getElem_toArray, List.getElem_cons_zero, List.getElem_cons_succ]
  replace hm0 := hm0.trans hm5
  have hS5 := And.intro (b05.cell 0 rfl) (And.intro (b05.cell 1 rfl) (b05.cell 2 rfl))
  clear b04 hm4 hm5 ho4 hbe4
  have HH1 := Lib.hid h1
  have HH2 := Lib.hid h2
  clear h1 h2
  refine wpAnyZ_takeC [] (i := 4) (v := ?_) rfl (by kernel_rfl) (by kernel_rfl) (by kernel_rfl) (by kernel_rfl) (fun _ _ _ h => h) (Or.inl ⟨by rfl, ?_⟩) hS5 ?_
  rotate_left
  focus (intro w hSw; (try dsimp only at hSw); go_simp; try with_reducible rfl)
  try simp only [Act.put, List.setIfInBounds_toArray, List.set_cons_zero, List.set_cons_succ, List.getElem_toArray, List.getElem_cons_zero, List.getElem_cons_succ]
  refine wpAnyZ_takeC [] (i := 5) (v := ?_) rfl (by kernel_rfl) (by kernel_rfl) (by kernel_rfl) (by kernel_rfl) (fun _ _ _ h => h) (Or.inl ⟨by rfl, ?_⟩) hS5 ?_
  rotate_left
  focus (intro w hSw; (try dsimp only at hSw); go_simp; try with_reducible rfl)
  try simp only [Act.put, List.setIfInBounds_toArray, List.set_cons_zero, List.set_cons_succ, List.getElem_toArray, List.getElem_cons_zero, List.getElem_cons_succ]
  refine wpAnyZ_takeC [] (i := 6) (v := ?_) rfl (by kernel_rfl) (by kernel_rfl) (by kernel_rfl) (by kernel_rfl) (fun _ _ _ h => h) (Or.inl ⟨by rfl, ?_⟩) hS5 ?_
  rotate_left
  focus (intro w hSw; (try dsimp only at hSw); go_simp; try with_reducible rfl)
  try simp only [Act.put, List.setIfInBounds_toArray, List.set_cons_zero, List.set_cons_succ, List.getElem_toArray, List.getElem_cons_zero, List.getElem_cons_succ]
  refine wpAnyZ_ready (rs := [7]) (by kernel_rfl) (by simp) (AllReadyZ.cons rfl (fun K hK => ?_) AllReadyZ.nil)
  go_simp
  refine hK.out _ _ (Or.inr hS5) (fun _ => ?_)
  clear hK K
  try simp only [Act.put, List.setIfInBounds_toArray, List.set_cons_zero, List.set_cons_succ, List.getElem_toArray, List.getElem_cons_zero, List.getElem_cons_succ]
  refine wpAnyZ_ready (rs := [8]) (by kernel_rfl) (by simp) (AllReadyZ.cons rfl (fun K hK => ?_) AllReadyZ.nil)
  go_simp
  refine hK.out _ _ (Or.inr hS5) (fun _ => ?_)
  clear hK K
  try simp only [Act.put, List.setIfInBounds_toArray, List.set_cons_zero, List.set_cons_succ, List.getElem_toArray, List.getElem_cons_zero, List.getElem_cons_succ]
  refine wpAnyZ_done (by kernel_rfl) ?_ _
  clear hS5
  have p0 := b05.cell 0 rfl
  have p1 := b05.cell 1 rfl
  have p2 := b05.cell 2 rfl
  go_wp2_with fail
  with_reducible refine (spec_IsSubgroup r n A es c _ _ _ (hr.mid hm0 (Or.inl (Nat.zero_le _))) (by omega) true (iff_of_true rfl HC.out)).mono ?_
  rintro en w6 ⟨rfl, hm6⟩
  replace hm0 := hm0.trans hm6
  cases bb with
  | false =>
    obtain rfl : b = false := bool_no HB.out fun h => by have := HH2.out rfl; rw [h] at this; cases this
    go_wp2_with fail
    go_ret
    exact ⟨rfl, hm0⟩
  | true =>
    rcases (Decidable.em (u = 0)).symm with hu | hu
    · have du : (u == 0) = false := by simpa using hu
      obtain rfl : b = false := bool_no HB.out fun h => by have := HH1.out rfl; rw [h] at this; injection this with this; exact hu this.symm
      clear hu
      go_wp2_with fail
      go_ret
      exact ⟨rfl, hm0⟩
    · subst hu
      obtain rfl : b = true := HB.out.2 (HH1.out rfl)
      go_wp2_with fail
      go_ret
      exact ⟨rfl, hm0⟩

set_option maxHeartbeats 3200000 in
set_option maxRecDepth 20000 in
theorem spec_l16Hair (r n : Nat) (A : Option Addr) (es : List Ed) (c : Nat) (Aw : Option Addr) (wd : List Int) (cw : Nat) (w : World) (lo hi lo' hi' : Nat) (hr : RG w lo hi A es) (hw : RV w lo' hi' Aw (ints wd)) (hcw : wd.length ≤ cw) (hf : IsFol r n es) (hwl : wd.length ≤ 1048576) (hok : OkI wd)
    (b : Bool) (s2 : Int) (es2 : List Ed) (x : Int) (he : ExtIs r n es wd b s2 es2 x) :
    Calls Tryz.prog 55 #[graV r n A es.length c, .slice Aw wd.length cw] w fun e w' => ∃ (A1 : Option Addr) (c1 : Nat) (rr rs1 : Int) (es1 : List Ed), e = .returned (.tuple #[graV rr rs1 A1 es1.length c1, .bool b]) ∧ (b = true → rr = r ∧ rs1 = s2 ∧ es1 = es2) ∧ OG w' w.heap.size w'.heap.size A1 c1 es1 ∧ Mid 0 0 w w' := by
  have hm0 : Mid 0 0 w ((w.alloc (.cells #[.int .i64 r, .int .i64 n, .slice A es.length c] 29)).alloc (.cells #[.int .i64 0, .int .i64 0, .slice none 0 0] 29)) := (Mid.alloc _ _).trans (Mid.alloc _ _)
  have b0 := (Box.new w #[.int .i64 r, .int .i64 n, .slice A es.length c] 29).mid (Mid.alloc _ (.cells #[.int .i64 0, .int .i64 0, .slice none 0 0] 29)) (Or.inr (Nat.zero_le _))
  have b2 := Box.new (w.alloc (.cells #[.int .i64 r, .int .i64 n, .slice A es.length c] 29)) #[.int .i64 0, .int .i64 0, .slice none 0 0] 29
  simp only [World.size_alloc] at b2
  have HOK := Lib.hid hok
  have HC0 := Lib.hid hf
  have HE := Lib.hid he
  have hsz := hf.gr.size
  have hl := hf.gr.len
  clear hok hf he
  go_enter Tryz.func55, Tryz.ntmps55
  go_wp2_with fail
  generalize ((w.alloc (.cells #[.int .i64 r, .int .i64 n, .slice A es.length c] 29)).alloc (.cells #[.int .i64 0, .int .i64 0, .slice none 0 0] 29)) = w3 at hm0 b0 b2 ⊢
  have hs1 : w.heap.size + 1 < w3.heap.size := b2.1
  have p0 := b0.cell 0 rfl
  have p1 := b0.cell 1 rfl
  have p2 := b0.cell 2 rfl
  have hn1 : 1 ≤ n ∧ n ≤ 40 := by omega
  have hz0 : ((0 : Nat) : Int) = 0 := rfl
  have hRL := fun W h1 h2 => spec_ReadLength r n 0 A es c Aw wd cw W lo hi lo' hi' h1 h2 HC0.out (by omega) hwl HOK.out
  simp only [hz0] at hRL
  obtain ⟨u, k, hrd⟩ : ∃ u k, rdA es 0 wd = (u, k) := ⟨_, _, rfl⟩
  have hk2 : (rdA es 0 wd).2 = k := by rw [hrd]
  have hk1 : (rdA es 0 wd).1 = u := by rw [hrd]
  have hgo := goV_rdA (es := es) wd 0
  have hkl := rdA_le es wd 0
  have hu := rdA_in HC0.out.gr.all wd (v := 0) (by omega)
  rw [hk2, hk1] at hgo
  rw [hk2] at hkl
  rw [hk1] at hu
  simp only [hk2] at hRL
  have HK1 := Lib.hid hk1
  have HK2 := Lib.hid hk2
  have HRL := Lib.hid hRL
  have htl : (wd.take k).length = k := by rw [List.length_take]; omega
  have hWW : ∀ W, RG W lo hi A es → RV W lo' hi' Aw (ints wd) → Calls Tryz.prog 79 #[graV r n A es.length c, .int .i64 0, .slice Aw k cw] W fun e w' => e = .returned (.tuple #[.int .i64 u, .bool true]) ∧ Mid 0 0 W w' := by
    intro W h1 h2
    have h3 := spec_WalkWord r n 0 A es c Aw (wd.take k) cw W lo hi lo' hi' h1 (h2.takeI k) HC0.out (by omega) (by omega) (fun q hq => HOK.out q (List.mem_of_mem_take hq))
    rw [htl] at h3
    refine h3.mono ?_
    rintro e w' ⟨u', b', rfl, h4, h5, h6⟩
    have hz : goV es ((0 : Nat) : Int) (wd.take k) = some u := hgo
    cases b' with
    | true =>
      have := h4 rfl
      rw [hz] at this
      injection this with this
      subst this
      exact ⟨rfl, h6⟩
    | false =>
      have := h5 rfl
      rw [hz] at this
      cases this
  have HWW := Lib.hid hWW
  clear hrd hk2 hk1 hgo hz0 hRL htl hWW
  with_reducible refine (HRL.out _ (hr.mid hm0 (Or.inl (Nat.zero_le _))) (hw.mid hm0 (Or.inl (Nat.zero_le _)))).mono ?_
  rintro en w4 ⟨rfl, hm4⟩
  replace b0 := b0.mid hm4 (Or.inr (Nat.zero_le _))
  replace b2 := b2.mid hm4 (Or.inr (Nat.zero_le _))
  replace hm0 := hm0.trans hm4
  have hs4 := hm4.size
  clear hm4 HRL p0 p1 p2
  rcases Nat.lt_or_ge k wd.length with hlt | hge
  · have dk : ((k : Int) == (wd.length : Int)) = false := by simp only [beq_eq_false_iff_ne]; omega
    have hdl : (wd.drop k).length = wd.length - k := List.length_drop
    have hkc : k ≤ cw := by omega
    have hkw : (k : Int) ≤ (wd.length : Int) := by omega
    have v0 := wg_cell b0.1 (b0.cell 0 rfl)
    have v1 := wg_cell b0.1 (b0.cell 1 rfl)
    have v2 := wg_cell b0.1 (b0.cell 2 rfl)
    have hA : ∀ (m : Nat) (os : Array Obj), Calls Tryz.prog 79 #[graV r n A es.length c, .int .i64 0, .slice Aw k cw] (wg w4 m os) fun e w'' => e = .returned (.tuple #[.int .i64 u, .bool true]) ∧ ∃ q : GB, w'' = wg w4 q.n q.os := fun m os =>
      Calls.wg_of (HWW.out (wg w4 m os) (hr.mid (hm0.trans (Mid.ofWg w4 m os)) (Or.inl (Nat.zero_le _))) (hw.mid (hm0.trans (Mid.ofWg w4 m os)) (Or.inl (Nat.zero_le _))))
    go_wp2_with fail
    refine wp_region_quiet_wg (by kernel_rfl) (by kernel_rfl) ?_
    repeat
      (with_reducible refine wpQuiet_step (fun K hK => ?_))
      go_simp
      first
        | ((with_reducible refine hK _ ?_); clear hK K)
        | (rw [if_neg (by decide)]; (with_reducible refine hK _ ?_); clear hK K)
        | (apply Exists.intro; refine ⟨fun _ => ?_, hK _ ?_⟩; ((go_at_call 79; with_reducible exact hA _ _)); clear hK K)
    with_reducible refine wpQuiet_nil ?_
    intro _ hw'
    obtain ⟨⟨nq, osq⟩, hw''⟩ := hw'
    subst hw''
    have hwg := Mid.ofWg w4 nq osq
    have hs5 := hwg.size
    generalize wg w4 nq osq = w5 at hwg hs5 ⊢
    replace b0 := b0.mid hwg (Or.inr (Nat.zero_le _))
    replace b2 := b2.mid hwg (Or.inr (Nat.zero_le _))
    replace hm0 := hm0.trans hwg
    clear v0 v1 v2 hA HWW hwg
    have p0 := b0.cell 0 rfl
    have p1 := b0.cell 1 rfl
    have p2 := b0.cell 2 rfl
    go_wp2_with fail
    generalize w5 = w7 at b0 b2 hm0 hs5 p0 p1 p2 ⊢
    by_cases h40 : n < 40
    · have hav : AvIs r n es ((n : Int) + 1) true := .inl ⟨rfl, ⟨HC0.out.gr, by omega⟩, rfl⟩
      with_reducible refine (spec_AddVertex r n A es c w7 _ _ (hr.mid hm0 (Or.inl (Nat.zero_le _))) (by omega) ((n : Int) + 1) true hav).mono ?_
      rintro en w8 ⟨A8, c8, rfl, ho8, hm8⟩
      have hs8 := hm8.size
      have ha8 := Mid.alloc w8 (.cells #[.int .i64 r, .int .i64 ((n : Int) + 1), .slice A8 es.length c8] 29)
      have Y8 := Box.new w8 #[.int .i64 r, .int .i64 ((n : Int) + 1), .slice A8 es.length c8] 29
      replace b0 := b0.mid hm8 (Or.inr (Nat.zero_le _))
      replace b2 := b2.mid hm8 (Or.inr (Nat.zero_le _))
      replace hm0 := hm0.trans hm8
      replace b0 := b0.mid ha8 (Or.inr (Nat.zero_le _))
      replace b2 := b2.mid ha8 (Or.inr (Nat.zero_le _))
      replace ho8 := ho8.mid ha8 (Or.inl (Nat.zero_le _))
      replace hm0 := hm0.trans ha8
      have hsb := ha8.size
      clear p0 p1 p2 ha8 hm8 hav
      have p0 := b0.cell 0 rfl
      have p1 := b0.cell 1 rfl
      have p2 := b0.cell 2 rfl
      go_wp2_with fail
      generalize w8.alloc (.cells #[.int .i64 r, .int .i64 ((n : Int) + 1), .slice A8 es.length c8] 29) = w9 at b0 b2 Y8 ho8 hm0 hsb p0 p1 p2 ⊢
      have hb8 : w8.heap.size < w9.heap.size := Y8.1
      obtain ⟨rs2, res2, bb, hPI⟩ := PathIs_ex (r : Int) ((n : Int) + 1) es u (wd.drop k) n
      have HPI := Lib.hid hPI
      clear hPI
      obtain ⟨Bw, ow, rfl⟩ : ∃ Bw ow, Aw = some ⟨Bw, ow, none⟩ := by
        obtain ⟨B, off, y, h1, -⟩ := hw.at hlt
        exact ⟨B, off, h1⟩
      have hmd := Mid.drew1 w9
      have hsd := hmd.size
      replace b0 := b0.mid hmd (Or.inr (Nat.zero_le _))
      replace b2 := b2.mid hmd (Or.inr (Nat.zero_le _))
      replace Y8 := Y8.mid hmd (Or.inr (Nat.zero_le _))
      replace ho8 := ho8.mid hmd (Or.inl (Nat.zero_le _))
      replace hm0 := hm0.trans hmd
      clear p0 p1 p2
      have p0 := b0.cell 0 rfl
      have p1 := b0.cell 1 rfl
      have p2 := b0.cell 2 rfl
      have y0 := Y8.cell 0 rfl
      have y1 := Y8.cell 1 rfl
      have y2 := Y8.cell 2 rfl
      have hdo : OkI (wd.drop k) := fun q hq => HOK.out q (List.mem_of_mem_drop hq)
      have hck : ¬ cw = k := by omega
      have hP := fun W (h1 : RG W w7.heap.size w8.heap.size A8 es) (h2 : RV W lo' hi' (some ⟨Bw, ow + k, none⟩) (ints (wd.drop k))) => spec_AddPath r ((n : Int) + 1) A8 es c8 u (some ⟨Bw, ow + k, none⟩) (wd.drop k) (cw - k) n W _ _ _ _ h1 h2 (by omega) (by omega) hdo rs2 res2 bb HPI.out
      rw [hdl] at hP
      have HP := Lib.hid hP
      clear hP hdo hdl
      refine wp_region_Z (S := (fun w' => (w'.cell? ⟨w8.heap.size, 0, none⟩ = some (.int .i64 r) ∧ w'.cell? ⟨w8.heap.size, 1, none⟩ = some (.int .i64 ((n : Int) + 1)) ∧ w'.cell? ⟨w8.heap.size, 2, none⟩ = some (.slice A8 es.length c8)) ∧ w'.cell? ⟨w.heap.size, 1, none⟩ = some (.int .i64 n))) [] (by kernel_rfl) ⟨⟨y0, y1, y2⟩, p1⟩ ?_
      generalize World.drew w9 = wz at b0 b2 Y8 ho8 hm0 p0 p1 p2 y0 y1 y2 hsd ⊢
      have hS : (wz.cell? ⟨w8.heap.size, 0, none⟩ = some (.int .i64 r) ∧ wz.cell? ⟨w8.heap.size, 1, none⟩ = some (.int .i64 ((n : Int) + 1)) ∧ wz.cell? ⟨w8.heap.size, 2, none⟩ = some (.slice A8 es.length c8)) ∧ wz.cell? ⟨w.heap.size, 1, none⟩ = some (.int .i64 n) := ⟨⟨y0, y1, y2⟩, p1⟩
      have b2z : w.heap.size + 1 < wz.heap.size := b2.1
      refine wpAnyZ_takeC [] (i := 0) (v := ?_) rfl (by kernel_rfl) (by kernel_rfl) (by kernel_rfl) (by kernel_rfl) (fun _ _ _ h => h) (Or.inl ⟨by rfl, ?_⟩) hS ?_
      rotate_left
      focus (intro w hSw; (try dsimp only at hSw); go_simp; try with_reducible rfl)
      try simp only [Act.put, List.setIfInBounds_toArray, List.set_cons_zero, List.set_cons_succ, List.getElem_toArray, List.getElem_cons_zero, List.getElem_cons_succ]
      refine wpAnyZ_takeC [] (i := 1) (v := ?_) rfl (by kernel_rfl) (by kernel_rfl) (by kernel_rfl) (by kernel_rfl) (fun _ _ _ h => h) (Or.inl ⟨by rfl, ?_⟩) hS ?_
      rotate_left
      focus (intro w hSw; (try dsimp only at hSw); go_simp; try with_reducible rfl)
      try simp only [Act.put, List.setIfInBounds_toArray, List.set_cons_zero, List.set_cons_succ, List.getElem_toArray, List.getElem_cons_zero, List.getElem_cons_succ]
      refine wpAnyZ_takeC [] (i := 2) (v := ?_) rfl (by kernel_rfl) (by kernel_rfl) (by kernel_rfl) (by kernel_rfl) (fun _ _ _ h => h) (Or.inl ⟨by rfl, ?_⟩) hS ?_
      rotate_left
      focus (intro w hSw; (try dsimp only at hSw); go_simp; try with_reducible rfl)
      try simp only [Act.put, List.setIfInBounds_toArray, List.set_cons_zero, List.set_cons_succ, List.getElem_toArray, List.getElem_cons_zero, List.getElem_cons_succ]
      refine wpAnyZ_takeC [] (i := 3) (v := ?_) rfl (by kernel_rfl) (by kernel_rfl) (by kernel_rfl) (by kernel_rfl) (fun _ _ _ h => h) (Or.inl ⟨by rfl, ?_⟩) hS ?_
      rotate_left
      focus (intro w hSw; (try dsimp only at hSw); go_simp; try with_reducible rfl)
      try simp only [Act.put, List.setIfInBounds_toArray, List.set_cons_zero, List.set_cons_succ, List.getElem_toArray, List.getElem_cons_zero, List.getElem_cons_succ]
      refine wpAnyZ_takeC [] (i := 4) (v := ?_) rfl (by kernel_rfl) (by kernel_rfl) (by kernel_rfl) (by kernel_rfl) (fun _ _ _ h => h) (Or.inl ⟨by rfl, ?_⟩) hS ?_
      rotate_left
      focus (intro w hSw; (try dsimp only at hSw); go_simp; try with_reducible rfl)
      try simp only [Act.put, List.setIfInBounds_toArray, List.set_cons_zero, List.set_cons_succ, List.getElem_toArray, List.getElem_cons_zero, List.getElem_cons_succ]
      refine wpAnyZ_takeC [] (i := 5) (v := ?_) rfl (by kernel_rfl) (by kernel_rfl) (by kernel_rfl) (by kernel_rfl) (fun _ _ _ h => h) (Or.inl ⟨by rfl, ?_⟩) hS ?_
      rotate_left
      focus (intro w hSw; (try dsimp only at hSw); go_simp; try with_reducible rfl)
      try simp only [Act.put, List.setIfInBounds_toArray, List.set_cons_zero, List.set_cons_succ, List.getElem_toArray, List.getElem_cons_zero, List.getElem_cons_succ]
      refine wpAnyZ_takeC [] (i := 6) (v := ?_) rfl (by kernel_rfl) (by kernel_rfl) (by kernel_rfl) (by kernel_rfl) (fun _ _ _ h => h) (Or.inl ⟨by rfl, ?_⟩) hS ?_
      rotate_left
      focus (intro w hSw; (try dsimp only at hSw); go_simp; try with_reducible rfl)
      try simp only [Act.put, List.setIfInBounds_toArray, List.set_cons_zero, List.set_cons_succ, List.getElem_toArray, List.getElem_cons_zero, List.getElem_cons_succ]
      refine wpAnyZ_ready (rs := [7,11]) (by kernel_rfl) (by simp) (AllReadyZ.cons rfl (fun K hK => ?_) (AllReadyZ.cons rfl (fun K hK => ?_) AllReadyZ.nil))
      · (go_simp; (with_reducible refine (HP.out _ ho8.rg ((hw.mid hm0 (Or.inl (Nat.zero_le _))).dropI k)).mono ?_); rintro en w10 ⟨A10, c10, rfl, ho10, hm10⟩; have Y80 := Y8.mid hm10 (Or.inr (Nat.zero_le _)); have b00 := b0.mid hm10 (Or.inr (Nat.zero_le _)); go_wp2_with fail)
        refine hK.out _ _ (Or.inr ⟨⟨Y80.cell 0 rfl, Y80.cell 1 rfl, Y80.cell 2 rfl⟩, b00.cell 1 rfl⟩) (fun _ => ?_)
        clear hK K
        try simp only [Act.put, List.setIfInBounds_toArray, List.set_cons_zero, List.set_cons_succ, List.getElem_toArray, List.getElem_cons_zero, List.getElem_cons_succ]
        replace b2 := b2.mid hm10 (Or.inr (Nat.zero_le _))
        replace hm0 := hm0.trans hm10
        have hs10 := hm10.size
        have hS10 := And.intro (And.intro (Y80.cell 0 rfl) (And.intro (Y80.cell 1 rfl) (Y80.cell 2 rfl))) (b00.cell 1 rfl)
        clear Y8 hS y0 y1 y2 p0 p1 p2 ho8 b0 HP
        refine wpAnyZ_takeC [] (i := 8) (v := ?_) rfl (by kernel_rfl) (by kernel_rfl) (by kernel_rfl) (by kernel_rfl) (fun _ _ _ h => h) (Or.inl ⟨by rfl, ?_⟩) hS10 ?_
        rotate_left
        focus (intro w hSw; (try dsimp only at hSw); go_simp; try with_reducible rfl)
        try simp only [Act.put, List.setIfInBounds_toArray, List.set_cons_zero, List.set_cons_succ, List.getElem_toArray, List.getElem_cons_zero, List.getElem_cons_succ]
        refine wpAnyZ_takeC [] (i := 9) (v := ?_) rfl (by kernel_rfl) (by kernel_rfl) (by kernel_rfl) (by kernel_rfl) (fun _ _ _ h => h) (Or.inl ⟨by rfl, ?_⟩) hS10 ?_
        rotate_left
        focus (intro w hSw; (try dsimp only at hSw); go_simp; try with_reducible rfl)
        try simp only [Act.put, List.setIfInBounds_toArray, List.set_cons_zero, List.set_cons_succ, List.getElem_toArray, List.getElem_cons_zero, List.getElem_cons_succ]
        refine wpAnyZ_takeC [] (i := 10) (v := ?_) rfl (by kernel_rfl) (by kernel_rfl) (by kernel_rfl) (by kernel_rfl) (fun _ _ _ h => h) (Or.inl ⟨by rfl, ?_⟩) hS10 ?_
        rotate_left
        focus (intro w hSw; (try dsimp only at hSw); go_simp; try with_reducible rfl)
        try simp only [Act.put, List.setIfInBounds_toArray, List.set_cons_zero, List.set_cons_succ, List.getElem_toArray, List.getElem_cons_zero, List.getElem_cons_succ]
        have hal := Mid.alloc w10 (.cells #[.int .i64 0, .int .i64 0, .slice none 0 0] 29)
        have Y81 := Y80.mid hal (Or.inr (Nat.zero_le _))
        have b01 := b00.mid hal (Or.inr (Nat.zero_le _))
        refine wpAnyZ_ready (rs := [11]) (by kernel_rfl) (by simp) (AllReadyZ.cons rfl (fun K hK => ?_) AllReadyZ.nil)
        go_simp
        refine hK.out _ _ (Or.inr ⟨⟨Y81.cell 0 rfl, Y81.cell 1 rfl, Y81.cell 2 rfl⟩, b01.cell 1 rfl⟩) (fun _ => ?_)
        clear hK K
        try simp only [Act.put, List.setIfInBounds_toArray, List.set_cons_zero, List.set_cons_succ, List.getElem_toArray, List.getElem_cons_zero, List.getElem_cons_succ]
        clear hal Y81 b01
        have hal := Mid.alloc w10 (.cells #[.int .i64 r, .int .i64 rs2, .slice A10 res2.length c10] 29)
        have Y81 := Y80.mid hal (Or.inr (Nat.zero_le _))
        have b01 := b00.mid hal (Or.inr (Nat.zero_le _))
        refine wpAnyZ_ready (rs := [12]) (by kernel_rfl) (by simp) (AllReadyZ.cons rfl (fun K hK => ?_) AllReadyZ.nil)
        go_simp
        refine hK.out _ _ (Or.inr ⟨⟨Y81.cell 0 rfl, Y81.cell 1 rfl, Y81.cell 2 rfl⟩, b01.cell 1 rfl⟩) (fun _ => ?_)
        clear hK K
        try simp only [Act.put, List.setIfInBounds_toArray, List.set_cons_zero, List.set_cons_succ, List.getElem_toArray, List.getElem_cons_zero, List.getElem_cons_succ]
        refine wpAnyZ_ready (rs := [13]) (by kernel_rfl) (by simp) (AllReadyZ.cons rfl (fun K hK => ?_) AllReadyZ.nil)
        go_simp
        refine hK.out _ _ (Or.inr ⟨⟨Y81.cell 0 rfl, Y81.cell 1 rfl, Y81.cell 2 rfl⟩, b01.cell 1 rfl⟩) (fun _ => ?_)
        clear hK K
        try simp only [Act.put, List.setIfInBounds_toArray, List.set_cons_zero, List.set_cons_succ, List.getElem_toArray, List.getElem_cons_zero, List.getElem_cons_succ]
        refine wpAnyZ_done (by kernel_rfl) ?_ _
        have Zb := Box.new w10 #[.int .i64 r, .int .i64 rs2, .slice A10 res2.length c10] 29
        have ho11 := ho10.mid hal (Or.inl (Nat.zero_le _))
        replace b2 := b2.mid hal (Or.inr (Nat.zero_le _))
        replace hm0 := hm0.trans hal
        clear Y80 Y81 b00 hS10 hal ho10 hm10
        generalize w10.alloc (.cells #[.int .i64 r, .int .i64 rs2, .slice A10 res2.length c10] 29) = w11 at b2 Zb ho11 hm0 ⊢
        have hgz : w.heap.size + 1 < w10.heap.size := Nat.lt_of_lt_of_le b2z hs10
        generalize w10.heap.size = Gz at Zb hgz ho11 ⊢
        have hpi := HPI.out
        have hb11 := b2.1
        have z0 := b2.cell 0 rfl
        have z1 := b2.cell 1 rfl
        have z2 := b2.cell 2 rfl
        have q0 := Zb.cell 0 rfl
        have q1 := Zb.cell 1 rfl
        have q2 := Zb.cell 2 rfl
        have zf := b2.2.2
        have hne6 : (w.heap.size + 1 == Gz) = false := by simp; omega
        have hbb : b = bb ∧ (bb = true → s2 = rs2 ∧ es2 = res2) := by
          cases bb with
          | false =>
            rcases hpi with ⟨h, -⟩ | ⟨-, hno, -, -⟩
            · cases h
            · obtain ⟨rfl, -, -, -⟩ := HE.out.not (by rw [HK2.out]; exact hlt) (by rw [HK1.out, HK2.out]; exact fun h => hno h.2)
              exact ⟨rfl, fun h => by cases h⟩
          | true =>
            rcases hpi with ⟨-, hok, hrs, hre⟩ | ⟨h, -⟩
            · obtain ⟨rfl, h2, h3, hxn⟩ := HE.out.more (by rw [HK2.out]; exact hlt) (by rw [HK1.out, HK2.out]; exact ⟨by omega, hok⟩)
              rw [HK2.out] at h2
              rw [HK1.out, HK2.out] at h3
              exact ⟨rfl, fun _ => ⟨h2.trans hrs.symm, h3.trans hre.symm⟩⟩
            · cases h
        have HBB := Lib.hid hbb
        obtain rfl : b = bb := hbb.1
        clear hpi hbb HE HPI
        go_wp2_with fail
        refine bodyPost_ret (v := .tuple #[.agg #[.int .i64 r, .int .i64 rs2, .slice A10 res2.length c10], .bool b]) (by simp [results, Tryz.results55, go_sem, z0, z1, z2, zf, q0, q1, q2]) rfl ⟨A10, c10, r, rs2, res2, rfl, fun h => ⟨rfl, (HBB.out.2 h).1.symm, (HBB.out.2 h).2.symm⟩, ?_, ?_⟩
        · refine OG.wide (OG.mid ho11 (a := w.heap.size + 1) (b := w.heap.size + 2) ?_ (Or.inl (by omega))) (by omega) (by have := ho11.size; simp; omega) (Nat.le_refl _)
          repeat (first | exact Mid.refl _ _ _ | refine Mid.trans ?_ (Mid.zero (Mid.alloc _ _)) | refine Mid.stored ?_ _ (by simp; try omega) (by simp; try omega))
        · repeat (first | exact hm0 | refine Mid.trans ?_ (Mid.alloc _ _) | refine Mid.storeNew ?_ (by simp; try omega) _)
      · have hal := Mid.alloc wz (.cells #[.int .i64 0, .int .i64 0, .slice none 0 0] 29)
        have Y81 := Y8.mid hal (Or.inr (Nat.zero_le _))
        have b01 := b0.mid hal (Or.inr (Nat.zero_le _))
        have Zb := Box.new wz #[.int .i64 0, .int .i64 0, .slice none 0 0] 29
        have ho81 := ho8.mid hal (Or.inl (Nat.zero_le _))
        have hsl := hal.size
        go_simp
        refine hK.out _ _ (Or.inr ⟨⟨Y81.cell 0 rfl, Y81.cell 1 rfl, Y81.cell 2 rfl⟩, b01.cell 1 rfl⟩) (fun _ => ?_)
        clear hK K
        try simp only [Act.put, List.setIfInBounds_toArray, List.set_cons_zero, List.set_cons_succ, List.getElem_toArray, List.getElem_cons_zero, List.getElem_cons_succ]
        replace b2 := b2.mid hal (Or.inr (Nat.zero_le _))
        replace hm0 := hm0.trans hal
        clear Y8 hS y0 y1 y2 p0 p1 p2 ho8 b0 hal
        have hzb : wz.heap.size < (wz.alloc (.cells #[.int .i64 0, .int .i64 0, .slice none 0 0] 29)).heap.size := Zb.1
        generalize wz.alloc (.cells #[.int .i64 0, .int .i64 0, .slice none 0 0] 29) = wy at Y81 b01 Zb ho81 b2 hm0 hsl hzb ⊢
        refine wpAnyZ_ready (rs := [7]) (by kernel_rfl) (by simp) (AllReadyZ.cons rfl (fun K hK => ?_) AllReadyZ.nil)
        (go_simp; (with_reducible refine (HP.out _ ho81.rg ((hw.mid hm0 (Or.inl (Nat.zero_le _))).dropI k)).mono ?_); rintro en w10 ⟨A10, c10, rfl, ho10, hm10⟩; have Y80 := Y81.mid hm10 (Or.inr (Nat.zero_le _)); have b00 := b01.mid hm10 (Or.inr (Nat.zero_le _)); go_wp2_with fail)
        refine hK.out _ _ (Or.inr ⟨⟨Y80.cell 0 rfl, Y80.cell 1 rfl, Y80.cell 2 rfl⟩, b00.cell 1 rfl⟩) (fun _ => ?_)
        clear hK K
        try simp only [Act.put, List.setIfInBounds_toArray, List.set_cons_zero, List.set_cons_succ, List.getElem_toArray, List.getElem_cons_zero, List.getElem_cons_succ]
        replace b2 := b2.mid hm10 (Or.inr (Nat.zero_le _))
        replace Zb := Zb.mid hm10 (Or.inr (Nat.zero_le _))
        replace hm0 := hm0.trans hm10
        have hs10 := hm10.size
        have hS10 := And.intro (And.intro (Y80.cell 0 rfl) (And.intro (Y80.cell 1 rfl) (Y80.cell 2 rfl))) (b00.cell 1 rfl)
        clear Y81 b01 ho81 HP
        refine wpAnyZ_takeC [] (i := 8) (v := ?_) rfl (by kernel_rfl) (by kernel_rfl) (by kernel_rfl) (by kernel_rfl) (fun _ _ _ h => h) (Or.inl ⟨by rfl, ?_⟩) hS10 ?_
        rotate_left
        focus (intro w hSw; (try dsimp only at hSw); go_simp; try with_reducible rfl)
        try simp only [Act.put, List.setIfInBounds_toArray, List.set_cons_zero, List.set_cons_succ, List.getElem_toArray, List.getElem_cons_zero, List.getElem_cons_succ]
        refine wpAnyZ_takeC [] (i := 9) (v := ?_) rfl (by kernel_rfl) (by kernel_rfl) (by kernel_rfl) (by kernel_rfl) (fun _ _ _ h => h) (Or.inl ⟨by rfl, ?_⟩) hS10 ?_
        rotate_left
        focus (intro w hSw; (try dsimp only at hSw); go_simp; try with_reducible rfl)
        try simp only [Act.put, List.setIfInBounds_toArray, List.set_cons_zero, List.set_cons_succ, List.getElem_toArray, List.getElem_cons_zero, List.getElem_cons_succ]
        refine wpAnyZ_takeC [] (i := 10) (v := ?_) rfl (by kernel_rfl) (by kernel_rfl) (by kernel_rfl) (by kernel_rfl) (fun _ _ _ h => h) (Or.inl ⟨by rfl, ?_⟩) hS10 ?_
        rotate_left
        focus (intro w hSw; (try dsimp only at hSw); go_simp; try with_reducible rfl)
        try simp only [Act.put, List.setIfInBounds_toArray, List.set_cons_zero, List.set_cons_succ, List.getElem_toArray, List.getElem_cons_zero, List.getElem_cons_succ]
        have zzf := Zb.2.2
        have zz0 := Zb.cell 0 rfl
        have zz1 := Zb.cell 1 rfl
        have zz2 := Zb.cell 2 rfl
        have hst := ((Mid.setCell w10 (lo := wz.heap.size) (hi := wz.heap.size + 1) (p := ⟨wz.heap.size, 0, none⟩) (.int .i64 r) (Nat.le_refl _) (Nat.lt_succ_self _)).trans (Mid.setCell _ (lo := wz.heap.size) (hi := wz.heap.size + 1) (p := ⟨wz.heap.size, 1, none⟩) (.int .i64 rs2) (Nat.le_refl _) (Nat.lt_succ_self _))).trans (Mid.setCell _ (lo := wz.heap.size) (hi := wz.heap.size + 1) (p := ⟨wz.heap.size, 2, none⟩) (.slice A10 res2.length c10) (Nat.le_refl _) (Nat.lt_succ_self _))
        have Y82 := Y80.mid hst (Or.inl (by omega))
        have b02 := b00.mid hst (Or.inl (by omega))
        refine wpAnyZ_ready (rs := [12]) (by kernel_rfl) (by simp) (AllReadyZ.cons rfl (fun K hK => ?_) AllReadyZ.nil)
        go_simp
        refine hK.out _ _ (Or.inr ⟨⟨Y82.cell 0 rfl, Y82.cell 1 rfl, Y82.cell 2 rfl⟩, b02.cell 1 rfl⟩) (fun _ => ?_)
        clear hK K
        try simp only [Act.put, List.setIfInBounds_toArray, List.set_cons_zero, List.set_cons_succ, List.getElem_toArray, List.getElem_cons_zero, List.getElem_cons_succ]
        refine wpAnyZ_ready (rs := [13]) (by kernel_rfl) (by simp) (AllReadyZ.cons rfl (fun K hK => ?_) AllReadyZ.nil)
        go_simp
        refine hK.out _ _ (Or.inr ⟨⟨Y82.cell 0 rfl, Y82.cell 1 rfl, Y82.cell 2 rfl⟩, b02.cell 1 rfl⟩) (fun _ => ?_)
        clear hK K
        try simp only [Act.put, List.setIfInBounds_toArray, List.set_cons_zero, List.set_cons_succ, List.getElem_toArray, List.getElem_cons_zero, List.getElem_cons_succ]
        refine wpAnyZ_done (by kernel_rfl) ?_ _
        have ho11 := ho10.mid hst (Or.inl (by omega))
        replace b2 := b2.mid hst (Or.inl (by omega))
        replace Zb := ((Zb.set 0 (.int .i64 r) (by simp) rfl).set 1 (.int .i64 rs2) (by simp) rfl).set 2 (.slice A10 res2.length c10) (by simp) rfl
        simp only [List.set_cons_succ, List.set_cons_zero] at Zb
        replace hm0 := ((hm0.storeNew (p := ⟨wz.heap.size, 0, none⟩) (by show w.heap.size ≤ wz.heap.size; omega) (.int .i64 r)).storeNew (p := ⟨wz.heap.size, 1, none⟩) (by show w.heap.size ≤ wz.heap.size; omega) (.int .i64 rs2)).storeNew (p := ⟨wz.heap.size, 2, none⟩) (by show w.heap.size ≤ wz.heap.size; omega) (.slice A10 res2.length c10)
        clear Y80 Y82 b00 b02 hS10 hst ho10 hm10 zz0 zz1 zz2 zzf
        generalize ((w10.setCell ⟨wz.heap.size, 0, none⟩ (.int .i64 r)).setCell ⟨wz.heap.size, 1, none⟩ (.int .i64 rs2)).setCell ⟨wz.heap.size, 2, none⟩ (.slice A10 res2.length c10) = w11 at b2 Zb ho11 hm0 ⊢
        have hgz : w.heap.size + 1 < wz.heap.size := b2z
        generalize wz.heap.size = Gz at Zb hgz ⊢
        have hpi := HPI.out
        have hb11 := b2.1
        have z0 := b2.cell 0 rfl
        have z1 := b2.cell 1 rfl
        have z2 := b2.cell 2 rfl
        have q0 := Zb.cell 0 rfl
        have q1 := Zb.cell 1 rfl
        have q2 := Zb.cell 2 rfl
        have zf := b2.2.2
        have hne6 : (w.heap.size + 1 == Gz) = false := by simp; omega
        have hbb : b = bb ∧ (bb = true → s2 = rs2 ∧ es2 = res2) := by
          cases bb with
          | false =>
            rcases hpi with ⟨h, -⟩ | ⟨-, hno, -, -⟩
            · cases h
            · obtain ⟨rfl, -, -, -⟩ := HE.out.not (by rw [HK2.out]; exact hlt) (by rw [HK1.out, HK2.out]; exact fun h => hno h.2)
              exact ⟨rfl, fun h => by cases h⟩
          | true =>
            rcases hpi with ⟨-, hok, hrs, hre⟩ | ⟨h, -⟩
            · obtain ⟨rfl, h2, h3, hxn⟩ := HE.out.more (by rw [HK2.out]; exact hlt) (by rw [HK1.out, HK2.out]; exact ⟨by omega, hok⟩)
              rw [HK2.out] at h2
              rw [HK1.out, HK2.out] at h3
              exact ⟨rfl, fun _ => ⟨h2.trans hrs.symm, h3.trans hre.symm⟩⟩
            · cases h
        have HBB := Lib.hid hbb
        obtain rfl : b = bb := hbb.1
        clear hpi hbb HE HPI
        go_wp2_with fail
        refine bodyPost_ret (v := .tuple #[.agg #[.int .i64 r, .int .i64 rs2, .slice A10 res2.length c10], .bool b]) (by simp [results, Tryz.results55, go_sem, z0, z1, z2, zf, q0, q1, q2]) rfl ⟨A10, c10, r, rs2, res2, rfl, fun h => ⟨rfl, (HBB.out.2 h).1.symm, (HBB.out.2 h).2.symm⟩, ?_, ?_⟩
        · refine OG.wide (OG.mid ho11 (a := w.heap.size + 1) (b := w.heap.size + 2) ?_ (Or.inl (by omega))) (by omega) (by have := ho11.size; simp; omega) (Nat.le_refl _)
          repeat (first | exact Mid.refl _ _ _ | refine Mid.trans ?_ (Mid.zero (Mid.alloc _ _)) | refine Mid.stored ?_ _ (by simp; try omega) (by simp; try omega))
        · repeat (first | exact hm0 | refine Mid.trans ?_ (Mid.alloc _ _) | refine Mid.storeNew ?_ (by simp; try omega) _)
    · obtain rfl : n = 40 := by omega
      have hav : AvIs r ((40 : Nat) : Int) es ((40 : Nat) : Int) false := .inr ⟨rfl, fun h => by have := h.2; omega, rfl⟩
      obtain ⟨rfl, -, -, -⟩ := HE.out.not (by rw [HK2.out]; exact hlt) (fun h => by have := h.1; omega)
      with_reducible refine (spec_AddVertex r ((40 : Nat) : Int) A es c w7 _ _ (hr.mid hm0 (Or.inl (Nat.zero_le _))) (by omega) ((40 : Nat) : Int) false hav).mono ?_
      rintro en w8 ⟨A8, c8, rfl, ho8, hm8⟩
      replace b2 := b2.mid hm8 (Or.inr (Nat.zero_le _))
      replace hm0 := hm0.trans hm8
      have hb23 : w.heap.size + 1 < w8.heap.size := b2.1
      have hb22 : w.heap.size < w8.heap.size := by omega
      have z0 := b2.cell 0 rfl
      have z1 := b2.cell 1 rfl
      have z2 := b2.cell 2 rfl
      have zf := b2.2.2
      clear p0 p1 p2 hav HE
      go_wp2_with fail
      refine bodyPost_ret (v := .tuple #[.agg #[.int .i64 0, .int .i64 0, .slice none 0 0], .bool false]) (by simp [results, Tryz.results55, go_sem, z0, z1, z2, zf, hb22, hb23, World.cell?_alloc_lt]) rfl ⟨none, 0, 0, 0, [], rfl, fun h => (by cases h), OG.nil, ?_⟩
      repeat (first | exact hm0 | refine Mid.trans ?_ (Mid.alloc _ _) | refine Mid.storeNew ?_ (by simp; try omega) _)
  · obtain rfl : k = wd.length := by omega
    obtain ⟨rfl, rfl, rfl, hxu⟩ := HE.out.full HK2.out
    have p0 := b0.cell 0 rfl
    have p1 := b0.cell 1 rfl
    have p2 := b0.cell 2 rfl
    clear HE hxu HWW
    go_wp2_with fail
    with_reducible refine (spec_l4Copy r n A es2 c _ _ _ (hr.mid hm0 (Or.inl (Nat.zero_le _))) (by omega)).mono ?_
    rintro en w6 ⟨A6, c6, rfl, ho6, hm6⟩
    have hs6 := hm6.size
    replace b2 := b2.mid hm6 (Or.inr (Nat.zero_le _))
    replace hm0 := hm0.trans hm6
    have hb11 := b2.1
    have z0 := b2.cell 0 rfl
    have z1 := b2.cell 1 rfl
    have z2 := b2.cell 2 rfl
    have zf := b2.2.2
    clear p0 p1 p2
    go_wp2_with fail
    refine bodyPost_ret (v := .tuple #[.agg #[.int .i64 r, .int .i64 n, .slice A6 es2.length c6], .bool true]) (by simp [results, Tryz.results55, go_sem, z0, z1, z2, zf]) rfl ⟨A6, c6, r, n, es2, rfl, ⟨rfl, rfl, rfl⟩, ?_, ?_⟩
    · refine OG.wide (OG.mid ho6 (a := w.heap.size + 1) (b := w.heap.size + 2) ?_ (Or.inl (by omega))) (by omega) (by simp; try omega) (Nat.le_refl _)
      repeat (first | exact Mid.refl _ _ _ | refine Mid.trans ?_ (Mid.zero (Mid.alloc _ _)) | refine Mid.stored ?_ _ (by simp; try omega) (by simp; try omega))
    · repeat (first | exact hm0 | refine Mid.trans ?_ (Mid.alloc _ _) | refine Mid.storeNew ?_ (by simp; try omega) _)
end Go.Proofs.YtimmnnncgnnkgaaGreat

/- extend, with a word on where its graph lies. -/
namespace Go.Proofs.YtimmnnncgnnkgaaGreat
set_option linter.unusedVariables false
set_option linter.unusedSimpArgs false
open Go.RowKit

theorem RG_nilW {w : World} {lo : Nat} : RG w lo w.heap.size none [] := ⟨Nat.le_refl _, fun h => absurd rfl h⟩
set_option maxHeartbeats 3200000 in
set_option maxRecDepth 20000 in
theorem impl_extend2 (r n : Nat) (A : Option Addr) (es : List Ed) (c : Nat) (Aw : Option Addr) (wd : List Int) (cw : Nat) (w : World) (lo hi lo' hi' : Nat) (hr : RG w lo hi A es) (hw : RV w lo' hi' Aw (ints wd)) (hcl : es.length ≤ c) (hcw : wd.length ≤ cw) (hg : IsGr r n es) (hwl : wd.length ≤ 1048576) (hok : OkI wd)
    (b : Bool) (s2 : Int) (es2 : List Ed) (x : Int) (hres : ExtIs r n es wd b s2 es2 x) :
    Calls Tryz.prog 61 #[graV r n A es.length c, .slice Aw wd.length cw] w fun e w' => ∃ (A1 : Option Addr) (c1 : Nat) (rr : Int), e = .returned (.tuple #[graV rr s2 A1 es2.length c1, .int .i64 x, .bool b]) ∧ rr = (if b = true then (r : Int) else 0) ∧ ((A1 = A ∧ es2 = es) ∨ RG w' w.heap.size w'.heap.size A1 es2) ∧ es2.length ≤ c1 ∧ Mid 0 0 w w' := by
  have hm0 : Mid 0 0 w ((w.alloc (.cells #[.int .i64 r, .int .i64 n, .slice A es.length c] 29)).alloc (.cells #[.int .i64 0, .int .i64 0, .slice none 0 0] 29)) := (Mid.alloc _ _).trans (Mid.alloc _ _)
  have b0 := (Box.new w #[.int .i64 r, .int .i64 n, .slice A es.length c] 29).mid (Mid.alloc _ (.cells #[.int .i64 0, .int .i64 0, .slice none 0 0] 29)) (Or.inr (Nat.zero_le _))
  have b2 := Box.new (w.alloc (.cells #[.int .i64 r, .int .i64 n, .slice A es.length c] 29)) #[.int .i64 0, .int .i64 0, .slice none 0 0] 29
  simp only [World.size_alloc] at b2
  have hl := hg.len
  have hn40 : 1 ≤ n ∧ n ≤ 40 := by have := hg.size; omega
  have HG := Lib.hid hg
  have HOK := Lib.hid hok
  have HR := Lib.hid hres
  clear hg hok hres
  go_enter Tryz.func61, Tryz.ntmps61
  go_wp2_with fail
  generalize ((w.alloc (.cells #[.int .i64 r, .int .i64 n, .slice A es.length c] 29)).alloc (.cells #[.int .i64 0, .int .i64 0, .slice none 0 0] 29)) = w1 at hm0 b0 b2 ⊢
  have hs1 : w.heap.size + 1 < w1.heap.size := b2.1
  with_reducible refine (impl_read r n A es c 0 Aw wd cw w1 _ _ _ _ (hr.mid hm0 (Or.inl (Nat.zero_le _))) (hw.mid hm0 (Or.inl (Nat.zero_le _))) HG.out hwl HOK.out).mono ?_
  rintro en w2 ⟨u, k, rfl, hk, hgo, hend, hm2⟩
  have hrd : rdA es 0 wd = (u, k) := rdA_is hgo hk hend
  have hk2 : (rdA es 0 wd).2 = k := by rw [hrd]
  have hk1 : (rdA es 0 wd).1 = u := by rw [hrd]
  have hu := rdA_in HG.out.all wd (v := 0) (by omega)
  rw [hk1] at hu
  have HK1 := Lib.hid hk1
  have HK2 := Lib.hid hk2
  clear hgo hend hrd hk1 hk2
  replace b0 := b0.mid hm2 (Or.inr (Nat.zero_le _))
  replace b2 := b2.mid hm2 (Or.inr (Nat.zero_le _))
  replace hm0 := hm0.trans hm2
  have hs2 := hm2.size
  clear hm2
  rcases Nat.lt_or_ge k wd.length with hlt | hge
  · have dk : ((k : Int) == (wd.length : Int)) = false := by simp only [beq_eq_false_iff_ne]; omega
    have hdl : (wd.drop k).length = wd.length - k := List.length_drop
    have hcase : Hid ((n < 40 ∧ PathOk r ((n : Int) + 1) es u (wd.drop k) n) ∨ ¬ (n < 40 ∧ PathOk r ((n : Int) + 1) es u (wd.drop k) n)) := Lib.hid (Classical.em _)
    have p0 := b0.cell 0 rfl
    have p1 := b0.cell 1 rfl
    have p2 := b0.cell 2 rfl
    go_wp2_with fail
    by_cases h40 : n < 40
    · have hav : AvIs r n es ((n : Int) + 1) true := .inl ⟨rfl, ⟨HG.out, by omega⟩, rfl⟩
      with_reducible refine (impl_AddVertex r n A es c w2 _ _ (hr.mid hm0 (Or.inl (Nat.zero_le _))) (by omega) ((n : Int) + 1) true hav).mono ?_
      rintro en w4 ⟨A4, c4, rfl, ho4, hm4⟩
      have hs4 := hm4.size
      have ha4 := Mid.alloc w4 (.cells #[.int .i64 r, .int .i64 ((n : Int) + 1), .slice A4 es.length c4] 29)
      have Y4 := Box.new w4 #[.int .i64 r, .int .i64 ((n : Int) + 1), .slice A4 es.length c4] 29
      replace b0 := b0.mid hm4 (Or.inr (Nat.zero_le _))
      replace b2 := b2.mid hm4 (Or.inr (Nat.zero_le _))
      replace hm0 := hm0.trans hm4
      have hb4 : w.heap.size + 1 < w4.heap.size := b2.1
      replace b0 := b0.mid ha4 (Or.inr (Nat.zero_le _))
      replace b2 := b2.mid ha4 (Or.inr (Nat.zero_le _))
      replace ho4 := ho4.mid ha4 (Or.inl (Nat.zero_le _))
      replace hm0 := hm0.trans ha4
      have hsa := ha4.size
      clear p0 p1 p2 ha4 hav
      have p0 := b0.cell 0 rfl
      have p1 := b0.cell 1 rfl
      have p2 := b0.cell 2 rfl
      go_wp2_with fail
      generalize w4.alloc (.cells #[.int .i64 r, .int .i64 ((n : Int) + 1), .slice A4 es.length c4] 29) = w5 at b0 b2 Y4 ho4 hm0 hsa p0 p1 p2 ⊢
      have hG5 : w4.heap.size < w5.heap.size := Y4.1
      obtain ⟨rs2, res2, bb, hPI⟩ := PathIs_ex (r : Int) ((n : Int) + 1) es u (wd.drop k) n
      have HPI := Lib.hid hPI
      clear hPI
      obtain ⟨Bw, ow, rfl⟩ : ∃ Bw ow, Aw = some ⟨Bw, ow, none⟩ := by
        obtain ⟨B, off, y, h1, -⟩ := hw.at hlt
        exact ⟨B, off, h1⟩
      have hmd := Mid.drew1 w5
      have hsd := hmd.size
      replace b0 := b0.mid hmd (Or.inr (Nat.zero_le _))
      replace b2 := b2.mid hmd (Or.inr (Nat.zero_le _))
      replace Y4 := Y4.mid hmd (Or.inr (Nat.zero_le _))
      replace ho4 := ho4.mid hmd (Or.inl (Nat.zero_le _))
      replace hm0 := hm0.trans hmd
      clear p0 p1 p2
      have y0 := Y4.cell 0 rfl
      have y1 := Y4.cell 1 rfl
      have y2 := Y4.cell 2 rfl
      have hdo : OkI (wd.drop k) := fun q hq => HOK.out q (List.mem_of_mem_drop hq)
      have hkc : k ≤ cw := by omega
      have hck : ¬ cw = k := by omega
      have hP := fun W (h1 : RG W w2.heap.size w4.heap.size A4 es) (h2 : RV W lo' hi' (some ⟨Bw, ow + k, none⟩) (ints (wd.drop k))) => impl_AddPath r ((n : Int) + 1) A4 es c4 u (some ⟨Bw, ow + k, none⟩) (wd.drop k) (cw - k) n W _ _ _ _ h1 h2 (by omega) (by omega) hdo rs2 res2 bb HPI.out
      rw [hdl] at hP
      have HP := Lib.hid hP
      have HDO := Lib.hid hdo
      have HDL := Lib.hid hdl
      clear hP hdo hdl
      refine wp_region_Z (S := (fun w' => w'.cell? ⟨w4.heap.size, 0, none⟩ = some (.int .i64 r) ∧ w'.cell? ⟨w4.heap.size, 1, none⟩ = some (.int .i64 ((n : Int) + 1)) ∧ w'.cell? ⟨w4.heap.size, 2, none⟩ = some (.slice A4 es.length c4))) [9, 10, 11] (by kernel_rfl) ⟨y0, y1, y2⟩ ?_
      generalize World.drew w5 = wz at b0 b2 Y4 ho4 hm0 y0 y1 y2 hsd ⊢
      have hS : wz.cell? ⟨w4.heap.size, 0, none⟩ = some (.int .i64 r) ∧ wz.cell? ⟨w4.heap.size, 1, none⟩ = some (.int .i64 ((n : Int) + 1)) ∧ wz.cell? ⟨w4.heap.size, 2, none⟩ = some (.slice A4 es.length c4) := ⟨y0, y1, y2⟩
      refine wpAnyZ_takeC [6, 7, 8, 9, 10, 11] (i := 0) (v := ?_) rfl (by kernel_rfl) (by kernel_rfl) (by kernel_rfl) (by kernel_rfl) (fun _ _ _ h => h) (Or.inl ⟨by rfl, ?_⟩) hS ?_
      rotate_left
      focus (intro w hSw; (try dsimp only at hSw); go_simp; try with_reducible rfl)
      try simp only [Act.put, List.setIfInBounds_toArray, List.set_cons_zero, List.set_cons_succ, List.getElem_toArray, List.getElem_cons_zero, List.getElem_cons_succ]
      refine wpAnyZ_takeC [6, 7, 8, 9, 10, 11] (i := 1) (v := ?_) rfl (by kernel_rfl) (by kernel_rfl) (by kernel_rfl) (by kernel_rfl) (fun _ _ _ h => h) (Or.inl ⟨by rfl, ?_⟩) hS ?_
      rotate_left
      focus (intro w hSw; (try dsimp only at hSw); go_simp; try with_reducible rfl)
      try simp only [Act.put, List.setIfInBounds_toArray, List.set_cons_zero, List.set_cons_succ, List.getElem_toArray, List.getElem_cons_zero, List.getElem_cons_succ]
      refine wpAnyZ_takeC [4, 6, 7, 8, 9, 10, 11] (i := 2) (v := ?_) rfl (by kernel_rfl) (by kernel_rfl) (by kernel_rfl) (by kernel_rfl) (fun _ _ _ h => h) (Or.inl ⟨by rfl, ?_⟩) hS ?_
      rotate_left
      focus (intro w hSw; (try dsimp only at hSw); go_simp; try with_reducible rfl)
      try simp only [Act.put, List.setIfInBounds_toArray, List.set_cons_zero, List.set_cons_succ, List.getElem_toArray, List.getElem_cons_zero, List.getElem_cons_succ]
      refine wpAnyZ_takeC [4, 6, 7, 8, 9, 10, 11] (i := 3) (v := ?_) rfl (by kernel_rfl) (by kernel_rfl) (by kernel_rfl) (by kernel_rfl) (fun _ _ _ h => h) (Or.inl ⟨by rfl, ?_⟩) hS ?_
      rotate_left
      focus (intro w hSw; (try dsimp only at hSw); go_simp; try with_reducible rfl)
      try simp only [Act.put, List.setIfInBounds_toArray, List.set_cons_zero, List.set_cons_succ, List.getElem_toArray, List.getElem_cons_zero, List.getElem_cons_succ]
      refine wpAnyZ_takeC [6, 7, 8, 9, 10, 11] (i := 4) (v := ?_) rfl (by kernel_rfl) (by kernel_rfl) (by kernel_rfl) (by kernel_rfl) (fun _ _ _ h => h) (Or.inl ⟨by rfl, ?_⟩) hS ?_
      rotate_left
      focus (intro w hSw; (try dsimp only at hSw); go_simp; try with_reducible rfl)
      try simp only [Act.put, List.setIfInBounds_toArray, List.set_cons_zero, List.set_cons_succ, List.getElem_toArray, List.getElem_cons_zero, List.getElem_cons_succ]
      refine wpAnyZ_takeC [6, 7, 8, 9, 10, 11] (i := 5) (v := ?_) rfl (by kernel_rfl) (by kernel_rfl) (by kernel_rfl) (by kernel_rfl) (fun _ _ _ h => h) (Or.inl ⟨by rfl, ?_⟩) hS ?_
      rotate_left
      focus (intro w hSw; (try dsimp only at hSw); go_simp; try with_reducible rfl)
      try simp only [Act.put, List.setIfInBounds_toArray, List.set_cons_zero, List.set_cons_succ, List.getElem_toArray, List.getElem_cons_zero, List.getElem_cons_succ]
      refine wpAnyZ_ready (rs := [6]) (by kernel_rfl) (by simp) (AllReadyZ.cons rfl (fun K hK => ?_) AllReadyZ.nil)
      (go_simp; (with_reducible refine (HP.out _ ho4.rg ((hw.mid hm0 (Or.inl (Nat.zero_le _))).dropI k)).mono ?_); rintro en w6 ⟨A6, c6, rfl, ho6, hm6⟩; have Y6 := Y4.mid hm6 (Or.inr (Nat.zero_le _)); go_wp2_with fail)
      refine hK.out _ _ (Or.inr ⟨Y6.cell 0 rfl, Y6.cell 1 rfl, Y6.cell 2 rfl⟩) (fun _ => ?_)
      clear hK K
      try simp only [Act.put, List.setIfInBounds_toArray, List.set_cons_zero, List.set_cons_succ, List.getElem_toArray, List.getElem_cons_zero, List.getElem_cons_succ]
      replace b0 := b0.mid hm6 (Or.inr (Nat.zero_le _))
      replace b2 := b2.mid hm6 (Or.inr (Nat.zero_le _))
      replace hm0 := hm0.trans hm6
      have hs6 := hm6.size
      have hS6 := And.intro (Y6.cell 0 rfl) (And.intro (Y6.cell 1 rfl) (Y6.cell 2 rfl))
      clear Y4 hS y0 y1 y2 ho4 hm6 HP
      have yf := Y6.2.2
      have y0 := Y6.cell 0 rfl
      have y1 := Y6.cell 1 rfl
      have y2 := Y6.cell 2 rfl
      refine wpAnyZ_takeC [8, 9, 10, 11] (i := 7) (v := ?_) rfl (by kernel_rfl) (by kernel_rfl) (by kernel_rfl) (by kernel_rfl) (fun _ _ _ h => h) (Or.inl ⟨by rfl, ?_⟩) hS6 ?_
      rotate_left
      focus (intro w hSw; (try dsimp only at hSw); go_simp; try with_reducible rfl)
      try simp only [Act.put, List.setIfInBounds_toArray, List.set_cons_zero, List.set_cons_succ, List.getElem_toArray, List.getElem_cons_zero, List.getElem_cons_succ]
      refine wpAnyZ_ready (rs := [8,9]) (by kernel_rfl) (by simp) (AllReadyZ.cons rfl (fun K hK => ?_) (AllReadyZ.cons rfl (fun K hK => ?_) AllReadyZ.nil))
      · go_simp
        refine hK.out _ _ (Or.inr hS6) (fun _ => ?_)
        clear hK K
        try simp only [Act.put, List.setIfInBounds_toArray, List.set_cons_zero, List.set_cons_succ, List.getElem_toArray, List.getElem_cons_zero, List.getElem_cons_succ]
        refine wpAnyZ_ready (rs := [9,10]) (by kernel_rfl) (by simp) (AllReadyZ.cons rfl (fun K hK => ?_) (AllReadyZ.cons rfl (fun K hK => ?_) AllReadyZ.nil))
        · go_simp
          refine hK.out _ _ (Or.inl (by simp)) (fun _ => ?_)
          clear hK K
          try simp only [Act.put, List.setIfInBounds_toArray, List.set_cons_zero, List.set_cons_succ, List.getElem_toArray, List.getElem_cons_zero, List.getElem_cons_succ]
          refine wpAnyZ_ready (rs := [10]) (by kernel_rfl) (by simp) (AllReadyZ.cons rfl (fun K hK => ?_) AllReadyZ.nil)
          go_simp
          refine hK.out _ _ (Or.inl (by simp)) (fun _ => ?_)
          clear hK K
          try simp only [Act.put, List.setIfInBounds_toArray, List.set_cons_zero, List.set_cons_succ, List.getElem_toArray, List.getElem_cons_zero, List.getElem_cons_succ]
          refine wpAnyZ_ready (rs := [11]) (by kernel_rfl) (by simp) (AllReadyZ.cons rfl (fun K hK => ?_) AllReadyZ.nil)
          go_simp
          refine hK.out _ _ (Or.inl (by simp)) (fun _ => ?_)
          clear hK K
          try simp only [Act.put, List.setIfInBounds_toArray, List.set_cons_zero, List.set_cons_succ, List.getElem_toArray, List.getElem_cons_zero, List.getElem_cons_succ]
          refine wpAnyZ_done (by kernel_rfl) ?_ _
          have hst := ((Mid.setCell w6 (lo := w4.heap.size) (hi := w4.heap.size + 1) (p := ⟨w4.heap.size, 0, none⟩) (.int .i64 r) (Nat.le_refl _) (Nat.lt_succ_self _)).trans (Mid.setCell _ (lo := w4.heap.size) (hi := w4.heap.size + 1) (p := ⟨w4.heap.size, 1, none⟩) (.int .i64 rs2) (Nat.le_refl _) (Nat.lt_succ_self _))).trans (Mid.setCell _ (lo := w4.heap.size) (hi := w4.heap.size + 1) (p := ⟨w4.heap.size, 2, none⟩) (.slice A6 res2.length c6) (Nat.le_refl _) (Nat.lt_succ_self _))
          have V2 := b2.mid hst (Or.inl (by omega))
          have Y7 := ((Y6.set 0 (.int .i64 r) (by simp) rfl).set 1 (.int .i64 rs2) (by simp) rfl).set 2 (.slice A6 res2.length c6) (by simp) rfl
          simp only [List.set_cons_succ, List.set_cons_zero] at Y7
          have ho7 := ho6.mid hst (Or.inl (by omega))
          have hm7 := ((hm0.storeNew (p := ⟨w4.heap.size, 0, none⟩) (by show w.heap.size ≤ w4.heap.size; omega) (.int .i64 r)).storeNew (p := ⟨w4.heap.size, 1, none⟩) (by show w.heap.size ≤ w4.heap.size; omega) (.int .i64 rs2)).storeNew (p := ⟨w4.heap.size, 2, none⟩) (by show w.heap.size ≤ w4.heap.size; omega) (.slice A6 res2.length c6)
          have hc6 := ho6.cnt.1
          clear Y6 yf y0 y1 y2 hS6 b0 b2 hm0 ho6 hst
          generalize ((w6.setCell ⟨w4.heap.size, 0, none⟩ (.int .i64 r)).setCell ⟨w4.heap.size, 1, none⟩ (.int .i64 rs2)).setCell ⟨w4.heap.size, 2, none⟩ (.slice A6 res2.length c6) = w7 at V2 Y7 ho7 hm7 ⊢
          have z0 := V2.cell 0 rfl
          have z1 := V2.cell 1 rfl
          have z2 := V2.cell 2 rfl
          have zf := V2.2.2
          have hpi := HPI.out
          cases bb with
          | true =>
            rcases hpi with ⟨-, hok, hrs, hre⟩ | ⟨h, -⟩
            · obtain ⟨rfl, h2, h3, rfl⟩ := HR.out.more (by rw [HK2.out]; exact hlt) (by rw [HK1.out, HK2.out]; exact ⟨by omega, hok⟩)
              rw [HK2.out] at h2
              rw [HK1.out, HK2.out] at h3
              have hse : s2 = rs2 := h2.trans hrs.symm
              have hee : es2 = res2 := h3.trans hre.symm
              clear h2 h3 hrs hre hok HR HPI
              subst hse
              subst res2
              have y0 := Y7.cell 0 rfl
              have y1 := Y7.cell 1 rfl
              have y2 := Y7.cell 2 rfl
              go_wp2_with fail
              have hcl : (w.heap.size + 1 == w4.heap.size) = false := by simp; omega
              refine bodyPost_ret (v := .tuple #[.agg #[.int .i64 r, .int .i64 s2, .slice A6 es2.length c6], .int .i64 n, .bool true]) (by simp [results, Tryz.results61, go_sem, z0, z1, z2, zf, y0, y1, y2]) rfl ⟨A6, c6, r, rfl, rfl, Or.inr ?_, hc6, ?_⟩
              · refine RG.wide (RG.mid ho7.rg (a := w.heap.size) (b := w.heap.size + 2) ?_ (Or.inl (by omega))) (by omega) (by have := ho7.size; simp at this ⊢; omega) (Nat.le_refl _)
                repeat (first | exact Mid.refl _ _ _ | refine Mid.stored ?_ _ (by simp; try omega) (by simp; try omega))
              · repeat (first | exact hm7 | refine Mid.storeNew ?_ (by simp; try omega) _)
            · cases h
          | false =>
            rcases hpi with ⟨h, -⟩ | ⟨-, hno, -, -⟩
            · cases h
            · obtain ⟨rfl, rfl, rfl, rfl⟩ := HR.out.not (by rw [HK2.out]; exact hlt) (by rw [HK1.out, HK2.out]; exact fun h => hno h.2)
              clear hno HR HPI
              go_wp2_with fail
              refine bodyPost_ret (v := .tuple #[.agg #[.int .i64 0, .int .i64 0, .slice none 0 0], .int .i64 0, .bool false]) (by simp [results, Tryz.results61, go_sem, z0, z1, z2, zf]) rfl ⟨none, 0, 0, rfl, rfl, Or.inr RG_nilW, ?_⟩
              repeat (first | exact hm7 | refine Mid.trans ?_ (Mid.alloc _ _) | refine Mid.storeNew ?_ (by simp; try omega) _)
        · go_simp
          refine hK.out _ _ (Or.inl (by simp)) (fun _ => ?_)
          clear hK K
          try simp only [Act.put, List.setIfInBounds_toArray, List.set_cons_zero, List.set_cons_succ, List.getElem_toArray, List.getElem_cons_zero, List.getElem_cons_succ]
          refine wpAnyZ_ready (rs := [9]) (by kernel_rfl) (by simp) (AllReadyZ.cons rfl (fun K hK => ?_) AllReadyZ.nil)
          go_simp
          refine hK.out _ _ (Or.inl (by simp)) (fun _ => ?_)
          clear hK K
          try simp only [Act.put, List.setIfInBounds_toArray, List.set_cons_zero, List.set_cons_succ, List.getElem_toArray, List.getElem_cons_zero, List.getElem_cons_succ]
          refine wpAnyZ_ready (rs := [11]) (by kernel_rfl) (by simp) (AllReadyZ.cons rfl (fun K hK => ?_) AllReadyZ.nil)
          go_simp
          refine hK.out _ _ (Or.inl (by simp)) (fun _ => ?_)
          clear hK K
          try simp only [Act.put, List.setIfInBounds_toArray, List.set_cons_zero, List.set_cons_succ, List.getElem_toArray, List.getElem_cons_zero, List.getElem_cons_succ]
          refine wpAnyZ_done (by kernel_rfl) ?_ _
          have hst := ((Mid.setCell w6 (lo := w4.heap.size) (hi := w4.heap.size + 1) (p := ⟨w4.heap.size, 0, none⟩) (.int .i64 r) (Nat.le_refl _) (Nat.lt_succ_self _)).trans (Mid.setCell _ (lo := w4.heap.size) (hi := w4.heap.size + 1) (p := ⟨w4.heap.size, 1, none⟩) (.int .i64 rs2) (Nat.le_refl _) (Nat.lt_succ_self _))).trans (Mid.setCell _ (lo := w4.heap.size) (hi := w4.heap.size + 1) (p := ⟨w4.heap.size, 2, none⟩) (.slice A6 res2.length c6) (Nat.le_refl _) (Nat.lt_succ_self _))
          have V2 := b2.mid hst (Or.inl (by omega))
          have Y7 := ((Y6.set 0 (.int .i64 r) (by simp) rfl).set 1 (.int .i64 rs2) (by simp) rfl).set 2 (.slice A6 res2.length c6) (by simp) rfl
          simp only [List.set_cons_succ, List.set_cons_zero] at Y7
          have ho7 := ho6.mid hst (Or.inl (by omega))
          have hm7 := ((hm0.storeNew (p := ⟨w4.heap.size, 0, none⟩) (by show w.heap.size ≤ w4.heap.size; omega) (.int .i64 r)).storeNew (p := ⟨w4.heap.size, 1, none⟩) (by show w.heap.size ≤ w4.heap.size; omega) (.int .i64 rs2)).storeNew (p := ⟨w4.heap.size, 2, none⟩) (by show w.heap.size ≤ w4.heap.size; omega) (.slice A6 res2.length c6)
          have hc6 := ho6.cnt.1
          clear Y6 yf y0 y1 y2 hS6 b0 b2 hm0 ho6 hst
          generalize ((w6.setCell ⟨w4.heap.size, 0, none⟩ (.int .i64 r)).setCell ⟨w4.heap.size, 1, none⟩ (.int .i64 rs2)).setCell ⟨w4.heap.size, 2, none⟩ (.slice A6 res2.length c6) = w7 at V2 Y7 ho7 hm7 ⊢
          have z0 := V2.cell 0 rfl
          have z1 := V2.cell 1 rfl
          have z2 := V2.cell 2 rfl
          have zf := V2.2.2
          have hpi := HPI.out
          cases bb with
          | true =>
            rcases hpi with ⟨-, hok, hrs, hre⟩ | ⟨h, -⟩
            · obtain ⟨rfl, h2, h3, rfl⟩ := HR.out.more (by rw [HK2.out]; exact hlt) (by rw [HK1.out, HK2.out]; exact ⟨by omega, hok⟩)
              rw [HK2.out] at h2
              rw [HK1.out, HK2.out] at h3
              have hse : s2 = rs2 := h2.trans hrs.symm
              have hee : es2 = res2 := h3.trans hre.symm
              clear h2 h3 hrs hre hok HR HPI
              subst hse
              subst res2
              have y0 := Y7.cell 0 rfl
              have y1 := Y7.cell 1 rfl
              have y2 := Y7.cell 2 rfl
              go_wp2_with fail
              have hcl : (w.heap.size + 1 == w4.heap.size) = false := by simp; omega
              refine bodyPost_ret (v := .tuple #[.agg #[.int .i64 r, .int .i64 s2, .slice A6 es2.length c6], .int .i64 n, .bool true]) (by simp [results, Tryz.results61, go_sem, z0, z1, z2, zf, y0, y1, y2]) rfl ⟨A6, c6, r, rfl, rfl, Or.inr ?_, hc6, ?_⟩
              · refine RG.wide (RG.mid ho7.rg (a := w.heap.size) (b := w.heap.size + 2) ?_ (Or.inl (by omega))) (by omega) (by have := ho7.size; simp at this ⊢; omega) (Nat.le_refl _)
                repeat (first | exact Mid.refl _ _ _ | refine Mid.stored ?_ _ (by simp; try omega) (by simp; try omega))
              · repeat (first | exact hm7 | refine Mid.storeNew ?_ (by simp; try omega) _)
            · cases h
          | false =>
            rcases hpi with ⟨h, -⟩ | ⟨-, hno, -, -⟩
            · cases h
            · obtain ⟨rfl, rfl, rfl, rfl⟩ := HR.out.not (by rw [HK2.out]; exact hlt) (by rw [HK1.out, HK2.out]; exact fun h => hno h.2)
              clear hno HR HPI
              go_wp2_with fail
              refine bodyPost_ret (v := .tuple #[.agg #[.int .i64 0, .int .i64 0, .slice none 0 0], .int .i64 0, .bool false]) (by simp [results, Tryz.results61, go_sem, z0, z1, z2, zf]) rfl ⟨none, 0, 0, rfl, rfl, Or.inr RG_nilW, ?_⟩
              repeat (first | exact hm7 | refine Mid.trans ?_ (Mid.alloc _ _) | refine Mid.storeNew ?_ (by simp; try omega) _)
      · go_simp
        refine hK.out _ _ (Or.inl (by simp)) (fun _ => ?_)
        clear hK K
        try simp only [Act.put, List.setIfInBounds_toArray, List.set_cons_zero, List.set_cons_succ, List.getElem_toArray, List.getElem_cons_zero, List.getElem_cons_succ]
        refine wpAnyZ_ready (rs := [8]) (by kernel_rfl) (by simp) (AllReadyZ.cons rfl (fun K hK => ?_) AllReadyZ.nil)
        go_simp
        refine hK.out _ _ (Or.inr hS6) (fun _ => ?_)
        clear hK K
        try simp only [Act.put, List.setIfInBounds_toArray, List.set_cons_zero, List.set_cons_succ, List.getElem_toArray, List.getElem_cons_zero, List.getElem_cons_succ]
        refine wpAnyZ_ready (rs := [10]) (by kernel_rfl) (by simp) (AllReadyZ.cons rfl (fun K hK => ?_) AllReadyZ.nil)
        go_simp
        refine hK.out _ _ (Or.inl (by simp)) (fun _ => ?_)
        clear hK K
        try simp only [Act.put, List.setIfInBounds_toArray, List.set_cons_zero, List.set_cons_succ, List.getElem_toArray, List.getElem_cons_zero, List.getElem_cons_succ]
        refine wpAnyZ_ready (rs := [11]) (by kernel_rfl) (by simp) (AllReadyZ.cons rfl (fun K hK => ?_) AllReadyZ.nil)
        go_simp
        refine hK.out _ _ (Or.inl (by simp)) (fun _ => ?_)
        clear hK K
        try simp only [Act.put, List.setIfInBounds_toArray, List.set_cons_zero, List.set_cons_succ, List.getElem_toArray, List.getElem_cons_zero, List.getElem_cons_succ]
        refine wpAnyZ_done (by kernel_rfl) ?_ _
        have hst := ((Mid.setCell w6 (lo := w4.heap.size) (hi := w4.heap.size + 1) (p := ⟨w4.heap.size, 0, none⟩) (.int .i64 r) (Nat.le_refl _) (Nat.lt_succ_self _)).trans (Mid.setCell _ (lo := w4.heap.size) (hi := w4.heap.size + 1) (p := ⟨w4.heap.size, 1, none⟩) (.int .i64 rs2) (Nat.le_refl _) (Nat.lt_succ_self _))).trans (Mid.setCell _ (lo := w4.heap.size) (hi := w4.heap.size + 1) (p := ⟨w4.heap.size, 2, none⟩) (.slice A6 res2.length c6) (Nat.le_refl _) (Nat.lt_succ_self _))
        have V2 := b2.mid hst (Or.inl (by omega))
        have Y7 := ((Y6.set 0 (.int .i64 r) (by simp) rfl).set 1 (.int .i64 rs2) (by simp) rfl).set 2 (.slice A6 res2.length c6) (by simp) rfl
        simp only [List.set_cons_succ, List.set_cons_zero] at Y7
        have ho7 := ho6.mid hst (Or.inl (by omega))
        have hm7 := ((hm0.storeNew (p := ⟨w4.heap.size, 0, none⟩) (by show w.heap.size ≤ w4.heap.size; omega) (.int .i64 r)).storeNew (p := ⟨w4.heap.size, 1, none⟩) (by show w.heap.size ≤ w4.heap.size; omega) (.int .i64 rs2)).storeNew (p := ⟨w4.heap.size, 2, none⟩) (by show w.heap.size ≤ w4.heap.size; omega) (.slice A6 res2.length c6)
        have hc6 := ho6.cnt.1
        clear Y6 yf y0 y1 y2 hS6 b0 b2 hm0 ho6 hst
        generalize ((w6.setCell ⟨w4.heap.size, 0, none⟩ (.int .i64 r)).setCell ⟨w4.heap.size, 1, none⟩ (.int .i64 rs2)).setCell ⟨w4.heap.size, 2, none⟩ (.slice A6 res2.length c6) = w7 at V2 Y7 ho7 hm7 ⊢
        have z0 := V2.cell 0 rfl
        have z1 := V2.cell 1 rfl
        have z2 := V2.cell 2 rfl
        have zf := V2.2.2
        have hpi := HPI.out
        cases bb with
        | true =>
          rcases hpi with ⟨-, hok, hrs, hre⟩ | ⟨h, -⟩
          · obtain ⟨rfl, h2, h3, rfl⟩ := HR.out.more (by rw [HK2.out]; exact hlt) (by rw [HK1.out, HK2.out]; exact ⟨by omega, hok⟩)
            rw [HK2.out] at h2
            rw [HK1.out, HK2.out] at h3
            have hse : s2 = rs2 := h2.trans hrs.symm
            have hee : es2 = res2 := h3.trans hre.symm
            clear h2 h3 hrs hre hok HR HPI
            subst hse
            subst res2
            have y0 := Y7.cell 0 rfl
            have y1 := Y7.cell 1 rfl
            have y2 := Y7.cell 2 rfl
            go_wp2_with fail
            have hcl : (w.heap.size + 1 == w4.heap.size) = false := by simp; omega
            refine bodyPost_ret (v := .tuple #[.agg #[.int .i64 r, .int .i64 s2, .slice A6 es2.length c6], .int .i64 n, .bool true]) (by simp [results, Tryz.results61, go_sem, z0, z1, z2, zf, y0, y1, y2]) rfl ⟨A6, c6, r, rfl, rfl, Or.inr ?_, hc6, ?_⟩
            · refine RG.wide (RG.mid ho7.rg (a := w.heap.size) (b := w.heap.size + 2) ?_ (Or.inl (by omega))) (by omega) (by have := ho7.size; simp at this ⊢; omega) (Nat.le_refl _)
              repeat (first | exact Mid.refl _ _ _ | refine Mid.stored ?_ _ (by simp; try omega) (by simp; try omega))
            · repeat (first | exact hm7 | refine Mid.storeNew ?_ (by simp; try omega) _)
          · cases h
        | false =>
          rcases hpi with ⟨h, -⟩ | ⟨-, hno, -, -⟩
          · cases h
          · obtain ⟨rfl, rfl, rfl, rfl⟩ := HR.out.not (by rw [HK2.out]; exact hlt) (by rw [HK1.out, HK2.out]; exact fun h => hno h.2)
            clear hno HR HPI
            go_wp2_with fail
            refine bodyPost_ret (v := .tuple #[.agg #[.int .i64 0, .int .i64 0, .slice none 0 0], .int .i64 0, .bool false]) (by simp [results, Tryz.results61, go_sem, z0, z1, z2, zf]) rfl ⟨none, 0, 0, rfl, rfl, Or.inr RG_nilW, ?_⟩
            repeat (first | exact hm7 | refine Mid.trans ?_ (Mid.alloc _ _) | refine Mid.storeNew ?_ (by simp; try omega) _)
    · obtain rfl : n = 40 := by omega
      have hav : AvIs r ((40 : Nat) : Int) es ((40 : Nat) : Int) false := .inr ⟨rfl, fun h => by have := h.2; omega, rfl⟩
      obtain ⟨rfl, rfl, rfl, rfl⟩ := HR.out.not (by rw [HK2.out]; exact hlt) (fun h => by have := h.1; omega)
      with_reducible refine (impl_AddVertex r ((40 : Nat) : Int) A es c w2 _ _ (hr.mid hm0 (Or.inl (Nat.zero_le _))) (by omega) ((40 : Nat) : Int) false hav).mono ?_
      rintro en w4 ⟨A4, c4, rfl, ho4, hm4⟩
      replace b2 := b2.mid hm4 (Or.inr (Nat.zero_le _))
      replace hm0 := hm0.trans hm4
      have hb23 : w.heap.size + 1 < w4.heap.size := b2.1
      have hb22 : w.heap.size < w4.heap.size := by omega
      have z0 := b2.cell 0 rfl
      have z1 := b2.cell 1 rfl
      have z2 := b2.cell 2 rfl
      have zf := b2.2.2
      clear p0 p1 p2 hav HR
      go_wp2_with fail
      refine bodyPost_ret (v := .tuple #[.agg #[.int .i64 0, .int .i64 0, .slice none 0 0], .int .i64 0, .bool false]) (by simp [results, Tryz.results61, go_sem, z0, z1, z2, zf, hb22, hb23, World.cell?_alloc_lt]) rfl ⟨none, 0, 0, rfl, rfl, Or.inr RG_nilW, ?_⟩
      repeat (first | exact hm0 | refine Mid.trans ?_ (Mid.alloc _ _) | refine Mid.storeNew ?_ (by simp; try omega) _)
  · obtain rfl : k = wd.length := by omega
    obtain ⟨rfl, rfl, rfl, hxu⟩ := HR.out.full HK2.out
    rw [HK1.out] at hxu
    subst hxu
    have hr2 := hr.mid hm0 (Or.inl (Nat.zero_le _))
    have p0 := b0.cell 0 rfl
    have p1 := b0.cell 1 rfl
    have p2 := b0.cell 2 rfl
    have z0 := b2.cell 0 rfl
    have z1 := b2.cell 1 rfl
    have z2 := b2.cell 2 rfl
    have zf := b2.2.2
    clear HR
    go_wp2_with fail
    refine bodyPost_ret (v := .tuple #[.agg #[.int .i64 r, .int .i64 n, .slice A es2.length c], .int .i64 x, .bool true]) (by simp [results, Tryz.results61, go_sem, z0, z1, z2, zf, p0, p1, p2]) rfl ⟨A, c, r, rfl, rfl, Or.inl rfl, hcl, ?_⟩
    repeat (first | exact hm0 | refine Mid.storeNew ?_ (by simp; try omega) _)
end Go.Proofs.YtimmnnncgnnkgaaGreat
