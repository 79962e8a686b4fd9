/- ComposeMorphisms, both sides, in the laws' words. -/
import Derived.Test.YtaddhbdfjkbgiaaL26
import Derived.Test.YtaddhbdfjkbgiaaL14
import Derived.Deep.RegionHeld3
namespace Go.Proofs.Ytaddhbdfjkbgiaa
set_option linter.unusedVariables false
set_option linter.unusedSimpArgs false
open Go.RowKit

theorem OSS.row {w : World} {lo hi c : Nat} {A : Option Addr} {xss : List (List Int)} (h : OSS w lo hi 36 3 A c xss) {k : Nat} (hk : k < xss.length) :
    ∃ b off A' c' xs, A = some ⟨b, off, none⟩ ∧ lo ≤ b ∧ b < hi ∧ xss[k]? = some xs ∧ w.cell? ⟨b, off + k, none⟩ = some (.slice A' xs.length c') ∧ RV w lo hi A' (ints xs) ∧ xs.length ≤ c' := by
  obtain ⟨_, rows, rfl, h2, h3⟩ := h
  have hk' : k < rows.length := by rw [rowsD_len] at hk; exact hk
  obtain ⟨b, off, e, hb, hb2, hc⟩ := h2.rv.2 (by intro h0; have := congrArg List.length h0; rw [rowsV_len] at this; simp at this; subst this; simp at hk')
  obtain ⟨r, hr⟩ := get_of_lt rows hk'
  have hor := h3.1 r (List.mem_of_getElem? hr)
  obtain ⟨A1, c1, he, hn, -⟩ := owns_shape hor.2.1
  injection he with _ _ hcc
  exact ⟨b, off, r.A, r.c, r.xs, e, hb, hb2, by simp [rowsD, hr], hc k _ (by simp [rowsV, hr, Row.v]), hor.rv, by omega⟩

def ComposeMorphismsIs (r : Int) (d : List (List Int)) (r' : Int) (d' : List (List Int)) (rr : Int) (res : List (List Int)) (b : Bool) : Prop :=
  ((IsMor r d ∧ IsMor r' d' ∧ r = r' ∧ ∀ l ∈ d', (expand d l).length ≤ 24) → rr = r ∧ res = d'.map (expand d) ∧ b = true) ∧
  (¬ (IsMor r d ∧ IsMor r' d' ∧ r = r' ∧ ∀ l ∈ d', (expand d l).length ≤ 24) → rr = 0 ∧ res = [] ∧ b = false)
theorem ComposeMorphismsIs_ex (r : Int) (d : List (List Int)) (r' : Int) (d' : List (List Int)) (_ : (Lit.int .i64 r).wf = true) (_ : OkSS d) (_ : d.length + sumL d ≤ 1048576) (_ : (Lit.int .i64 r').wf = true) (_ : OkSS d') (_ : d'.length + sumL d' ≤ 1048576) : ∃ rr res b, ComposeMorphismsIs r d r' d' rr res b := by
  by_cases h : IsMor r d ∧ IsMor r' d' ∧ r = r' ∧ ∀ l ∈ d', (expand d l).length ≤ 24
  · exact ⟨r, d'.map (expand d), true, fun _ => ⟨rfl, rfl, rfl⟩, fun h' => absurd h h'⟩
  · exact ⟨0, [], false, fun h' => absurd h' h, fun _ => ⟨rfl, rfl, rfl⟩⟩
theorem sumL_le_mul {d : List (List Int)} {b : Nat} (h : ∀ xs ∈ d, xs.length ≤ b) : sumL d ≤ d.length * b := by
  induction d with
  | nil => simp [sumL]
  | cons x t ih =>
    have h1 := h x (by simp)
    have h2 := ih fun xs hx => h xs (by simp [hx])
    have h3 : sumL (x :: t) = x.length + sumL t := by simp [sumL]
    rw [h3, List.length_cons, Nat.succ_mul]
    omega
theorem ComposeMorphismsIs_len {r : Int} {d : List (List Int)} {r' : Int} {d' : List (List Int)} {rr : Int} {res : List (List Int)} {b : Bool} (h : ComposeMorphismsIs r d r' d' rr res b)
    (_ : (Lit.int .i64 r).wf = true) (_ : OkSS d) (_ : d.length + sumL d ≤ 1048576) (_ : (Lit.int .i64 r').wf = true) (_ : OkSS d') (_ : d'.length + sumL d' ≤ 1048576) : res.length + sumL res ≤ 1048576 := by
  by_cases hg : IsMor r d ∧ IsMor r' d' ∧ r = r' ∧ ∀ l ∈ d', (expand d l).length ≤ 24
  · rw [(h.1 hg).2.1]
    have h1 := sumL_le_mul (d := d'.map (expand d)) (b := 24) (fun xs hx => by obtain ⟨l, hl, rfl⟩ := List.mem_map.1 hx; exact hg.2.2.2 l hl)
    have h2 := hg.2.1.2.2.1
    have h3 := hg.2.1.2.1
    rw [List.length_map] at h1 ⊢
    omega
  · rw [(h.2 hg).2.1]
    simp [sumL]
theorem spec_ExpandByX (A : Option Addr) (d : List (List Int)) (c : Nat) (A' : Option Addr) (l : List Int) (c' : Nat) (w : World) (lo hi : Nat) (hr : RSS w lo hi A d) (hr' : Rs w w.heap.size A' (ints l)) (hb24 : ∀ xs ∈ d, xs.length ≤ 24) (hok : ∀ xs ∈ d, OkI xs) (hokl : OkI l) (hld : d.length ≤ 1048576) (hll : l.length ≤ 1048576) :
    Calls Try.prog 93 #[.slice A d.length c, .slice A' l.length c'] w fun e w' => ∃ A c, e = .returned (.slice A (expand d l).length c) ∧ w'.ownsRow w.heap.size 3 1 (.slice A (expand d l).length c) (expand d l).length (ints (expand d l)) ∧ Below w.heap.size w w' :=
  spec_ExpandBy A d c A' l c' w lo hi hr hr' hb24 hok hokl hld hll


set_option maxHeartbeats 6400000 in
theorem sspec_ComposeMorphisms (r : Int) (A : Option Addr) (d : List (List Int)) (c : Nat) (r' : Int) (A' : Option Addr) (d' : List (List Int)) (c' : Nat) (w : World) (lo hi : Nat) (h : OSS w lo hi 36 3 A c d) (_b : (Lit.int .i64 r).wf = true) (hok : OkSS d) (hl : d.length + sumL d ≤ 1048576)
    (lo' hi' : Nat) (h' : OSS w lo' hi' 36 3 A' c' d') (_b' : (Lit.int .i64 r').wf = true) (hok' : OkSS d') (hl' : d'.length + sumL d' ≤ 1048576) (rr : Int) (res : List (List Int)) (b : Bool) (hres : ComposeMorphismsIs r d r' d' rr res b) :
    Calls Try.prog 54 #[.agg #[.int .i64 r, .slice A d.length c], .agg #[.int .i64 r', .slice A' d'.length c']] w fun e w' => ∃ A2 c2, e = .returned (.tuple #[.agg #[.int .i64 rr, .slice A2 res.length c2], .bool b]) ∧ OSS w' w.heap.size w'.heap.size 36 3 A2 c2 res ∧ Mid 0 0 w w' := by
  have hhi := h.size
  have hhi' := h'.size
  have HOK := Lib.hid hok
  have HOK' := Lib.hid hok'
  have HRES := Lib.hid hres
  clear hok hok' hres
  have hm0 : Mid 0 0 w ((((w.alloc (.cells #[.int .i64 r, .slice A d.length c] 24)).alloc (.cells #[.int .i64 r', .slice A' d'.length c'] 24)).alloc (.cells #[.int .i64 0, .slice none 0 0] 24)).alloc (.cells #[.int .i64 r, .slice none 0 0] 24)) := (((Mid.alloc _ _).trans (Mid.alloc _ _)).trans (Mid.alloc _ _)).trans (Mid.alloc _ _)
  have hbf0 : Box ((((w.alloc (.cells #[.int .i64 r, .slice A d.length c] 24)).alloc (.cells #[.int .i64 r', .slice A' d'.length c'] 24)).alloc (.cells #[.int .i64 0, .slice none 0 0] 24)).alloc (.cells #[.int .i64 r, .slice none 0 0] 24)) w.heap.size [.int .i64 r, .slice A d.length c] := (Box.new w #[.int .i64 r, .slice A d.length c] 24).mid (((Mid.alloc _ _).trans (Mid.alloc _ _)).trans (Mid.alloc _ _)) (Or.inr (Nat.zero_le _))
  have hbg0 : Box ((((w.alloc (.cells #[.int .i64 r, .slice A d.length c] 24)).alloc (.cells #[.int .i64 r', .slice A' d'.length c'] 24)).alloc (.cells #[.int .i64 0, .slice none 0 0] 24)).alloc (.cells #[.int .i64 r, .slice none 0 0] 24)) (w.heap.size + 1) [.int .i64 r', .slice A' d'.length c'] := by
    have h1 := Box.mid (w' := ((((w.alloc (.cells #[.int .i64 r, .slice A d.length c] 24)).alloc (.cells #[.int .i64 r', .slice A' d'.length c'] 24)).alloc (.cells #[.int .i64 0, .slice none 0 0] 24)).alloc (.cells #[.int .i64 r, .slice none 0 0] 24))) (Box.new (w.alloc (.cells #[.int .i64 r, .slice A d.length c] 24)) #[.int .i64 r', .slice A' d'.length c'] 24) ((Mid.alloc _ _).trans (Mid.alloc _ _)) (Or.inr (Nat.zero_le _))
    simpa only [World.size_alloc] using h1
  have hbz0 : Box ((((w.alloc (.cells #[.int .i64 r, .slice A d.length c] 24)).alloc (.cells #[.int .i64 r', .slice A' d'.length c'] 24)).alloc (.cells #[.int .i64 0, .slice none 0 0] 24)).alloc (.cells #[.int .i64 r, .slice none 0 0] 24)) (w.heap.size + 1 + 1) [.int .i64 0, .slice none 0 0] := by
    have h1 := (Box.new ((w.alloc (.cells #[.int .i64 r, .slice A d.length c] 24)).alloc (.cells #[.int .i64 r', .slice A' d'.length c'] 24)) #[.int .i64 0, .slice none 0 0] 24).mid (Mid.alloc _ (.cells #[.int .i64 r, .slice none 0 0] 24)) (Or.inr (Nat.zero_le _))
    simpa only [World.size_alloc] using h1
  have hbx0 : Box ((((w.alloc (.cells #[.int .i64 r, .slice A d.length c] 24)).alloc (.cells #[.int .i64 r', .slice A' d'.length c'] 24)).alloc (.cells #[.int .i64 0, .slice none 0 0] 24)).alloc (.cells #[.int .i64 r, .slice none 0 0] 24)) (w.heap.size + 1 + 1 + 1) [.int .i64 r, .slice none 0 0] := by
    have h1 := Box.new (((w.alloc (.cells #[.int .i64 r, .slice A d.length c] 24)).alloc (.cells #[.int .i64 r', .slice A' d'.length c'] 24)).alloc (.cells #[.int .i64 0, .slice none 0 0] 24)) #[.int .i64 r, .slice none 0 0] 24
    simpa only [World.size_alloc] using h1
  have hsz0 : w.heap.size + 4 ≤ ((((w.alloc (.cells #[.int .i64 r, .slice A d.length c] 24)).alloc (.cells #[.int .i64 r', .slice A' d'.length c'] 24)).alloc (.cells #[.int .i64 0, .slice none 0 0] 24)).alloc (.cells #[.int .i64 r, .slice none 0 0] 24)).heap.size := by simp
  obtain ⟨wb, hwb⟩ : ∃ wb, wb = ((((w.alloc (.cells #[.int .i64 r, .slice A d.length c] 24)).alloc (.cells #[.int .i64 r', .slice A' d'.length c'] 24)).alloc (.cells #[.int .i64 0, .slice none 0 0] 24)).alloc (.cells #[.int .i64 r, .slice none 0 0] 24)) := ⟨_, rfl⟩
  rw [← hwb] at hm0 hbf0 hbg0 hbz0 hbx0 hsz0
  have ho0 := h.mid hm0 (Or.inl (Nat.zero_le _))
  have ho0' := h'.mid hm0 (Or.inl (Nat.zero_le _))
  have HWB := Lib.hid hwb
  clear h h' hwb
  have kf0 := hbf0.cell 0 rfl
  have kf1 := hbf0.cell 1 rfl
  have kg0 := hbg0.cell 0 rfl
  have kg1 := hbg0.cell 1 rfl
  by_cases v1 : ¬ IsMor r d
  · obtain ⟨e1, e2, e3⟩ := HRES.out.2 (fun hh => v1 hh.1)
    subst e1 e2 e3
    have HV1 := Lib.hid v1
    clear v1 HRES
    go_enter Try.func54, Try.ntmps54
    go_wp2_with fail
    rw [← HWB.out]
    with_reducible refine (spec_IsMorphism r A d c _ _ _ ho0.rss HOK.out hl false (iff_of_false Bool.false_ne_true HV1.out)).mono ?_
    rintro e w1 ⟨rfl, hm1⟩
    have hbz1 := hbz0.mid hm1 (Or.inr (Nat.zero_le _))
    have hm := hm0.trans hm1
    have kz0 := hbz1.cell 0 rfl
    have kz1 := hbz1.cell 1 rfl
    have fz := hbz1.2.2
    go_wp2_with fail
    refine bodyPost_ret (v := .tuple #[.agg #[.int .i64 0, .slice none 0 0], .bool false]) (by simp [results, Try.results54, go_sem, kz0, kz1, fz]) rfl ⟨none, 0, rfl, OSS.nil, ?_⟩
    repeat (first | exact hm | refine Mid.storeNew ?_ (by simp <;> omega) _)
  · have v1' : IsMor r d := Classical.not_not.1 v1
    have HV1 := Lib.hid v1'
    clear v1 v1'
    by_cases v2 : ¬ IsMor r' d'
    · obtain ⟨e1, e2, e3⟩ := HRES.out.2 (fun hh => v2 hh.2.1)
      subst e1 e2 e3
      have HV2 := Lib.hid v2
      clear v2 HRES
      go_enter Try.func54, Try.ntmps54
      go_wp2_with fail
      rw [← HWB.out]
      with_reducible refine (spec_IsMorphism r A d c _ _ _ ho0.rss HOK.out hl true (iff_of_true rfl HV1.out)).mono ?_
      rintro e w1 ⟨rfl, hm1⟩
      have hbg1 := hbg0.mid hm1 (Or.inr (Nat.zero_le _))
      have hbz1 := hbz0.mid hm1 (Or.inr (Nat.zero_le _))
      have ho1' := ho0'.mid hm1 (Or.inl (Nat.zero_le _))
      have kg0' := hbg1.cell 0 rfl
      have kg1' := hbg1.cell 1 rfl
      go_wp2_with fail
      with_reducible refine (spec_IsMorphism r' A' d' c' _ _ _ ho1'.rss HOK'.out hl' false (iff_of_false Bool.false_ne_true HV2.out)).mono ?_
      rintro e w2 ⟨rfl, hm2⟩
      have hbz2 := hbz1.mid hm2 (Or.inr (Nat.zero_le _))
      have hm := (hm0.trans hm1).trans hm2
      have kz0 := hbz2.cell 0 rfl
      have kz1 := hbz2.cell 1 rfl
      have fz := hbz2.2.2
      go_wp2_with fail
      refine bodyPost_ret (v := .tuple #[.agg #[.int .i64 0, .slice none 0 0], .bool false]) (by simp [results, Try.results54, go_sem, kz0, kz1, fz]) rfl ⟨none, 0, rfl, OSS.nil, ?_⟩
      repeat (first | exact hm | refine Mid.storeNew ?_ (by simp <;> omega) _)
    · have v2' : IsMor r' d' := Classical.not_not.1 v2
      have HV2 := Lib.hid v2'
      clear v2 v2'
      by_cases hrr : (r != r') = true
      · have hne : ¬ r = r' := by simpa using hrr
        obtain ⟨e1, e2, e3⟩ := HRES.out.2 (fun hh => hne hh.2.2.1)
        subst e1 e2 e3
        clear hne HRES
        go_enter Try.func54, Try.ntmps54
        go_wp2_with fail
        rw [← HWB.out]
        with_reducible refine (spec_IsMorphism r A d c _ _ _ ho0.rss HOK.out hl true (iff_of_true rfl HV1.out)).mono ?_
        rintro e w1 ⟨rfl, hm1⟩
        have hbf1 := hbf0.mid hm1 (Or.inr (Nat.zero_le _))
        have hbg1 := hbg0.mid hm1 (Or.inr (Nat.zero_le _))
        have hbz1 := hbz0.mid hm1 (Or.inr (Nat.zero_le _))
        have ho1' := ho0'.mid hm1 (Or.inl (Nat.zero_le _))
        have kg0' := hbg1.cell 0 rfl
        have kg1' := hbg1.cell 1 rfl
        go_wp2_with fail
        with_reducible refine (spec_IsMorphism r' A' d' c' _ _ _ ho1'.rss HOK'.out hl' true (iff_of_true rfl HV2.out)).mono ?_
        rintro e w2 ⟨rfl, hm2⟩
        have hbf2 := hbf1.mid hm2 (Or.inr (Nat.zero_le _))
        have hbg2 := hbg1.mid hm2 (Or.inr (Nat.zero_le _))
        have hbz2 := hbz1.mid hm2 (Or.inr (Nat.zero_le _))
        have hm := (hm0.trans hm1).trans hm2
        have kf2 := hbf2.cell 0 rfl
        have kg2 := hbg2.cell 0 rfl
        have kz0 := hbz2.cell 0 rfl
        have kz1 := hbz2.cell 1 rfl
        have fz := hbz2.2.2
        go_wp2_with fail
        refine bodyPost_ret (v := .tuple #[.agg #[.int .i64 0, .slice none 0 0], .bool false]) (by simp [results, Try.results54, go_sem, kz0, kz1, fz]) rfl ⟨none, 0, rfl, OSS.nil, ?_⟩
        repeat (first | exact hm | refine Mid.storeNew ?_ (by simp <;> omega) _)
      · have hrr' : (r != r') = false := by simpa using hrr
        have heq : r = r' := by simpa using hrr'
        have h24 : ∀ xs ∈ d, xs.length ≤ 24 := fun xs hx => (HV1.out.2.2.2 xs hx).2.2.1
        have H24 := Lib.hid h24
        have HEQ := Lib.hid heq
        have hn1 : r' ≤ (d'.length : Int) := by have := HV2.out.2.2.1; omega
        have hn2 : (d'.length : Int) ≤ r' := by have := HV2.out.2.2.1; omega
        have hn3 : d'.length ≤ 3 := by have := HV2.out.2.1; omega
        clear hrr heq h24
        go_enter Try.func54, Try.ntmps54
        go_wp2_with fail
        rw [← HWB.out]
        with_reducible refine (spec_IsMorphism r A d c _ _ _ ho0.rss HOK.out hl true (iff_of_true rfl HV1.out)).mono ?_
        rintro e w1 ⟨rfl, hm1⟩
        have hbf1 := hbf0.mid hm1 (Or.inr (Nat.zero_le _))
        have hbg1 := hbg0.mid hm1 (Or.inr (Nat.zero_le _))
        have hbz1 := hbz0.mid hm1 (Or.inr (Nat.zero_le _))
        have hbx1 := hbx0.mid hm1 (Or.inr (Nat.zero_le _))
        have ho1 := ho0.mid hm1 (Or.inl (Nat.zero_le _))
        have ho1' := ho0'.mid hm1 (Or.inl (Nat.zero_le _))
        have kg0' := hbg1.cell 0 rfl
        have kg1' := hbg1.cell 1 rfl
        go_wp2_with fail
        with_reducible refine (spec_IsMorphism r' A' d' c' _ _ _ ho1'.rss HOK'.out hl' true (iff_of_true rfl HV2.out)).mono ?_
        rintro e w2 ⟨rfl, hm2⟩
        have hbf2 := hbf1.mid hm2 (Or.inr (Nat.zero_le _))
        have hbg2 := hbg1.mid hm2 (Or.inr (Nat.zero_le _))
        have hbz2 := hbz1.mid hm2 (Or.inr (Nat.zero_le _))
        have hbx2 := hbx1.mid hm2 (Or.inr (Nat.zero_le _))
        have ho2 := ho1.mid hm2 (Or.inl (Nat.zero_le _))
        have ho2' := ho1'.mid hm2 (Or.inl (Nat.zero_le _))
        have hm2t := (hm0.trans hm1).trans hm2
        have hsz2 : w.heap.size + 4 ≤ w2.heap.size := by have h1 := hm1.size; have h2 := hm2.size; omega
        have kf2 := hbf2.cell 0 rfl
        have kf3 := hbf2.cell 1 rfl
        have kg2 := hbg2.cell 0 rfl
        have kg3 := hbg2.cell 1 rfl
        clear kf0 kf1 kg0 kg1 kg0' kg1' hbf0 hbg0 hbz0 ho0 ho0' hbf1 hbg1 hbz1 ho1 ho1' hm0 hm1 hm2 hsz0 hbx0 hbx1
        obtain ⟨W0, hW0⟩ : ∃ W0, W0 = w2 := ⟨_, rfl⟩
        go_wp2_with fail
        have hbf3 := hbf2; have hbg3 := hbg2; have hbz3 := hbz2; have hbx3 := hbx2; have ho3 := ho2; have ho3' := ho2'; have hm3t := hm2t
        rw [← hW0] at hbf3 hbg3 hbz3 hbx3 ho3 ho3' hm3t hsz2 ⊢
        clear hbf2 hbg2 hbz2 hbx2 ho2 ho2' hm2t kf2 kf3 kg2 kg3 hW0
        have hlp : w.heap.size + 1 + 1 < W0.heap.size ∧ w.heap.size + 1 + 1 + 1 < W0.heap.size ∧ w.heap.size + 1 + 1 < w.heap.size + 1 + 1 + 1 := ⟨hbz3.1, hbx3.1, by omega⟩
        obtain ⟨hlp1, hlp2, hlp3⟩ := hlp
        go_loopw [7, 8] (fun i _ wr => ∃ k : Nat, ∃ rows : List Row, ∃ A2 c2, k ≤ d'.length ∧ i = .int .i64 k ∧ rowsD rows = (d'.take k).map (expand d) ∧
          (Box wr w.heap.size [.int .i64 r, .slice A d.length c] ∧ Box wr (w.heap.size + 1) [.int .i64 r', .slice A' d'.length c'] ∧ Box wr (w.heap.size + 1 + 1) [.int .i64 0, .slice none 0 0] ∧ Box wr (w.heap.size + 1 + 1 + 1) [.int .i64 r, .slice A2 k c2]) ∧
          (wr.ownsRow W0.heap.size 36 1 (.slice A2 k c2) k (rowsV rows) ∧ OwnRows wr W0.heap.size wr.heap.size 3 rows) ∧
          (OSS wr lo hi 36 3 A c d ∧ OSS wr lo' hi' 36 3 A' c' d') ∧ Mid 0 0 w wr ∧ W0.heap.size ≤ wr.heap.size ∧ ∀ xs ∈ d'.take k, (expand d xs).length ≤ 24)
          (fun i _ _ => d'.length - (intOf i).toNat)
        case atStart => exact ⟨0, [], none, 0, Nat.zero_le _, rfl, by simp [rowsD], ⟨hbf3, hbg3, hbz3, hbx3⟩, ⟨⟨rfl, .inl ⟨rfl, rfl⟩⟩, OwnRows.nil⟩, ⟨ho3, ho3'⟩, hm3t, Nat.le_refl _, by simp⟩
        case round =>
          clear hbf3 hbg3 hbz3 hbx3 ho3 ho3' hm3t
          obtain ⟨k, rows, A2, c2, hk, rfl, hrd, ⟨hbf, hbg, hbz, hbx⟩, ⟨hown, hrows⟩, ⟨ho, ho'⟩, hm, hsz, hall⟩ := hrel
          have HRD := Lib.hid hrd
          have HALL := Lib.hid hall
          clear hrd hall
          have kf0 := hbf.cell 0 rfl
          have kf1 := hbf.cell 1 rfl
          have kg0 := hbg.cell 0 rfl
          have kg1 := hbg.cell 1 rfl
          have kz0 := hbz.cell 0 rfl
          have kz1 := hbz.cell 1 rfl
          have kx0 := hbx.cell 0 rfl
          have kx1 := hbx.cell 1 rfl
          have fz := hbz.2.2
          have fx := hbx.2.2
          by_cases hlt : k < d'.length
          · obtain ⟨b3, off3, A3, c3, xs, rfl, -, hb3h, hxx, hcc, hrx, hcap⟩ := ho'.row hlt
            have hmem := List.mem_of_getElem? hxx
            have hlx : xs.length ≤ 24 := (HV2.out.2.2.2 xs hmem).2.2.1
            have hox := HOK'.out.2 xs hmem
            obtain ⟨ex, hex⟩ : ∃ ex, ex = expand d xs := ⟨_, rfl⟩
            have hwsz := hm.size
            have hrs := hrx.rsS
            have HX := Lib.hid hxx
            have HM := Lib.hid hmem
            have HOX := Lib.hid hox
            have HEX := Lib.hid hex
            have hlt3 : (k : Int) < (d'.length : Int) := by omega
            clear hxx hmem hox hex
            go_wp2_with fail
            have hod := ho.mid (Mid.drew1 wr) (Or.inl (Nat.zero_le _))
            have hrsd : Rs wr.drew wr.drew.heap.size A3 (ints xs) := hrs
            have HC := Lib.hid (spec_ExpandByX A d c A3 xs c3 wr.drew lo hi hod.rss hrsd H24.out HOK.out.2 HOX.out (by omega) (by omega))
            rw [← HEX.out] at HC
            have kf1d : wr.drew.cell? ⟨w.heap.size, 1, none⟩ = some (.slice A d.length c) := ((Mid.drew1 wr).bel.cell (by simp; omega)).trans kf1
            have kg1d : wr.drew.cell? ⟨w.heap.size + 1, 1, none⟩ = some (.slice (some ⟨b3, off3, none⟩) d'.length c') := ((Mid.drew1 wr).bel.cell (by simp; omega)).trans kg1
            have hccd : wr.drew.cell? ⟨b3, off3 + k, none⟩ = some (.slice A3 xs.length c3) := ((Mid.drew1 wr).bel.cell (by simp; omega)).trans hcc
            have hdsz : wr.drew.heap.size = wr.heap.size := rfl
            go_region_held3 (fun w' => w'.cell? ⟨w.heap.size, 1, none⟩ = some (.slice A d.length c) ∧ w'.cell? ⟨w.heap.size + 1, 1, none⟩ = some (.slice (some ⟨b3, off3, none⟩) d'.length c') ∧ w'.cell? ⟨b3, off3 + k, none⟩ = some (.slice A3 xs.length c3)) (first | exact ⟨kf1, kg1, hcc⟩ | exact ⟨kf1d, kg1d, hccd⟩ | exact ⟨kf1n, kg1n, hccn⟩) (first | (go_at_call 93; with_reducible refine HC.out.mono ?_; rintro e w4 ⟨A4, c4, rfl, hro4, hbl4⟩; have kf1n : w4.cell? ⟨w.heap.size, 1, none⟩ = some (.slice A d.length c) := (hbl4.cell (by simp; omega)).trans kf1d; have kg1n : w4.cell? ⟨w.heap.size + 1, 1, none⟩ = some (.slice (some ⟨b3, off3, none⟩) d'.length c') := (hbl4.cell (by simp; omega)).trans kg1d; have hccn : w4.cell? ⟨b3, off3 + k, none⟩ = some (.slice A3 xs.length c3) := (hbl4.cell (by simp; omega)).trans hccd))
            have hm4 : Mid 0 0 wr w4 := (Mid.drew1 wr).trans (Mid.of_below hbl4)
            clear kf1n kg1n hccn kf1d kg1d hccd
            have hs3 := hm4.size
            have hbf4 := hbf.mid hm4 (Or.inr (Nat.zero_le _))
            have hbg4 := hbg.mid hm4 (Or.inr (Nat.zero_le _))
            have hbz4 := hbz.mid hm4 (Or.inr (Nat.zero_le _))
            have hbx4 := hbx.mid hm4 (Or.inr (Nat.zero_le _))
            have hown4 := owns_mid hown hm4 (Or.inl (Nat.zero_le _))
            have hrows4 := hrows.mid hm4 (Or.inl (Nat.zero_le _))
            have ho4 := ho.mid hm4 (Or.inl (Nat.zero_le _))
            have ho4' := ho'.mid hm4 (Or.inl (Nat.zero_le _))
            have hmw4 := hm.trans hm4
            clear kf0 kf1 kg0 kg1 kz0 kz1 kx0 kx1 fz fx hbf hbg hbz hbx hown hrows ho ho' hcc hrx hrs
            have kz0 := hbz4.cell 0 rfl
            have kz1 := hbz4.cell 1 rfl
            have kx0 := hbx4.cell 0 rfl
            have kx1 := hbx4.cell 1 rfl
            have fz := hbz4.2.2
            have fx := hbx4.2.2
            by_cases hbig : 24 < ex.length
            · obtain ⟨e1, e2, e3⟩ := HRES.out.2 (fun hh => by have := hh.2.2.2 xs HM.out; rw [← HEX.out] at this; omega)
              subst e1 e2 e3
              go_wp2_with fail
              refine bodyPost_ret (v := .tuple #[.agg #[.int .i64 0, .slice none 0 0], .bool false]) (by simp [results, Try.results54, go_sem, kz0, kz1, fz]) rfl ⟨none, 0, rfl, OSS.nil, ?_⟩
              repeat (first | exact hmw4 | refine Mid.storeNew ?_ (by simp <;> omega) _)
            · have hsz4 : W0.heap.size ≤ w4.heap.size := by omega
              go_wp2_with (at_builtin; refine wpList_push rfl _ _ 22 rfl W0.heap.size 36 (.slice none 0 0) 1 24 undSSI infoSI rfl (by decide) _ _ _ rfl hown4 1 [.slice A4 ex.length c4] rfl rfl (by simp [Value.oneCell']) (by unfold maxLen; omega) (by omega) hsz4 ?next)
              case next =>
                intro v' w5 hown5 hgr _
                have hmg := Mid.of_grownRow hown4 hgr
                have hs5 := hmg.size
                have hbf5 := hbf4.mid hmg (Or.inl (by omega))
                have hbg5 := hbg4.mid hmg (Or.inl (by omega))
                have hbz5 := hbz4.mid hmg (Or.inl (by omega))
                have hbx5 := hbx4.mid hmg (Or.inl (by omega))
                have kx1' := hbx5.cell 1 rfl
                have fx' := hbx5.2.2
                obtain ⟨A5, c5, rfl, -, -⟩ := owns_shape hown5
                go_wp2_with fail
                go_roundw
                case rel =>
                  have hp := hrows4.push (r := ⟨A4, c4, ex⟩) (base := wr.heap.size) (hi' := w4.heap.size) hro4 (Nat.le_refl _) hsz hs3 (Nat.le_refl _) (fun g hg => (hro4.lt g hg).2)
                  have hp1 := (hp.grown hown4 (by decide) hgr).mid (Mid.setCell w5 (lo := w.heap.size + 1 + 1 + 1) (hi := w.heap.size + 1 + 1 + 1 + 1) (p := ⟨w.heap.size + 1 + 1 + 1, 1, none⟩) (.slice A5 (k + 1) c5) (by simp) (by simp)) (Or.inl (by omega))
                  have hms := Mid.setCell w5 (lo := w.heap.size + 1 + 1 + 1) (hi := w.heap.size + 1 + 1 + 1 + 1) (p := ⟨w.heap.size + 1 + 1 + 1, 1, none⟩) (.slice A5 (k + 1) c5) (by simp) (by simp)
                  have hmf := (hmw4.transNew hmg (Or.inl (by omega))).transNew hms (Or.inl (by omega))
                  refine ⟨k + 1, rows ++ [⟨A4, c4, ex⟩], A5, c5, by omega, by go_num, ?_, ⟨hbf5.mid hms (Or.inl (by omega)), hbg5.mid hms (Or.inl (by omega)), hbz5.mid hms (Or.inl (by omega)), hbx5.set 1 _ (by simp) rfl⟩, ⟨?_, hp1.wide (Nat.le_refl _) (by simpa using hs5) (by simp)⟩,
                    ⟨(ho4.mid hmg (Or.inr (by omega))).mid hms (Or.inr (by omega)), (ho4'.mid hmg (Or.inr (by omega))).mid hms (Or.inr (by omega))⟩, hmf, by simp; omega, ?_⟩
                  · rw [rowsD_append, HRD.out, take_succ_of d' HX.out, List.map_append, HEX.out]
                    rfl
                  · rw [rowsV_append]
                    exact owns_mid hown5 hms (Or.inl (by omega))
                  · intro ys hys
                    rw [take_succ_of d' HX.out] at hys
                    rcases List.mem_append.1 hys with h1 | h1
                    · exact HALL.out ys h1
                    · simp at h1
                      subst h1
                      rw [← HEX.out]
                      omega
                case measure => simp [intOf]; omega
          · obtain rfl : k = d'.length := by omega
            have hall := HALL.out
            rw [List.take_length] at hall
            obtain ⟨e1, e2, e3⟩ := HRES.out.1 ⟨HV1.out, HV2.out, HEQ.out, hall⟩
            have hD : rowsD rows = res := by rw [HRD.out, List.take_length, e2]
            have hlen : res.length = d'.length := by rw [e2, List.length_map]
            have HD := Lib.hid hD
            have HL := Lib.hid hlen
            subst e1 e3
            clear e2 hall hD hlen
            go_wp2_with fail
            refine bodyPost_ret (v := .tuple #[.agg #[.int .i64 rr, .slice A2 d'.length c2], .bool true]) (by simp [results, Try.results54, go_sem, kz0, kz1, fz]) rfl ⟨A2, c2, by rw [HL.out], ?_, ?_⟩
            · refine OSS.wide ((OSS.mk' hown hrows HD.out).mid (a := w.heap.size + 1 + 1) (b := w.heap.size + 1 + 1 + 1) ?_ (Or.inl (by omega))) (by omega) (by simp) (Nat.le_refl _)
              repeat (first | exact Mid.refl _ _ _ | refine Mid.stored ?_ _ (by simp) (by simp))
            · repeat (first | exact hm | refine Mid.storeNew ?_ (by simp <;> omega) _)


set_option maxHeartbeats 6400000 in
theorem simpl_ComposeMorphisms (r : Int) (A : Option Addr) (d : List (List Int)) (c : Nat) (r' : Int) (A' : Option Addr) (d' : List (List Int)) (c' : Nat) (w : World) (lo hi : Nat) (h : OSS w lo hi 36 3 A c d) (_b : (Lit.int .i64 r).wf = true) (hok : OkSS d) (hl : d.length + sumL d ≤ 1048576)
    (lo' hi' : Nat) (h' : OSS w lo' hi' 36 3 A' c' d') (_b' : (Lit.int .i64 r').wf = true) (hok' : OkSS d') (hl' : d'.length + sumL d' ≤ 1048576) (rr : Int) (res : List (List Int)) (b : Bool) (hres : ComposeMorphismsIs r d r' d' rr res b) :
    Calls Try.prog 55 #[.agg #[.int .i64 r, .slice A d.length c], .agg #[.int .i64 r', .slice A' d'.length c']] w fun e w' => ∃ A2 c2, e = .returned (.tuple #[.agg #[.int .i64 rr, .slice A2 res.length c2], .bool b]) ∧ OSS w' w.heap.size w'.heap.size 36 3 A2 c2 res ∧ Mid 0 0 w w' := by
  have hhi := h.size
  have hhi' := h'.size
  have HOK := Lib.hid hok
  have HOK' := Lib.hid hok'
  have HRES := Lib.hid hres
  clear hok hok' hres
  have hm0 : Mid 0 0 w (((w.alloc (.cells #[.int .i64 r, .slice A d.length c] 24)).alloc (.cells #[.int .i64 r', .slice A' d'.length c'] 24)).alloc (.cells #[.int .i64 0, .slice none 0 0] 24)) := ((Mid.alloc _ _).trans (Mid.alloc _ _)).trans (Mid.alloc _ _)
  have hbf0 : Box (((w.alloc (.cells #[.int .i64 r, .slice A d.length c] 24)).alloc (.cells #[.int .i64 r', .slice A' d'.length c'] 24)).alloc (.cells #[.int .i64 0, .slice none 0 0] 24)) w.heap.size [.int .i64 r, .slice A d.length c] := (Box.new w #[.int .i64 r, .slice A d.length c] 24).mid ((Mid.alloc _ _).trans (Mid.alloc _ _)) (Or.inr (Nat.zero_le _))
  have hbg0 : Box (((w.alloc (.cells #[.int .i64 r, .slice A d.length c] 24)).alloc (.cells #[.int .i64 r', .slice A' d'.length c'] 24)).alloc (.cells #[.int .i64 0, .slice none 0 0] 24)) (w.heap.size + 1) [.int .i64 r', .slice A' d'.length c'] := by
    have h1 := Box.mid (w' := (((w.alloc (.cells #[.int .i64 r, .slice A d.length c] 24)).alloc (.cells #[.int .i64 r', .slice A' d'.length c'] 24)).alloc (.cells #[.int .i64 0, .slice none 0 0] 24))) (Box.new (w.alloc (.cells #[.int .i64 r, .slice A d.length c] 24)) #[.int .i64 r', .slice A' d'.length c'] 24) (Mid.alloc _ _) (Or.inr (Nat.zero_le _))
    simpa only [World.size_alloc] using h1
  have hbz0 : Box (((w.alloc (.cells #[.int .i64 r, .slice A d.length c] 24)).alloc (.cells #[.int .i64 r', .slice A' d'.length c'] 24)).alloc (.cells #[.int .i64 0, .slice none 0 0] 24)) (w.heap.size + 1 + 1) [.int .i64 0, .slice none 0 0] := by
    have h1 := Box.new ((w.alloc (.cells #[.int .i64 r, .slice A d.length c] 24)).alloc (.cells #[.int .i64 r', .slice A' d'.length c'] 24)) #[.int .i64 0, .slice none 0 0] 24
    simpa only [World.size_alloc] using h1
  have hsz0 : w.heap.size + 3 ≤ (((w.alloc (.cells #[.int .i64 r, .slice A d.length c] 24)).alloc (.cells #[.int .i64 r', .slice A' d'.length c'] 24)).alloc (.cells #[.int .i64 0, .slice none 0 0] 24)).heap.size := by simp
  obtain ⟨wb, hwb⟩ : ∃ wb, wb = (((w.alloc (.cells #[.int .i64 r, .slice A d.length c] 24)).alloc (.cells #[.int .i64 r', .slice A' d'.length c'] 24)).alloc (.cells #[.int .i64 0, .slice none 0 0] 24)) := ⟨_, rfl⟩
  rw [← hwb] at hm0 hbf0 hbg0 hbz0 hsz0
  have ho0 := h.mid hm0 (Or.inl (Nat.zero_le _))
  have ho0' := h'.mid hm0 (Or.inl (Nat.zero_le _))
  have HWB := Lib.hid hwb
  clear h h' hwb
  have kf0 := hbf0.cell 0 rfl
  have kf1 := hbf0.cell 1 rfl
  have kg0 := hbg0.cell 0 rfl
  have kg1 := hbg0.cell 1 rfl
  by_cases v1 : ¬ IsMor r d
  · obtain ⟨e1, e2, e3⟩ := HRES.out.2 (fun hh => v1 hh.1)
    subst e1 e2 e3
    have HV1 := Lib.hid v1
    clear v1 HRES
    go_enter Try.func55, Try.ntmps55
    go_wp2_with fail
    rw [← HWB.out]
    with_reducible refine (impl_IsMorphism r A d c _ _ _ ho0.rss HOK.out hl false (iff_of_false Bool.false_ne_true HV1.out)).mono ?_
    rintro e w1 ⟨rfl, hm1⟩
    have hbz1 := hbz0.mid hm1 (Or.inr (Nat.zero_le _))
    have hm := hm0.trans hm1
    have kz0 := hbz1.cell 0 rfl
    have kz1 := hbz1.cell 1 rfl
    have fz := hbz1.2.2
    go_wp2_with fail
    refine bodyPost_ret (v := .tuple #[.agg #[.int .i64 0, .slice none 0 0], .bool false]) (by simp [results, Try.results55, go_sem, kz0, kz1, fz]) rfl ⟨none, 0, rfl, OSS.nil, ?_⟩
    repeat (first | exact hm | refine Mid.storeNew ?_ (by simp <;> omega) _)
  · have v1' : IsMor r d := Classical.not_not.1 v1
    have HV1 := Lib.hid v1'
    clear v1 v1'
    by_cases v2 : ¬ IsMor r' d'
    · obtain ⟨e1, e2, e3⟩ := HRES.out.2 (fun hh => v2 hh.2.1)
      subst e1 e2 e3
      have HV2 := Lib.hid v2
      clear v2 HRES
      go_enter Try.func55, Try.ntmps55
      go_wp2_with fail
      rw [← HWB.out]
      with_reducible refine (impl_IsMorphism r A d c _ _ _ ho0.rss HOK.out hl true (iff_of_true rfl HV1.out)).mono ?_
      rintro e w1 ⟨rfl, hm1⟩
      have hbg1 := hbg0.mid hm1 (Or.inr (Nat.zero_le _))
      have hbz1 := hbz0.mid hm1 (Or.inr (Nat.zero_le _))
      have ho1' := ho0'.mid hm1 (Or.inl (Nat.zero_le _))
      have kg0' := hbg1.cell 0 rfl
      have kg1' := hbg1.cell 1 rfl
      go_wp2_with fail
      with_reducible refine (impl_IsMorphism r' A' d' c' _ _ _ ho1'.rss HOK'.out hl' false (iff_of_false Bool.false_ne_true HV2.out)).mono ?_
      rintro e w2 ⟨rfl, hm2⟩
      have hbz2 := hbz1.mid hm2 (Or.inr (Nat.zero_le _))
      have hm := (hm0.trans hm1).trans hm2
      have kz0 := hbz2.cell 0 rfl
      have kz1 := hbz2.cell 1 rfl
      have fz := hbz2.2.2
      go_wp2_with fail
      refine bodyPost_ret (v := .tuple #[.agg #[.int .i64 0, .slice none 0 0], .bool false]) (by simp [results, Try.results55, go_sem, kz0, kz1, fz]) rfl ⟨none, 0, rfl, OSS.nil, ?_⟩
      repeat (first | exact hm | refine Mid.storeNew ?_ (by simp <;> omega) _)
    · have v2' : IsMor r' d' := Classical.not_not.1 v2
      have HV2 := Lib.hid v2'
      clear v2 v2'
      by_cases hrr : (r != r') = true
      · have hne : ¬ r = r' := by simpa using hrr
        obtain ⟨e1, e2, e3⟩ := HRES.out.2 (fun hh => hne hh.2.2.1)
        subst e1 e2 e3
        clear hne HRES
        go_enter Try.func55, Try.ntmps55
        go_wp2_with fail
        rw [← HWB.out]
        with_reducible refine (impl_IsMorphism r A d c _ _ _ ho0.rss HOK.out hl true (iff_of_true rfl HV1.out)).mono ?_
        rintro e w1 ⟨rfl, hm1⟩
        have hbf1 := hbf0.mid hm1 (Or.inr (Nat.zero_le _))
        have hbg1 := hbg0.mid hm1 (Or.inr (Nat.zero_le _))
        have hbz1 := hbz0.mid hm1 (Or.inr (Nat.zero_le _))
        have ho1' := ho0'.mid hm1 (Or.inl (Nat.zero_le _))
        have kg0' := hbg1.cell 0 rfl
        have kg1' := hbg1.cell 1 rfl
        go_wp2_with fail
        with_reducible refine (impl_IsMorphism r' A' d' c' _ _ _ ho1'.rss HOK'.out hl' true (iff_of_true rfl HV2.out)).mono ?_
        rintro e w2 ⟨rfl, hm2⟩
        have hbf2 := hbf1.mid hm2 (Or.inr (Nat.zero_le _))
        have hbg2 := hbg1.mid hm2 (Or.inr (Nat.zero_le _))
        have hbz2 := hbz1.mid hm2 (Or.inr (Nat.zero_le _))
        have hm := (hm0.trans hm1).trans hm2
        have kf2 := hbf2.cell 0 rfl
        have kg2 := hbg2.cell 0 rfl
        have kz0 := hbz2.cell 0 rfl
        have kz1 := hbz2.cell 1 rfl
        have fz := hbz2.2.2
        go_wp2_with fail
        refine bodyPost_ret (v := .tuple #[.agg #[.int .i64 0, .slice none 0 0], .bool false]) (by simp [results, Try.results55, go_sem, kz0, kz1, fz]) rfl ⟨none, 0, rfl, OSS.nil, ?_⟩
        repeat (first | exact hm | refine Mid.storeNew ?_ (by simp <;> omega) _)
      · have hrr' : (r != r') = false := by simpa using hrr
        have heq : r = r' := by simpa using hrr'
        have h24 : ∀ xs ∈ d, xs.length ≤ 24 := fun xs hx => (HV1.out.2.2.2 xs hx).2.2.1
        have H24 := Lib.hid h24
        have HEQ := Lib.hid heq
        have hn1 : r' ≤ (d'.length : Int) := by have := HV2.out.2.2.1; omega
        have hn2 : (d'.length : Int) ≤ r' := by have := HV2.out.2.2.1; omega
        have hn3 : d'.length ≤ 3 := by have := HV2.out.2.1; omega
        clear hrr heq h24
        go_enter Try.func55, Try.ntmps55
        go_wp2_with fail
        rw [← HWB.out]
        with_reducible refine (impl_IsMorphism r A d c _ _ _ ho0.rss HOK.out hl true (iff_of_true rfl HV1.out)).mono ?_
        rintro e w1 ⟨rfl, hm1⟩
        have hbf1 := hbf0.mid hm1 (Or.inr (Nat.zero_le _))
        have hbg1 := hbg0.mid hm1 (Or.inr (Nat.zero_le _))
        have hbz1 := hbz0.mid hm1 (Or.inr (Nat.zero_le _))
        have ho1 := ho0.mid hm1 (Or.inl (Nat.zero_le _))
        have ho1' := ho0'.mid hm1 (Or.inl (Nat.zero_le _))
        have kg0' := hbg1.cell 0 rfl
        have kg1' := hbg1.cell 1 rfl
        go_wp2_with fail
        with_reducible refine (impl_IsMorphism r' A' d' c' _ _ _ ho1'.rss HOK'.out hl' true (iff_of_true rfl HV2.out)).mono ?_
        rintro e w2 ⟨rfl, hm2⟩
        have hbf2 := hbf1.mid hm2 (Or.inr (Nat.zero_le _))
        have hbg2 := hbg1.mid hm2 (Or.inr (Nat.zero_le _))
        have hbz2 := hbz1.mid hm2 (Or.inr (Nat.zero_le _))
        have ho2 := ho1.mid hm2 (Or.inl (Nat.zero_le _))
        have ho2' := ho1'.mid hm2 (Or.inl (Nat.zero_le _))
        have hm2t := (hm0.trans hm1).trans hm2
        have hsz2 : w.heap.size + 3 ≤ w2.heap.size := by have h1 := hm1.size; have h2 := hm2.size; omega
        have kf2 := hbf2.cell 0 rfl
        have kf3 := hbf2.cell 1 rfl
        have kg2 := hbg2.cell 0 rfl
        have kg3 := hbg2.cell 1 rfl
        clear kf0 kf1 kg0 kg1 kg0' kg1' hbf0 hbg0 hbz0 ho0 ho0' hbf1 hbg1 hbz1 ho1 ho1' hm0 hm1 hm2 hsz0 
        have hmx : Mid 0 0 w2 (w2.alloc (.cells #[.int .i64 r, .slice none 0 0] 24)) := Mid.alloc _ _
        have hbf3 := hbf2.mid hmx (Or.inr (Nat.zero_le _))
        have hbg3 := hbg2.mid hmx (Or.inr (Nat.zero_le _))
        have hbz3 := hbz2.mid hmx (Or.inr (Nat.zero_le _))
        have hbx3 := Box.new w2 #[.int .i64 r, .slice none 0 0] 24
        have ho3 := ho2.mid hmx (Or.inl (Nat.zero_le _))
        have ho3' := ho2'.mid hmx (Or.inl (Nat.zero_le _))
        have hm3t := hm2t.trans hmx
        have kf4 := hbf3.cell 0 rfl
        have kf5 := hbf3.cell 1 rfl
        have kg4 := hbg3.cell 0 rfl
        have kg5 := hbg3.cell 1 rfl
        go_wp2_with fail
        obtain ⟨W0, hW0⟩ : ∃ W0, W0 = w2.alloc (.cells #[.int .i64 r, .slice none 0 0] 24) := ⟨_, rfl⟩
        rw [← hW0] at hbf3 hbg3 hbz3 hbx3 ho3 ho3' hm3t ⊢
        clear hbf2 hbg2 hbz2 ho2 ho2' hm2t kf2 kf3 kg2 kg3 kf4 kf5 kg4 kg5 hW0 hmx
        have hlp : w.heap.size + 1 + 1 < W0.heap.size ∧ w2.heap.size < W0.heap.size ∧ w.heap.size + 1 + 1 < w2.heap.size := ⟨hbz3.1, hbx3.1, by omega⟩
        obtain ⟨hlp1, hlp2, hlp3⟩ := hlp
        go_loopw [8, 9, 32] (fun _ _ i wr => ∃ k : Nat, ∃ rows : List Row, ∃ A2 c2, k ≤ d'.length ∧ i = .int .i64 k ∧ rowsD rows = (d'.take k).map (expand d) ∧
          (Box wr w.heap.size [.int .i64 r, .slice A d.length c] ∧ Box wr (w.heap.size + 1) [.int .i64 r', .slice A' d'.length c'] ∧ Box wr (w.heap.size + 1 + 1) [.int .i64 0, .slice none 0 0] ∧ Box wr (w2.heap.size) [.int .i64 r, .slice A2 k c2]) ∧
          (wr.ownsRow W0.heap.size 36 1 (.slice A2 k c2) k (rowsV rows) ∧ OwnRows wr W0.heap.size wr.heap.size 3 rows) ∧
          (OSS wr lo hi 36 3 A c d ∧ OSS wr lo' hi' 36 3 A' c' d') ∧ Mid 0 0 w wr ∧ W0.heap.size ≤ wr.heap.size ∧ ∀ xs ∈ d'.take k, (expand d xs).length ≤ 24)
          (fun _ _ i _ => d'.length - (intOf i).toNat)
        case atStart => exact ⟨0, [], none, 0, Nat.zero_le _, rfl, by simp [rowsD], ⟨hbf3, hbg3, hbz3, hbx3⟩, ⟨⟨rfl, .inl ⟨rfl, rfl⟩⟩, OwnRows.nil⟩, ⟨ho3, ho3'⟩, hm3t, Nat.le_refl _, by simp⟩
        case round =>
          clear hbf3 hbg3 hbz3 hbx3 ho3 ho3' hm3t
          obtain ⟨k, rows, A2, c2, hk, rfl, hrd, ⟨hbf, hbg, hbz, hbx⟩, ⟨hown, hrows⟩, ⟨ho, ho'⟩, hm, hsz, hall⟩ := hrel
          have HRD := Lib.hid hrd
          have HALL := Lib.hid hall
          clear hrd hall
          have kf0 := hbf.cell 0 rfl
          have kf1 := hbf.cell 1 rfl
          have kg0 := hbg.cell 0 rfl
          have kg1 := hbg.cell 1 rfl
          have kz0 := hbz.cell 0 rfl
          have kz1 := hbz.cell 1 rfl
          have kx0 := hbx.cell 0 rfl
          have kx1 := hbx.cell 1 rfl
          have fz := hbz.2.2
          have fx := hbx.2.2
          by_cases hlt : k < d'.length
          · obtain ⟨b3, off3, A3, c3, xs, rfl, -, hb3h, hxx, hcc, hrx, hcap⟩ := ho'.row hlt
            have hmem := List.mem_of_getElem? hxx
            have hlx : xs.length ≤ 24 := (HV2.out.2.2.2 xs hmem).2.2.1
            have hox := HOK'.out.2 xs hmem
            obtain ⟨ex, hex⟩ : ∃ ex, ex = expand d xs := ⟨_, rfl⟩
            have hwsz := hm.size
            have hrs := hrx.rsS
            have HX := Lib.hid hxx
            have HM := Lib.hid hmem
            have HOX := Lib.hid hox
            have HEX := Lib.hid hex
            have hlt3 : (k : Int) < (d'.length : Int) := by omega
            clear hxx hmem hox hex
            go_wp2_with fail
            have HC := Lib.hid (impl_ExpandBy A d c A3 xs c3 wr lo hi ho.rss hrs hcap H24.out HOK.out.2 HOX.out (by omega) (by omega))
            rw [← HEX.out] at HC
            with_reducible refine HC.out.mono ?_
            rintro e w4 ⟨A4, c4, rfl, hro4, hbl4⟩
            have hm4 : Mid 0 0 wr w4 := Mid.of_below hbl4
            have hs3 := hm4.size
            have hbf4 := hbf.mid hm4 (Or.inr (Nat.zero_le _))
            have hbg4 := hbg.mid hm4 (Or.inr (Nat.zero_le _))
            have hbz4 := hbz.mid hm4 (Or.inr (Nat.zero_le _))
            have hbx4 := hbx.mid hm4 (Or.inr (Nat.zero_le _))
            have hown4 := owns_mid hown hm4 (Or.inl (Nat.zero_le _))
            have hrows4 := hrows.mid hm4 (Or.inl (Nat.zero_le _))
            have ho4 := ho.mid hm4 (Or.inl (Nat.zero_le _))
            have ho4' := ho'.mid hm4 (Or.inl (Nat.zero_le _))
            have hmw4 := hm.trans hm4
            clear kf0 kf1 kg0 kg1 kz0 kz1 kx0 kx1 fz fx hbf hbg hbz hbx hown hrows ho ho' hcc hrx hrs
            have kz0 := hbz4.cell 0 rfl
            have kz1 := hbz4.cell 1 rfl
            have kx0 := hbx4.cell 0 rfl
            have kx1 := hbx4.cell 1 rfl
            have fz := hbz4.2.2
            have fx := hbx4.2.2
            by_cases hbig : 24 < ex.length
            · obtain ⟨e1, e2, e3⟩ := HRES.out.2 (fun hh => by have := hh.2.2.2 xs HM.out; rw [← HEX.out] at this; omega)
              subst e1 e2 e3
              go_wp2_with fail
              refine bodyPost_ret (v := .tuple #[.agg #[.int .i64 0, .slice none 0 0], .bool false]) (by simp [results, Try.results55, go_sem, kz0, kz1, fz]) rfl ⟨none, 0, rfl, OSS.nil, ?_⟩
              repeat (first | exact hmw4 | refine Mid.storeNew ?_ (by simp <;> omega) _)
            · have hsz4 : W0.heap.size ≤ w4.heap.size := by omega
              go_wp2_with (at_builtin; refine wpList_push rfl _ _ 22 rfl W0.heap.size 36 (.slice none 0 0) 1 24 undSSI infoSI rfl (by decide) _ _ _ rfl hown4 1 [.slice A4 ex.length c4] rfl rfl (by simp [Value.oneCell']) (by unfold maxLen; omega) (by omega) hsz4 ?next)
              case next =>
                intro v' w5 hown5 hgr _
                have hmg := Mid.of_grownRow hown4 hgr
                have hs5 := hmg.size
                have hbf5 := hbf4.mid hmg (Or.inl (by omega))
                have hbg5 := hbg4.mid hmg (Or.inl (by omega))
                have hbz5 := hbz4.mid hmg (Or.inl (by omega))
                have hbx5 := hbx4.mid hmg (Or.inl (by omega))
                have kx1' := hbx5.cell 1 rfl
                have fx' := hbx5.2.2
                obtain ⟨A5, c5, rfl, -, -⟩ := owns_shape hown5
                go_wp2_with fail
                go_roundw
                case rel =>
                  have hp := hrows4.push (r := ⟨A4, c4, ex⟩) (base := wr.heap.size) (hi' := w4.heap.size) hro4 (Nat.le_refl _) hsz hs3 (Nat.le_refl _) (fun g hg => (hro4.lt g hg).2)
                  have hp1 := (hp.grown hown4 (by decide) hgr).mid (Mid.setCell w5 (lo := w2.heap.size) (hi := w2.heap.size + 1) (p := ⟨w2.heap.size, 1, none⟩) (.slice A5 (k + 1) c5) (by simp) (by simp)) (Or.inl (by omega))
                  have hms := Mid.setCell w5 (lo := w2.heap.size) (hi := w2.heap.size + 1) (p := ⟨w2.heap.size, 1, none⟩) (.slice A5 (k + 1) c5) (by simp) (by simp)
                  have hmf := (hmw4.transNew hmg (Or.inl (by omega))).transNew hms (Or.inl (by omega))
                  refine ⟨k + 1, rows ++ [⟨A4, c4, ex⟩], A5, c5, by omega, by go_num, ?_, ⟨hbf5.mid hms (Or.inl (by omega)), hbg5.mid hms (Or.inl (by omega)), hbz5.mid hms (Or.inl (by omega)), hbx5.set 1 _ (by simp) rfl⟩, ⟨?_, hp1.wide (Nat.le_refl _) (by simpa using hs5) (by simp)⟩,
                    ⟨(ho4.mid hmg (Or.inr (by omega))).mid hms (Or.inr (by omega)), (ho4'.mid hmg (Or.inr (by omega))).mid hms (Or.inr (by omega))⟩, hmf, by simp; omega, ?_⟩
                  · rw [rowsD_append, HRD.out, take_succ_of d' HX.out, List.map_append, HEX.out]
                    rfl
                  · rw [rowsV_append]
                    exact owns_mid hown5 hms (Or.inl (by omega))
                  · intro ys hys
                    rw [take_succ_of d' HX.out] at hys
                    rcases List.mem_append.1 hys with h1 | h1
                    · exact HALL.out ys h1
                    · simp at h1
                      subst h1
                      rw [← HEX.out]
                      omega
                case measure => simp [intOf]; omega
          · obtain rfl : k = d'.length := by omega
            have hall := HALL.out
            rw [List.take_length] at hall
            obtain ⟨e1, e2, e3⟩ := HRES.out.1 ⟨HV1.out, HV2.out, HEQ.out, hall⟩
            have hD : rowsD rows = res := by rw [HRD.out, List.take_length, e2]
            have hlen : res.length = d'.length := by rw [e2, List.length_map]
            have HD := Lib.hid hD
            have HL := Lib.hid hlen
            subst e1 e3
            clear e2 hall hD hlen
            go_wp2_with fail
            refine bodyPost_ret (v := .tuple #[.agg #[.int .i64 rr, .slice A2 d'.length c2], .bool true]) (by simp [results, Try.results55, go_sem, kz0, kz1, fz]) rfl ⟨A2, c2, by rw [HL.out], ?_, ?_⟩
            · refine OSS.wide ((OSS.mk' hown hrows HD.out).mid (a := w.heap.size + 1 + 1) (b := w.heap.size + 1 + 1 + 1) ?_ (Or.inl (by omega))) (by omega) (by simp) (Nat.le_refl _)
              repeat (first | exact Mid.refl _ _ _ | refine Mid.stored ?_ _ (by simp) (by simp))
            · repeat (first | exact hm | refine Mid.storeNew ?_ (by simp <;> omega) _)

end Go.Proofs.Ytaddhbdfjkbgiaa
