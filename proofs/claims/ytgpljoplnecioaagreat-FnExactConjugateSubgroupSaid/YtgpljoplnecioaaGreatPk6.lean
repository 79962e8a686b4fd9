/- Contracts and lemmas of this seat, many texts in one: see the words ahead of each. No condition beyond those typed in each lemma. -/
import Derived.Test.YtgpljoplnecioaaGreatPk1
import Derived.Test.YtgpljoplnecioaaGreatPk5
import Derived.Test.YtgpljoplnecioaaGreatPk2

/- Words, letter by letter: what IsWord tests, in plain Lean. -/
namespace Go.Proofs.YtgpljoplnecioaaGreat
set_option linter.unusedVariables false
open Go.RowKit

/-- The first k letters are letters, and none is the inverse of the one ahead of it. -/
def WordTo (rank : Int) (xs : List Int) (k : Nat) : Prop :=
  ∀ j x, j < k → xs[j]? = some x → letB rank x = true ∧ ∀ y, 0 < j → xs[j - 1]? = some y → invB y x = false
theorem WordTo.zero (rank : Int) (xs : List Int) : WordTo rank xs 0 := fun j x h => absurd h (Nat.not_lt_zero j)
theorem WordTo.succ {rank : Int} {xs : List Int} {k : Nat} {x : Int} (h : WordTo rank xs k) (hx : xs[k]? = some x) (hl : letB rank x = true) (hp : ∀ y, 0 < k → xs[k - 1]? = some y → invB y x = false) : WordTo rank xs (k + 1) := by
  intro j z hj hz
  rcases Nat.lt_or_eq_of_le (Nat.le_of_lt_succ hj) with h1 | rfl
  · exact h j z h1 hz
  · rw [hx] at hz
    obtain rfl := Option.some.inj hz
    exact ⟨hl, hp⟩
theorem wordTo_all {rank : Int} {xs : List Int} (h1 : 1 ≤ rank) (h3 : rank ≤ 3) : WordTo rank xs xs.length ↔ WordP rank xs := by
  constructor
  · intro h
    refine ⟨fun x hx => ?_, fun k x y hx hy he => ?_⟩
    · obtain ⟨j, hj⟩ := List.mem_iff_getElem?.1 hx
      have := (h j x (List.getElem?_eq_some_iff.1 hj).1 hj).1
      simpa [letB] using this
    · have hl := (List.getElem?_eq_some_iff.1 hy).1
      have h2 := (h (k + 1) y hl hy).2 x (Nat.succ_pos k) (by simpa using hx)
      have h4 := (h k x (by omega) hx).1
      simp [letB] at h4
      have : invB x y = true := (invB_iff x y).2 ⟨h4.1, by unfold minI; omega, he⟩
      rw [this] at h2
      cases h2
  · rintro ⟨ha, hb⟩ j x hj hx
    refine ⟨by simpa [letB] using ha x (List.mem_of_getElem? hx), fun y h0 hy => ?_⟩
    cases hv : invB y x with
    | false => rfl
    | true => exact absurd ((invB_iff y x).1 hv).2.2 (hb (j - 1) y x hy (by rw [Nat.sub_add_cancel h0]; exact hx))

/-- What the reference tests of one letter. -/
def RawAt (rank : Int) (xs : List Int) (j : Nat) (x : Int) : Prop := (x == 0) = false ∧ inB x (wrap64 (-rank)) rank = true ∧ ∀ y, 0 < j → xs[j - 1]? = some y → (x == wrap64 (-y)) = false
def RawTo (rank : Int) (xs : List Int) (k : Nat) : Prop := ∀ j x, j < k → xs[j]? = some x → RawAt rank xs j x
theorem RawTo.zero (rank : Int) (xs : List Int) : RawTo rank xs 0 := fun j x h => absurd h (Nat.not_lt_zero j)
theorem RawTo.succ {rank : Int} {xs : List Int} {k : Nat} {x : Int} (h : RawTo rank xs k) (hx : xs[k]? = some x) (hp : RawAt rank xs k x) : RawTo rank xs (k + 1) := by
  intro j z hj hz
  rcases Nat.lt_or_eq_of_le (Nat.le_of_lt_succ hj) with h1 | rfl
  · exact h j z h1 hz
  · rw [hx] at hz
    obtain rfl := Option.some.inj hz
    exact hp
theorem rawTo_all {rank : Int} {xs : List Int} (h1 : 1 ≤ rank) (h3 : rank ≤ 3) : RawTo rank xs xs.length ↔ WordP rank xs := by
  have hw : wrap64 (-rank) = -rank := by rw [wrap_neg (by omega) (by omega)]; unfold negI minI; rw [if_neg (by omega)]
  have hwy : ∀ y, -rank ≤ y → y ≤ rank → wrap64 (-y) = -y := fun y ha hb => by rw [wrap_neg (by omega) (by omega)]; unfold negI minI; rw [if_neg (by omega)]
  unfold RawTo RawAt
  rw [hw]
  constructor
  · intro h
    refine ⟨fun x hx => ?_, fun k x y hx hy he => ?_⟩
    · obtain ⟨j, hj⟩ := List.mem_iff_getElem?.1 hx
      have := h j x (List.getElem?_eq_some_iff.1 hj).1 hj
      simp [inB] at this
      exact ⟨this.1, this.2.1⟩
    · have hl := (List.getElem?_eq_some_iff.1 hy).1
      have h2 := (h (k + 1) y hl hy).2.2 x (Nat.succ_pos k) (by simpa using hx)
      have h4 := (h k x (by omega) hx).2.1
      simp [inB] at h4
      rw [hwy x h4.1 h4.2, he] at h2
      simp at h2
  · rintro ⟨ha, hb⟩ j x hj hx
    have h0 := ha x (List.mem_of_getElem? hx)
    refine ⟨by simpa using h0.1, by simpa [inB] using h0.2, fun y hp hy => ?_⟩
    have h5 := ha y (List.mem_of_getElem? hy)
    rw [hwy y h5.2.1 h5.2.2]
    have := hb (j - 1) y x hy (by rw [Nat.sub_add_cancel hp]; exact hx)
    simpa using this
end Go.Proofs.YtgpljoplnecioaaGreat

/- Plain: the path of a word that is added to a graph. -/
namespace Go.Proofs.YtgpljoplnecioaaGreat
set_option linter.unusedVariables false
set_option linter.unusedSimpArgs false

/-- The edge that is passed by a letter. -/
def stepE (u x v : Int) : Ed := if x < 0 then ⟨v, -x, u⟩ else ⟨u, x, v⟩
/-- The vertices of the path: u, new ones from s on, v behind letter n. -/
def pathV (u s : Int) (n : Nat) (v : Int) (i : Nat) : Int := if i = 0 then u else if i < n then s + (i : Int) - 1 else v
def pathE (u s : Int) (w : List Int) (v : Int) (k : Nat) : List Ed := (List.range k).map fun i => stepE (pathV u s w.length v i) (w.getD i 0) (pathV u s w.length v (i + 1))
theorem pathE_succ {u s v x : Int} {w : List Int} {k : Nat} (h : w[k]? = some x) : pathE u s w v (k + 1) = pathE u s w v k ++ [stepE (pathV u s w.length v k) x (pathV u s w.length v (k + 1))] := by
  simp [pathE, List.range_succ, List.getD, h]
theorem pathE_len (u s : Int) (w : List Int) (v : Int) (k : Nat) : (pathE u s w v k).length = k := by simp [pathE]
structure PathOk (r s : Int) (es : List Ed) (u : Int) (w : List Int) (v : Int) : Prop where
  gr : IsGr r s es
  u0 : 0 ≤ u ∧ u < s
  v0 : 0 ≤ v ∧ v < s
  word : IsW r w
  ne : w ≠ []
  sz : s + (w.length : Int) - 1 ≤ 40
  ln : es.length + w.length ≤ 120
theorem pathV_in {u s v : Int} {n : Nat} (hu : 0 ≤ u ∧ u < s) (hv : 0 ≤ v ∧ v < s) (i : Nat) : 0 ≤ pathV u s n v i ∧ (0 < n → pathV u s n v i < s + (n : Int) - 1) := by
  unfold pathV
  split
  · omega
  · split <;> omega
theorem stepE_in {r s u x v : Int} (hu : 0 ≤ u ∧ u < s) (hv : 0 ≤ v ∧ v < s) (hx : x ≠ 0 ∧ -r ≤ x ∧ x ≤ r) : InG r s (stepE u x v) := by
  unfold stepE InG
  split <;> simp only <;> omega
theorem path_gr {r s : Int} {es : List Ed} {u : Int} {w : List Int} {v : Int} (h : PathOk r s es u w v) : IsGr r (s + (w.length : Int) - 1) (canon (es ++ pathE u s w v w.length)) := by
  have hs := h.gr.size
  have hn : 0 < w.length := List.length_pos_iff.2 h.ne
  refine ⟨h.gr.rank, ⟨by omega, h.sz⟩, ?_, ?_, asc_canon _⟩
  · have h1 := canon_len (es ++ pathE u s w v w.length)
    rw [List.length_append, pathE_len] at h1
    have := h.ln
    omega
  · intro e he
    rcases List.mem_append.1 (mem_canon.1 he) with h1 | h1
    · have := h.gr.all e h1
      unfold InG at this ⊢
      omega
    · simp only [pathE, List.mem_map, List.mem_range] at h1
      obtain ⟨i, hi, rfl⟩ := h1
      have h2 := pathV_in (n := w.length) h.u0 h.v0 i
      have h3 := pathV_in (n := w.length) h.u0 h.v0 (i + 1)
      refine stepE_in ⟨h2.1, h2.2 hn⟩ ⟨h3.1, h3.2 hn⟩ ?_
      have hw := h.word.2.2.2
      have hm : w.getD i 0 ∈ w := by
        rw [List.getD_eq_getElem?_getD, List.getElem?_eq_getElem hi]
        exact List.getElem_mem hi
      exact hw.1 _ hm
end Go.Proofs.YtgpljoplnecioaaGreat

/- IsWord, both sides. -/
namespace Go.Proofs.YtgpljoplnecioaaGreat
set_option linter.unusedVariables false
set_option linter.unusedSimpArgs false
open Go.RowKit

set_option maxHeartbeats 1600000 in
theorem impl_IsWord (rank : Int) (A : Option Addr) (xs : List Int) (c : Nat) (w : World) (B : Nat) (hr : Rs w B A (ints xs)) (hok : OkI xs) (hl : xs.length ≤ 4194304) (r : Bool) (hres : r = true ↔ IsW rank xs) :
    Calls Tryz.prog 48 #[.int .i64 rank, .slice A xs.length c] w fun e w' => e = .returned (.bool r) ∧ w = w' := by
  have HOK := Lib.hid hok
  have HR := Lib.hid hres
  clear hok hres
  by_cases hb : inB rank 1 3 = false
  · have hf : r = false := by
      cases r with
      | false => rfl
      | true =>
        have h := HR.out.1 rfl
        simp [inB] at hb
        have := h.1
        have := h.2.1
        omega
    subst hf
    have HB := Lib.hid hb
    clear hb
    go_enter Tryz.func48, Tryz.ntmps48
    go_wp2_with fail
    refine (within_any _ _ _ _).mono ?_
    rintro e w' ⟨rfl, rfl⟩
    rw [HB.out]
    go_wp2_with fail
    go_ret
    exact ⟨rfl, rfl⟩
  · have hb' : inB rank 1 3 = true := by simpa using hb
    have h13 : 1 ≤ rank ∧ rank ≤ 3 := by simpa [inB] using hb'
    have HB := Lib.hid hb'
    clear hb hb'
    obtain ⟨h1, h3⟩ := h13
    by_cases h24 : 24 < xs.length
    · have hf : r = false := by
        cases r with
        | false => rfl
        | true =>
          have := (HR.out.1 rfl).2.2.1
          omega
      subst hf
      go_enter Tryz.func48, Tryz.ntmps48
      go_wp2_with fail
      refine (within_any _ _ _ _).mono ?_
      rintro e w' ⟨rfl, rfl⟩
      rw [HB.out]
      go_wp2_with fail
      go_ret
      exact ⟨rfl, rfl⟩
    · have hR2 : r = true ↔ WordTo rank xs xs.length := HR.out.trans ⟨fun h => (wordTo_all h1 h3).2 h.2.2.2, fun h => ⟨h1, h3, by omega, (wordTo_all h1 h3).1 h⟩⟩
      have HR2 := Lib.hid hR2
      clear hR2 HR
      go_enter Tryz.func48, Tryz.ntmps48
      go_wp2_with fail
      refine (within_any _ _ _ _).mono ?_
      rintro e w' ⟨rfl, rfl⟩
      rw [HB.out]
      go_wp2_with fail
      go_loop [5, 6, 17] (fun _ _ i => ∃ k : Nat, k ≤ xs.length ∧ i = .int .i64 k ∧ WordTo rank xs k) (fun _ _ i => xs.length - (intOf i).toNat)
      case atStart => exact ⟨0, Nat.zero_le _, rfl, WordTo.zero _ _⟩
      case round =>
        obtain ⟨k, hk, rfl, hto⟩ := hrel
        have HT := Lib.hid hto
        clear hto
        by_cases hlt : k < xs.length
        · obtain ⟨b, off, x, rfl, -, hx, hc⟩ := hr.int hlt
          have HX := Lib.hid hx
          clear hx
          by_cases hL : letB rank x = false
          · have hf : r = false := by
              cases r with
              | false => rfl
              | true =>
                have := (HR2.out.1 rfl k x hlt HX.out).1
                rw [hL] at this
                cases this
            subst hf
            have HL := Lib.hid hL
            clear hL
            go_wp2_with fail
            refine (impl_isLetter _ _ _ h1 h3).mono ?_
            rintro e w' ⟨rfl, rfl⟩
            rw [HL.out]
            go_wp2_with fail
            go_ret
            exact ⟨rfl, rfl⟩
          · have hL' : letB rank x = true := by simpa using hL
            have HL := Lib.hid hL'
            clear hL hL'
            cases k with
            | zero =>
              have hc0 : w.cell? ⟨b, off, none⟩ = some (.int .i64 x) := hc
              go_wp2_with fail
              refine (impl_isLetter _ _ _ h1 h3).mono ?_
              rintro e w' ⟨rfl, rfl⟩
              rw [HL.out]
              go_wp2_with fail
              go_round
              case rel => exact ⟨1, by omega, by go_num, HT.out.succ HX.out HL.out (fun y h => absurd h (Nat.lt_irrefl 0))⟩
              case measure => simp [intOf]; omega
            | succ m =>
              obtain ⟨b', off', y, he, -, hy, hcy⟩ := hr.int (show m < xs.length by omega)
              injection he with he
              injection he with he1 he2 _
              subst he1 he2
              have hby := HOK.out y (List.mem_of_getElem? hy)
              have HY := Lib.hid hy
              have hyl : -9223372036854775808 ≤ y ∧ y ≤ 9223372036854775807 := hby
              obtain ⟨hy1, hy2⟩ := hyl
              clear hy hby
              by_cases hI : invB y x = true
              · have hf : r = false := by
                  cases r with
                  | false => rfl
                  | true =>
                    have := (HR2.out.1 rfl (m + 1) x hlt HX.out).2 y (Nat.succ_pos m) HY.out
                    rw [hI] at this
                    cases this
                subst hf
                have HI := Lib.hid hI
                clear hI
                go_wp2_with fail
                refine (impl_isLetter _ _ _ h1 h3).mono ?_
                rintro e w' ⟨rfl, rfl⟩
                rw [HL.out]
                go_wp2_with fail
                refine (impl_areInverse _ _ _ hy1 hy2).mono ?_
                rintro e w' ⟨rfl, rfl⟩
                rw [HI.out]
                go_wp2_with fail
                go_ret
                exact ⟨rfl, rfl⟩
              · have hI' : invB y x = false := by simpa using hI
                have HI := Lib.hid hI'
                clear hI hI'
                go_wp2_with fail
                refine (impl_isLetter _ _ _ h1 h3).mono ?_
                rintro e w' ⟨rfl, rfl⟩
                rw [HL.out]
                go_wp2_with fail
                refine (impl_areInverse _ _ _ hy1 hy2).mono ?_
                rintro e w' ⟨rfl, rfl⟩
                rw [HI.out]
                go_wp2_with fail
                go_round
                case rel =>
                  refine ⟨m + 1 + 1, by omega, by go_num, HT.out.succ HX.out HL.out (fun z _ hz => ?_)⟩
                  rw [Nat.add_sub_cancel, HY.out] at hz
                  obtain rfl := Option.some.inj hz
                  exact HI.out
                case measure => simp [intOf]; omega
        · obtain rfl : k = xs.length := by omega
          obtain rfl : r = true := HR2.out.2 HT.out
          go_wp2_with fail
          go_ret
          exact ⟨rfl, rfl⟩
end Go.Proofs.YtgpljoplnecioaaGreat

/- AddPath, the program. -/
namespace Go.Proofs.YtgpljoplnecioaaGreat
set_option linter.unusedVariables false
set_option linter.unusedSimpArgs false
open Go.RowKit

/-- What AddPath gives. -/
def PathIs (r s : Int) (es : List Ed) (u : Int) (wd : List Int) (v : Int) (rs : Int) (res : List Ed) (b : Bool) : Prop :=
  (b = true ∧ PathOk r s es u wd v ∧ rs = s + (wd.length : Int) - 1 ∧ res = canon (es ++ pathE u s wd v wd.length)) ∨ (b = false ∧ ¬ PathOk r s es u wd v ∧ rs = s ∧ res = es)
theorem PathIs.no {r s : Int} {es : List Ed} {u : Int} {wd : List Int} {v rs : Int} {res : List Ed} {b : Bool} (h : PathIs r s es u wd v rs res b) (hn : ¬ PathOk r s es u wd v) : b = false ∧ rs = s ∧ res = es := by
  rcases h with ⟨-, h, -⟩ | ⟨h1, -, h2⟩
  · exact absurd h hn
  · exact ⟨h1, h2⟩
theorem PathIs.yes {r s : Int} {es : List Ed} {u : Int} {wd : List Int} {v rs : Int} {res : List Ed} {b : Bool} (h : PathIs r s es u wd v rs res b) (hn : PathOk r s es u wd v) : b = true ∧ rs = s + (wd.length : Int) - 1 ∧ res = canon (es ++ pathE u s wd v wd.length) := by
  rcases h with ⟨h1, -, h2⟩ | ⟨-, h, -⟩
  · exact ⟨h1, h2⟩
  · exact absurd hn h
theorem PathIs_ex (r s : Int) (es : List Ed) (u : Int) (wd : List Int) (v : Int) : ∃ rs res b, PathIs r s es u wd v rs res b := by
  by_cases h : PathOk r s es u wd v
  · exact ⟨_, _, _, .inl ⟨rfl, h, rfl, rfl⟩⟩
  · exact ⟨_, _, _, .inr ⟨rfl, h, rfl, rfl⟩⟩
theorem has_bool {x s : Int} (h1 : 1 ≤ s) (h2 : s ≤ 40) {b : Bool} (hb : b = true ↔ 0 ≤ x ∧ x < s) : inB x 0 (wrap64 (s - 1)) = b ∧ inB x 0 (s - 1) = b := by
  have hw : wrap64 (s - 1) = s - 1 := by unfold wrap64; omega
  rw [hw]
  have h3 : inB x 0 (s - 1) = b := by
    cases b with
    | true => have := hb.1 rfl; unfold inB; simp; omega
    | false =>
      have h : ¬ (0 ≤ x ∧ x < s) := fun h => by have := hb.2 h; cases this
      unfold inB
      simp
      omega
  exact ⟨h3, h3⟩

set_option maxHeartbeats 400000 in
theorem impl_step (u x v : Int) (w : World) (h1 : -9223372036854775808 < x) (h2 : x ≤ 9223372036854775807) :
    Calls Tryz.prog 109 #[.int .i64 u, .int .i64 x, .int .i64 v] w fun e w' => e = .returned (stepE u x v).v ∧ Mid 0 0 w w' := by
  by_cases h : x < 0
  · have d1 : decide (x < 0) = true := by simpa using h
    have he : stepE u x v = ⟨v, -x, u⟩ := by rw [stepE, if_pos h]
    rw [he]
    clear he
    go_enter Tryz.func109, Tryz.ntmps109
    go_wp2_with fail
    refine bodyPost_ret (v := .agg #[.int .i64 v, .int .i64 (-x), .int .i64 u]) (by simp [results, Tryz.results109, go_sem]) rfl ⟨rfl, ?_⟩
    repeat (first | exact Mid.alloc _ _ | refine Mid.storeNew ?_ (by simp) _)
  · have d1 : decide (x < 0) = false := by simpa using h
    have he : stepE u x v = ⟨u, x, v⟩ := by rw [stepE, if_neg h]
    rw [he]
    clear he
    go_enter Tryz.func109, Tryz.ntmps109
    go_wp2_with fail
    refine bodyPost_ret (v := .agg #[.int .i64 u, .int .i64 x, .int .i64 v]) (by simp [results, Tryz.results109, go_sem]) rfl ⟨rfl, ?_⟩
    repeat (first | exact Mid.alloc _ _ | refine Mid.storeNew ?_ (by simp) _)

set_option maxHeartbeats 6400000 in
set_option maxRecDepth 100000 in
theorem impl_AddPath (r s : Int) (A : Option Addr) (es : List Ed) (c : Nat) (u : Int) (Aw : Option Addr) (wd : List Int) (cw : Nat) (v : Int) (w : World) (lo hi lo' hi' : Nat)
    (hr : RG w lo hi A es) (hw : RV w lo' hi' Aw (ints wd)) (hl : es.length ≤ 1048576) (hwl : wd.length ≤ 1048576) (hok : OkI wd) (rs : Int) (res : List Ed) (b : Bool) (hres : PathIs r s es u wd v rs res b) :
    Calls Tryz.prog 84 #[graV r s A es.length c, .int .i64 u, .slice Aw wd.length cw, .int .i64 v] w fun e w' => ∃ A1 c1, e = .returned (.tuple #[graV r rs A1 res.length c1, .bool b]) ∧ OG w' w.heap.size w'.heap.size A1 c1 res ∧ Mid 0 0 w w' := by
  have HR := Lib.hid hres
  have HOK := Lib.hid hok
  clear hres hok
  obtain ⟨b1, hb1⟩ := bool_of (IsGr r s es)
  obtain ⟨b2, hb2⟩ := bool_of (0 ≤ u ∧ u < s)
  obtain ⟨b3, hb3⟩ := bool_of (0 ≤ v ∧ v < s)
  obtain ⟨b4, hb4⟩ := bool_of (IsW r wd)
  have H1 := Lib.hid hb1
  have H2 := Lib.hid hb2
  have H3 := Lib.hid hb3
  have H4 := Lib.hid hb4
  clear hb1 hb2 hb3 hb4
  have hm0 : Mid 0 0 w ((w.alloc (.cells #[.int .i64 r, .int .i64 s, .slice A es.length c] 29)).alloc (.cells #[.int .i64 0, .int .i64 0, .slice none 0 0] 29)) := (Mid.alloc _ _).trans (Mid.alloc _ _)
  have B0 := (Box.new w #[.int .i64 r, .int .i64 s, .slice A es.length c] 29).mid (Mid.alloc _ (.cells #[.int .i64 0, .int .i64 0, .slice none 0 0] 29)) (Or.inr (Nat.zero_le _))
  have B2 := Box.new (w.alloc (.cells #[.int .i64 r, .int .i64 s, .slice A es.length c] 29)) #[.int .i64 0, .int .i64 0, .slice none 0 0] 29
  simp only [World.size_alloc] at B2
  go_enter Tryz.func84, Tryz.ntmps84
  go_wp2_with fail
  generalize hw1 : ((w.alloc (.cells #[.int .i64 r, .int .i64 s, .slice A es.length c] 29)).alloc (.cells #[.int .i64 0, .int .i64 0, .slice none 0 0] 29)) = w1 at hm0 B0 B2 ⊢
  have hs1 : w1.heap.size = w.heap.size + 1 + 1 := by rw [← hw1]; simp
  have HS := Lib.hid hs1
  clear hw1 hs1
  with_reducible refine (impl_copyGraph r s A es c _ _ _ (hr.mid hm0 (Or.inl (Nat.zero_le _))) hl).mono ?_
  rintro en w2 ⟨A1, c1, rfl, ho2, hm2⟩
  have hal := Mid.alloc w2 (.cells #[.int .i64 r, .int .i64 s, .slice A1 es.length c1] 29)
  have Y3 := Box.new w2 #[.int .i64 r, .int .i64 s, .slice A1 es.length c1] 29
  replace B0 := B0.mid hm2 (Or.inr (Nat.zero_le _))
  replace B2 := B2.mid hm2 (Or.inr (Nat.zero_le _))
  replace hm0 := hm0.trans hm2
  replace B0 := B0.mid hal (Or.inr (Nat.zero_le _))
  replace B2 := B2.mid hal (Or.inr (Nat.zero_le _))
  replace hm0 := hm0.trans hal
  have hG2 : w.heap.size + 1 < w2.heap.size := by have := HS.out; have := hm2.size; omega
  have ho5 := (ho2.mid hal (Or.inl (Nat.zero_le _)))
  have hlt2 := ho2.ov.2.2
  have hb2k : Value.ownBlock (.slice A1 es.length c1) ≠ some w2.heap.size := fun h => by have := hlt2 _ h; omega
  have p0 := B0.cell 0 rfl
  have p1 := B0.cell 1 rfl
  have p2 := B0.cell 2 rfl
  go_wp2_with fail
  generalize w2.alloc (.cells #[.int .i64 r, .int .i64 s, .slice A1 es.length c1] 29) = w3 at hm0 B0 B2 Y3 ho5 p0 p1 p2 ⊢
  have hG3 : w2.heap.size < w3.heap.size := Y3.1
  have HOW := Lib.hid ho5.ov.2.1
  have HBK := Lib.hid hb2k
  have ho6 := ho5.wide (Nat.le_refl _) (Nat.le_refl _) (Nat.le_of_lt hG3)
  generalize hG : w2.heap.size = G at Y3 hG2 hG3 ho5 HBK ⊢
  have HGW := Lib.hid (show w1.heap.size ≤ G by rw [← hG]; exact hm2.size)
  clear hG hal hm2 hlt2 hb2k ho2 ho6

  with_reducible refine (impl_IsGraph r s A es c _ _ _ (hr.mid hm0 (Or.inl (Nat.zero_le _))).rv hl b1 H1.out).mono ?_
  rintro en w4 ⟨rfl, hm4⟩
  replace B0 := B0.mid hm4 (Or.inr (Nat.zero_le _))
  replace B2 := B2.mid hm4 (Or.inr (Nat.zero_le _))
  replace Y3 := Y3.mid hm4 (Or.inr (Nat.zero_le _))
  replace ho5 := ho5.mid hm4 (Or.inl (Nat.zero_le _))
  replace hm0 := hm0.trans hm4
  replace HOW := Lib.hid (owns_mid HOW.out hm4 (Or.inl (Nat.zero_le _)))
  clear hm4
  cases b1 with
  | false =>
    have hno : ¬ PathOk r s es u wd v := fun h => by have := H1.out.2 h.gr; cases this
    clear p0 p1 p2
    obtain ⟨rfl, rfl, rfl⟩ := HR.out.no hno
    have a0 := B2.cell 0 rfl
    have a1 := B2.cell 1 rfl
    have a2 := B2.cell 2 rfl
    have q0 := Y3.cell 0 rfl
    have q1 := Y3.cell 1 rfl
    have q2 := Y3.cell 2 rfl
    have af := B2.2.2
    go_wp2_with fail
    refine bodyPost_ret (v := .tuple #[.agg #[.int .i64 r, .int .i64 rs, .slice A1 res.length c1], .bool false]) (by simp [results, Tryz.results84, go_sem, a0, a1, a2, af, q0, q1, q2]) rfl ⟨A1, c1, rfl, ?_, ?_⟩
    · refine OG.wide (OG.mid ho5 (a := w.heap.size) (b := w.heap.size + 2) ?_ (Or.inl (by have := HS.out; omega))) (by have := HS.out; omega) (by have := ho5.size; simp; omega) (Nat.le_refl _)
      repeat (first | exact Mid.refl _ _ _ | refine Mid.stored ?_ _ (by simp; try omega) (by simp; try omega))
    · repeat (first | exact hm0 | refine Mid.storeNew ?_ (by simp; try omega) _)
  | true =>
  have hgr := H1.out.1 rfl
  have hsz := hgr.size
  have hln := hgr.len
  have hrk := hgr.rank
  have GR := Lib.hid hgr
  clear hgr H1
  clear p0 p1 p2
  have p0 := B0.cell 0 rfl
  have p1 := B0.cell 1 rfl
  have p2 := B0.cell 2 rfl
  go_wp2_with fail
  with_reducible refine (impl_has r s A es.length c u _ b2 (has_bool hsz.1 hsz.2 H2.out).1).mono ?_
  rintro en w5 ⟨rfl, hm5⟩
  replace B0 := B0.mid hm5 (Or.inr (Nat.zero_le _))
  replace B2 := B2.mid hm5 (Or.inr (Nat.zero_le _))
  replace Y3 := Y3.mid hm5 (Or.inr (Nat.zero_le _))
  replace ho5 := ho5.mid hm5 (Or.inl (Nat.zero_le _))
  replace hm0 := hm0.trans hm5
  replace HOW := Lib.hid (owns_mid HOW.out hm5 (Or.inl (Nat.zero_le _)))
  clear hm5
  cases b2 with
  | false =>
    have hno : ¬ PathOk r s es u wd v := fun h => by have := H2.out.2 h.u0; cases this
    clear p0 p1 p2
    obtain ⟨rfl, rfl, rfl⟩ := HR.out.no hno
    have a0 := B2.cell 0 rfl
    have a1 := B2.cell 1 rfl
    have a2 := B2.cell 2 rfl
    have q0 := Y3.cell 0 rfl
    have q1 := Y3.cell 1 rfl
    have q2 := Y3.cell 2 rfl
    have af := B2.2.2
    go_wp2_with fail
    refine bodyPost_ret (v := .tuple #[.agg #[.int .i64 r, .int .i64 rs, .slice A1 res.length c1], .bool false]) (by simp [results, Tryz.results84, go_sem, a0, a1, a2, af, q0, q1, q2]) rfl ⟨A1, c1, rfl, ?_, ?_⟩
    · refine OG.wide (OG.mid ho5 (a := w.heap.size) (b := w.heap.size + 2) ?_ (Or.inl (by have := HS.out; omega))) (by have := HS.out; omega) (by have := ho5.size; simp; omega) (Nat.le_refl _)
      repeat (first | exact Mid.refl _ _ _ | refine Mid.stored ?_ _ (by simp; try omega) (by simp; try omega))
    · repeat (first | exact hm0 | refine Mid.storeNew ?_ (by simp; try omega) _)
  | true =>
  have hxu := H2.out.1 rfl
  clear H2
  clear p0 p1 p2
  have p0 := B0.cell 0 rfl
  have p1 := B0.cell 1 rfl
  have p2 := B0.cell 2 rfl
  go_wp2_with fail
  with_reducible refine (impl_has r s A es.length c v _ b3 (has_bool hsz.1 hsz.2 H3.out).1).mono ?_
  rintro en w6 ⟨rfl, hm6⟩
  replace B0 := B0.mid hm6 (Or.inr (Nat.zero_le _))
  replace B2 := B2.mid hm6 (Or.inr (Nat.zero_le _))
  replace Y3 := Y3.mid hm6 (Or.inr (Nat.zero_le _))
  replace ho5 := ho5.mid hm6 (Or.inl (Nat.zero_le _))
  replace hm0 := hm0.trans hm6
  replace HOW := Lib.hid (owns_mid HOW.out hm6 (Or.inl (Nat.zero_le _)))
  clear hm6
  cases b3 with
  | false =>
    have hno : ¬ PathOk r s es u wd v := fun h => by have := H3.out.2 h.v0; cases this
    clear p0 p1 p2
    obtain ⟨rfl, rfl, rfl⟩ := HR.out.no hno
    have a0 := B2.cell 0 rfl
    have a1 := B2.cell 1 rfl
    have a2 := B2.cell 2 rfl
    have q0 := Y3.cell 0 rfl
    have q1 := Y3.cell 1 rfl
    have q2 := Y3.cell 2 rfl
    have af := B2.2.2
    go_wp2_with fail
    refine bodyPost_ret (v := .tuple #[.agg #[.int .i64 r, .int .i64 rs, .slice A1 res.length c1], .bool false]) (by simp [results, Tryz.results84, go_sem, a0, a1, a2, af, q0, q1, q2]) rfl ⟨A1, c1, rfl, ?_, ?_⟩
    · refine OG.wide (OG.mid ho5 (a := w.heap.size) (b := w.heap.size + 2) ?_ (Or.inl (by have := HS.out; omega))) (by have := HS.out; omega) (by have := ho5.size; simp; omega) (Nat.le_refl _)
      repeat (first | exact Mid.refl _ _ _ | refine Mid.stored ?_ _ (by simp; try omega) (by simp; try omega))
    · repeat (first | exact hm0 | refine Mid.storeNew ?_ (by simp; try omega) _)
  | true =>
  have hxv := H3.out.1 rfl
  clear H3
  clear p0 p1 p2
  have p0 := B0.cell 0 rfl
  have p1 := B0.cell 1 rfl
  have p2 := B0.cell 2 rfl
  by_cases hne : wd = []
  · subst hne
    have hno : ¬ PathOk r s es u [] v := fun h => h.ne rfl
    clear p0 p1 p2
    obtain ⟨rfl, rfl, rfl⟩ := HR.out.no hno
    have a0 := B2.cell 0 rfl
    have a1 := B2.cell 1 rfl
    have a2 := B2.cell 2 rfl
    have q0 := Y3.cell 0 rfl
    have q1 := Y3.cell 1 rfl
    have q2 := Y3.cell 2 rfl
    have af := B2.2.2
    go_wp2_with fail
    refine bodyPost_ret (v := .tuple #[.agg #[.int .i64 r, .int .i64 rs, .slice A1 res.length c1], .bool false]) (by simp [results, Tryz.results84, go_sem, a0, a1, a2, af, q0, q1, q2]) rfl ⟨A1, c1, rfl, ?_, ?_⟩
    · refine OG.wide (OG.mid ho5 (a := w.heap.size) (b := w.heap.size + 2) ?_ (Or.inl (by have := HS.out; omega))) (by have := HS.out; omega) (by have := ho5.size; simp; omega) (Nat.le_refl _)
      repeat (first | exact Mid.refl _ _ _ | refine Mid.stored ?_ _ (by simp; try omega) (by simp; try omega))
    · repeat (first | exact hm0 | refine Mid.storeNew ?_ (by simp; try omega) _)
  have hpos : 0 < wd.length := List.length_pos_iff.2 hne
  have d4 : ((wd.length : Int) == 0) = false := by simp only [beq_eq_false_iff_ne]; omega
  have HNE := Lib.hid hne
  clear hne
  clear p0 p1 p2
  have p0 := B0.cell 0 rfl
  have p1 := B0.cell 1 rfl
  have p2 := B0.cell 2 rfl
  go_wp2_with fail
  with_reducible refine (impl_IsWord r Aw wd cw _ _ ((hw.mid hm0 (Or.inl (Nat.zero_le _))).rs) HOK.out (by omega) b4 H4.out).mono ?_
  rintro en w7 ⟨rfl, rfl⟩
  cases b4 with
  | false =>
    have hno : ¬ PathOk r s es u wd v := fun h => by have := H4.out.2 h.word; cases this
    clear p0 p1 p2
    obtain ⟨rfl, rfl, rfl⟩ := HR.out.no hno
    have a0 := B2.cell 0 rfl
    have a1 := B2.cell 1 rfl
    have a2 := B2.cell 2 rfl
    have q0 := Y3.cell 0 rfl
    have q1 := Y3.cell 1 rfl
    have q2 := Y3.cell 2 rfl
    have af := B2.2.2
    go_wp2_with fail
    refine bodyPost_ret (v := .tuple #[.agg #[.int .i64 r, .int .i64 rs, .slice A1 res.length c1], .bool false]) (by simp [results, Tryz.results84, go_sem, a0, a1, a2, af, q0, q1, q2]) rfl ⟨A1, c1, rfl, ?_, ?_⟩
    · refine OG.wide (OG.mid ho5 (a := w.heap.size) (b := w.heap.size + 2) ?_ (Or.inl (by have := HS.out; omega))) (by have := HS.out; omega) (by have := ho5.size; simp; omega) (Nat.le_refl _)
      repeat (first | exact Mid.refl _ _ _ | refine Mid.stored ?_ _ (by simp; try omega) (by simp; try omega))
    · repeat (first | exact hm0 | refine Mid.storeNew ?_ (by simp; try omega) _)
  | true =>
  have hwd := H4.out.1 rfl
  have hwd24 := hwd.2.2.1
  have HWD := Lib.hid hwd
  clear hwd H4
  clear p0 p1 p2
  have p0 := B0.cell 0 rfl
  have p1 := B0.cell 1 rfl
  have p2 := B0.cell 2 rfl
  have d5' : IntKind.i64.wrap (s + (wd.length : Int)) = s + (wd.length : Int) := IntWalk.i64_in _ (by omega)
  have d5'' : IntKind.i64.wrap (s + (wd.length : Int) - 1) = s + (wd.length : Int) - 1 := IntWalk.i64_in _ (by omega)
  by_cases hsl : 40 < s + (wd.length : Int) - 1
  · have hno : ¬ PathOk r s es u wd v := fun h => by have := h.sz; omega
    have d5 : decide (40 < s + (wd.length : Int) - 1) = true := by simpa using hsl
    clear p1
    clear p0 p2
    have p0 := B0.cell 0 rfl
    have p1 := B0.cell 1 rfl
    have p2 := B0.cell 2 rfl
    obtain ⟨rfl, rfl, rfl⟩ := HR.out.no hno
    have a0 := B2.cell 0 rfl
    have a1 := B2.cell 1 rfl
    have a2 := B2.cell 2 rfl
    have q0 := Y3.cell 0 rfl
    have q1 := Y3.cell 1 rfl
    have q2 := Y3.cell 2 rfl
    have af := B2.2.2
    go_wp2_with fail
    refine bodyPost_ret (v := .tuple #[.agg #[.int .i64 r, .int .i64 rs, .slice A1 res.length c1], .bool false]) (by simp [results, Tryz.results84, go_sem, a0, a1, a2, af, q0, q1, q2]) rfl ⟨A1, c1, rfl, ?_, ?_⟩
    · refine OG.wide (OG.mid ho5 (a := w.heap.size) (b := w.heap.size + 2) ?_ (Or.inl (by have := HS.out; omega))) (by have := HS.out; omega) (by have := ho5.size; simp; omega) (Nat.le_refl _)
      repeat (first | exact Mid.refl _ _ _ | refine Mid.stored ?_ _ (by simp; try omega) (by simp; try omega))
    · repeat (first | exact hm0 | refine Mid.storeNew ?_ (by simp; try omega) _)
  have d5 : decide (40 < s + (wd.length : Int) - 1) = false := by simpa using hsl
  by_cases hll : 120 < es.length + wd.length
  · have hno : ¬ PathOk r s es u wd v := fun h => by have := h.ln; omega
    have d6 : decide (120 < (es.length : Int) + (wd.length : Int)) = true := by simp; omega
    obtain ⟨rfl, rfl, rfl⟩ := HR.out.no hno
    have a0 := B2.cell 0 rfl
    have a1 := B2.cell 1 rfl
    have a2 := B2.cell 2 rfl
    have q0 := Y3.cell 0 rfl
    have q1 := Y3.cell 1 rfl
    have q2 := Y3.cell 2 rfl
    have af := B2.2.2
    go_wp2_with fail
    refine bodyPost_ret (v := .tuple #[.agg #[.int .i64 r, .int .i64 rs, .slice A1 res.length c1], .bool false]) (by simp [results, Tryz.results84, go_sem, a0, a1, a2, af, q0, q1, q2]) rfl ⟨A1, c1, rfl, ?_, ?_⟩
    · refine OG.wide (OG.mid ho5 (a := w.heap.size) (b := w.heap.size + 2) ?_ (Or.inl (by have := HS.out; omega))) (by have := HS.out; omega) (by have := ho5.size; simp; omega) (Nat.le_refl _)
      repeat (first | exact Mid.refl _ _ _ | refine Mid.stored ?_ _ (by simp; try omega) (by simp; try omega))
    · repeat (first | exact hm0 | refine Mid.storeNew ?_ (by simp; try omega) _)
  have d6 : decide (120 < (es.length : Int) + (wd.length : Int)) = false := by simp; omega
  obtain ⟨rfl, hrs, hre⟩ := HR.out.yes ⟨GR.out, hxu, hxv, HWD.out, HNE.out, by omega, by omega⟩
  have HRS := Lib.hid hrs
  have HRE := Lib.hid hre
  have hasc := Lib.hid GR.out.asc
  clear hrs hre HR
  have hwn : IntKind.i64.wrap ((wd.length : Int) - 1) = (wd.length : Int) - 1 := IntWalk.i64_in _ (by omega)
  have hletb := Lib.hid HWD.out.2.2.2.1
  have q0 := Y3.cell 0 rfl
  have q1 := Y3.cell 1 rfl
  have q2 := Y3.cell 2 rfl
  go_wp2_with fail
  clear p0 p1 p2 q0 q1 q2
  go_loopw [11, 66] (fun at_ i wr => ∃ (k : Nat) (A2 : Option Addr) (n2 c2 : Nat) (sz : Int), k ≤ wd.length ∧ i = .int .i64 k ∧ at_ = .int .i64 (pathV u s wd.length v k) ∧ Hid (sz = s + ((min k (wd.length - 1) : Nat) : Int)) ∧ Hid (n2 = es.length + k) ∧
    wr.ownsRow w1.heap.size 64 3 (.slice A2 n2 c2) n2 (ints (edI (es ++ pathE u s wd v k))) ∧ Value.ownBlock (.slice A2 n2 c2) ≠ some G ∧
    Box wr w.heap.size [.int .i64 r, .int .i64 s, .slice A es.length c] ∧ Box wr (w.heap.size + 1) [.int .i64 0, .int .i64 0, .slice none 0 0] ∧
    Box wr G [.int .i64 r, .int .i64 sz, .slice A2 n2 c2] ∧ Mid 0 0 w wr) (fun _ i _ => wd.length - (intOf i).toNat)
  case atStart => exact ⟨0, A1, es.length, c1, s, Nat.zero_le _, rfl, rfl, Lib.hid (by simp), Lib.hid rfl, by simpa [pathE] using HOW.out, HBK.out, B0, B2, Y3, hm0⟩
  case round =>
    clear B0 B2 Y3 hm0 ho5 HOW HBK hG3
    obtain ⟨k, A2, n2, c2, sz, hk, rfl, rfl, HSZ, HN, hown, hbk, Z0, Z2, Z3, hmr⟩ := hrel
    have hszv := HSZ.out
    have hn2 : n2 ≤ 240 := by have := HN.out; omega
    by_cases hlt : k < wd.length
    · obtain ⟨B, off, x, rfl, hbh, hx, hcx⟩ := (hw.mid hmr (Or.inl (Nat.zero_le _))).at hlt
      have hxl := hletb.out x (List.mem_of_getElem? hx)
      have hkn : (k : Int) < (wd.length : Int) := by omega
      have hk0 : (0 : Int) ≤ (k : Int) := by omega
      have hpe := pathE_succ (u := u) (s := s) (v := v) hx
      have HPE := Lib.hid hpe
      have hGr : G < wr.heap.size := Z3.1
      have hw1r : w1.heap.size ≤ wr.heap.size := by have := HGW.out; omega
      clear hx hpe
      generalize hat : pathV u s wd.length v k = at0 at HPE ⊢
      clear hat
      by_cases hlast : k + 1 < wd.length
      · have hmin : ((min k (wd.length - 1) : Nat) : Int) = (k : Int) := by rw [Nat.min_eq_left (by omega)]
        have hmin2 : ((min (k + 1) (wd.length - 1) : Nat) : Int) = (k : Int) + 1 := by rw [Nat.min_eq_left (by omega)]; rfl
        rw [hmin] at hszv
        subst hszv
        have hto : pathV u s wd.length v (k + 1) = s + (k : Int) := by
          rw [pathV, if_neg (by omega), if_pos hlast]
          omega
        rw [hto] at HPE
        have dk : decide ((k : Int) < (wd.length : Int) - 1) = true := by simp; omega
        have hws : IntKind.i64.wrap (s + (k : Int) + 1) = s + (k : Int) + 1 := IntWalk.i64_in _ (by omega)
        have q1 := Z3.cell 1 rfl
        have qf := Z3.2.2
        have hst := Mid.setCell wr (lo := G) (hi := G + 1) (p := ⟨G, 1, none⟩) (.int .i64 (s + (k : Int) + 1)) (Nat.le_refl _) (Nat.lt_succ_self _)
        have V0 := Z0.mid hst (Or.inl (by omega))
        have V2 := Z2.mid hst (Or.inl (by omega))
        have V3 := Z3.set 1 (.int .i64 (s + (k : Int) + 1)) (by simp) rfl
        have hownV := owns_other hown (k := G) (grown_setCell (World.grownBy.refl _ (some G)) 1 (.int .i64 (s + (k : Int) + 1))) hbk
        have hmv := hmr.storeNew (p := ⟨G, 1, none⟩) (by show w.heap.size ≤ G; omega) (.int .i64 (s + (k : Int) + 1))
        have hsV : (wr.setCell ⟨G, 1, none⟩ (.int .i64 (s + (k : Int) + 1))).heap.size = wr.heap.size := by simp
        go_wp2_with fail
        generalize wr.setCell ⟨G, 1, none⟩ (.int .i64 (s + (k : Int) + 1)) = wx at V0 V2 V3 hownV hmv hsV ⊢
        have hnsz : Hid (s + (k : Int) + 1 = s + ((min (k + 1) (wd.length - 1) : Nat) : Int)) := Lib.hid (by rw [hmin2]; omega)
        clear Z0 Z2 Z3 hown hmr q1 qf hst hcx hmin hmin2 HSZ
        simp only [List.set_cons_succ, List.set_cons_zero] at V3
        generalize s + (k : Int) + 1 = sz' at V3 hnsz
        generalize s + (k : Int) = to at HPE hto ⊢
        have hGx : G < wx.heap.size := V3.1
        have hmd := Mid.drew1 wx
        have U0 := V0.mid hmd (Or.inr (Nat.zero_le _))
        have U2 := V2.mid hmd (Or.inr (Nat.zero_le _))
        have U3 := V3.mid hmd (Or.inr (Nat.zero_le _))
        have hownU := owns_mid hownV hmd (Or.inl (Nat.zero_le _))
        have hmu := hmv.trans hmd
        have g2 := U3.cell 2 rfl
        have hsd := hmd.size
        have hP1 := fun W => impl_step at0 x to W (by omega) (by omega)
        clear V0 V2 V3 hownV hmv hmd
        refine wp_region_T (S := (fun w' => w'.cell? ⟨G, 2, none⟩ = some (.slice A2 n2 c2))) 9 (by kernel_rfl) g2 ?_
        generalize World.drew wx = wz at U0 U2 U3 hownU hmu g2 hsd ⊢
        refine wpAnyT_take (i := 0) (v := ?_) rfl (by kernel_rfl) (by kernel_rfl) (by kernel_rfl) (by kernel_rfl) (fun _ _ _ h => h) (Or.inl ⟨by rfl, ?_⟩) g2 ?_
        rotate_left
        focus (intro w hSw; (try dsimp only at hSw); go_simp; try with_reducible rfl)
        try simp only [Act.put, List.setIfInBounds_toArray, List.set_cons_zero, List.set_cons_succ, List.getElem_toArray, List.getElem_cons_zero, List.getElem_cons_succ]
        refine wpAnyT_take (i := 1) (v := ?_) rfl (by kernel_rfl) (by kernel_rfl) (by kernel_rfl) (by kernel_rfl) (fun _ _ _ h => h) (Or.inl ⟨by rfl, ?_⟩) g2 ?_
        rotate_left
        focus (intro w hSw; (try dsimp only at hSw); go_simp; try with_reducible rfl)
        try simp only [Act.put, List.setIfInBounds_toArray, List.set_cons_zero, List.set_cons_succ, List.getElem_toArray, List.getElem_cons_zero, List.getElem_cons_succ]
        refine wpAnyT_take (i := 2) (v := ?_) rfl (by kernel_rfl) (by kernel_rfl) (by kernel_rfl) (by kernel_rfl) (fun _ _ _ h => h) (Or.inl ⟨by rfl, ?_⟩) g2 ?_
        rotate_left
        focus (intro w hSw; (try dsimp only at hSw); go_simp; try with_reducible rfl)
        try simp only [Act.put, List.setIfInBounds_toArray, List.set_cons_zero, List.set_cons_succ, List.getElem_toArray, List.getElem_cons_zero, List.getElem_cons_succ]
        refine wpAnyT_take (i := 3) (v := ?_) rfl (by kernel_rfl) (by kernel_rfl) (by kernel_rfl) (by kernel_rfl) (fun _ _ _ h => h) (Or.inl ⟨by rfl, ?_⟩) g2 ?_
        rotate_left
        focus (intro w hSw; (try dsimp only at hSw); go_simp; try with_reducible rfl)
        try simp only [Act.put, List.setIfInBounds_toArray, List.set_cons_zero, List.set_cons_succ, List.getElem_toArray, List.getElem_cons_zero, List.getElem_cons_succ]
        refine wpAnyT_take (i := 4) (v := ?_) rfl (by kernel_rfl) (by kernel_rfl) (by kernel_rfl) (by kernel_rfl) (fun _ _ _ h => h) (Or.inl ⟨by rfl, ?_⟩) g2 ?_
        rotate_left
        focus (intro w hSw; (try dsimp only at hSw); go_simp; try with_reducible rfl)
        try simp only [Act.put, List.setIfInBounds_toArray, List.set_cons_zero, List.set_cons_succ, List.getElem_toArray, List.getElem_cons_zero, List.getElem_cons_succ]
        refine wpAnyT_ready (rs := [5]) (by kernel_rfl) (by simp) (AllReadyT.cons rfl (fun K hK => ?_) AllReadyT.nil)
        (go_simp; refine (hP1 _).mono ?_; rintro en w7 ⟨rfl, hm7⟩; have U3' := U3.mid hm7 (Or.inr (Nat.zero_le _)); go_wp2_with fail)
        refine hK.out _ _ (Or.inr (U3'.cell 2 rfl)) (fun _ => ?_)
        clear hK K
        try simp only [Act.put, List.setIfInBounds_toArray, List.set_cons_zero, List.set_cons_succ, List.getElem_toArray, List.getElem_cons_zero, List.getElem_cons_succ]
        have U0' := U0.mid hm7 (Or.inr (Nat.zero_le _))
        have U2' := U2.mid hm7 (Or.inr (Nat.zero_le _))
        have hownU' := owns_mid hownU hm7 (Or.inl (Nat.zero_le _))
        have hmu' := hmu.trans hm7
        have hs7 := hm7.size
        clear U0 U2 U3 hownU hmu g2 hP1 hm7
        generalize stepE at0 x to = ed at HPE ⊢
        have haz := Mid.alloc w7 (.cells #[.int .i64 ed.a, .int .i64 ed.l, .int .i64 ed.b] 64)
        have T0 := U0'.mid haz (Or.inr (Nat.zero_le _))
        have T2 := U2'.mid haz (Or.inr (Nat.zero_le _))
        have T3 := U3'.mid haz (Or.inr (Nat.zero_le _))
        have hownT := hownU'.alloc (.cells #[.int .i64 ed.a, .int .i64 ed.l, .int .i64 ed.b] 64)
        have hmt := hmu'.trans haz
        have hS2 := T3.cell 2 rfl
        have hrs : Rs (w7.alloc (.cells #[.int .i64 ed.a, .int .i64 ed.l, .int .i64 ed.b] 64)) (w7.heap.size + 1) (some ⟨w7.heap.size, 0, none⟩) [.int .i64 ed.a, .int .i64 ed.l, .int .i64 ed.b] := fun _ => ⟨w7.heap.size, 0, rfl, Nat.lt_succ_self _, fun j u hu => (World.cell?_alloc_at _ _ _ _ rfl).trans (by simpa using hu)⟩
        have hone : ∀ u ∈ [Value.int .i64 ed.a, .int .i64 ed.l, .int .i64 ed.b], u.oneCell' = true := by
          intro u hu
          simp at hu
          rcases hu with rfl | rfl | rfl <;> rfl
        have hmxl : n2 + 1 ≤ maxLen := by unfold maxLen; omega
        have hbyt : (n2 + 1) * 24 ≤ 140737488355328 := by omega
        have hbas : w1.heap.size ≤ (w7.alloc (.cells #[.int .i64 ed.a, .int .i64 ed.l, .int .i64 ed.b] 64)).heap.size := by simp; omega
        have hGz : G < w7.heap.size := U3'.1
        have HO := Lib.hid hone
        have HB0 := Lib.hid (fun (g : Nat) (h : Value.ownBlock (.slice A2 n2 c2) = some g) => (hownT.lt g h).1)
        have HBk := Lib.hid hbk
        clear hone hbk U0' U2' U3' hownU' hmu' haz
        refine wpAnyT_ready (rs := [6]) (by kernel_rfl) (by simp) (AllReadyT.cons rfl (fun K hK => ?_) AllReadyT.nil)
        go_simp
        refine hK.out _ _ (Or.inr hS2) (fun _ => ?_)
        clear hK K
        try simp only [Act.put, List.setIfInBounds_toArray, List.set_cons_zero, List.set_cons_succ, List.getElem_toArray, List.getElem_cons_zero, List.getElem_cons_succ]
        generalize hwt : w7.alloc (.cells #[.int .i64 ed.a, .int .i64 ed.l, .int .i64 ed.b] 64) = wt at T0 T2 T3 hownT hmt hS2 hrs hbas ⊢
        have hszt : wt.heap.size = w7.heap.size + 1 := by rw [← hwt]; simp
        have HZT := Lib.hid hszt
        clear hwt hszt
        refine wpAnyT_ready (rs := [7]) (by kernel_rfl) (by simp) (AllReadyT.cons rfl (fun K hK => ?_) AllReadyT.nil)
        (refine step_cat (by rfl) (.tmp 84) (.tmp 89) 27 (by rfl) w1.heap.size 64 (.agg #[.int .i64 0, .int .i64 0, .int .i64 0]) 3 24 undSE infoE rfl (by decide) (.slice A2 n2 c2) n2 _ (by rfl) hownT (some ⟨w7.heap.size, 0, none⟩) 1 1 _ [.int .i64 ed.a, .int .i64 ed.l, .int .i64 ed.b] (by rfl) hrs rfl HO.out hmxl hbyt hbas ?_; intro v2 w8 ho8 hgr8 hat8; obtain ⟨A3, c3, rfl, -, -⟩ := owns_shape ho8)
        refine hK.out _ _ (Or.inr ((T3.grown hgr8 HBk.out).cell 2 rfl)) (fun _ => ?_)
        clear hK K
        try simp only [Act.put, List.setIfInBounds_toArray, List.set_cons_zero, List.set_cons_succ, List.getElem_toArray, List.getElem_cons_zero, List.getElem_cons_succ]
        have R3 := T3.grown hgr8 HBk.out
        have R0 := T0.grown hgr8 (fun h => by have := HB0.out _ h; have := HS.out; omega)
        have R2 := T2.grown hgr8 (fun h => by have := HB0.out _ h; have := HS.out; omega)
        have hmr8 : Mid 0 0 w w8 := hmt.transNew (Mid.of_grownRow hownT hgr8) (Or.inl (by have := HS.out; omega))
        have hS3 := R3.cell 2 rfl
        have hne : Value.ownBlock (.slice A3 (n2 + 1) c3) ≠ some G := by
          rcases hat8 with h | h
          · rw [h]; exact HBk.out
          · rw [h]
            intro he
            injection he with he
            have := HZT.out
            omega
        have HNE2 := Lib.hid hne
        have hrf := R3.2.2
        clear hne hat8 hS2 hrs T0 T2 T3 hmt
        refine wpAnyT_take (i := 8) (v := ?_) rfl (by kernel_rfl) (by kernel_rfl) (by kernel_rfl) (by kernel_rfl) (fun _ _ _ h => h) (Or.inl ⟨by rfl, ?_⟩) hS3 ?_
        rotate_left
        focus (intro w hSw; (try dsimp only at hSw); go_simp; try with_reducible rfl)
        try simp only [Act.put, List.setIfInBounds_toArray, List.set_cons_zero, List.set_cons_succ, List.getElem_toArray, List.getElem_cons_zero, List.getElem_cons_succ]
        refine wpAnyT_ready (rs := [9]) (by kernel_rfl) (by simp) (AllReadyT.cons rfl (fun K hK => ?_) AllReadyT.nil)
        (go_simp)
        refine hK.out _ _ (Or.inl rfl) (fun _ => ?_)
        clear hK K
        try simp only [Act.put, List.setIfInBounds_toArray, List.set_cons_zero, List.set_cons_succ, List.getElem_toArray, List.getElem_cons_zero, List.getElem_cons_succ]
        refine wpAnyT_done (by kernel_rfl) ?_ _
        go_wp2_with fail
        go_roundw
        case rel =>
          have hst := Mid.setCell w8 (lo := G) (hi := G + 1) (p := ⟨G, 2, none⟩) (.slice A3 (n2 + 1) c3) (Nat.le_refl _) (Nat.lt_succ_self _)
          refine ⟨k + 1, A3, n2 + 1, c3, sz', by omega, by go_num, by rw [hto], hnsz, Lib.hid (by rw [HN.out]; omega), ?_, HNE2.out, R0.mid hst (Or.inl (by omega)), R2.mid hst (Or.inl (by omega)), R3.set 2 _ (by simp) rfl, hmr8.storeNew (by show w.heap.size ≤ G; omega) _⟩
          have h1 := owns_other ho8 (k := G) (grown_setCell (World.grownBy.refl _ (some G)) 2 (.slice A3 (n2 + 1) c3)) HNE2.out
          rw [HPE.out, ← List.append_assoc, edI_append, ints_append, edI_one]
          exact h1
        case measure => simp [intOf]; omega
      · have hkl : k + 1 = wd.length := by omega
        have hmin : min k (wd.length - 1) = min (k + 1) (wd.length - 1) := by omega
        have hnsz : Hid (sz = s + ((min (k + 1) (wd.length - 1) : Nat) : Int)) := Lib.hid (by rw [hszv, hmin])
        have hto : pathV u s wd.length v (k + 1) = v := by
          rw [pathV, if_neg (by omega), if_neg (by omega)]
        rw [hto] at HPE
        have dk : decide ((k : Int) < (wd.length : Int) - 1) = false := by simp; omega
        clear hszv hmin HSZ
        generalize sz = sz' at Z3 hnsz
        go_wp2_with fail
        have V0 := Z0
        have V2 := Z2
        have V3 := Z3
        have hownV := hown
        have hmv := hmr
        obtain ⟨wx, hwx⟩ : ∃ wx, wr = wx := ⟨_, rfl⟩
        have hsV : wx.heap.size = wr.heap.size := by rw [hwx]
        rw [hwx] at V0 V2 V3 hownV hmv ⊢
        clear Z0 Z2 Z3 hown hmr hcx
        have hGx : G < wx.heap.size := V3.1
        have hmd := Mid.drew1 wx
        have U0 := V0.mid hmd (Or.inr (Nat.zero_le _))
        have U2 := V2.mid hmd (Or.inr (Nat.zero_le _))
        have U3 := V3.mid hmd (Or.inr (Nat.zero_le _))
        have hownU := owns_mid hownV hmd (Or.inl (Nat.zero_le _))
        have hmu := hmv.trans hmd
        have g2 := U3.cell 2 rfl
        have hsd := hmd.size
        have hP1 := fun W => impl_step at0 x v W (by omega) (by omega)
        clear V0 V2 V3 hownV hmv hmd
        refine wp_region_T (S := (fun w' => w'.cell? ⟨G, 2, none⟩ = some (.slice A2 n2 c2))) 9 (by kernel_rfl) g2 ?_
        generalize World.drew wx = wz at U0 U2 U3 hownU hmu g2 hsd ⊢
        refine wpAnyT_take (i := 0) (v := ?_) rfl (by kernel_rfl) (by kernel_rfl) (by kernel_rfl) (by kernel_rfl) (fun _ _ _ h => h) (Or.inl ⟨by rfl, ?_⟩) g2 ?_
        rotate_left
        focus (intro w hSw; (try dsimp only at hSw); go_simp; try with_reducible rfl)
        try simp only [Act.put, List.setIfInBounds_toArray, List.set_cons_zero, List.set_cons_succ, List.getElem_toArray, List.getElem_cons_zero, List.getElem_cons_succ]
        refine wpAnyT_take (i := 1) (v := ?_) rfl (by kernel_rfl) (by kernel_rfl) (by kernel_rfl) (by kernel_rfl) (fun _ _ _ h => h) (Or.inl ⟨by rfl, ?_⟩) g2 ?_
        rotate_left
        focus (intro w hSw; (try dsimp only at hSw); go_simp; try with_reducible rfl)
        try simp only [Act.put, List.setIfInBounds_toArray, List.set_cons_zero, List.set_cons_succ, List.getElem_toArray, List.getElem_cons_zero, List.getElem_cons_succ]
        refine wpAnyT_take (i := 2) (v := ?_) rfl (by kernel_rfl) (by kernel_rfl) (by kernel_rfl) (by kernel_rfl) (fun _ _ _ h => h) (Or.inl ⟨by rfl, ?_⟩) g2 ?_
        rotate_left
        focus (intro w hSw; (try dsimp only at hSw); go_simp; try with_reducible rfl)
        try simp only [Act.put, List.setIfInBounds_toArray, List.set_cons_zero, List.set_cons_succ, List.getElem_toArray, List.getElem_cons_zero, List.getElem_cons_succ]
        refine wpAnyT_take (i := 3) (v := ?_) rfl (by kernel_rfl) (by kernel_rfl) (by kernel_rfl) (by kernel_rfl) (fun _ _ _ h => h) (Or.inl ⟨by rfl, ?_⟩) g2 ?_
        rotate_left
        focus (intro w hSw; (try dsimp only at hSw); go_simp; try with_reducible rfl)
        try simp only [Act.put, List.setIfInBounds_toArray, List.set_cons_zero, List.set_cons_succ, List.getElem_toArray, List.getElem_cons_zero, List.getElem_cons_succ]
        refine wpAnyT_take (i := 4) (v := ?_) rfl (by kernel_rfl) (by kernel_rfl) (by kernel_rfl) (by kernel_rfl) (fun _ _ _ h => h) (Or.inl ⟨by rfl, ?_⟩) g2 ?_
        rotate_left
        focus (intro w hSw; (try dsimp only at hSw); go_simp; try with_reducible rfl)
        try simp only [Act.put, List.setIfInBounds_toArray, List.set_cons_zero, List.set_cons_succ, List.getElem_toArray, List.getElem_cons_zero, List.getElem_cons_succ]
        refine wpAnyT_ready (rs := [5]) (by kernel_rfl) (by simp) (AllReadyT.cons rfl (fun K hK => ?_) AllReadyT.nil)
        (go_simp; refine (hP1 _).mono ?_; rintro en w7 ⟨rfl, hm7⟩; have U3' := U3.mid hm7 (Or.inr (Nat.zero_le _)); go_wp2_with fail)
        refine hK.out _ _ (Or.inr (U3'.cell 2 rfl)) (fun _ => ?_)
        clear hK K
        try simp only [Act.put, List.setIfInBounds_toArray, List.set_cons_zero, List.set_cons_succ, List.getElem_toArray, List.getElem_cons_zero, List.getElem_cons_succ]
        have U0' := U0.mid hm7 (Or.inr (Nat.zero_le _))
        have U2' := U2.mid hm7 (Or.inr (Nat.zero_le _))
        have hownU' := owns_mid hownU hm7 (Or.inl (Nat.zero_le _))
        have hmu' := hmu.trans hm7
        have hs7 := hm7.size
        clear U0 U2 U3 hownU hmu g2 hP1 hm7
        generalize stepE at0 x v = ed at HPE ⊢
        have haz := Mid.alloc w7 (.cells #[.int .i64 ed.a, .int .i64 ed.l, .int .i64 ed.b] 64)
        have T0 := U0'.mid haz (Or.inr (Nat.zero_le _))
        have T2 := U2'.mid haz (Or.inr (Nat.zero_le _))
        have T3 := U3'.mid haz (Or.inr (Nat.zero_le _))
        have hownT := hownU'.alloc (.cells #[.int .i64 ed.a, .int .i64 ed.l, .int .i64 ed.b] 64)
        have hmt := hmu'.trans haz
        have hS2 := T3.cell 2 rfl
        have hrs : Rs (w7.alloc (.cells #[.int .i64 ed.a, .int .i64 ed.l, .int .i64 ed.b] 64)) (w7.heap.size + 1) (some ⟨w7.heap.size, 0, none⟩) [.int .i64 ed.a, .int .i64 ed.l, .int .i64 ed.b] := fun _ => ⟨w7.heap.size, 0, rfl, Nat.lt_succ_self _, fun j u hu => (World.cell?_alloc_at _ _ _ _ rfl).trans (by simpa using hu)⟩
        have hone : ∀ u ∈ [Value.int .i64 ed.a, .int .i64 ed.l, .int .i64 ed.b], u.oneCell' = true := by
          intro u hu
          simp at hu
          rcases hu with rfl | rfl | rfl <;> rfl
        have hmxl : n2 + 1 ≤ maxLen := by unfold maxLen; omega
        have hbyt : (n2 + 1) * 24 ≤ 140737488355328 := by omega
        have hbas : w1.heap.size ≤ (w7.alloc (.cells #[.int .i64 ed.a, .int .i64 ed.l, .int .i64 ed.b] 64)).heap.size := by simp; omega
        have hGz : G < w7.heap.size := U3'.1
        have HO := Lib.hid hone
        have HB0 := Lib.hid (fun (g : Nat) (h : Value.ownBlock (.slice A2 n2 c2) = some g) => (hownT.lt g h).1)
        have HBk := Lib.hid hbk
        clear hone hbk U0' U2' U3' hownU' hmu' haz
        refine wpAnyT_ready (rs := [6]) (by kernel_rfl) (by simp) (AllReadyT.cons rfl (fun K hK => ?_) AllReadyT.nil)
        go_simp
        refine hK.out _ _ (Or.inr hS2) (fun _ => ?_)
        clear hK K
        try simp only [Act.put, List.setIfInBounds_toArray, List.set_cons_zero, List.set_cons_succ, List.getElem_toArray, List.getElem_cons_zero, List.getElem_cons_succ]
        generalize hwt : w7.alloc (.cells #[.int .i64 ed.a, .int .i64 ed.l, .int .i64 ed.b] 64) = wt at T0 T2 T3 hownT hmt hS2 hrs hbas ⊢
        have hszt : wt.heap.size = w7.heap.size + 1 := by rw [← hwt]; simp
        have HZT := Lib.hid hszt
        clear hwt hszt
        refine wpAnyT_ready (rs := [7]) (by kernel_rfl) (by simp) (AllReadyT.cons rfl (fun K hK => ?_) AllReadyT.nil)
        (refine step_cat (by rfl) (.tmp 84) (.tmp 89) 27 (by rfl) w1.heap.size 64 (.agg #[.int .i64 0, .int .i64 0, .int .i64 0]) 3 24 undSE infoE rfl (by decide) (.slice A2 n2 c2) n2 _ (by rfl) hownT (some ⟨w7.heap.size, 0, none⟩) 1 1 _ [.int .i64 ed.a, .int .i64 ed.l, .int .i64 ed.b] (by rfl) hrs rfl HO.out hmxl hbyt hbas ?_; intro v2 w8 ho8 hgr8 hat8; obtain ⟨A3, c3, rfl, -, -⟩ := owns_shape ho8)
        refine hK.out _ _ (Or.inr ((T3.grown hgr8 HBk.out).cell 2 rfl)) (fun _ => ?_)
        clear hK K
        try simp only [Act.put, List.setIfInBounds_toArray, List.set_cons_zero, List.set_cons_succ, List.getElem_toArray, List.getElem_cons_zero, List.getElem_cons_succ]
        have R3 := T3.grown hgr8 HBk.out
        have R0 := T0.grown hgr8 (fun h => by have := HB0.out _ h; have := HS.out; omega)
        have R2 := T2.grown hgr8 (fun h => by have := HB0.out _ h; have := HS.out; omega)
        have hmr8 : Mid 0 0 w w8 := hmt.transNew (Mid.of_grownRow hownT hgr8) (Or.inl (by have := HS.out; omega))
        have hS3 := R3.cell 2 rfl
        have hne : Value.ownBlock (.slice A3 (n2 + 1) c3) ≠ some G := by
          rcases hat8 with h | h
          · rw [h]; exact HBk.out
          · rw [h]
            intro he
            injection he with he
            have := HZT.out
            omega
        have HNE2 := Lib.hid hne
        have hrf := R3.2.2
        clear hne hat8 hS2 hrs T0 T2 T3 hmt
        refine wpAnyT_take (i := 8) (v := ?_) rfl (by kernel_rfl) (by kernel_rfl) (by kernel_rfl) (by kernel_rfl) (fun _ _ _ h => h) (Or.inl ⟨by rfl, ?_⟩) hS3 ?_
        rotate_left
        focus (intro w hSw; (try dsimp only at hSw); go_simp; try with_reducible rfl)
        try simp only [Act.put, List.setIfInBounds_toArray, List.set_cons_zero, List.set_cons_succ, List.getElem_toArray, List.getElem_cons_zero, List.getElem_cons_succ]
        refine wpAnyT_ready (rs := [9]) (by kernel_rfl) (by simp) (AllReadyT.cons rfl (fun K hK => ?_) AllReadyT.nil)
        (go_simp)
        refine hK.out _ _ (Or.inl rfl) (fun _ => ?_)
        clear hK K
        try simp only [Act.put, List.setIfInBounds_toArray, List.set_cons_zero, List.set_cons_succ, List.getElem_toArray, List.getElem_cons_zero, List.getElem_cons_succ]
        refine wpAnyT_done (by kernel_rfl) ?_ _
        go_wp2_with fail
        go_roundw
        case rel =>
          have hst := Mid.setCell w8 (lo := G) (hi := G + 1) (p := ⟨G, 2, none⟩) (.slice A3 (n2 + 1) c3) (Nat.le_refl _) (Nat.lt_succ_self _)
          refine ⟨k + 1, A3, n2 + 1, c3, sz', by omega, by go_num, by rw [hto], hnsz, Lib.hid (by rw [HN.out]; omega), ?_, HNE2.out, R0.mid hst (Or.inl (by omega)), R2.mid hst (Or.inl (by omega)), R3.set 2 _ (by simp) rfl, hmr8.storeNew (by show w.heap.size ≤ G; omega) _⟩
          have h1 := owns_other ho8 (k := G) (grown_setCell (World.grownBy.refl _ (some G)) 2 (.slice A3 (n2 + 1) c3)) HNE2.out
          rw [HPE.out, ← List.append_assoc, edI_append, ints_append, edI_one]
          exact h1
        case measure => simp [intOf]; omega
    · obtain rfl : k = wd.length := by omega
      have hszf : sz = s + (wd.length : Int) - 1 := by rw [hszv, Nat.min_eq_right (by omega)]; omega
      subst hszf
      have hrg : RG wr w1.heap.size wr.heap.size A2 (es ++ pathE u s wd v wd.length) := OV.rv (e := 64) (size := 3) (c := c2) (n := n2) ⟨Nat.le_refl _, hown, fun g hg => (hown.lt g hg).2⟩
      have hnl : (es ++ pathE u s wd v wd.length).length = n2 := by rw [HN.out, List.length_append, pathE_len]
      have HNL := Lib.hid hnl
      have z2 := Z3.cell 2 rfl
      clear hnl hszv
      go_wp2_with fail
      with_reducible refine (impl_sortedN A2 (es ++ pathE u s wd v wd.length) n2 c2 _ _ _ HNL.out hrg (by omega)).mono ?_
      rintro en w6 ⟨A4, c4, rfl, ho6, hm6⟩
      have Q2 := Z2.mid hm6 (Or.inr (Nat.zero_le _))
      have Q3 := Z3.mid hm6 (Or.inr (Nat.zero_le _))
      have hG6 : G < wr.heap.size := Z3.1
      have hsz6 := hm6.size
      clear z2
      have a0 := Q2.cell 0 rfl
      have a1 := Q2.cell 1 rfl
      have a2 := Q2.cell 2 rfl
      have b0 := Q3.cell 0 rfl
      have b1 := Q3.cell 1 rfl
      have b2 := Q3.cell 2 rfl
      have af := Q2.2.2
      have bf := Q3.2.2
      go_wp2_with fail
      have hcl : (w.heap.size + 1 == G) = false := by simp; omega
      refine bodyPost_ret (v := .tuple #[.agg #[.int .i64 r, .int .i64 (s + (wd.length : Int) - 1), .slice A4 (canon (es ++ pathE u s wd v wd.length)).length c4], .bool true]) (by simp [results, Tryz.results84, go_sem, a0, a1, a2, b0, b1, b2, af, bf]) rfl ⟨A4, c4, ?_, ?_, ?_⟩
      · rw [HRS.out, HRE.out]
      · rw [HRE.out]
        refine OG.wide (OG.mid ho6 (a := w.heap.size) (b := G + 1) ?_ (Or.inl hG6)) (by have := hmr.size; omega) (by simp) (Nat.le_refl _)
        repeat (first | exact Mid.refl _ _ _ | refine Mid.stored ?_ _ (by simp; try omega) (by simp; try omega))
      · have h := hmr.trans hm6
        repeat (first | exact h | refine Mid.storeNew ?_ (by simp; try omega) _)
end Go.Proofs.YtgpljoplnecioaaGreat

/- IsWord of the reference. -/
namespace Go.Proofs.YtgpljoplnecioaaGreat
set_option linter.unusedVariables false
set_option linter.unusedSimpArgs false
open Go.RowKit

set_option maxHeartbeats 3200000 in
theorem spec_IsWord (rank : Int) (A : Option Addr) (xs : List Int) (c : Nat) (w : World) (B : Nat) (hr : Rs w B A (ints xs)) (hok : OkI xs) (hl : xs.length ≤ 4194304) (r : Bool) (hres : r = true ↔ IsW rank xs) :
    Calls Tryz.prog 43 #[.int .i64 rank, .slice A xs.length c] w fun e w' => e = .returned (.bool r) ∧ ∃ n, w' = w.drewN n := by
  have HOK := Lib.hid hok
  have hR2 : r = true ↔ (RawTo rank xs xs.length ∧ inB rank 1 3 = true ∧ xs.length ≤ 24) := hres.trans ⟨fun h => ⟨(rawTo_all h.1 h.2.1).2 h.2.2.2, by simp [inB]; exact ⟨h.1, h.2.1⟩, h.2.2.1⟩, fun h => by
    have h13 : 1 ≤ rank ∧ rank ≤ 3 := by simpa [inB] using h.2.1
    exact ⟨h13.1, h13.2, h.2.2, (rawTo_all h13.1 h13.2).1 h.1⟩⟩
  have HR := Lib.hid hR2
  clear hok hres hR2
  obtain ⟨nr, hnr⟩ : ∃ nr, wrap64 (-rank) = nr := ⟨_, rfl⟩
  go_enter Tryz.func43, Tryz.ntmps43
  go_wp2_with fail
  go_loopw [5] (fun i wr => ∃ k : Nat, k ≤ xs.length ∧ i = .int .i64 k ∧ (∃ n, wr = w.drewN n) ∧ RawTo rank xs k) (fun i _ => xs.length - (intOf i).toNat)
  case atStart => exact ⟨0, Nat.zero_le _, rfl, ⟨0, rfl⟩, RawTo.zero _ _⟩
  case round =>
    obtain ⟨k, hk, rfl, ⟨nd, rfl⟩, hto⟩ := hrel
    have HT := Lib.hid hto
    clear hto
    by_cases hlt : k < xs.length
    · obtain ⟨b, off, x, rfl, -, hx, hc⟩ := hr.int hlt
      have HX := Lib.hid hx
      clear hx
      have hlt3 : (k : Int) < (xs.length : Int) := by omega
      have hno : ∀ (P : Prop), (RawAt rank xs k x → P) → r = true → P := fun P h hr1 => h ((HR.out.1 hr1).1 k x hlt HX.out)
      have HNO := Lib.hid hno
      clear hno
      by_cases hx0 : (x == 0) = true
      · have hf : r = false := by
          cases r with
          | false => rfl
          | true =>
            refine (HNO.out False (fun h => ?_) rfl).elim
            rw [h.1] at hx0
            cases hx0
        subst hf
        go_wp2_with fail
        go_quiet (fail)
        go_wp2_with fail
        go_ret
        exact ⟨rfl, _, by first | rfl | exact dn _ _ _⟩
      · have hx0' : (x == 0) = false := by simpa using hx0
        clear hx0
        have hC := fun n : Nat => pq (l1In_any x nr rank (w.drewN n))
        by_cases hi : inB x nr rank = false
        · have hf : r = false := by
            cases r with
            | false => rfl
            | true =>
              refine (HNO.out False (fun h => ?_) rfl).elim
              have h2 := h.2.1
              rw [hnr, hi] at h2
              cases h2
          subst hf
          rw [hi] at hC
          have HC := Lib.hid hC
          clear hC hi
          go_wp2_with fail
          go_quiet ((go_at_call 55; first | exact qz0 (HC.out _) | exact qz1 (HC.out _)))
          go_wp2_with fail
          go_ret
          exact ⟨rfl, _, by first | rfl | exact dn _ _ _⟩
        · have hi' : inB x nr rank = true := by simpa using hi
          rw [hi'] at hC
          have HC := Lib.hid hC
          have HI := Lib.hid hi'
          clear hC hi hi'
          cases k with
          | zero =>
            have hc0 : w.cell? ⟨b, off, none⟩ = some (.int .i64 x) := hc
            go_wp2_with fail
            go_quiet ((go_at_call 55; first | exact qz0 (HC.out _) | exact qz1 (HC.out _)))
            go_wp2_with fail
            go_roundw
            case rel => exact ⟨1, by omega, by go_num, ⟨_, by first | rfl | exact dn _ _ _⟩, HT.out.succ HX.out ⟨hx0', by rw [hnr]; exact HI.out, fun y h => absurd h (Nat.lt_irrefl 0)⟩⟩
            case measure => simp [intOf]; omega
          | succ m =>
            obtain ⟨b', off', y, he, -, hy, hcy⟩ := hr.int (show m < xs.length by omega)
            injection he with he
            injection he with he1 he2 _
            subst he1 he2
            have HY := Lib.hid hy
            clear hy
            have hlm3 : (m : Int) < (xs.length : Int) := by omega
            have hm0 : (0 : Int) < (m : Int) + 1 := by omega
            have hp1 : (m : Int) + 1 - 1 = (m : Int) := by omega
            obtain ⟨ny, hny⟩ : ∃ ny, wrap64 (-y) = ny := ⟨_, rfl⟩
            by_cases hxy : (x == ny) = true
            · have hf : r = false := by
                cases r with
                | false => rfl
                | true =>
                  refine (HNO.out False (fun h => ?_) rfl).elim
                  have h2 := h.2.2 y (Nat.succ_pos m) HY.out
                  rw [hny, hxy] at h2
                  cases h2
              subst hf
              go_wp2_with fail
              go_quiet ((go_at_call 55; first | exact qz0 (HC.out _) | exact qz1 (HC.out _)))
              go_wp2_with fail
              go_ret
              exact ⟨rfl, _, by first | rfl | exact dn _ _ _⟩
            · have hxy' : (x == ny) = false := by simpa using hxy
              clear hxy
              go_wp2_with fail
              go_quiet ((go_at_call 55; first | exact qz0 (HC.out _) | exact qz1 (HC.out _)))
              go_wp2_with fail
              go_roundw
              case rel =>
                refine ⟨m + 1 + 1, by omega, by go_num, ⟨_, by first | rfl | exact dn _ _ _⟩, HT.out.succ HX.out ⟨hx0', by rw [hnr]; exact HI.out, fun z _ hz => ?_⟩⟩
                rw [Nat.add_sub_cancel, HY.out] at hz
                obtain rfl := Option.some.inj hz
                rw [hny]
                exact hxy'
              case measure => simp [intOf]; omega
    · obtain rfl : k = xs.length := by omega
      have hrv : r = (inB rank 1 3 && decide ((xs.length : Int) ≤ 24)) := by
        rw [Bool.eq_iff_iff, HR.out]
        simp only [Bool.and_eq_true, decide_eq_true_eq]
        exact ⟨fun h => ⟨h.2.1, by omega⟩, fun h => ⟨HT.out, h.1, by omega⟩⟩
      by_cases hib : inB rank 1 3 = false
      · rw [hib] at hrv
        have HI := Lib.hid hib
        clear hib
        simp only [Bool.false_and] at hrv
        subst hrv
        go_wp2_with fail
        refine (l1In_any _ _ _ _).mono ?_
        rintro e w' ⟨rfl, rfl⟩
        rw [HI.out]
        go_wp2_with fail
        go_ret
        exact ⟨rfl, _, rfl⟩
      · have hib' : inB rank 1 3 = true := by simpa using hib
        rw [hib'] at hrv
        have HI := Lib.hid hib'
        simp only [Bool.true_and] at hrv
        clear hib hib'
        subst hrv
        go_wp2_with fail
        refine (l1In_any _ _ _ _).mono ?_
        rintro e w' ⟨rfl, rfl⟩
        rw [HI.out]
        go_wp2_with fail
        go_ret
        exact ⟨rfl, _, rfl⟩
end Go.Proofs.YtgpljoplnecioaaGreat

/- AddPath, the reference. -/
namespace Go.Proofs.YtgpljoplnecioaaGreat
set_option linter.unusedVariables false
set_option linter.unusedSimpArgs false
open Go.RowKit

set_option maxHeartbeats 3000000 in
set_option maxRecDepth 100000 in
theorem spec_AddPath (r s : Int) (A : Option Addr) (es : List Ed) (c : Nat) (u : Int) (Aw : Option Addr) (wd : List Int) (cw : Nat) (v : Int) (w : World) (lo hi lo' hi' : Nat)
    (hr : RG w lo hi A es) (hw : RV w lo' hi' Aw (ints wd)) (hl : es.length ≤ 1048576) (hwl : wd.length ≤ 1048576) (hok : OkI wd) (rs : Int) (res : List Ed) (b : Bool) (hres : PathIs r s es u wd v rs res b) :
    Calls Tryz.prog 64 #[graV r s A es.length c, .int .i64 u, .slice Aw wd.length cw, .int .i64 v] w fun e w' => ∃ A1 c1, e = .returned (.tuple #[graV r rs A1 res.length c1, .bool b]) ∧ OG w' w.heap.size w'.heap.size A1 c1 res ∧ Mid 0 0 w w' := by
  have HR := Lib.hid hres
  have HOK := Lib.hid hok
  clear hres hok
  obtain ⟨b1, hb1⟩ := bool_of (IsGr r s es)
  obtain ⟨b2, hb2⟩ := bool_of (0 ≤ u ∧ u < s)
  obtain ⟨b3, hb3⟩ := bool_of (0 ≤ v ∧ v < s)
  obtain ⟨b4, hb4⟩ := bool_of (IsW r wd)
  have H1 := Lib.hid hb1
  have H2 := Lib.hid hb2
  have H3 := Lib.hid hb3
  have H4 := Lib.hid hb4
  clear hb1 hb2 hb3 hb4
  have hm0 : Mid 0 0 w ((w.alloc (.cells #[.int .i64 r, .int .i64 s, .slice A es.length c] 29)).alloc (.cells #[.int .i64 0, .int .i64 0, .slice none 0 0] 29)) := (Mid.alloc _ _).trans (Mid.alloc _ _)
  have B0 := (Box.new w #[.int .i64 r, .int .i64 s, .slice A es.length c] 29).mid (Mid.alloc _ (.cells #[.int .i64 0, .int .i64 0, .slice none 0 0] 29)) (Or.inr (Nat.zero_le _))
  have B2 := Box.new (w.alloc (.cells #[.int .i64 r, .int .i64 s, .slice A es.length c] 29)) #[.int .i64 0, .int .i64 0, .slice none 0 0] 29
  simp only [World.size_alloc] at B2
  go_enter Tryz.func64, Tryz.ntmps64
  go_wp2_with fail
  generalize hw1 : ((w.alloc (.cells #[.int .i64 r, .int .i64 s, .slice A es.length c] 29)).alloc (.cells #[.int .i64 0, .int .i64 0, .slice none 0 0] 29)) = w1 at hm0 B0 B2 ⊢
  have hs1 : w1.heap.size = w.heap.size + 1 + 1 := by rw [← hw1]; simp
  have HS := Lib.hid hs1
  clear hw1 hs1
  with_reducible refine (spec_l4Copy r s A es c _ _ _ (hr.mid hm0 (Or.inl (Nat.zero_le _))) hl).mono ?_
  rintro en w2 ⟨A1, c1, rfl, ho2, hm2⟩
  have hal := Mid.alloc w2 (.cells #[.int .i64 r, .int .i64 s, .slice A1 es.length c1] 29)
  have Y3 := Box.new w2 #[.int .i64 r, .int .i64 s, .slice A1 es.length c1] 29
  replace B0 := B0.mid hm2 (Or.inr (Nat.zero_le _))
  replace B2 := B2.mid hm2 (Or.inr (Nat.zero_le _))
  replace hm0 := hm0.trans hm2
  replace B0 := B0.mid hal (Or.inr (Nat.zero_le _))
  replace B2 := B2.mid hal (Or.inr (Nat.zero_le _))
  replace hm0 := hm0.trans hal
  have hG2 : w.heap.size + 1 < w2.heap.size := by have := HS.out; have := hm2.size; omega
  have ho5 := (ho2.mid hal (Or.inl (Nat.zero_le _)))
  have hlt2 := ho2.ov.2.2
  have hb2k : Value.ownBlock (.slice A1 es.length c1) ≠ some w2.heap.size := fun h => by have := hlt2 _ h; omega
  have p0 := B0.cell 0 rfl
  have p1 := B0.cell 1 rfl
  have p2 := B0.cell 2 rfl
  go_wp2_with fail
  generalize w2.alloc (.cells #[.int .i64 r, .int .i64 s, .slice A1 es.length c1] 29) = w3 at hm0 B0 B2 Y3 ho5 p0 p1 p2 ⊢
  have hG3 : w2.heap.size < w3.heap.size := Y3.1
  have HOW := Lib.hid ho5.ov.2.1
  have HBK := Lib.hid hb2k
  have ho6 := ho5.wide (Nat.le_refl _) (Nat.le_refl _) (Nat.le_of_lt hG3)
  generalize hG : w2.heap.size = G at Y3 hG2 hG3 ho5 HBK ⊢
  have HGW := Lib.hid (show w1.heap.size ≤ G by rw [← hG]; exact hm2.size)
  clear hG hal hm2 hlt2 hb2k ho2 ho6

  with_reducible refine (spec_IsGraph r s A es c _ _ _ (hr.mid hm0 (Or.inl (Nat.zero_le _))).rv hl b1 H1.out).mono ?_
  rintro en w4 ⟨rfl, hm4⟩
  replace B0 := B0.mid hm4 (Or.inr (Nat.zero_le _))
  replace B2 := B2.mid hm4 (Or.inr (Nat.zero_le _))
  replace Y3 := Y3.mid hm4 (Or.inr (Nat.zero_le _))
  replace ho5 := ho5.mid hm4 (Or.inl (Nat.zero_le _))
  replace hm0 := hm0.trans hm4
  replace HOW := Lib.hid (owns_mid HOW.out hm4 (Or.inl (Nat.zero_le _)))
  clear hm4
  cases b1 with
  | false =>
    have hno : ¬ PathOk r s es u wd v := fun h => by have := H1.out.2 h.gr; cases this
    clear p0 p1 p2
    obtain ⟨rfl, rfl, rfl⟩ := HR.out.no hno
    have a0 := B2.cell 0 rfl
    have a1 := B2.cell 1 rfl
    have a2 := B2.cell 2 rfl
    have q0 := Y3.cell 0 rfl
    have q1 := Y3.cell 1 rfl
    have q2 := Y3.cell 2 rfl
    have af := B2.2.2
    go_wp2_with fail
    refine bodyPost_ret (v := .tuple #[.agg #[.int .i64 r, .int .i64 rs, .slice A1 res.length c1], .bool false]) (by simp [results, Tryz.results64, go_sem, a0, a1, a2, af, q0, q1, q2]) rfl ⟨A1, c1, rfl, ?_, ?_⟩
    · refine OG.wide (OG.mid ho5 (a := w.heap.size) (b := w.heap.size + 2) ?_ (Or.inl (by have := HS.out; omega))) (by have := HS.out; omega) (by have := ho5.size; simp; omega) (Nat.le_refl _)
      repeat (first | exact Mid.refl _ _ _ | refine Mid.stored ?_ _ (by simp; try omega) (by simp; try omega))
    · repeat (first | exact hm0 | refine Mid.storeNew ?_ (by simp; try omega) _)
  | true =>
  have hgr := H1.out.1 rfl
  have hsz := hgr.size
  have hln := hgr.len
  have hrk := hgr.rank
  have GR := Lib.hid hgr
  clear hgr H1
  have hwsub : IntKind.i64.wrap (s - 1) = s - 1 := IntWalk.i64_in _ (by omega)
  clear p0 p1 p2
  have p0 := B0.cell 0 rfl
  have p1 := B0.cell 1 rfl
  have p2 := B0.cell 2 rfl
  go_wp2_with fail
  with_reducible refine (l1In_at (has_bool hsz.1 hsz.2 H2.out).2 _).mono ?_
  rintro en w5 ⟨rfl, rfl⟩
  cases b2 with
  | false =>
    have hno : ¬ PathOk r s es u wd v := fun h => by have := H2.out.2 h.u0; cases this
    clear p0 p1 p2
    obtain ⟨rfl, rfl, rfl⟩ := HR.out.no hno
    have a0 := B2.cell 0 rfl
    have a1 := B2.cell 1 rfl
    have a2 := B2.cell 2 rfl
    have q0 := Y3.cell 0 rfl
    have q1 := Y3.cell 1 rfl
    have q2 := Y3.cell 2 rfl
    have af := B2.2.2
    go_wp2_with fail
    refine bodyPost_ret (v := .tuple #[.agg #[.int .i64 r, .int .i64 rs, .slice A1 res.length c1], .bool false]) (by simp [results, Tryz.results64, go_sem, a0, a1, a2, af, q0, q1, q2]) rfl ⟨A1, c1, rfl, ?_, ?_⟩
    · refine OG.wide (OG.mid ho5 (a := w.heap.size) (b := w.heap.size + 2) ?_ (Or.inl (by have := HS.out; omega))) (by have := HS.out; omega) (by have := ho5.size; simp; omega) (Nat.le_refl _)
      repeat (first | exact Mid.refl _ _ _ | refine Mid.stored ?_ _ (by simp; try omega) (by simp; try omega))
    · repeat (first | exact hm0 | refine Mid.storeNew ?_ (by simp; try omega) _)
  | true =>
  have hxu := H2.out.1 rfl
  clear H2
  clear p0 p1 p2
  have p0 := B0.cell 0 rfl
  have p1 := B0.cell 1 rfl
  have p2 := B0.cell 2 rfl
  go_wp2_with fail
  with_reducible refine (l1In_at (has_bool hsz.1 hsz.2 H3.out).2 _).mono ?_
  rintro en w6 ⟨rfl, rfl⟩
  cases b3 with
  | false =>
    have hno : ¬ PathOk r s es u wd v := fun h => by have := H3.out.2 h.v0; cases this
    clear p0 p1 p2
    obtain ⟨rfl, rfl, rfl⟩ := HR.out.no hno
    have a0 := B2.cell 0 rfl
    have a1 := B2.cell 1 rfl
    have a2 := B2.cell 2 rfl
    have q0 := Y3.cell 0 rfl
    have q1 := Y3.cell 1 rfl
    have q2 := Y3.cell 2 rfl
    have af := B2.2.2
    go_wp2_with fail
    refine bodyPost_ret (v := .tuple #[.agg #[.int .i64 r, .int .i64 rs, .slice A1 res.length c1], .bool false]) (by simp [results, Tryz.results64, go_sem, a0, a1, a2, af, q0, q1, q2]) rfl ⟨A1, c1, rfl, ?_, ?_⟩
    · refine OG.wide (OG.mid ho5 (a := w.heap.size) (b := w.heap.size + 2) ?_ (Or.inl (by have := HS.out; omega))) (by have := HS.out; omega) (by have := ho5.size; simp; omega) (Nat.le_refl _)
      repeat (first | exact Mid.refl _ _ _ | refine Mid.stored ?_ _ (by simp; try omega) (by simp; try omega))
    · repeat (first | exact hm0 | refine Mid.storeNew ?_ (by simp; try omega) _)
  | true =>
  have hxv := H3.out.1 rfl
  clear H3
  clear p0 p1 p2
  have p0 := B0.cell 0 rfl
  have p1 := B0.cell 1 rfl
  have p2 := B0.cell 2 rfl
  go_wp2_with fail
  with_reducible refine (spec_IsWord r Aw wd cw _ _ ((hw.mid hm0 (Or.inl (Nat.zero_le _))).rs) HOK.out (by omega) b4 H4.out).mono ?_
  rintro en w7 ⟨rfl, nd, hwd7⟩
  have hm7 : Mid 0 0 w4 w7 := by rw [hwd7]; exact (Mid.refl 0 0 w4).drewN nd
  clear hwd7
  replace B0 := B0.mid hm7 (Or.inr (Nat.zero_le _))
  replace B2 := B2.mid hm7 (Or.inr (Nat.zero_le _))
  replace Y3 := Y3.mid hm7 (Or.inr (Nat.zero_le _))
  replace ho5 := ho5.mid hm7 (Or.inl (Nat.zero_le _))
  replace hm0 := hm0.trans hm7
  replace HOW := Lib.hid (owns_mid HOW.out hm7 (Or.inl (Nat.zero_le _)))
  clear hm7
  cases b4 with
  | false =>
    have hno : ¬ PathOk r s es u wd v := fun h => by have := H4.out.2 h.word; cases this
    clear p0 p1 p2
    obtain ⟨rfl, rfl, rfl⟩ := HR.out.no hno
    have a0 := B2.cell 0 rfl
    have a1 := B2.cell 1 rfl
    have a2 := B2.cell 2 rfl
    have q0 := Y3.cell 0 rfl
    have q1 := Y3.cell 1 rfl
    have q2 := Y3.cell 2 rfl
    have af := B2.2.2
    go_wp2_with fail
    refine bodyPost_ret (v := .tuple #[.agg #[.int .i64 r, .int .i64 rs, .slice A1 res.length c1], .bool false]) (by simp [results, Tryz.results64, go_sem, a0, a1, a2, af, q0, q1, q2]) rfl ⟨A1, c1, rfl, ?_, ?_⟩
    · refine OG.wide (OG.mid ho5 (a := w.heap.size) (b := w.heap.size + 2) ?_ (Or.inl (by have := HS.out; omega))) (by have := HS.out; omega) (by have := ho5.size; simp; omega) (Nat.le_refl _)
      repeat (first | exact Mid.refl _ _ _ | refine Mid.stored ?_ _ (by simp; try omega) (by simp; try omega))
    · repeat (first | exact hm0 | refine Mid.storeNew ?_ (by simp; try omega) _)
  | true =>
  have hwd := H4.out.1 rfl
  have hwd24 := hwd.2.2.1
  have HWD := Lib.hid hwd
  clear hwd H4
  clear p0 p1 p2
  have p0 := B0.cell 0 rfl
  have p1 := B0.cell 1 rfl
  have p2 := B0.cell 2 rfl
  by_cases hne : wd = []
  · subst hne
    have hno : ¬ PathOk r s es u [] v := fun h => h.ne rfl
    clear p0 p1 p2
    obtain ⟨rfl, rfl, rfl⟩ := HR.out.no hno
    have a0 := B2.cell 0 rfl
    have a1 := B2.cell 1 rfl
    have a2 := B2.cell 2 rfl
    have q0 := Y3.cell 0 rfl
    have q1 := Y3.cell 1 rfl
    have q2 := Y3.cell 2 rfl
    have af := B2.2.2
    go_wp2_with fail
    refine bodyPost_ret (v := .tuple #[.agg #[.int .i64 r, .int .i64 rs, .slice A1 res.length c1], .bool false]) (by simp [results, Tryz.results64, go_sem, a0, a1, a2, af, q0, q1, q2]) rfl ⟨A1, c1, rfl, ?_, ?_⟩
    · refine OG.wide (OG.mid ho5 (a := w.heap.size) (b := w.heap.size + 2) ?_ (Or.inl (by have := HS.out; omega))) (by have := HS.out; omega) (by have := ho5.size; simp; omega) (Nat.le_refl _)
      repeat (first | exact Mid.refl _ _ _ | refine Mid.stored ?_ _ (by simp; try omega) (by simp; try omega))
    · repeat (first | exact hm0 | refine Mid.storeNew ?_ (by simp; try omega) _)
  have hpos : 0 < wd.length := List.length_pos_iff.2 hne
  have d4 : ((wd.length : Int) == 0) = false := by simp only [beq_eq_false_iff_ne]; omega
  have HNE := Lib.hid hne
  clear hne
  clear p0 p1 p2
  have p0 := B0.cell 0 rfl
  have p1 := B0.cell 1 rfl
  have p2 := B0.cell 2 rfl
  have d5' : IntKind.i64.wrap (s + (wd.length : Int)) = s + (wd.length : Int) := IntWalk.i64_in _ (by omega)
  have d5'' : IntKind.i64.wrap (s + (wd.length : Int) - 1) = s + (wd.length : Int) - 1 := IntWalk.i64_in _ (by omega)
  by_cases hsl : 40 < s + (wd.length : Int) - 1
  · have hno : ¬ PathOk r s es u wd v := fun h => by have := h.sz; omega
    have d5 : decide (40 < s + (wd.length : Int) - 1) = true := by simpa using hsl
    clear p1
    clear p0 p2
    have p0 := B0.cell 0 rfl
    have p1 := B0.cell 1 rfl
    have p2 := B0.cell 2 rfl
    obtain ⟨rfl, rfl, rfl⟩ := HR.out.no hno
    have a0 := B2.cell 0 rfl
    have a1 := B2.cell 1 rfl
    have a2 := B2.cell 2 rfl
    have q0 := Y3.cell 0 rfl
    have q1 := Y3.cell 1 rfl
    have q2 := Y3.cell 2 rfl
    have af := B2.2.2
    go_wp2_with fail
    refine bodyPost_ret (v := .tuple #[.agg #[.int .i64 r, .int .i64 rs, .slice A1 res.length c1], .bool false]) (by simp [results, Tryz.results64, go_sem, a0, a1, a2, af, q0, q1, q2]) rfl ⟨A1, c1, rfl, ?_, ?_⟩
    · refine OG.wide (OG.mid ho5 (a := w.heap.size) (b := w.heap.size + 2) ?_ (Or.inl (by have := HS.out; omega))) (by have := HS.out; omega) (by have := ho5.size; simp; omega) (Nat.le_refl _)
      repeat (first | exact Mid.refl _ _ _ | refine Mid.stored ?_ _ (by simp; try omega) (by simp; try omega))
    · repeat (first | exact hm0 | refine Mid.storeNew ?_ (by simp; try omega) _)
  have d5 : decide (40 < s + (wd.length : Int) - 1) = false := by simpa using hsl
  by_cases hll : 120 < es.length + wd.length
  · have hno : ¬ PathOk r s es u wd v := fun h => by have := h.ln; omega
    have d6 : decide (120 < (es.length : Int) + (wd.length : Int)) = true := by simp; omega
    obtain ⟨rfl, rfl, rfl⟩ := HR.out.no hno
    have a0 := B2.cell 0 rfl
    have a1 := B2.cell 1 rfl
    have a2 := B2.cell 2 rfl
    have q0 := Y3.cell 0 rfl
    have q1 := Y3.cell 1 rfl
    have q2 := Y3.cell 2 rfl
    have af := B2.2.2
    go_wp2_with fail
    refine bodyPost_ret (v := .tuple #[.agg #[.int .i64 r, .int .i64 rs, .slice A1 res.length c1], .bool false]) (by simp [results, Tryz.results64, go_sem, a0, a1, a2, af, q0, q1, q2]) rfl ⟨A1, c1, rfl, ?_, ?_⟩
    · refine OG.wide (OG.mid ho5 (a := w.heap.size) (b := w.heap.size + 2) ?_ (Or.inl (by have := HS.out; omega))) (by have := HS.out; omega) (by have := ho5.size; simp; omega) (Nat.le_refl _)
      repeat (first | exact Mid.refl _ _ _ | refine Mid.stored ?_ _ (by simp; try omega) (by simp; try omega))
    · repeat (first | exact hm0 | refine Mid.storeNew ?_ (by simp; try omega) _)
  have d6 : decide (120 < (es.length : Int) + (wd.length : Int)) = false := by simp; omega
  obtain ⟨rfl, hrs, hre⟩ := HR.out.yes ⟨GR.out, hxu, hxv, HWD.out, HNE.out, by omega, by omega⟩
  have HRS := Lib.hid hrs
  have HRE := Lib.hid hre
  have hasc := Lib.hid GR.out.asc
  clear hrs hre HR
  have hwn : IntKind.i64.wrap ((wd.length : Int) - 1) = (wd.length : Int) - 1 := IntWalk.i64_in _ (by omega)
  have hletb := Lib.hid HWD.out.2.2.2.1
  have q0 := Y3.cell 0 rfl
  have q1 := Y3.cell 1 rfl
  have q2 := Y3.cell 2 rfl
  go_wp2_with fail
  clear p0 p1 p2 q0 q1 q2
  go_loopw [11, 12] (fun at_ i wr => ∃ (k : Nat) (A2 : Option Addr) (c2 lo2 hi2 : Nat) (xs : List Ed) (sz : Int), k ≤ wd.length ∧ i = .int .i64 k ∧ at_ = .int .i64 (pathV u s wd.length v k) ∧ Hid (sz = s + ((min k (wd.length - 1) : Nat) : Int)) ∧ Hid (xs = putAll es (pathE u s wd v k)) ∧
    OG wr lo2 hi2 A2 c2 xs ∧ (hi2 ≤ G ∨ G + 1 ≤ lo2) ∧ w1.heap.size ≤ lo2 ∧
    Box wr w.heap.size [.int .i64 r, .int .i64 s, .slice A es.length c] ∧ Box wr (w.heap.size + 1) [.int .i64 0, .int .i64 0, .slice none 0 0] ∧
    Box wr G [.int .i64 r, .int .i64 sz, .slice A2 xs.length c2] ∧ Mid 0 0 w wr) (fun _ i _ => wd.length - (intOf i).toNat)
  case atStart => exact ⟨0, A1, c1, _, _, es, s, Nat.zero_le _, rfl, rfl, Lib.hid (by simp), Lib.hid (by simp [pathE, putAll]), ho5, .inl (Nat.le_refl _), Nat.le_refl _, B0, B2, Y3, hm0⟩
  case round =>
    clear B0 B2 Y3 hm0 ho5 HOW HBK hG3
    obtain ⟨k, A2, c2, lo2, hi2, xs, sz, hk, rfl, rfl, HSZ, HX, hown, hdis, hlo2, Z0, Z2, Z3, hmr⟩ := hrel
    have hszv := HSZ.out
    have hxl : xs.length ≤ 1000 := by
      have h1 := putAll_len es (pathE u s wd v k)
      rw [← HX.out, pathE_len] at h1
      omega
    by_cases hlt : k < wd.length
    · obtain ⟨B, off, x, rfl, hbh, hx, hcx⟩ := (hw.mid hmr (Or.inl (Nat.zero_le _))).at hlt
      have hxb := hletb.out x (List.mem_of_getElem? hx)
      have hkn : (k : Int) < (wd.length : Int) := by omega
      have hk0 : (0 : Int) ≤ (k : Int) := by omega
      have hpe := pathE_succ (u := u) (s := s) (v := v) hx
      have HPE := Lib.hid hpe
      have hGr : G < wr.heap.size := Z3.1
      have hBw : B < wr.heap.size := by have := hw.1; have := hmr.size; omega
      have hBG : B < G := by have := hw.1; omega
      have hw1r : w1.heap.size ≤ wr.heap.size := by have := HGW.out; omega
      clear hx hpe
      generalize hat : pathV u s wd.length v k = at0 at HPE ⊢
      clear hat
      rcases (by omega : 0 < x ∨ x < 0) with hx0 | hx0
      · have dx : decide (0 < x) = true := by simpa using hx0
        have hst0 : ∀ t, stepE at0 x t = ⟨at0, x, t⟩ := fun t => by rw [stepE, if_neg (by omega)]
        rw [hst0] at HPE
        clear hst0
        by_cases hlast : k + 1 < wd.length
        · have hmin : ((min k (wd.length - 1) : Nat) : Int) = (k : Int) := by rw [Nat.min_eq_left (by omega)]
          have hmin2 : ((min (k + 1) (wd.length - 1) : Nat) : Int) = (k : Int) + 1 := by rw [Nat.min_eq_left (by omega)]; rfl
          rw [hmin] at hszv
          subst hszv
          have hto : pathV u s wd.length v (k + 1) = s + (k : Int) := by
            rw [pathV, if_neg (by omega), if_pos hlast]
            omega
          rw [hto] at HPE
          have dk : decide ((k : Int) + 1 < (wd.length : Int)) = true := by simp; omega
          have hws : IntKind.i64.wrap (s + (k : Int) + 1) = s + (k : Int) + 1 := IntWalk.i64_in _ (by omega)
          have q1 := Z3.cell 1 rfl
          have qf := Z3.2.2
          have hst := Mid.setCell wr (lo := G) (hi := G + 1) (p := ⟨G, 1, none⟩) (.int .i64 (s + (k : Int) + 1)) (Nat.le_refl _) (Nat.lt_succ_self _)
          have V0 := Z0.mid hst (Or.inl (by omega))
          have V2 := Z2.mid hst (Or.inl (by omega))
          have V3 := Z3.set 1 (.int .i64 (s + (k : Int) + 1)) (by simp) rfl
          have hownV := hown.mid hst (by omega)
          have hcV := cell_keep hst hBw (Or.inl hBG) hcx
          have hmv := hmr.storeNew (p := ⟨G, 1, none⟩) (by show w.heap.size ≤ G; omega) (.int .i64 (s + (k : Int) + 1))
          have hsV : (wr.setCell ⟨G, 1, none⟩ (.int .i64 (s + (k : Int) + 1))).heap.size = wr.heap.size := by simp
          go_wp2_with fail
          clear dk dx
          generalize wr.setCell ⟨G, 1, none⟩ (.int .i64 (s + (k : Int) + 1)) = wx at V0 V2 V3 hownV hmv hsV hcV ⊢
          have hnsz : Hid (s + (k : Int) + 1 = s + ((min (k + 1) (wd.length - 1) : Nat) : Int)) := Lib.hid (by rw [hmin2]; omega)
          clear Z0 Z2 Z3 hown hmr q1 qf hst hcx hmin hmin2 HSZ
          simp only [List.set_cons_succ, List.set_cons_zero] at V3
          generalize s + (k : Int) + 1 = sz' at V3 hnsz
          generalize s + (k : Int) = to at HPE hto ⊢
          have hGx : G < wx.heap.size := V3.1
          have hmd := Mid.drew1 wx
          have U0 := V0.mid hmd (Or.inr (Nat.zero_le _))
          have U2 := V2.mid hmd (Or.inr (Nat.zero_le _))
          have U3 := V3.mid hmd (Or.inr (Nat.zero_le _))
          have hownU := hownV.mid hmd (Or.inl (Nat.zero_le _))
          have hmu := hmv.trans hmd
          have g2 := U3.cell 2 rfl
          have f0 := cell_keep hmd (by omega) (Or.inr (Nat.zero_le _)) hcV
          clear V0 V2 V3 hownV hmv hmd hcV
          refine wp_region_T (S := (fun w' => w'.cell? ⟨G, 2, none⟩ = some (.slice A2 xs.length c2) ∧ w'.cell? ⟨B, off + k, none⟩ = some (.int .i64 x))) 11 (by kernel_rfl) ⟨g2, f0⟩ ?_
          generalize World.drew wx = wz at U0 U2 U3 hownU hmu f0 g2 ⊢
          have hS : wz.cell? ⟨G, 2, none⟩ = some (.slice A2 xs.length c2) ∧ wz.cell? ⟨B, off + k, none⟩ = some (.int .i64 x) := ⟨g2, f0⟩
          refine wpAnyT_take (i := 0) (v := ?_) rfl (by kernel_rfl) (by kernel_rfl) (by kernel_rfl) (by kernel_rfl) (fun _ _ _ h => h) (Or.inl ⟨by rfl, ?_⟩) hS ?_
          rotate_left
          focus (intro w hSw; (try dsimp only at hSw); go_simp; try with_reducible rfl)
          try simp only [Act.put, List.setIfInBounds_toArray, List.set_cons_zero, List.set_cons_succ, List.getElem_toArray, List.getElem_cons_zero, List.getElem_cons_succ]
          refine wpAnyT_take (i := 1) (v := ?_) rfl (by kernel_rfl) (by kernel_rfl) (by kernel_rfl) (by kernel_rfl) (fun _ _ _ h => h) (Or.inl ⟨by rfl, ?_⟩) hS ?_
          rotate_left
          focus (intro w hSw; (try dsimp only at hSw); go_simp; try with_reducible rfl)
          try simp only [Act.put, List.setIfInBounds_toArray, List.set_cons_zero, List.set_cons_succ, List.getElem_toArray, List.getElem_cons_zero, List.getElem_cons_succ]
          refine wpAnyT_take (i := 2) (v := ?_) rfl (by kernel_rfl) (by kernel_rfl) (by kernel_rfl) (by kernel_rfl) (fun _ _ _ h => h) (Or.inl ⟨by rfl, ?_⟩) hS ?_
          rotate_left
          focus (intro w hSw; (try dsimp only at hSw); go_simp; try with_reducible rfl)
          try simp only [Act.put, List.setIfInBounds_toArray, List.set_cons_zero, List.set_cons_succ, List.getElem_toArray, List.getElem_cons_zero, List.getElem_cons_succ]
          refine wpAnyT_take (i := 3) (v := ?_) rfl (by kernel_rfl) (by kernel_rfl) (by kernel_rfl) (by kernel_rfl) (fun _ _ _ h => h) (Or.inl ⟨by rfl, ?_⟩) hS ?_
          rotate_left
          focus (intro w hSw; (try dsimp only at hSw); go_simp; try with_reducible rfl)
          try simp only [Act.put, List.setIfInBounds_toArray, List.set_cons_zero, List.set_cons_succ, List.getElem_toArray, List.getElem_cons_zero, List.getElem_cons_succ]
          refine wpAnyT_take (i := 4) (v := ?_) rfl (by kernel_rfl) (by kernel_rfl) (by kernel_rfl) (by kernel_rfl) (fun _ _ _ h => h) (Or.inl ⟨by rfl, ?_⟩) hS ?_
          rotate_left
          focus (intro w hSw; (try dsimp only at hSw); go_simp; try with_reducible rfl)
          try simp only [Act.put, List.setIfInBounds_toArray, List.set_cons_zero, List.set_cons_succ, List.getElem_toArray, List.getElem_cons_zero, List.getElem_cons_succ]
          refine wpAnyT_take (i := 5) (v := ?_) rfl (by kernel_rfl) (by kernel_rfl) (by kernel_rfl) (by kernel_rfl) (fun _ _ _ h => h) (Or.inl ⟨by rfl, ?_⟩) hS ?_
          rotate_left
          focus (intro w hSw; (try dsimp only at hSw); go_simp; try with_reducible rfl)
          try simp only [Act.put, List.setIfInBounds_toArray, List.set_cons_zero, List.set_cons_succ, List.getElem_toArray, List.getElem_cons_zero, List.getElem_cons_succ]
          refine wpAnyT_take (i := 6) (v := ?_) rfl (by kernel_rfl) (by kernel_rfl) (by kernel_rfl) (by kernel_rfl) (fun _ _ _ h => h) (Or.inl ⟨by rfl, ?_⟩) hS ?_
          rotate_left
          focus (intro w hSw; (try dsimp only at hSw); go_simp; try with_reducible rfl)
          try simp only [Act.put, List.setIfInBounds_toArray, List.set_cons_zero, List.set_cons_succ, List.getElem_toArray, List.getElem_cons_zero, List.getElem_cons_succ]
          refine wpAnyT_take (i := 7) (v := ?_) rfl (by kernel_rfl) (by kernel_rfl) (by kernel_rfl) (by kernel_rfl) (fun _ _ _ h => h) (Or.inl ⟨by rfl, ?_⟩) hS ?_
          rotate_left
          focus (intro w hSw; (try dsimp only at hSw); go_simp; try with_reducible rfl)
          try simp only [Act.put, List.setIfInBounds_toArray, List.set_cons_zero, List.set_cons_succ, List.getElem_toArray, List.getElem_cons_zero, List.getElem_cons_succ]
          refine wpAnyT_take (i := 8) (v := ?_) rfl (by kernel_rfl) (by kernel_rfl) (by kernel_rfl) (by kernel_rfl) (fun _ _ _ h => h) (Or.inl ⟨by rfl, ?_⟩) hS ?_
          rotate_left
          focus (intro w hSw; (try dsimp only at hSw); go_simp; try with_reducible rfl)
          try simp only [Act.put, List.setIfInBounds_toArray, List.set_cons_zero, List.set_cons_succ, List.getElem_toArray, List.getElem_cons_zero, List.getElem_cons_succ]
          have hP := spec_l4Put A2 xs c2 ⟨at0, x, to⟩ wz _ _ hownU.rg (by omega)
          refine wpAnyT_ready (rs := [9]) (by kernel_rfl) (by simp) (AllReadyT.cons rfl (fun K hK => ?_) AllReadyT.nil)
          (go_simp; (with_reducible refine hP.mono ?_); rintro en w9 ⟨A9, c9, rfl, ho9, hm9⟩; have T0' := U0.mid hm9 (Or.inr (Nat.zero_le _)); have T2' := U2.mid hm9 (Or.inr (Nat.zero_le _)); have T3' := U3.mid hm9 (Or.inr (Nat.zero_le _)); have f0' := cell_keep hm9 (by have := U3.1; omega) (Or.inr (Nat.zero_le _)) f0; go_wp2_with fail)
          refine hK.out _ _ (Or.inr ⟨T3'.cell 2 rfl, f0'⟩) (fun _ => ?_)
          clear hK K
          try simp only [Act.put, List.setIfInBounds_toArray, List.set_cons_zero, List.set_cons_succ, List.getElem_toArray, List.getElem_cons_zero, List.getElem_cons_succ]
          have hmr9 := hmu.trans hm9
          have hGz : G < wz.heap.size := U3.1
          have hS3 := And.intro (T3'.cell 2 rfl) f0'
          have hr2 := T3'.cell 2 rfl
          have hrf := T3'.2.2
          clear hS U0 U2 U3 hmu hP
          refine wpAnyT_take (i := 10) (v := ?_) rfl (by kernel_rfl) (by kernel_rfl) (by kernel_rfl) (by kernel_rfl) (fun _ _ _ h => h) (Or.inl ⟨by rfl, ?_⟩) hS3 ?_
          rotate_left
          focus (intro w hSw; (try dsimp only at hSw); go_simp; try with_reducible rfl)
          try simp only [Act.put, List.setIfInBounds_toArray, List.set_cons_zero, List.set_cons_succ, List.getElem_toArray, List.getElem_cons_zero, List.getElem_cons_succ]
          refine wpAnyT_ready (rs := [11]) (by kernel_rfl) (by simp) (AllReadyT.cons rfl (fun K hK => ?_) AllReadyT.nil)
          (go_simp)
          refine hK.out _ _ (Or.inl rfl) (fun _ => ?_)
          clear hK K
          try simp only [Act.put, List.setIfInBounds_toArray, List.set_cons_zero, List.set_cons_succ, List.getElem_toArray, List.getElem_cons_zero, List.getElem_cons_succ]
          refine wpAnyT_done (by kernel_rfl) ?_ _
          go_wp2_with fail
          go_roundw
          case rel =>
            have hst := Mid.setCell w9 (lo := G) (hi := G + 1) (p := ⟨G, 2, none⟩) (.slice A9 (putE ⟨at0, x, to⟩ xs).length c9) (Nat.le_refl _) (Nat.lt_succ_self _)
            refine ⟨k + 1, A9, c9, _, _, putE ⟨at0, x, to⟩ xs, sz', by omega, by go_num, by rw [hto], hnsz, Lib.hid ?_, ho9.mid hst (Or.inl (by omega)), .inr (by omega), by have := HGW.out; omega, T0'.mid hst (Or.inl (by omega)), T2'.mid hst (Or.inl (by omega)), T3'.set 2 _ (by simp) rfl, hmr9.storeNew (by show w.heap.size ≤ G; omega) _⟩
            rw [HPE.out, putAll_snoc, ← HX.out]
          case measure => simp [intOf]; omega
        · have hkl : k + 1 = wd.length := by omega
          have hmin : min k (wd.length - 1) = min (k + 1) (wd.length - 1) := by omega
          have hnsz : Hid (sz = s + ((min (k + 1) (wd.length - 1) : Nat) : Int)) := Lib.hid (by rw [hszv, hmin])
          have hto : pathV u s wd.length v (k + 1) = v := by
            rw [pathV, if_neg (by omega), if_neg (by omega)]
          rw [hto] at HPE
          have dk : decide ((k : Int) + 1 < (wd.length : Int)) = false := by simp; omega
          clear hszv hmin HSZ
          generalize sz = sz' at Z3 hnsz
          go_wp2_with fail
          clear dk dx
          have V0 := Z0
          have V2 := Z2
          have V3 := Z3
          have hownV := hown
          have hmv := hmr
          have hcV := hcx
          obtain ⟨wx, hwx⟩ : ∃ wx, wr = wx := ⟨_, rfl⟩
          have hsV : wx.heap.size = wr.heap.size := by rw [hwx]
          rw [hwx] at V0 V2 V3 hownV hmv hcV ⊢
          clear Z0 Z2 Z3 hown hmr hcx
          have hGx : G < wx.heap.size := V3.1
          have hmd := Mid.drew1 wx
          have U0 := V0.mid hmd (Or.inr (Nat.zero_le _))
          have U2 := V2.mid hmd (Or.inr (Nat.zero_le _))
          have U3 := V3.mid hmd (Or.inr (Nat.zero_le _))
          have hownU := hownV.mid hmd (Or.inl (Nat.zero_le _))
          have hmu := hmv.trans hmd
          have g2 := U3.cell 2 rfl
          have f0 := cell_keep hmd (by omega) (Or.inr (Nat.zero_le _)) hcV
          clear V0 V2 V3 hownV hmv hmd hcV
          refine wp_region_T (S := (fun w' => w'.cell? ⟨G, 2, none⟩ = some (.slice A2 xs.length c2) ∧ w'.cell? ⟨B, off + k, none⟩ = some (.int .i64 x))) 11 (by kernel_rfl) ⟨g2, f0⟩ ?_
          generalize World.drew wx = wz at U0 U2 U3 hownU hmu f0 g2 ⊢
          have hS : wz.cell? ⟨G, 2, none⟩ = some (.slice A2 xs.length c2) ∧ wz.cell? ⟨B, off + k, none⟩ = some (.int .i64 x) := ⟨g2, f0⟩
          refine wpAnyT_take (i := 0) (v := ?_) rfl (by kernel_rfl) (by kernel_rfl) (by kernel_rfl) (by kernel_rfl) (fun _ _ _ h => h) (Or.inl ⟨by rfl, ?_⟩) hS ?_
          rotate_left
          focus (intro w hSw; (try dsimp only at hSw); go_simp; try with_reducible rfl)
          try simp only [Act.put, List.setIfInBounds_toArray, List.set_cons_zero, List.set_cons_succ, List.getElem_toArray, List.getElem_cons_zero, List.getElem_cons_succ]
          refine wpAnyT_take (i := 1) (v := ?_) rfl (by kernel_rfl) (by kernel_rfl) (by kernel_rfl) (by kernel_rfl) (fun _ _ _ h => h) (Or.inl ⟨by rfl, ?_⟩) hS ?_
          rotate_left
          focus (intro w hSw; (try dsimp only at hSw); go_simp; try with_reducible rfl)
          try simp only [Act.put, List.setIfInBounds_toArray, List.set_cons_zero, List.set_cons_succ, List.getElem_toArray, List.getElem_cons_zero, List.getElem_cons_succ]
          refine wpAnyT_take (i := 2) (v := ?_) rfl (by kernel_rfl) (by kernel_rfl) (by kernel_rfl) (by kernel_rfl) (fun _ _ _ h => h) (Or.inl ⟨by rfl, ?_⟩) hS ?_
          rotate_left
          focus (intro w hSw; (try dsimp only at hSw); go_simp; try with_reducible rfl)
          try simp only [Act.put, List.setIfInBounds_toArray, List.set_cons_zero, List.set_cons_succ, List.getElem_toArray, List.getElem_cons_zero, List.getElem_cons_succ]
          refine wpAnyT_take (i := 3) (v := ?_) rfl (by kernel_rfl) (by kernel_rfl) (by kernel_rfl) (by kernel_rfl) (fun _ _ _ h => h) (Or.inl ⟨by rfl, ?_⟩) hS ?_
          rotate_left
          focus (intro w hSw; (try dsimp only at hSw); go_simp; try with_reducible rfl)
          try simp only [Act.put, List.setIfInBounds_toArray, List.set_cons_zero, List.set_cons_succ, List.getElem_toArray, List.getElem_cons_zero, List.getElem_cons_succ]
          refine wpAnyT_take (i := 4) (v := ?_) rfl (by kernel_rfl) (by kernel_rfl) (by kernel_rfl) (by kernel_rfl) (fun _ _ _ h => h) (Or.inl ⟨by rfl, ?_⟩) hS ?_
          rotate_left
          focus (intro w hSw; (try dsimp only at hSw); go_simp; try with_reducible rfl)
          try simp only [Act.put, List.setIfInBounds_toArray, List.set_cons_zero, List.set_cons_succ, List.getElem_toArray, List.getElem_cons_zero, List.getElem_cons_succ]
          refine wpAnyT_take (i := 5) (v := ?_) rfl (by kernel_rfl) (by kernel_rfl) (by kernel_rfl) (by kernel_rfl) (fun _ _ _ h => h) (Or.inl ⟨by rfl, ?_⟩) hS ?_
          rotate_left
          focus (intro w hSw; (try dsimp only at hSw); go_simp; try with_reducible rfl)
          try simp only [Act.put, List.setIfInBounds_toArray, List.set_cons_zero, List.set_cons_succ, List.getElem_toArray, List.getElem_cons_zero, List.getElem_cons_succ]
          refine wpAnyT_take (i := 6) (v := ?_) rfl (by kernel_rfl) (by kernel_rfl) (by kernel_rfl) (by kernel_rfl) (fun _ _ _ h => h) (Or.inl ⟨by rfl, ?_⟩) hS ?_
          rotate_left
          focus (intro w hSw; (try dsimp only at hSw); go_simp; try with_reducible rfl)
          try simp only [Act.put, List.setIfInBounds_toArray, List.set_cons_zero, List.set_cons_succ, List.getElem_toArray, List.getElem_cons_zero, List.getElem_cons_succ]
          refine wpAnyT_take (i := 7) (v := ?_) rfl (by kernel_rfl) (by kernel_rfl) (by kernel_rfl) (by kernel_rfl) (fun _ _ _ h => h) (Or.inl ⟨by rfl, ?_⟩) hS ?_
          rotate_left
          focus (intro w hSw; (try dsimp only at hSw); go_simp; try with_reducible rfl)
          try simp only [Act.put, List.setIfInBounds_toArray, List.set_cons_zero, List.set_cons_succ, List.getElem_toArray, List.getElem_cons_zero, List.getElem_cons_succ]
          refine wpAnyT_take (i := 8) (v := ?_) rfl (by kernel_rfl) (by kernel_rfl) (by kernel_rfl) (by kernel_rfl) (fun _ _ _ h => h) (Or.inl ⟨by rfl, ?_⟩) hS ?_
          rotate_left
          focus (intro w hSw; (try dsimp only at hSw); go_simp; try with_reducible rfl)
          try simp only [Act.put, List.setIfInBounds_toArray, List.set_cons_zero, List.set_cons_succ, List.getElem_toArray, List.getElem_cons_zero, List.getElem_cons_succ]
          have hP := spec_l4Put A2 xs c2 ⟨at0, x, v⟩ wz _ _ hownU.rg (by omega)
          refine wpAnyT_ready (rs := [9]) (by kernel_rfl) (by simp) (AllReadyT.cons rfl (fun K hK => ?_) AllReadyT.nil)
          (go_simp; (with_reducible refine hP.mono ?_); rintro en w9 ⟨A9, c9, rfl, ho9, hm9⟩; have T0' := U0.mid hm9 (Or.inr (Nat.zero_le _)); have T2' := U2.mid hm9 (Or.inr (Nat.zero_le _)); have T3' := U3.mid hm9 (Or.inr (Nat.zero_le _)); have f0' := cell_keep hm9 (by have := U3.1; omega) (Or.inr (Nat.zero_le _)) f0; go_wp2_with fail)
          refine hK.out _ _ (Or.inr ⟨T3'.cell 2 rfl, f0'⟩) (fun _ => ?_)
          clear hK K
          try simp only [Act.put, List.setIfInBounds_toArray, List.set_cons_zero, List.set_cons_succ, List.getElem_toArray, List.getElem_cons_zero, List.getElem_cons_succ]
          have hmr9 := hmu.trans hm9
          have hGz : G < wz.heap.size := U3.1
          have hS3 := And.intro (T3'.cell 2 rfl) f0'
          have hr2 := T3'.cell 2 rfl
          have hrf := T3'.2.2
          clear hS U0 U2 U3 hmu hP
          refine wpAnyT_take (i := 10) (v := ?_) rfl (by kernel_rfl) (by kernel_rfl) (by kernel_rfl) (by kernel_rfl) (fun _ _ _ h => h) (Or.inl ⟨by rfl, ?_⟩) hS3 ?_
          rotate_left
          focus (intro w hSw; (try dsimp only at hSw); go_simp; try with_reducible rfl)
          try simp only [Act.put, List.setIfInBounds_toArray, List.set_cons_zero, List.set_cons_succ, List.getElem_toArray, List.getElem_cons_zero, List.getElem_cons_succ]
          refine wpAnyT_ready (rs := [11]) (by kernel_rfl) (by simp) (AllReadyT.cons rfl (fun K hK => ?_) AllReadyT.nil)
          (go_simp)
          refine hK.out _ _ (Or.inl rfl) (fun _ => ?_)
          clear hK K
          try simp only [Act.put, List.setIfInBounds_toArray, List.set_cons_zero, List.set_cons_succ, List.getElem_toArray, List.getElem_cons_zero, List.getElem_cons_succ]
          refine wpAnyT_done (by kernel_rfl) ?_ _
          go_wp2_with fail
          go_roundw
          case rel =>
            have hst := Mid.setCell w9 (lo := G) (hi := G + 1) (p := ⟨G, 2, none⟩) (.slice A9 (putE ⟨at0, x, v⟩ xs).length c9) (Nat.le_refl _) (Nat.lt_succ_self _)
            refine ⟨k + 1, A9, c9, _, _, putE ⟨at0, x, v⟩ xs, sz', by omega, by go_num, by rw [hto], hnsz, Lib.hid ?_, ho9.mid hst (Or.inl (by omega)), .inr (by omega), by have := HGW.out; omega, T0'.mid hst (Or.inl (by omega)), T2'.mid hst (Or.inl (by omega)), T3'.set 2 _ (by simp) rfl, hmr9.storeNew (by show w.heap.size ≤ G; omega) _⟩
            rw [HPE.out, putAll_snoc, ← HX.out]
          case measure => simp [intOf]; omega
      · have dx : decide (0 < x) = false := by simp; omega
        have hst0 : ∀ t, stepE at0 x t = ⟨t, -x, at0⟩ := fun t => by rw [stepE, if_pos hx0]
        have hwx1 : IntKind.i64.wrap (-x) = -x := IntWalk.i64_in _ (by omega)
        have hwx2 : wrap64 (-x) = -x := by unfold wrap64; omega
        rw [hst0] at HPE
        clear hst0
        by_cases hlast : k + 1 < wd.length
        · have hmin : ((min k (wd.length - 1) : Nat) : Int) = (k : Int) := by rw [Nat.min_eq_left (by omega)]
          have hmin2 : ((min (k + 1) (wd.length - 1) : Nat) : Int) = (k : Int) + 1 := by rw [Nat.min_eq_left (by omega)]; rfl
          rw [hmin] at hszv
          subst hszv
          have hto : pathV u s wd.length v (k + 1) = s + (k : Int) := by
            rw [pathV, if_neg (by omega), if_pos hlast]
            omega
          rw [hto] at HPE
          have dk : decide ((k : Int) + 1 < (wd.length : Int)) = true := by simp; omega
          have hws : IntKind.i64.wrap (s + (k : Int) + 1) = s + (k : Int) + 1 := IntWalk.i64_in _ (by omega)
          have q1 := Z3.cell 1 rfl
          have qf := Z3.2.2
          have hst := Mid.setCell wr (lo := G) (hi := G + 1) (p := ⟨G, 1, none⟩) (.int .i64 (s + (k : Int) + 1)) (Nat.le_refl _) (Nat.lt_succ_self _)
          have V0 := Z0.mid hst (Or.inl (by omega))
          have V2 := Z2.mid hst (Or.inl (by omega))
          have V3 := Z3.set 1 (.int .i64 (s + (k : Int) + 1)) (by simp) rfl
          have hownV := hown.mid hst (by omega)
          have hcV := cell_keep hst hBw (Or.inl hBG) hcx
          have hmv := hmr.storeNew (p := ⟨G, 1, none⟩) (by show w.heap.size ≤ G; omega) (.int .i64 (s + (k : Int) + 1))
          have hsV : (wr.setCell ⟨G, 1, none⟩ (.int .i64 (s + (k : Int) + 1))).heap.size = wr.heap.size := by simp
          go_wp2_with fail
          clear dk dx
          generalize wr.setCell ⟨G, 1, none⟩ (.int .i64 (s + (k : Int) + 1)) = wx at V0 V2 V3 hownV hmv hsV hcV ⊢
          have hnsz : Hid (s + (k : Int) + 1 = s + ((min (k + 1) (wd.length - 1) : Nat) : Int)) := Lib.hid (by rw [hmin2]; omega)
          clear Z0 Z2 Z3 hown hmr q1 qf hst hcx hmin hmin2 HSZ
          simp only [List.set_cons_succ, List.set_cons_zero] at V3
          generalize s + (k : Int) + 1 = sz' at V3 hnsz
          generalize s + (k : Int) = to at HPE hto ⊢
          have hGx : G < wx.heap.size := V3.1
          have hmd := Mid.drew1 wx
          have U0 := V0.mid hmd (Or.inr (Nat.zero_le _))
          have U2 := V2.mid hmd (Or.inr (Nat.zero_le _))
          have U3 := V3.mid hmd (Or.inr (Nat.zero_le _))
          have hownU := hownV.mid hmd (Or.inl (Nat.zero_le _))
          have hmu := hmv.trans hmd
          have g2 := U3.cell 2 rfl
          have f0 := cell_keep hmd (by omega) (Or.inr (Nat.zero_le _)) hcV
          clear V0 V2 V3 hownV hmv hmd hcV
          refine wp_region_T (S := (fun w' => w'.cell? ⟨G, 2, none⟩ = some (.slice A2 xs.length c2) ∧ w'.cell? ⟨B, off + k, none⟩ = some (.int .i64 x))) 12 (by kernel_rfl) ⟨g2, f0⟩ ?_
          generalize World.drew wx = wz at U0 U2 U3 hownU hmu f0 g2 ⊢
          have hS : wz.cell? ⟨G, 2, none⟩ = some (.slice A2 xs.length c2) ∧ wz.cell? ⟨B, off + k, none⟩ = some (.int .i64 x) := ⟨g2, f0⟩
          refine wpAnyT_take (i := 0) (v := ?_) rfl (by kernel_rfl) (by kernel_rfl) (by kernel_rfl) (by kernel_rfl) (fun _ _ _ h => h) (Or.inl ⟨by rfl, ?_⟩) hS ?_
          rotate_left
          focus (intro w hSw; (try dsimp only at hSw); go_simp; try with_reducible rfl)
          try simp only [Act.put, List.setIfInBounds_toArray, List.set_cons_zero, List.set_cons_succ, List.getElem_toArray, List.getElem_cons_zero, List.getElem_cons_succ]
          refine wpAnyT_take (i := 1) (v := ?_) rfl (by kernel_rfl) (by kernel_rfl) (by kernel_rfl) (by kernel_rfl) (fun _ _ _ h => h) (Or.inl ⟨by rfl, ?_⟩) hS ?_
          rotate_left
          focus (intro w hSw; (try dsimp only at hSw); go_simp; try with_reducible rfl)
          try simp only [Act.put, List.setIfInBounds_toArray, List.set_cons_zero, List.set_cons_succ, List.getElem_toArray, List.getElem_cons_zero, List.getElem_cons_succ]
          refine wpAnyT_take (i := 2) (v := ?_) rfl (by kernel_rfl) (by kernel_rfl) (by kernel_rfl) (by kernel_rfl) (fun _ _ _ h => h) (Or.inl ⟨by rfl, ?_⟩) hS ?_
          rotate_left
          focus (intro w hSw; (try dsimp only at hSw); go_simp; try with_reducible rfl)
          try simp only [Act.put, List.setIfInBounds_toArray, List.set_cons_zero, List.set_cons_succ, List.getElem_toArray, List.getElem_cons_zero, List.getElem_cons_succ]
          refine wpAnyT_take (i := 3) (v := ?_) rfl (by kernel_rfl) (by kernel_rfl) (by kernel_rfl) (by kernel_rfl) (fun _ _ _ h => h) (Or.inl ⟨by rfl, ?_⟩) hS ?_
          rotate_left
          focus (intro w hSw; (try dsimp only at hSw); go_simp; try with_reducible rfl)
          try simp only [Act.put, List.setIfInBounds_toArray, List.set_cons_zero, List.set_cons_succ, List.getElem_toArray, List.getElem_cons_zero, List.getElem_cons_succ]
          refine wpAnyT_take (i := 4) (v := ?_) rfl (by kernel_rfl) (by kernel_rfl) (by kernel_rfl) (by kernel_rfl) (fun _ _ _ h => h) (Or.inl ⟨by rfl, ?_⟩) hS ?_
          rotate_left
          focus (intro w hSw; (try dsimp only at hSw); go_simp; try with_reducible rfl)
          try simp only [Act.put, List.setIfInBounds_toArray, List.set_cons_zero, List.set_cons_succ, List.getElem_toArray, List.getElem_cons_zero, List.getElem_cons_succ]
          refine wpAnyT_take (i := 5) (v := ?_) rfl (by kernel_rfl) (by kernel_rfl) (by kernel_rfl) (by kernel_rfl) (fun _ _ _ h => h) (Or.inl ⟨by rfl, ?_⟩) hS ?_
          rotate_left
          focus (intro w hSw; (try dsimp only at hSw); go_simp; try with_reducible rfl)
          try simp only [Act.put, List.setIfInBounds_toArray, List.set_cons_zero, List.set_cons_succ, List.getElem_toArray, List.getElem_cons_zero, List.getElem_cons_succ]
          refine wpAnyT_take (i := 6) (v := ?_) rfl (by kernel_rfl) (by kernel_rfl) (by kernel_rfl) (by kernel_rfl) (fun _ _ _ h => h) (Or.inl ⟨by rfl, ?_⟩) hS ?_
          rotate_left
          focus (intro w hSw; (try dsimp only at hSw); go_simp; try with_reducible rfl)
          try simp only [Act.put, List.setIfInBounds_toArray, List.set_cons_zero, List.set_cons_succ, List.getElem_toArray, List.getElem_cons_zero, List.getElem_cons_succ]
          refine wpAnyT_take (i := 7) (v := ?_) rfl (by kernel_rfl) (by kernel_rfl) (by kernel_rfl) (by kernel_rfl) (fun _ _ _ h => h) (Or.inl ⟨by rfl, ?_⟩) hS ?_
          rotate_left
          focus (intro w hSw; (try dsimp only at hSw); go_simp; try with_reducible rfl)
          try simp only [Act.put, List.setIfInBounds_toArray, List.set_cons_zero, List.set_cons_succ, List.getElem_toArray, List.getElem_cons_zero, List.getElem_cons_succ]
          refine wpAnyT_take (i := 8) (v := ?_) rfl (by kernel_rfl) (by kernel_rfl) (by kernel_rfl) (by kernel_rfl) (fun _ _ _ h => h) (Or.inl ⟨by rfl, ?_⟩) hS ?_
          rotate_left
          focus (intro w hSw; (try dsimp only at hSw); go_simp; try with_reducible rfl)
          try simp only [Act.put, List.setIfInBounds_toArray, List.set_cons_zero, List.set_cons_succ, List.getElem_toArray, List.getElem_cons_zero, List.getElem_cons_succ]
          refine wpAnyT_take (i := 9) (v := ?_) rfl (by kernel_rfl) (by kernel_rfl) (by kernel_rfl) (by kernel_rfl) (fun _ _ _ h => h) (Or.inl ⟨by rfl, ?_⟩) hS ?_
          rotate_left
          focus (intro w hSw; (try dsimp only at hSw); go_simp; try with_reducible rfl)
          try simp only [Act.put, List.setIfInBounds_toArray, List.set_cons_zero, List.set_cons_succ, List.getElem_toArray, List.getElem_cons_zero, List.getElem_cons_succ]
          have hP := spec_l4Put A2 xs c2 ⟨to, -x, at0⟩ wz _ _ hownU.rg (by omega)
          refine wpAnyT_ready (rs := [10]) (by kernel_rfl) (by simp) (AllReadyT.cons rfl (fun K hK => ?_) AllReadyT.nil)
          (go_simp; (try simp only [hwx1, hwx2]); (with_reducible refine hP.mono ?_); rintro en w9 ⟨A9, c9, rfl, ho9, hm9⟩; have T0' := U0.mid hm9 (Or.inr (Nat.zero_le _)); have T2' := U2.mid hm9 (Or.inr (Nat.zero_le _)); have T3' := U3.mid hm9 (Or.inr (Nat.zero_le _)); have f0' := cell_keep hm9 (by have := U3.1; omega) (Or.inr (Nat.zero_le _)) f0; go_wp2_with fail)
          refine hK.out _ _ (Or.inr ⟨T3'.cell 2 rfl, f0'⟩) (fun _ => ?_)
          clear hK K
          try simp only [Act.put, List.setIfInBounds_toArray, List.set_cons_zero, List.set_cons_succ, List.getElem_toArray, List.getElem_cons_zero, List.getElem_cons_succ]
          have hmr9 := hmu.trans hm9
          have hGz : G < wz.heap.size := U3.1
          have hS3 := And.intro (T3'.cell 2 rfl) f0'
          have hr2 := T3'.cell 2 rfl
          have hrf := T3'.2.2
          clear hS U0 U2 U3 hmu hP
          refine wpAnyT_take (i := 11) (v := ?_) rfl (by kernel_rfl) (by kernel_rfl) (by kernel_rfl) (by kernel_rfl) (fun _ _ _ h => h) (Or.inl ⟨by rfl, ?_⟩) hS3 ?_
          rotate_left
          focus (intro w hSw; (try dsimp only at hSw); go_simp; try with_reducible rfl)
          try simp only [Act.put, List.setIfInBounds_toArray, List.set_cons_zero, List.set_cons_succ, List.getElem_toArray, List.getElem_cons_zero, List.getElem_cons_succ]
          refine wpAnyT_ready (rs := [12]) (by kernel_rfl) (by simp) (AllReadyT.cons rfl (fun K hK => ?_) AllReadyT.nil)
          (go_simp)
          refine hK.out _ _ (Or.inl rfl) (fun _ => ?_)
          clear hK K
          try simp only [Act.put, List.setIfInBounds_toArray, List.set_cons_zero, List.set_cons_succ, List.getElem_toArray, List.getElem_cons_zero, List.getElem_cons_succ]
          refine wpAnyT_done (by kernel_rfl) ?_ _
          go_wp2_with fail
          go_roundw
          case rel =>
            have hst := Mid.setCell w9 (lo := G) (hi := G + 1) (p := ⟨G, 2, none⟩) (.slice A9 (putE ⟨to, -x, at0⟩ xs).length c9) (Nat.le_refl _) (Nat.lt_succ_self _)
            refine ⟨k + 1, A9, c9, _, _, putE ⟨to, -x, at0⟩ xs, sz', by omega, by go_num, by rw [hto], hnsz, Lib.hid ?_, ho9.mid hst (Or.inl (by omega)), .inr (by omega), by have := HGW.out; omega, T0'.mid hst (Or.inl (by omega)), T2'.mid hst (Or.inl (by omega)), T3'.set 2 _ (by simp) rfl, hmr9.storeNew (by show w.heap.size ≤ G; omega) _⟩
            rw [HPE.out, putAll_snoc, ← HX.out]
          case measure => simp [intOf]; omega
        · have hkl : k + 1 = wd.length := by omega
          have hmin : min k (wd.length - 1) = min (k + 1) (wd.length - 1) := by omega
          have hnsz : Hid (sz = s + ((min (k + 1) (wd.length - 1) : Nat) : Int)) := Lib.hid (by rw [hszv, hmin])
          have hto : pathV u s wd.length v (k + 1) = v := by
            rw [pathV, if_neg (by omega), if_neg (by omega)]
          rw [hto] at HPE
          have dk : decide ((k : Int) + 1 < (wd.length : Int)) = false := by simp; omega
          clear hszv hmin HSZ
          generalize sz = sz' at Z3 hnsz
          go_wp2_with fail
          clear dk dx
          have V0 := Z0
          have V2 := Z2
          have V3 := Z3
          have hownV := hown
          have hmv := hmr
          have hcV := hcx
          obtain ⟨wx, hwx⟩ : ∃ wx, wr = wx := ⟨_, rfl⟩
          have hsV : wx.heap.size = wr.heap.size := by rw [hwx]
          rw [hwx] at V0 V2 V3 hownV hmv hcV ⊢
          clear Z0 Z2 Z3 hown hmr hcx
          have hGx : G < wx.heap.size := V3.1
          have hmd := Mid.drew1 wx
          have U0 := V0.mid hmd (Or.inr (Nat.zero_le _))
          have U2 := V2.mid hmd (Or.inr (Nat.zero_le _))
          have U3 := V3.mid hmd (Or.inr (Nat.zero_le _))
          have hownU := hownV.mid hmd (Or.inl (Nat.zero_le _))
          have hmu := hmv.trans hmd
          have g2 := U3.cell 2 rfl
          have f0 := cell_keep hmd (by omega) (Or.inr (Nat.zero_le _)) hcV
          clear V0 V2 V3 hownV hmv hmd hcV
          refine wp_region_T (S := (fun w' => w'.cell? ⟨G, 2, none⟩ = some (.slice A2 xs.length c2) ∧ w'.cell? ⟨B, off + k, none⟩ = some (.int .i64 x))) 12 (by kernel_rfl) ⟨g2, f0⟩ ?_
          generalize World.drew wx = wz at U0 U2 U3 hownU hmu f0 g2 ⊢
          have hS : wz.cell? ⟨G, 2, none⟩ = some (.slice A2 xs.length c2) ∧ wz.cell? ⟨B, off + k, none⟩ = some (.int .i64 x) := ⟨g2, f0⟩
          refine wpAnyT_take (i := 0) (v := ?_) rfl (by kernel_rfl) (by kernel_rfl) (by kernel_rfl) (by kernel_rfl) (fun _ _ _ h => h) (Or.inl ⟨by rfl, ?_⟩) hS ?_
          rotate_left
          focus (intro w hSw; (try dsimp only at hSw); go_simp; try with_reducible rfl)
          try simp only [Act.put, List.setIfInBounds_toArray, List.set_cons_zero, List.set_cons_succ, List.getElem_toArray, List.getElem_cons_zero, List.getElem_cons_succ]
          refine wpAnyT_take (i := 1) (v := ?_) rfl (by kernel_rfl) (by kernel_rfl) (by kernel_rfl) (by kernel_rfl) (fun _ _ _ h => h) (Or.inl ⟨by rfl, ?_⟩) hS ?_
          rotate_left
          focus (intro w hSw; (try dsimp only at hSw); go_simp; try with_reducible rfl)
          try simp only [Act.put, List.setIfInBounds_toArray, List.set_cons_zero, List.set_cons_succ, List.getElem_toArray, List.getElem_cons_zero, List.getElem_cons_succ]
          refine wpAnyT_take (i := 2) (v := ?_) rfl (by kernel_rfl) (by kernel_rfl) (by kernel_rfl) (by kernel_rfl) (fun _ _ _ h => h) (Or.inl ⟨by rfl, ?_⟩) hS ?_
          rotate_left
          focus (intro w hSw; (try dsimp only at hSw); go_simp; try with_reducible rfl)
          try simp only [Act.put, List.setIfInBounds_toArray, List.set_cons_zero, List.set_cons_succ, List.getElem_toArray, List.getElem_cons_zero, List.getElem_cons_succ]
          refine wpAnyT_take (i := 3) (v := ?_) rfl (by kernel_rfl) (by kernel_rfl) (by kernel_rfl) (by kernel_rfl) (fun _ _ _ h => h) (Or.inl ⟨by rfl, ?_⟩) hS ?_
          rotate_left
          focus (intro w hSw; (try dsimp only at hSw); go_simp; try with_reducible rfl)
          try simp only [Act.put, List.setIfInBounds_toArray, List.set_cons_zero, List.set_cons_succ, List.getElem_toArray, List.getElem_cons_zero, List.getElem_cons_succ]
          refine wpAnyT_take (i := 4) (v := ?_) rfl (by kernel_rfl) (by kernel_rfl) (by kernel_rfl) (by kernel_rfl) (fun _ _ _ h => h) (Or.inl ⟨by rfl, ?_⟩) hS ?_
          rotate_left
          focus (intro w hSw; (try dsimp only at hSw); go_simp; try with_reducible rfl)
          try simp only [Act.put, List.setIfInBounds_toArray, List.set_cons_zero, List.set_cons_succ, List.getElem_toArray, List.getElem_cons_zero, List.getElem_cons_succ]
          refine wpAnyT_take (i := 5) (v := ?_) rfl (by kernel_rfl) (by kernel_rfl) (by kernel_rfl) (by kernel_rfl) (fun _ _ _ h => h) (Or.inl ⟨by rfl, ?_⟩) hS ?_
          rotate_left
          focus (intro w hSw; (try dsimp only at hSw); go_simp; try with_reducible rfl)
          try simp only [Act.put, List.setIfInBounds_toArray, List.set_cons_zero, List.set_cons_succ, List.getElem_toArray, List.getElem_cons_zero, List.getElem_cons_succ]
          refine wpAnyT_take (i := 6) (v := ?_) rfl (by kernel_rfl) (by kernel_rfl) (by kernel_rfl) (by kernel_rfl) (fun _ _ _ h => h) (Or.inl ⟨by rfl, ?_⟩) hS ?_
          rotate_left
          focus (intro w hSw; (try dsimp only at hSw); go_simp; try with_reducible rfl)
          try simp only [Act.put, List.setIfInBounds_toArray, List.set_cons_zero, List.set_cons_succ, List.getElem_toArray, List.getElem_cons_zero, List.getElem_cons_succ]
          refine wpAnyT_take (i := 7) (v := ?_) rfl (by kernel_rfl) (by kernel_rfl) (by kernel_rfl) (by kernel_rfl) (fun _ _ _ h => h) (Or.inl ⟨by rfl, ?_⟩) hS ?_
          rotate_left
          focus (intro w hSw; (try dsimp only at hSw); go_simp; try with_reducible rfl)
          try simp only [Act.put, List.setIfInBounds_toArray, List.set_cons_zero, List.set_cons_succ, List.getElem_toArray, List.getElem_cons_zero, List.getElem_cons_succ]
          refine wpAnyT_take (i := 8) (v := ?_) rfl (by kernel_rfl) (by kernel_rfl) (by kernel_rfl) (by kernel_rfl) (fun _ _ _ h => h) (Or.inl ⟨by rfl, ?_⟩) hS ?_
          rotate_left
          focus (intro w hSw; (try dsimp only at hSw); go_simp; try with_reducible rfl)
          try simp only [Act.put, List.setIfInBounds_toArray, List.set_cons_zero, List.set_cons_succ, List.getElem_toArray, List.getElem_cons_zero, List.getElem_cons_succ]
          refine wpAnyT_take (i := 9) (v := ?_) rfl (by kernel_rfl) (by kernel_rfl) (by kernel_rfl) (by kernel_rfl) (fun _ _ _ h => h) (Or.inl ⟨by rfl, ?_⟩) hS ?_
          rotate_left
          focus (intro w hSw; (try dsimp only at hSw); go_simp; try with_reducible rfl)
          try simp only [Act.put, List.setIfInBounds_toArray, List.set_cons_zero, List.set_cons_succ, List.getElem_toArray, List.getElem_cons_zero, List.getElem_cons_succ]
          have hP := spec_l4Put A2 xs c2 ⟨v, -x, at0⟩ wz _ _ hownU.rg (by omega)
          refine wpAnyT_ready (rs := [10]) (by kernel_rfl) (by simp) (AllReadyT.cons rfl (fun K hK => ?_) AllReadyT.nil)
          (go_simp; (try simp only [hwx1, hwx2]); (with_reducible refine hP.mono ?_); rintro en w9 ⟨A9, c9, rfl, ho9, hm9⟩; have T0' := U0.mid hm9 (Or.inr (Nat.zero_le _)); have T2' := U2.mid hm9 (Or.inr (Nat.zero_le _)); have T3' := U3.mid hm9 (Or.inr (Nat.zero_le _)); have f0' := cell_keep hm9 (by have := U3.1; omega) (Or.inr (Nat.zero_le _)) f0; go_wp2_with fail)
          refine hK.out _ _ (Or.inr ⟨T3'.cell 2 rfl, f0'⟩) (fun _ => ?_)
          clear hK K
          try simp only [Act.put, List.setIfInBounds_toArray, List.set_cons_zero, List.set_cons_succ, List.getElem_toArray, List.getElem_cons_zero, List.getElem_cons_succ]
          have hmr9 := hmu.trans hm9
          have hGz : G < wz.heap.size := U3.1
          have hS3 := And.intro (T3'.cell 2 rfl) f0'
          have hr2 := T3'.cell 2 rfl
          have hrf := T3'.2.2
          clear hS U0 U2 U3 hmu hP
          refine wpAnyT_take (i := 11) (v := ?_) rfl (by kernel_rfl) (by kernel_rfl) (by kernel_rfl) (by kernel_rfl) (fun _ _ _ h => h) (Or.inl ⟨by rfl, ?_⟩) hS3 ?_
          rotate_left
          focus (intro w hSw; (try dsimp only at hSw); go_simp; try with_reducible rfl)
          try simp only [Act.put, List.setIfInBounds_toArray, List.set_cons_zero, List.set_cons_succ, List.getElem_toArray, List.getElem_cons_zero, List.getElem_cons_succ]
          refine wpAnyT_ready (rs := [12]) (by kernel_rfl) (by simp) (AllReadyT.cons rfl (fun K hK => ?_) AllReadyT.nil)
          (go_simp)
          refine hK.out _ _ (Or.inl rfl) (fun _ => ?_)
          clear hK K
          try simp only [Act.put, List.setIfInBounds_toArray, List.set_cons_zero, List.set_cons_succ, List.getElem_toArray, List.getElem_cons_zero, List.getElem_cons_succ]
          refine wpAnyT_done (by kernel_rfl) ?_ _
          go_wp2_with fail
          go_roundw
          case rel =>
            have hst := Mid.setCell w9 (lo := G) (hi := G + 1) (p := ⟨G, 2, none⟩) (.slice A9 (putE ⟨v, -x, at0⟩ xs).length c9) (Nat.le_refl _) (Nat.lt_succ_self _)
            refine ⟨k + 1, A9, c9, _, _, putE ⟨v, -x, at0⟩ xs, sz', by omega, by go_num, by rw [hto], hnsz, Lib.hid ?_, ho9.mid hst (Or.inl (by omega)), .inr (by omega), by have := HGW.out; omega, T0'.mid hst (Or.inl (by omega)), T2'.mid hst (Or.inl (by omega)), T3'.set 2 _ (by simp) rfl, hmr9.storeNew (by show w.heap.size ≤ G; omega) _⟩
            rw [HPE.out, putAll_snoc, ← HX.out]
          case measure => simp [intOf]; omega
    · obtain rfl : k = wd.length := by omega
      have hszf : sz = s + (wd.length : Int) - 1 := by rw [hszv, Nat.min_eq_right (by omega)]; omega
      subst hszf
      have hxx := HX.out
      rw [putAll_canon hasc.out] at hxx
      have hGr : G < wr.heap.size := Z3.1
      have HXX := Lib.hid hxx
      clear hszv hxx
      have a0 := Z2.cell 0 rfl
      have a1 := Z2.cell 1 rfl
      have a2 := Z2.cell 2 rfl
      have b0 := Z3.cell 0 rfl
      have b1 := Z3.cell 1 rfl
      have b2 := Z3.cell 2 rfl
      have af := Z2.2.2
      have bf := Z3.2.2
      go_wp2_with fail
      have hcl : (w.heap.size + 1 == G) = false := by simp; omega
      refine bodyPost_ret (v := .tuple #[.agg #[.int .i64 r, .int .i64 (s + (wd.length : Int) - 1), .slice A2 xs.length c2], .bool true]) (by simp [results, Tryz.results64, go_sem, a0, a1, a2, b0, b1, b2, af, bf]) rfl ⟨A2, c2, ?_, ?_, ?_⟩
      · rw [HRS.out, HRE.out, HXX.out]
      · rw [HRE.out, ← HXX.out]
        refine OG.wide (OG.mid hown (a := w.heap.size) (b := w.heap.size + 2) ?_ (Or.inl (by have := HS.out; omega))) (by have := HS.out; omega) (by have := hown.size; simp; omega) (Nat.le_refl _)
        repeat (first | exact Mid.refl _ _ _ | refine Mid.stored ?_ _ (by simp; try omega) (by simp; try omega))
      · repeat (first | exact hmr | refine Mid.storeNew ?_ (by simp; try omega) _)
end Go.Proofs.YtgpljoplnecioaaGreat

/- AddPetal, JoinWord, SmallestExtension, both sides. -/
namespace Go.Proofs.YtgpljoplnecioaaGreat
set_option linter.unusedVariables false
set_option linter.unusedSimpArgs false
open Go.RowKit

open Classical in
/-- What JoinWord gives. -/
noncomputable def jwA (r s : Int) (es : List Ed) (wd : List Int) : Option (Int × List Ed) :=
  if IsCor r s es ∧ IsW r wd then (if wd = [] then some (s, es) else if PathOk r s es 0 wd 0 then some (coreA r (s + (wd.length : Int) - 1, canon (es ++ pathE 0 s wd 0 wd.length))) else none) else none
def JwIs (r s : Int) (es : List Ed) (wd : List Int) (rr rs : Int) (res : List Ed) (b : Bool) : Prop :=
  (b = true ∧ jwA r s es wd = some (rs, res) ∧ rr = r) ∨ (b = false ∧ jwA r s es wd = none ∧ rr = 0 ∧ rs = 0 ∧ res = [])
theorem JwIs_ex (r s : Int) (es : List Ed) (wd : List Int) : ∃ rr rs res b, JwIs r s es wd rr rs res b := by
  cases h : jwA r s es wd with
  | none => exact ⟨_, _, _, _, .inr ⟨rfl, h, rfl, rfl, rfl⟩⟩
  | some p => exact ⟨_, p.1, p.2, _, .inl ⟨rfl, h, rfl⟩⟩
theorem JwIs.no {r s : Int} {es : List Ed} {wd : List Int} {rr rs : Int} {res : List Ed} {b : Bool} (h : JwIs r s es wd rr rs res b) (hn : jwA r s es wd = none) : b = false ∧ rr = 0 ∧ rs = 0 ∧ res = [] := by
  rcases h with ⟨-, h, -⟩ | ⟨h1, -, h2⟩
  · rw [hn] at h
    cases h
  · exact ⟨h1, h2⟩
theorem JwIs.yes {r s : Int} {es : List Ed} {wd : List Int} {rr rs q : Int} {res qs : List Ed} {b : Bool} (h : JwIs r s es wd rr rs res b) (hn : jwA r s es wd = some (q, qs)) : b = true ∧ rr = r ∧ rs = q ∧ res = qs := by
  rcases h with ⟨h1, h, h2⟩ | ⟨-, h, -⟩
  · rw [hn] at h
    injection h with h
    injection h with h3 h4
    exact ⟨h1, h2, h3.symm, h4.symm⟩
  · rw [hn] at h
    cases h
theorem jwA_some {r s : Int} {es : List Ed} {wd : List Int} {p : Int × List Ed} (h : jwA r s es wd = some p) : IsCor r s es ∧ IsW r wd ∧ IsGr r p.1 p.2 := by
  unfold jwA at h
  split at h
  · rename_i hc
    refine ⟨hc.1, hc.2, ?_⟩
    split at h
    · injection h with h
      subst h
      exact hc.1.gr
    · split at h
      · rename_i hp
        injection h with h
        subst h
        exact coreA_gr (g := (s + (wd.length : Int) - 1, canon (es ++ pathE 0 s wd 0 wd.length))) (path_gr hp)
      · cases h
  · cases h
theorem JwIs.lens {r s : Int} {es : List Ed} {wd : List Int} {rr rs : Int} {res : List Ed} {b : Bool} (h : JwIs r s es wd rr rs res b) : res.length ≤ 120 := by
  rcases h with ⟨-, h, -⟩ | ⟨-, -, -, -, rfl⟩
  · exact (jwA_some h).2.2.len
  · simp
/-- What the word adds to the rank. -/
noncomputable def seI (r s : Int) (es : List Ed) (rr rs : Int) (res : List Ed) (b : Bool) : Int := if b = true then rankI rr rs res - rankI r s es else -1

set_option maxHeartbeats 1600000 in
set_option maxRecDepth 20000 in
theorem spec_AddPetal (r s : Int) (A : Option Addr) (es : List Ed) (c : Nat) (Aw : Option Addr) (wd : List Int) (cw : Nat) (w : World) (lo hi lo' hi' : Nat) (hr : RG w lo hi A es) (hw : RV w lo' hi' Aw (ints wd)) (hl : es.length ≤ 1048576) (hwl : wd.length ≤ 1048576) (hok : OkI wd) (rs : Int) (res : List Ed) (b : Bool) (hres : PathIs r s es 0 wd 0 rs res b) :
    Calls Tryz.prog 45 #[graV r s A es.length c, .slice Aw wd.length cw] w fun e w' => ∃ A1 c1, e = .returned (.tuple #[graV r rs A1 res.length c1, .bool b]) ∧ OG w' w.heap.size w'.heap.size A1 c1 res ∧ Mid 0 0 w w' := by
  have hm0 : Mid 0 0 w ((w.alloc (.cells #[.int .i64 r, .int .i64 s, .slice A es.length c] 29)).alloc (.cells #[.int .i64 0, .int .i64 0, .slice none 0 0] 29)) := (Mid.alloc _ _).trans (Mid.alloc _ _)
  have b0 := (Box.new w #[.int .i64 r, .int .i64 s, .slice A es.length c] 29).mid (Mid.alloc _ (.cells #[.int .i64 0, .int .i64 0, .slice none 0 0] 29)) (Or.inr (Nat.zero_le _))
  have b2 := Box.new (w.alloc (.cells #[.int .i64 r, .int .i64 s, .slice A es.length c] 29)) #[.int .i64 0, .int .i64 0, .slice none 0 0] 29
  simp only [World.size_alloc] at b2
  have HR := Lib.hid hres
  have HOK := Lib.hid hok
  clear hres hok
  go_enter Tryz.func45, Tryz.ntmps45
  go_wp2_with fail
  generalize ((w.alloc (.cells #[.int .i64 r, .int .i64 s, .slice A es.length c] 29)).alloc (.cells #[.int .i64 0, .int .i64 0, .slice none 0 0] 29)) = w1 at hm0 b0 b2 ⊢
  have hs1 : w.heap.size + 1 < w1.heap.size := b2.1
  with_reducible refine (spec_AddPath r s A es c 0 Aw wd cw 0 w1 _ _ _ _ (hr.mid hm0 (Or.inl (Nat.zero_le _))) (hw.mid hm0 (Or.inl (Nat.zero_le _))) hl hwl HOK.out rs res b HR.out).mono ?_
  rintro en w2 ⟨A2, c2, rfl, ho2, hm2⟩
  replace b0 := b0.mid hm2 (Or.inr (Nat.zero_le _))
  replace b2 := b2.mid hm2 (Or.inr (Nat.zero_le _))
  replace hm0 := hm0.trans hm2
  have hs2 := hm2.size
  have ha2 := Mid.alloc w2 (.cells #[.int .i64 r, .int .i64 rs, .slice A2 res.length c2] 29)
  have Y2 := Box.new w2 #[.int .i64 r, .int .i64 rs, .slice A2 res.length c2] 29
  have hs4 : w.heap.size + 1 < w2.heap.size := by omega
  have hs5 : w.heap.size < w2.heap.size := by omega
  have q0 := Y2.cell 0 rfl
  have q1 := Y2.cell 1 rfl
  have q2 := Y2.cell 2 rfl
  have z0 := b2.cell 0 rfl
  have z1 := b2.cell 1 rfl
  have z2 := b2.cell 2 rfl
  have zf := b2.2.2
  clear ha2
  go_wp2_with fail
  refine bodyPost_ret (v := .tuple #[.agg #[.int .i64 r, .int .i64 rs, .slice A2 res.length c2], .bool b]) (by simp [results, Tryz.results45, go_sem, z0, z1, z2, zf, q0, q1, q2, hs4, hs5, World.cell?_alloc_lt]) rfl ⟨A2, c2, rfl, ?_, ?_⟩
  · refine OG.wide (OG.mid ho2 (a := w.heap.size + 1) (b := w.heap.size + 2) ?_ (Or.inl (by omega))) (by omega) (by simp; try omega) (Nat.le_refl _)
    repeat (first | exact Mid.refl _ _ _ | refine Mid.trans ?_ (Mid.zero (Mid.alloc _ _)) | refine Mid.stored ?_ _ (by simp; try omega) (by simp; try omega))
  · repeat (first | exact hm0 | refine Mid.trans ?_ (Mid.alloc _ _) | refine Mid.storeNew ?_ (by simp; try omega) _)

set_option maxHeartbeats 3200000 in
set_option maxRecDepth 20000 in
theorem spec_JoinWord (r s : Int) (A : Option Addr) (es : List Ed) (c : Nat) (Aw : Option Addr) (wd : List Int) (cw : Nat) (w : World) (lo hi lo' hi' : Nat) (hr : RG w lo hi A es) (hw : RV w lo' hi' Aw (ints wd)) (hl : es.length ≤ 1048576) (hwl : wd.length ≤ 1048576) (hok : OkI wd) (rr rs : Int) (res : List Ed) (b : Bool) (hres : JwIs r s es wd rr rs res b) :
    Calls Tryz.prog 16 #[graV r s A es.length c, .slice Aw wd.length cw] w fun e w' => ∃ A1 c1, e = .returned (.tuple #[graV rr rs A1 res.length c1, .bool b]) ∧ OG w' w.heap.size w'.heap.size A1 c1 res ∧ Mid 0 0 w w' := by
  have hm0 : Mid 0 0 w ((w.alloc (.cells #[.int .i64 r, .int .i64 s, .slice A es.length c] 29)).alloc (.cells #[.int .i64 0, .int .i64 0, .slice none 0 0] 29)) := (Mid.alloc _ _).trans (Mid.alloc _ _)
  have b0 := (Box.new w #[.int .i64 r, .int .i64 s, .slice A es.length c] 29).mid (Mid.alloc _ (.cells #[.int .i64 0, .int .i64 0, .slice none 0 0] 29)) (Or.inr (Nat.zero_le _))
  have b2 := Box.new (w.alloc (.cells #[.int .i64 r, .int .i64 s, .slice A es.length c] 29)) #[.int .i64 0, .int .i64 0, .slice none 0 0] 29
  simp only [World.size_alloc] at b2
  have HR := Lib.hid hres
  have HOK := Lib.hid hok
  clear hres hok
  go_enter Tryz.func16, Tryz.ntmps16
  go_wp2_with fail
  generalize ((w.alloc (.cells #[.int .i64 r, .int .i64 s, .slice A es.length c] 29)).alloc (.cells #[.int .i64 0, .int .i64 0, .slice none 0 0] 29)) = w1 at hm0 b0 b2 ⊢
  have hs1 : w.heap.size + 1 < w1.heap.size := b2.1
  by_cases hc : IsCor r s es
  · have HC := Lib.hid hc
    clear hc
    with_reducible refine (spec_IsSubgroup r s A es c _ _ _ (hr.mid hm0 (Or.inl (Nat.zero_le _))) hl true (iff_of_true rfl HC.out)).mono ?_
    rintro en w2 ⟨rfl, hm2⟩
    replace b0 := b0.mid hm2 (Or.inr (Nat.zero_le _))
    replace b2 := b2.mid hm2 (Or.inr (Nat.zero_le _))
    replace hm0 := hm0.trans hm2
    have hs2 := hm2.size
    have p0 := b0.cell 0 rfl
    have p1 := b0.cell 1 rfl
    have p2 := b0.cell 2 rfl
    go_wp2_with fail
    by_cases hwd : IsW r wd
    · have HW := Lib.hid hwd
      clear hwd
      with_reducible refine (spec_IsWord r Aw wd cw _ _ ((hw.mid hm0 (Or.inl (Nat.zero_le _))).rs) HOK.out (by omega) true (iff_of_true rfl HW.out)).mono ?_
      rintro en w3 ⟨rfl, nd, hw3⟩
      have hm3 : Mid 0 0 w2 w3 := by rw [hw3]; exact (Mid.refl 0 0 w2).drewN nd
      replace b0 := b0.mid hm3 (Or.inr (Nat.zero_le _))
      replace b2 := b2.mid hm3 (Or.inr (Nat.zero_le _))
      replace hm0 := hm0.trans hm3
      have hs3 := hm3.size
      clear p0 p1 p2 hw3 hm3
      have p0 := b0.cell 0 rfl
      have p1 := b0.cell 1 rfl
      have p2 := b0.cell 2 rfl
      by_cases hne : wd = []
      · subst hne
        have hjw : jwA r s es [] = some (s, es) := by rw [jwA, if_pos ⟨HC.out, HW.out⟩, if_pos rfl]
        obtain ⟨rfl, rfl, rfl, rfl⟩ := HR.out.yes hjw
        clear HR hjw
        go_wp2_with fail
        with_reducible refine (spec_l4Copy rr rs A res c _ _ _ (hr.mid hm0 (Or.inl (Nat.zero_le _))) hl).mono ?_
        rintro en w4 ⟨A4, c4, rfl, ho4, hm4⟩
        replace b2 := b2.mid hm4 (Or.inr (Nat.zero_le _))
        replace hm0 := hm0.trans hm4
        have hs4 := hm4.size
        have z0 := b2.cell 0 rfl
        have z1 := b2.cell 1 rfl
        have z2 := b2.cell 2 rfl
        have zf := b2.2.2
        clear p0 p1 p2
        go_wp2_with fail
        refine bodyPost_ret (v := .tuple #[.agg #[.int .i64 rr, .int .i64 rs, .slice A4 res.length c4], .bool true]) (by simp [results, Tryz.results16, go_sem, z0, z1, z2, zf]) rfl ⟨A4, c4, rfl, ?_, ?_⟩
        · refine OG.wide (OG.mid ho4 (a := w.heap.size + 1) (b := w.heap.size + 2) ?_ (Or.inl (by omega))) (by omega) (by simp) (Nat.le_refl _)
          repeat (first | exact Mid.refl _ _ _ | refine Mid.stored ?_ _ (by simp; try omega) (by simp; try omega))
        · repeat (first | exact hm0 | refine Mid.storeNew ?_ (by simp; try omega) _)
      · have d4 : ((wd.length : Int) == 0) = false := by have := List.length_pos_iff.2 hne; simp only [beq_eq_false_iff_ne]; omega
        have HNE := Lib.hid hne
        clear hne
        by_cases hp : PathOk r s es 0 wd 0
        · have HP := Lib.hid hp
          clear hp
          obtain ⟨ms, hms⟩ : ∃ ms, canon (es ++ pathE 0 s wd 0 wd.length) = ms := ⟨_, rfl⟩
          have hgm := path_gr HP.out
          rw [hms] at hgm
          obtain ⟨sn, hsn⟩ : ∃ sn : Nat, s + (wd.length : Int) - 1 = sn := ⟨(s + (wd.length : Int) - 1).toNat, by have := hgm.size; omega⟩
          have hPI : PathIs r s es 0 wd 0 (s + (wd.length : Int) - 1) ms true := Or.inl ⟨rfl, HP.out, rfl, hms.symm⟩
          have hjw : jwA r s es wd = some (coreA r (s + (wd.length : Int) - 1, canon (es ++ pathE 0 s wd 0 wd.length))) := by rw [jwA, if_pos ⟨HC.out, HW.out⟩, if_neg HNE.out, if_pos HP.out]
          rw [hms, hsn] at hjw
          rw [hsn] at hPI hgm
          have HGM := Lib.hid hgm
          have HPI := Lib.hid hPI
          have HSN := Lib.hid hsn
          clear hms hgm hPI hsn
          obtain ⟨rn, rfl⟩ : ∃ rn : Nat, r = rn := ⟨r.toNat, by have := HGM.out.rank; omega⟩
          obtain ⟨q, qs, hQ, -⟩ := nat_gr (coreA_gr (g := ((sn : Int), ms)) HGM.out)
          rw [hQ] at hjw
          obtain ⟨rfl, hrr, hrs, hre⟩ := HR.out.yes hjw
          subst hrr hrs
          subst res
          clear HR hjw
          go_wp2_with fail
          with_reducible refine (spec_AddPetal rn s A es c Aw wd cw _ _ _ _ _ (hr.mid hm0 (Or.inl (Nat.zero_le _))) (hw.mid hm0 (Or.inl (Nat.zero_le _))) hl hwl HOK.out sn ms true HPI.out).mono ?_
          rintro en w4 ⟨A4, c4, rfl, ho4, hm4⟩
          have hs4 := hm4.size
          have ha4 := Mid.alloc w4 (.cells #[.int .i64 rn, .int .i64 sn, .slice A4 ms.length c4] 29)
          have Y4 := Box.new w4 #[.int .i64 rn, .int .i64 sn, .slice A4 ms.length c4] 29
          replace b2 := b2.mid hm4 (Or.inr (Nat.zero_le _))
          replace hm0 := hm0.trans hm4
          replace b2 := b2.mid ha4 (Or.inr (Nat.zero_le _))
          replace ho4 := ho4.mid ha4 (Or.inl (Nat.zero_le _))
          replace hm0 := hm0.trans ha4
          have hsa := ha4.size
          have y0 := Y4.cell 0 rfl
          have y1 := Y4.cell 1 rfl
          have y2 := Y4.cell 2 rfl
          have hP := spec_CoreGraph rn sn A4 ms c4 (w4.alloc (.cells #[.int .i64 rn, .int .i64 sn, .slice A4 ms.length c4] 29)) _ _ (OG.rg ho4) HGM.out
          rw [hQ] at hP
          dsimp only at hP
          have HPP := Lib.hid hP
          clear hP hQ p0 p1 p2
          go_wp2_with fail
          with_reducible refine HPP.out.mono ?_
          rintro en w6 ⟨A5, c5, rfl, ho5, hm6⟩
          clear HPP
          replace b2 := b2.mid hm6 (Or.inr (Nat.zero_le _))
          replace hm0 := hm0.trans hm6
          have z0 := b2.cell 0 rfl
          have z1 := b2.cell 1 rfl
          have z2 := b2.cell 2 rfl
          have zf := b2.2.2
          go_wp2_with fail
          refine bodyPost_ret (v := .tuple #[.agg #[.int .i64 rn, .int .i64 q, .slice A5 qs.length c5], .bool true]) (by simp [results, Tryz.results16, go_sem, z0, z1, z2, zf]) rfl ⟨A5, c5, rfl, ?_, ?_⟩
          · refine OG.wide (OG.mid ho5 (a := w.heap.size + 1) (b := w.heap.size + 2) ?_ (Or.inl (by omega))) (by omega) (by simp) (Nat.le_refl _)
            repeat (first | exact Mid.refl _ _ _ | refine Mid.stored ?_ _ (by simp; try omega) (by simp; try omega))
          · repeat (first | exact hm0 | refine Mid.storeNew ?_ (by simp; try omega) _)
        · have hPI : PathIs r s es 0 wd 0 s es false := Or.inr ⟨rfl, hp, rfl, rfl⟩
          have hjw : jwA r s es wd = none := by rw [jwA, if_pos ⟨HC.out, HW.out⟩, if_neg HNE.out, if_neg hp]
          obtain ⟨rfl, rfl, rfl, rfl⟩ := HR.out.no hjw
          have HPI := Lib.hid hPI
          clear HR hjw hp hPI
          go_wp2_with fail
          with_reducible refine (spec_AddPetal r s A es c Aw wd cw _ _ _ _ _ (hr.mid hm0 (Or.inl (Nat.zero_le _))) (hw.mid hm0 (Or.inl (Nat.zero_le _))) hl hwl HOK.out s es false HPI.out).mono ?_
          rintro en w4 ⟨A4, c4, rfl, ho4, hm4⟩
          replace b2 := b2.mid hm4 (Or.inr (Nat.zero_le _))
          replace hm0 := hm0.trans hm4
          have hb23 : w.heap.size + 1 < w4.heap.size := b2.1
          have hb22 : w.heap.size < w4.heap.size := by omega
          have z0 := b2.cell 0 rfl
          have z1 := b2.cell 1 rfl
          have z2 := b2.cell 2 rfl
          have zf := b2.2.2
          clear p0 p1 p2
          go_wp2_with fail
          refine bodyPost_ret (v := .tuple #[.agg #[.int .i64 0, .int .i64 0, .slice none 0 0], .bool false]) (by simp [results, Tryz.results16, go_sem, z0, z1, z2, zf, hb22, hb23, World.cell?_alloc_lt]) rfl ⟨none, 0, rfl, ?_, ?_⟩
          · exact ⟨Nat.le_refl _, ⟨rfl, .inl ⟨rfl, rfl⟩⟩, fun g hg => by simp [Value.ownBlock] at hg⟩
          · repeat (first | exact hm0 | refine Mid.trans ?_ (Mid.alloc _ _) | refine Mid.storeNew ?_ (by simp; try omega) _)
    · have hjw : jwA r s es wd = none := by rw [jwA, if_neg fun h => hwd h.2]
      obtain ⟨rfl, rfl, rfl, rfl⟩ := HR.out.no hjw
      have HW := Lib.hid hwd
      clear hwd hjw HR
      with_reducible refine (spec_IsWord r Aw wd cw _ _ ((hw.mid hm0 (Or.inl (Nat.zero_le _))).rs) HOK.out (by omega) false (iff_of_false Bool.false_ne_true HW.out)).mono ?_
      rintro en w3 ⟨rfl, nd, hw3⟩
      have hm3 : Mid 0 0 w2 w3 := by rw [hw3]; exact (Mid.refl 0 0 w2).drewN nd
      replace b0 := b0.mid hm3 (Or.inr (Nat.zero_le _))
      replace b2 := b2.mid hm3 (Or.inr (Nat.zero_le _))
      replace hm0 := hm0.trans hm3
      have hs3 := hm3.size
      clear p0 p1 p2 hw3 hm3
      have p0 := b0.cell 0 rfl
      have p1 := b0.cell 1 rfl
      have p2 := b0.cell 2 rfl
      have z0 := b2.cell 0 rfl
      have z1 := b2.cell 1 rfl
      have z2 := b2.cell 2 rfl
      have zf := b2.2.2
      clear p0 p1 p2
      go_wp2_with fail
      refine bodyPost_ret (v := .tuple #[.agg #[.int .i64 0, .int .i64 0, .slice none 0 0], .bool false]) (by simp [results, Tryz.results16, go_sem, z0, z1, z2, zf]) rfl ⟨none, 0, rfl, ?_, ?_⟩
      · exact ⟨Nat.le_refl _, ⟨rfl, .inl ⟨rfl, rfl⟩⟩, fun g hg => by simp [Value.ownBlock] at hg⟩
      · repeat (first | exact hm0 | refine Mid.trans ?_ (Mid.alloc _ _) | refine Mid.storeNew ?_ (by simp; try omega) _)
  · have hjw : jwA r s es wd = none := by rw [jwA, if_neg fun h => hc h.1]
    obtain ⟨rfl, rfl, rfl, rfl⟩ := HR.out.no hjw
    have HC := Lib.hid hc
    clear hc hjw HR
    with_reducible refine (spec_IsSubgroup r s A es c _ _ _ (hr.mid hm0 (Or.inl (Nat.zero_le _))) hl false (iff_of_false Bool.false_ne_true HC.out)).mono ?_
    rintro en w2 ⟨rfl, hm2⟩
    replace b2 := b2.mid hm2 (Or.inr (Nat.zero_le _))
    replace hm0 := hm0.trans hm2
    have z0 := b2.cell 0 rfl
    have z1 := b2.cell 1 rfl
    have z2 := b2.cell 2 rfl
    have zf := b2.2.2
    go_wp2_with fail
    refine bodyPost_ret (v := .tuple #[.agg #[.int .i64 0, .int .i64 0, .slice none 0 0], .bool false]) (by simp [results, Tryz.results16, go_sem, z0, z1, z2, zf]) rfl ⟨none, 0, rfl, ?_, ?_⟩
    · exact ⟨Nat.le_refl _, ⟨rfl, .inl ⟨rfl, rfl⟩⟩, fun g hg => by simp [Value.ownBlock] at hg⟩
    · repeat (first | exact hm0 | refine Mid.trans ?_ (Mid.alloc _ _) | refine Mid.storeNew ?_ (by simp; try omega) _)

set_option maxHeartbeats 3200000 in
set_option maxRecDepth 20000 in
theorem spec_SmallestExtension (r s : Int) (A : Option Addr) (es : List Ed) (c : Nat) (Aw : Option Addr) (wd : List Int) (cw : Nat) (w : World) (lo hi lo' hi' : Nat) (hr : RG w lo hi A es) (hw : RV w lo' hi' Aw (ints wd)) (hl : es.length ≤ 1048576) (hwl : wd.length ≤ 1048576) (hok : OkI wd) (rr rs : Int) (res : List Ed) (b : Bool) (hres : JwIs r s es wd rr rs res b) :
    Calls Tryz.prog 23 #[graV r s A es.length c, .slice Aw wd.length cw] w fun e w' => ∃ A1 c1, e = .returned (.tuple #[graV rr rs A1 res.length c1, .int .i64 (seI r s es rr rs res b)]) ∧ OG w' w.heap.size w'.heap.size A1 c1 res ∧ Mid 0 0 w w' := by
  have hm0 : Mid 0 0 w ((w.alloc (.cells #[.int .i64 r, .int .i64 s, .slice A es.length c] 29)).alloc (.cells #[.int .i64 0, .int .i64 0, .slice none 0 0] 29)) := (Mid.alloc _ _).trans (Mid.alloc _ _)
  have b0 := (Box.new w #[.int .i64 r, .int .i64 s, .slice A es.length c] 29).mid (Mid.alloc _ (.cells #[.int .i64 0, .int .i64 0, .slice none 0 0] 29)) (Or.inr (Nat.zero_le _))
  have b2 := Box.new (w.alloc (.cells #[.int .i64 r, .int .i64 s, .slice A es.length c] 29)) #[.int .i64 0, .int .i64 0, .slice none 0 0] 29
  simp only [World.size_alloc] at b2
  have hl2 := hres.lens
  have hl3 : res.length ≤ 1048576 := by omega
  obtain ⟨k1, k2⟩ := rankI_bnd (r := r) (s := s) hl
  obtain ⟨k5, k6⟩ := rankI_bnd (r := rr) (s := rs) hl3
  have HR := Lib.hid hres
  have HOK := Lib.hid hok
  have hJ := fun W hh hh' => spec_JoinWord r s A es c Aw wd cw W lo hi lo' hi' hh hh' hl hwl HOK.out rr rs res b HR.out
  have h1 := fun W hh => spec_RankOf r s A es c W lo hi hh hl
  have h3 := fun A c W lo hi hh => spec_RankOf rr rs A res c W lo hi hh hl3
  have hdr : seI r s es rr rs res b = if b = true then rankI rr rs res - rankI r s es else -1 := rfl
  generalize seI r s es rr rs res b = dd at hdr ⊢
  generalize rankI r s es = x1 at k1 k2 h1 hdr
  generalize rankI rr rs res = x3 at k5 k6 h3 hdr
  have HJ := Lib.hid hJ
  have HR1 := Lib.hid h1
  have HR3 := Lib.hid h3
  have HD := Lib.hid hdr
  clear hJ h1 h3 hdr hok
  go_enter Tryz.func23, Tryz.ntmps23
  go_wp2_with fail
  generalize ((w.alloc (.cells #[.int .i64 r, .int .i64 s, .slice A es.length c] 29)).alloc (.cells #[.int .i64 0, .int .i64 0, .slice none 0 0] 29)) = w1 at hm0 b0 b2 ⊢
  have hs1 : w.heap.size + 1 < w1.heap.size := b2.1
  with_reducible refine (HJ.out w1 (hr.mid hm0 (Or.inl (Nat.zero_le _))) (hw.mid hm0 (Or.inl (Nat.zero_le _)))).mono ?_
  rintro en w2 ⟨A2, c2, rfl, ho2, hm2⟩
  have hcl2 := ho2.cnt.1
  have hs2 := hm2.size
  have ha2 := Mid.alloc w2 (.cells #[.int .i64 rr, .int .i64 rs, .slice A2 res.length c2] 29)
  have Y2 := Box.new w2 #[.int .i64 rr, .int .i64 rs, .slice A2 res.length c2] 29
  replace b0 := b0.mid hm2 (Or.inr (Nat.zero_le _))
  replace b2 := b2.mid hm2 (Or.inr (Nat.zero_le _))
  replace hm0 := hm0.trans hm2
  have hb23 : w.heap.size + 1 < w2.heap.size := b2.1
  have hb22 : w.heap.size < w2.heap.size := by omega
  have bz := b2
  have hmz := hm0
  replace b0 := b0.mid ha2 (Or.inr (Nat.zero_le _))
  replace b2 := b2.mid ha2 (Or.inr (Nat.zero_le _))
  replace ho2 := ho2.mid ha2 (Or.inl (Nat.zero_le _))
  replace hm0 := hm0.trans ha2
  have hs3 := ha2.size
  clear HJ hm2
  cases b with
  | false =>
    have hno : rr = 0 ∧ rs = 0 ∧ res = [] := by
      rcases hres with ⟨h, -⟩ | ⟨-, -, h⟩
      · cases h
      · exact h
    obtain ⟨rfl, rfl, rfl⟩ := hno
    have hdd : dd = -1 := by rw [HD.out]; rfl
    subst hdd
    have z0 := bz.cell 0 rfl
    have z1 := bz.cell 1 rfl
    have z2 := bz.cell 2 rfl
    have zf := bz.2.2
    clear hres HR
    go_wp2_with fail
    refine bodyPost_ret (v := .tuple #[.agg #[.int .i64 0, .int .i64 0, .slice none 0 0], .int .i64 (-1)]) (by simp [results, Tryz.results23, go_sem, z0, z1, z2, zf, hb22, hb23, World.cell?_alloc_lt]) rfl ⟨none, 0, rfl, ?_, ?_⟩
    · exact ⟨Nat.le_refl _, ⟨rfl, .inl ⟨rfl, rfl⟩⟩, fun g hg => by simp [Value.ownBlock] at hg⟩
    · repeat (first | exact hmz | refine Mid.trans ?_ (Mid.alloc _ _) | refine Mid.storeNew ?_ (by simp; try omega) _)
  | true =>
    have hdd : dd = x3 - x1 := by rw [HD.out]; rfl
    subst hdd
    have hw2 : IntKind.i64.wrap (x3 - x1) = x3 - x1 := IntWalk.i64_in _ (by omega)
    clear hres HR
    go_wp2_with fail
    generalize w2.alloc (.cells #[.int .i64 rr, .int .i64 rs, .slice A2 res.length c2] 29) = w3 at hm0 b0 b2 ho2 Y2 hs3 ⊢
    have hmd := Mid.drew1 w3
    have hsd := hmd.size
    clear bz hmz
    replace b0 := b0.mid hmd (Or.inr (Nat.zero_le _))
    replace b2 := b2.mid hmd (Or.inr (Nat.zero_le _))
    replace Y2 := Y2.mid hmd (Or.inr (Nat.zero_le _))
    replace ho2 := ho2.mid hmd (Or.inl (Nat.zero_le _))
    replace hm0 := hm0.trans hmd
    have p0 := b0.cell 0 rfl
    have p1 := b0.cell 1 rfl
    have p2 := b0.cell 2 rfl
    have q0 := Y2.cell 0 rfl
    have q1 := Y2.cell 1 rfl
    have q2 := Y2.cell 2 rfl
    refine wp_region_T (S := (fun w' => (w'.cell? ⟨w.heap.size, 0, none⟩ = some (.int .i64 r) ∧ w'.cell? ⟨w.heap.size, 1, none⟩ = some (.int .i64 s) ∧ w'.cell? ⟨w.heap.size, 2, none⟩ = some (.slice A es.length c)) ∧ w'.cell? ⟨w2.heap.size, 0, none⟩ = some (.int .i64 rr) ∧ w'.cell? ⟨w2.heap.size, 1, none⟩ = some (.int .i64 rs) ∧ w'.cell? ⟨w2.heap.size, 2, none⟩ = some (.slice A2 res.length c2))) 7 (by kernel_rfl) ⟨⟨p0, p1, p2⟩, q0, q1, q2⟩ ?_
    generalize World.drew w3 = wz at b0 b2 Y2 ho2 hm0 p0 p1 p2 q0 q1 q2 hsd ⊢
    have hS : (wz.cell? ⟨w.heap.size, 0, none⟩ = some (.int .i64 r) ∧ wz.cell? ⟨w.heap.size, 1, none⟩ = some (.int .i64 s) ∧ wz.cell? ⟨w.heap.size, 2, none⟩ = some (.slice A es.length c)) ∧ wz.cell? ⟨w2.heap.size, 0, none⟩ = some (.int .i64 rr) ∧ wz.cell? ⟨w2.heap.size, 1, none⟩ = some (.int .i64 rs) ∧ wz.cell? ⟨w2.heap.size, 2, none⟩ = some (.slice A2 res.length c2) := ⟨⟨p0, p1, p2⟩, q0, q1, q2⟩
    refine wpAnyT_take (i := 0) (v := ?_) rfl (by kernel_rfl) (by kernel_rfl) (by kernel_rfl) (by kernel_rfl) (fun _ _ _ h => h) (Or.inl ⟨by rfl, ?_⟩) hS ?_
    rotate_left
    focus (intro w hSw; (try dsimp only at hSw); go_simp; try with_reducible rfl)
    try simp only [Act.put, List.setIfInBounds_toArray, List.set_cons_zero, List.set_cons_succ, List.getElem_toArray, List.getElem_cons_zero, List.getElem_cons_succ]
    refine wpAnyT_take (i := 1) (v := ?_) rfl (by kernel_rfl) (by kernel_rfl) (by kernel_rfl) (by kernel_rfl) (fun _ _ _ h => h) (Or.inl ⟨by rfl, ?_⟩) hS ?_
    rotate_left
    focus (intro w hSw; (try dsimp only at hSw); go_simp; try with_reducible rfl)
    try simp only [Act.put, List.setIfInBounds_toArray, List.set_cons_zero, List.set_cons_succ, List.getElem_toArray, List.getElem_cons_zero, List.getElem_cons_succ]
    refine wpAnyT_take (i := 3) (v := ?_) rfl (by kernel_rfl) (by kernel_rfl) (by kernel_rfl) (by kernel_rfl) (fun _ _ _ h => h) (Or.inl ⟨by rfl, ?_⟩) hS ?_
    rotate_left
    focus (intro w hSw; (try dsimp only at hSw); go_simp; try with_reducible rfl)
    try simp only [Act.put, List.setIfInBounds_toArray, List.set_cons_zero, List.set_cons_succ, List.getElem_toArray, List.getElem_cons_zero, List.getElem_cons_succ]
    refine wpAnyT_ready (rs := [2]) (by kernel_rfl) (by simp) (AllReadyT.cons rfl (fun K hK => ?_) AllReadyT.nil)
    (go_simp; refine (HR3.out A2 c2 _ _ _ ho2.rg).mono ?_; rintro en w4 ⟨rfl, hm4⟩; have b01 := b0.mid hm4 (Or.inr (Nat.zero_le _)); have Y21 := Y2.mid hm4 (Or.inr (Nat.zero_le _)); go_wp2_with fail)
    refine hK.out _ _ (Or.inr ⟨⟨b01.cell 0 rfl, b01.cell 1 rfl, b01.cell 2 rfl⟩, Y21.cell 0 rfl, Y21.cell 1 rfl, Y21.cell 2 rfl⟩) (fun _ => ?_)
    clear hK K
    try simp only [Act.put, List.setIfInBounds_toArray, List.set_cons_zero, List.set_cons_succ, List.getElem_toArray, List.getElem_cons_zero, List.getElem_cons_succ]
    replace hm0 := hm0.trans hm4
    have b21 := b2.mid hm4 (Or.inr (Nat.zero_le _))
    have ho4 := ho2.mid hm4 (Or.inl (Nat.zero_le _))
    have hs4 := hm4.size
    clear hS p0 p1 p2 q0 q1 q2 b0 Y2 b2 ho2 hm4
    refine wpAnyT_ready (rs := [4]) (by kernel_rfl) (by simp) (AllReadyT.cons rfl (fun K hK => ?_) AllReadyT.nil)
    (go_simp; refine (HR1.out _ (hr.mid hm0 (Or.inl (Nat.zero_le _)))).mono ?_; rintro en w5 ⟨rfl, hm5⟩; have b02 := b01.mid hm5 (Or.inr (Nat.zero_le _)); have Y22 := Y21.mid hm5 (Or.inr (Nat.zero_le _)); go_wp2_with fail)
    refine hK.out _ _ (Or.inr ⟨⟨b02.cell 0 rfl, b02.cell 1 rfl, b02.cell 2 rfl⟩, Y22.cell 0 rfl, Y22.cell 1 rfl, Y22.cell 2 rfl⟩) (fun _ => ?_)
    clear hK K
    try simp only [Act.put, List.setIfInBounds_toArray, List.set_cons_zero, List.set_cons_succ, List.getElem_toArray, List.getElem_cons_zero, List.getElem_cons_succ]
    replace hm0 := hm0.trans hm5
    have b22 := b21.mid hm5 (Or.inr (Nat.zero_le _))
    have ho5 := ho4.mid hm5 (Or.inl (Nat.zero_le _))
    have hs5 := hm5.size
    have hS5 := And.intro (And.intro (b02.cell 0 rfl) (And.intro (b02.cell 1 rfl) (b02.cell 2 rfl))) (And.intro (Y22.cell 0 rfl) (And.intro (Y22.cell 1 rfl) (Y22.cell 2 rfl)))
    clear b01 b21 Y21 ho4 hm5
    refine wpAnyT_take (i := 5) (v := ?_) rfl (by kernel_rfl) (by kernel_rfl) (by kernel_rfl) (by kernel_rfl) (fun _ _ _ h => h) (Or.inl ⟨by rfl, ?_⟩) hS5 ?_
    rotate_left
    focus (intro w hSw; (try dsimp only at hSw); go_simp; try with_reducible rfl)
    try simp only [Act.put, List.setIfInBounds_toArray, List.set_cons_zero, List.set_cons_succ, List.getElem_toArray, List.getElem_cons_zero, List.getElem_cons_succ]
    have z0 := b22.cell 0 rfl
    have z1 := b22.cell 1 rfl
    have z2 := b22.cell 2 rfl
    have zf := b22.2.2
    have hst := ((Mid.setCell w5 (lo := w.heap.size + 1) (hi := w.heap.size + 2) (p := ⟨w.heap.size + 1, 0, none⟩) (.int .i64 rr) (Nat.le_refl _) (Nat.lt_succ_self _)).trans (Mid.setCell _ (lo := w.heap.size + 1) (hi := w.heap.size + 2) (p := ⟨w.heap.size + 1, 1, none⟩) (.int .i64 rs) (Nat.le_refl _) (Nat.lt_succ_self _))).trans (Mid.setCell _ (lo := w.heap.size + 1) (hi := w.heap.size + 2) (p := ⟨w.heap.size + 1, 2, none⟩) (.slice A2 res.length c2) (Nat.le_refl _) (Nat.lt_succ_self _))
    have b03 := b02.mid hst (Or.inl (by omega))
    have Y23 := Y22.mid hst (Or.inr (by omega))
    have hS6 := And.intro (And.intro (b03.cell 0 rfl) (And.intro (b03.cell 1 rfl) (b03.cell 2 rfl))) (And.intro (Y23.cell 0 rfl) (And.intro (Y23.cell 1 rfl) (Y23.cell 2 rfl)))
    refine wpAnyT_ready (rs := [6]) (by kernel_rfl) (by simp) (AllReadyT.cons rfl (fun K hK => ?_) AllReadyT.nil)
    go_simp
    refine hK.out _ _ (Or.inr hS6) (fun _ => ?_)
    clear hK K
    try simp only [Act.put, List.setIfInBounds_toArray, List.set_cons_zero, List.set_cons_succ, List.getElem_toArray, List.getElem_cons_zero, List.getElem_cons_succ]
    refine wpAnyT_ready (rs := [7]) (by kernel_rfl) (by simp) (AllReadyT.cons rfl (fun K hK => ?_) AllReadyT.nil)
    go_simp
    refine hK.out _ _ (Or.inl rfl) (fun _ => ?_)
    clear hK K
    try simp only [Act.put, List.setIfInBounds_toArray, List.set_cons_zero, List.set_cons_succ, List.getElem_toArray, List.getElem_cons_zero, List.getElem_cons_succ]
    refine wpAnyT_done (by kernel_rfl) ?_ _
    go_wp2_with fail
    refine bodyPost_ret (v := .tuple #[.agg #[.int .i64 rr, .int .i64 rs, .slice A2 res.length c2], .int .i64 (x3 - x1)]) (by simp [results, Tryz.results23, go_sem, z0, z1, z2, zf]) rfl ⟨A2, c2, rfl, ?_, ?_⟩
    · refine OG.wide (OG.mid ho5 (a := w.heap.size + 1) (b := w.heap.size + 2) ?_ (Or.inl (by omega))) (by omega) (by simp; omega) (Nat.le_refl _)
      repeat (first | exact Mid.refl _ _ _ | refine Mid.stored ?_ _ (by simp; try omega) (by simp; try omega))
    · repeat (first | exact hm0 | refine Mid.storeNew ?_ (by simp; try omega) _)

set_option maxHeartbeats 1600000 in
set_option maxRecDepth 20000 in
theorem impl_AddPetal (r s : Int) (A : Option Addr) (es : List Ed) (c : Nat) (Aw : Option Addr) (wd : List Int) (cw : Nat) (w : World) (lo hi lo' hi' : Nat) (hr : RG w lo hi A es) (hw : RV w lo' hi' Aw (ints wd)) (hl : es.length ≤ 1048576) (hwl : wd.length ≤ 1048576) (hok : OkI wd) (rs : Int) (res : List Ed) (b : Bool) (hres : PathIs r s es 0 wd 0 rs res b) :
    Calls Tryz.prog 50 #[graV r s A es.length c, .slice Aw wd.length cw] w fun e w' => ∃ A1 c1, e = .returned (.tuple #[graV r rs A1 res.length c1, .bool b]) ∧ OG w' w.heap.size w'.heap.size A1 c1 res ∧ Mid 0 0 w w' := by
  have hm0 : Mid 0 0 w ((w.alloc (.cells #[.int .i64 r, .int .i64 s, .slice A es.length c] 29)).alloc (.cells #[.int .i64 0, .int .i64 0, .slice none 0 0] 29)) := (Mid.alloc _ _).trans (Mid.alloc _ _)
  have b0 := (Box.new w #[.int .i64 r, .int .i64 s, .slice A es.length c] 29).mid (Mid.alloc _ (.cells #[.int .i64 0, .int .i64 0, .slice none 0 0] 29)) (Or.inr (Nat.zero_le _))
  have b2 := Box.new (w.alloc (.cells #[.int .i64 r, .int .i64 s, .slice A es.length c] 29)) #[.int .i64 0, .int .i64 0, .slice none 0 0] 29
  simp only [World.size_alloc] at b2
  have HR := Lib.hid hres
  have HOK := Lib.hid hok
  clear hres hok
  go_enter Tryz.func50, Tryz.ntmps50
  go_wp2_with fail
  generalize ((w.alloc (.cells #[.int .i64 r, .int .i64 s, .slice A es.length c] 29)).alloc (.cells #[.int .i64 0, .int .i64 0, .slice none 0 0] 29)) = w1 at hm0 b0 b2 ⊢
  have hs1 : w.heap.size + 1 < w1.heap.size := b2.1
  with_reducible refine (impl_AddPath r s A es c 0 Aw wd cw 0 w1 _ _ _ _ (hr.mid hm0 (Or.inl (Nat.zero_le _))) (hw.mid hm0 (Or.inl (Nat.zero_le _))) hl hwl HOK.out rs res b HR.out).mono ?_
  rintro en w2 ⟨A2, c2, rfl, ho2, hm2⟩
  replace b0 := b0.mid hm2 (Or.inr (Nat.zero_le _))
  replace b2 := b2.mid hm2 (Or.inr (Nat.zero_le _))
  replace hm0 := hm0.trans hm2
  have hs2 := hm2.size
  have z0 := b2.cell 0 rfl
  have z1 := b2.cell 1 rfl
  have z2 := b2.cell 2 rfl
  have zf := b2.2.2
  go_wp2_with fail
  refine bodyPost_ret (v := .tuple #[.agg #[.int .i64 r, .int .i64 rs, .slice A2 res.length c2], .bool b]) (by simp [results, Tryz.results50, go_sem, z0, z1, z2, zf]) rfl ⟨A2, c2, rfl, ?_, ?_⟩
  · refine OG.wide (OG.mid ho2 (a := w.heap.size + 1) (b := w.heap.size + 2) ?_ (Or.inl (by omega))) (by omega) (by simp) (Nat.le_refl _)
    repeat (first | exact Mid.refl _ _ _ | refine Mid.stored ?_ _ (by simp; try omega) (by simp; try omega))
  · repeat (first | exact hm0 | refine Mid.storeNew ?_ (by simp; try omega) _)

set_option maxHeartbeats 3200000 in
set_option maxRecDepth 20000 in
theorem impl_JoinWord (r s : Int) (A : Option Addr) (es : List Ed) (c : Nat) (Aw : Option Addr) (wd : List Int) (cw : Nat) (w : World) (lo hi lo' hi' : Nat) (hr : RG w lo hi A es) (hw : RV w lo' hi' Aw (ints wd)) (hl : es.length ≤ 1048576) (hcl : es.length ≤ c) (hwl : wd.length ≤ 1048576) (hok : OkI wd) (rr rs : Int) (res : List Ed) (b : Bool) (hres : JwIs r s es wd rr rs res b) :
    Calls Tryz.prog 18 #[graV r s A es.length c, .slice Aw wd.length cw] w fun e w' => ∃ A1 c1, e = .returned (.tuple #[graV rr rs A1 res.length c1, .bool b]) ∧ OG w' w.heap.size w'.heap.size A1 c1 res ∧ Mid 0 0 w w' := by
  have hm0 : Mid 0 0 w ((w.alloc (.cells #[.int .i64 r, .int .i64 s, .slice A es.length c] 29)).alloc (.cells #[.int .i64 0, .int .i64 0, .slice none 0 0] 29)) := (Mid.alloc _ _).trans (Mid.alloc _ _)
  have b0 := (Box.new w #[.int .i64 r, .int .i64 s, .slice A es.length c] 29).mid (Mid.alloc _ (.cells #[.int .i64 0, .int .i64 0, .slice none 0 0] 29)) (Or.inr (Nat.zero_le _))
  have b2 := Box.new (w.alloc (.cells #[.int .i64 r, .int .i64 s, .slice A es.length c] 29)) #[.int .i64 0, .int .i64 0, .slice none 0 0] 29
  simp only [World.size_alloc] at b2
  have HR := Lib.hid hres
  have HOK := Lib.hid hok
  clear hres hok
  go_enter Tryz.func18, Tryz.ntmps18
  go_wp2_with fail
  generalize ((w.alloc (.cells #[.int .i64 r, .int .i64 s, .slice A es.length c] 29)).alloc (.cells #[.int .i64 0, .int .i64 0, .slice none 0 0] 29)) = w1 at hm0 b0 b2 ⊢
  have hs1 : w.heap.size + 1 < w1.heap.size := b2.1
  by_cases hc : IsCor r s es
  · have HC := Lib.hid hc
    clear hc
    with_reducible refine (impl_IsCore r s A es c _ _ _ (hr.mid hm0 (Or.inl (Nat.zero_le _))) hl hcl true (iff_of_true rfl HC.out)).mono ?_
    rintro en w2 ⟨rfl, hm2⟩
    replace b0 := b0.mid hm2 (Or.inr (Nat.zero_le _))
    replace b2 := b2.mid hm2 (Or.inr (Nat.zero_le _))
    replace hm0 := hm0.trans hm2
    have hs2 := hm2.size
    have p0 := b0.cell 0 rfl
    have p1 := b0.cell 1 rfl
    have p2 := b0.cell 2 rfl
    go_wp2_with fail
    by_cases hwd : IsW r wd
    · have HW := Lib.hid hwd
      clear hwd
      with_reducible refine (impl_IsWord r Aw wd cw _ _ ((hw.mid hm0 (Or.inl (Nat.zero_le _))).rs) HOK.out (by omega) true (iff_of_true rfl HW.out)).mono ?_
      rintro en w3 ⟨rfl, rfl⟩
      by_cases hne : wd = []
      · subst hne
        have hjw : jwA r s es [] = some (s, es) := by rw [jwA, if_pos ⟨HC.out, HW.out⟩, if_pos rfl]
        obtain ⟨rfl, rfl, rfl, rfl⟩ := HR.out.yes hjw
        clear HR hjw
        go_wp2_with fail
        with_reducible refine (impl_copyGraph rr rs A res c _ _ _ (hr.mid hm0 (Or.inl (Nat.zero_le _))) hl).mono ?_
        rintro en w4 ⟨A4, c4, rfl, ho4, hm4⟩
        replace b2 := b2.mid hm4 (Or.inr (Nat.zero_le _))
        replace hm0 := hm0.trans hm4
        have hs4 := hm4.size
        have z0 := b2.cell 0 rfl
        have z1 := b2.cell 1 rfl
        have z2 := b2.cell 2 rfl
        have zf := b2.2.2
        clear p0 p1 p2
        go_wp2_with fail
        refine bodyPost_ret (v := .tuple #[.agg #[.int .i64 rr, .int .i64 rs, .slice A4 res.length c4], .bool true]) (by simp [results, Tryz.results18, go_sem, z0, z1, z2, zf]) rfl ⟨A4, c4, rfl, ?_, ?_⟩
        · refine OG.wide (OG.mid ho4 (a := w.heap.size + 1) (b := w.heap.size + 2) ?_ (Or.inl (by omega))) (by omega) (by simp) (Nat.le_refl _)
          repeat (first | exact Mid.refl _ _ _ | refine Mid.stored ?_ _ (by simp; try omega) (by simp; try omega))
        · repeat (first | exact hm0 | refine Mid.storeNew ?_ (by simp; try omega) _)
      · have d4 : ((wd.length : Int) == 0) = false := by have := List.length_pos_iff.2 hne; simp only [beq_eq_false_iff_ne]; omega
        have HNE := Lib.hid hne
        clear hne
        by_cases hp : PathOk r s es 0 wd 0
        · have HP := Lib.hid hp
          clear hp
          obtain ⟨ms, hms⟩ : ∃ ms, canon (es ++ pathE 0 s wd 0 wd.length) = ms := ⟨_, rfl⟩
          have hgm := path_gr HP.out
          rw [hms] at hgm
          obtain ⟨sn, hsn⟩ : ∃ sn : Nat, s + (wd.length : Int) - 1 = sn := ⟨(s + (wd.length : Int) - 1).toNat, by have := hgm.size; omega⟩
          have hPI : PathIs r s es 0 wd 0 (s + (wd.length : Int) - 1) ms true := Or.inl ⟨rfl, HP.out, rfl, hms.symm⟩
          have hjw : jwA r s es wd = some (coreA r (s + (wd.length : Int) - 1, canon (es ++ pathE 0 s wd 0 wd.length))) := by rw [jwA, if_pos ⟨HC.out, HW.out⟩, if_neg HNE.out, if_pos HP.out]
          rw [hms, hsn] at hjw
          rw [hsn] at hPI hgm
          have HGM := Lib.hid hgm
          have HPI := Lib.hid hPI
          have HSN := Lib.hid hsn
          clear hms hgm hPI hsn
          obtain ⟨rn, rfl⟩ : ∃ rn : Nat, r = rn := ⟨r.toNat, by have := HGM.out.rank; omega⟩
          obtain ⟨q, qs, hQ, -⟩ := nat_gr (coreA_gr (g := ((sn : Int), ms)) HGM.out)
          rw [hQ] at hjw
          obtain ⟨rfl, hrr, hrs, hre⟩ := HR.out.yes hjw
          subst hrr hrs
          subst res
          clear HR hjw
          go_wp2_with fail
          with_reducible refine (impl_AddPetal rn s A es c Aw wd cw _ _ _ _ _ (hr.mid hm0 (Or.inl (Nat.zero_le _))) (hw.mid hm0 (Or.inl (Nat.zero_le _))) hl hwl HOK.out sn ms true HPI.out).mono ?_
          rintro en w4 ⟨A4, c4, rfl, ho4, hm4⟩
          have hs4 := hm4.size
          have ha4 := Mid.alloc w4 (.cells #[.int .i64 rn, .int .i64 sn, .slice A4 ms.length c4] 29)
          have Y4 := Box.new w4 #[.int .i64 rn, .int .i64 sn, .slice A4 ms.length c4] 29
          replace b2 := b2.mid hm4 (Or.inr (Nat.zero_le _))
          replace hm0 := hm0.trans hm4
          replace b2 := b2.mid ha4 (Or.inr (Nat.zero_le _))
          replace ho4 := ho4.mid ha4 (Or.inl (Nat.zero_le _))
          replace hm0 := hm0.trans ha4
          have hsa := ha4.size
          have y0 := Y4.cell 0 rfl
          have y1 := Y4.cell 1 rfl
          have y2 := Y4.cell 2 rfl
          have hP := impl_CoreGraph rn sn A4 ms c4 (w4.alloc (.cells #[.int .i64 rn, .int .i64 sn, .slice A4 ms.length c4] 29)) _ _ (OG.rg ho4) HGM.out
          rw [hQ] at hP
          dsimp only at hP
          have HPP := Lib.hid hP
          clear hP hQ p0 p1 p2
          go_wp2_with fail
          with_reducible refine HPP.out.mono ?_
          rintro en w6 ⟨A5, c5, rfl, ho5, hm6⟩
          clear HPP
          replace b2 := b2.mid hm6 (Or.inr (Nat.zero_le _))
          replace hm0 := hm0.trans hm6
          have z0 := b2.cell 0 rfl
          have z1 := b2.cell 1 rfl
          have z2 := b2.cell 2 rfl
          have zf := b2.2.2
          go_wp2_with fail
          refine bodyPost_ret (v := .tuple #[.agg #[.int .i64 rn, .int .i64 q, .slice A5 qs.length c5], .bool true]) (by simp [results, Tryz.results18, go_sem, z0, z1, z2, zf]) rfl ⟨A5, c5, rfl, ?_, ?_⟩
          · refine OG.wide (OG.mid ho5 (a := w.heap.size + 1) (b := w.heap.size + 2) ?_ (Or.inl (by omega))) (by omega) (by simp) (Nat.le_refl _)
            repeat (first | exact Mid.refl _ _ _ | refine Mid.stored ?_ _ (by simp; try omega) (by simp; try omega))
          · repeat (first | exact hm0 | refine Mid.storeNew ?_ (by simp; try omega) _)
        · have hPI : PathIs r s es 0 wd 0 s es false := Or.inr ⟨rfl, hp, rfl, rfl⟩
          have hjw : jwA r s es wd = none := by rw [jwA, if_pos ⟨HC.out, HW.out⟩, if_neg HNE.out, if_neg hp]
          obtain ⟨rfl, rfl, rfl, rfl⟩ := HR.out.no hjw
          have HPI := Lib.hid hPI
          clear HR hjw hp hPI
          go_wp2_with fail
          with_reducible refine (impl_AddPetal r s A es c Aw wd cw _ _ _ _ _ (hr.mid hm0 (Or.inl (Nat.zero_le _))) (hw.mid hm0 (Or.inl (Nat.zero_le _))) hl hwl HOK.out s es false HPI.out).mono ?_
          rintro en w4 ⟨A4, c4, rfl, ho4, hm4⟩
          replace b2 := b2.mid hm4 (Or.inr (Nat.zero_le _))
          replace hm0 := hm0.trans hm4
          have hb23 : w.heap.size + 1 < w4.heap.size := b2.1
          have hb22 : w.heap.size < w4.heap.size := by omega
          have z0 := b2.cell 0 rfl
          have z1 := b2.cell 1 rfl
          have z2 := b2.cell 2 rfl
          have zf := b2.2.2
          clear p0 p1 p2
          go_wp2_with fail
          refine bodyPost_ret (v := .tuple #[.agg #[.int .i64 0, .int .i64 0, .slice none 0 0], .bool false]) (by simp [results, Tryz.results18, go_sem, z0, z1, z2, zf, hb22, hb23, World.cell?_alloc_lt]) rfl ⟨none, 0, rfl, ?_, ?_⟩
          · exact ⟨Nat.le_refl _, ⟨rfl, .inl ⟨rfl, rfl⟩⟩, fun g hg => by simp [Value.ownBlock] at hg⟩
          · repeat (first | exact hm0 | refine Mid.trans ?_ (Mid.alloc _ _) | refine Mid.storeNew ?_ (by simp; try omega) _)
    · have hjw : jwA r s es wd = none := by rw [jwA, if_neg fun h => hwd h.2]
      obtain ⟨rfl, rfl, rfl, rfl⟩ := HR.out.no hjw
      have HW := Lib.hid hwd
      clear hwd hjw HR
      with_reducible refine (impl_IsWord r Aw wd cw _ _ ((hw.mid hm0 (Or.inl (Nat.zero_le _))).rs) HOK.out (by omega) false (iff_of_false Bool.false_ne_true HW.out)).mono ?_
      rintro en w3 ⟨rfl, rfl⟩
      have z0 := b2.cell 0 rfl
      have z1 := b2.cell 1 rfl
      have z2 := b2.cell 2 rfl
      have zf := b2.2.2
      clear p0 p1 p2
      go_wp2_with fail
      refine bodyPost_ret (v := .tuple #[.agg #[.int .i64 0, .int .i64 0, .slice none 0 0], .bool false]) (by simp [results, Tryz.results18, go_sem, z0, z1, z2, zf]) rfl ⟨none, 0, rfl, ?_, ?_⟩
      · exact ⟨Nat.le_refl _, ⟨rfl, .inl ⟨rfl, rfl⟩⟩, fun g hg => by simp [Value.ownBlock] at hg⟩
      · repeat (first | exact hm0 | refine Mid.trans ?_ (Mid.alloc _ _) | refine Mid.storeNew ?_ (by simp; try omega) _)
  · have hjw : jwA r s es wd = none := by rw [jwA, if_neg fun h => hc h.1]
    obtain ⟨rfl, rfl, rfl, rfl⟩ := HR.out.no hjw
    have HC := Lib.hid hc
    clear hc hjw HR
    with_reducible refine (impl_IsCore r s A es c _ _ _ (hr.mid hm0 (Or.inl (Nat.zero_le _))) hl hcl false (iff_of_false Bool.false_ne_true HC.out)).mono ?_
    rintro en w2 ⟨rfl, hm2⟩
    replace b2 := b2.mid hm2 (Or.inr (Nat.zero_le _))
    replace hm0 := hm0.trans hm2
    have z0 := b2.cell 0 rfl
    have z1 := b2.cell 1 rfl
    have z2 := b2.cell 2 rfl
    have zf := b2.2.2
    go_wp2_with fail
    refine bodyPost_ret (v := .tuple #[.agg #[.int .i64 0, .int .i64 0, .slice none 0 0], .bool false]) (by simp [results, Tryz.results18, go_sem, z0, z1, z2, zf]) rfl ⟨none, 0, rfl, ?_, ?_⟩
    · exact ⟨Nat.le_refl _, ⟨rfl, .inl ⟨rfl, rfl⟩⟩, fun g hg => by simp [Value.ownBlock] at hg⟩
    · repeat (first | exact hm0 | refine Mid.trans ?_ (Mid.alloc _ _) | refine Mid.storeNew ?_ (by simp; try omega) _)

set_option maxHeartbeats 3200000 in
set_option maxRecDepth 20000 in
theorem impl_SmallestExtension (r s : Int) (A : Option Addr) (es : List Ed) (c : Nat) (Aw : Option Addr) (wd : List Int) (cw : Nat) (w : World) (lo hi lo' hi' : Nat) (hr : RG w lo hi A es) (hw : RV w lo' hi' Aw (ints wd)) (hl : es.length ≤ 1048576) (hcl : es.length ≤ c) (hwl : wd.length ≤ 1048576) (hok : OkI wd) (rr rs : Int) (res : List Ed) (b : Bool) (hres : JwIs r s es wd rr rs res b) :
    Calls Tryz.prog 24 #[graV r s A es.length c, .slice Aw wd.length cw] w fun e w' => ∃ A1 c1, e = .returned (.tuple #[graV rr rs A1 res.length c1, .int .i64 (seI r s es rr rs res b)]) ∧ OG w' w.heap.size w'.heap.size A1 c1 res ∧ Mid 0 0 w w' := by
  have hm0 : Mid 0 0 w ((w.alloc (.cells #[.int .i64 r, .int .i64 s, .slice A es.length c] 29)).alloc (.cells #[.int .i64 0, .int .i64 0, .slice none 0 0] 29)) := (Mid.alloc _ _).trans (Mid.alloc _ _)
  have b0 := (Box.new w #[.int .i64 r, .int .i64 s, .slice A es.length c] 29).mid (Mid.alloc _ (.cells #[.int .i64 0, .int .i64 0, .slice none 0 0] 29)) (Or.inr (Nat.zero_le _))
  have b2 := Box.new (w.alloc (.cells #[.int .i64 r, .int .i64 s, .slice A es.length c] 29)) #[.int .i64 0, .int .i64 0, .slice none 0 0] 29
  simp only [World.size_alloc] at b2
  have hl2 := hres.lens
  have hl3 : res.length ≤ 1048576 := by omega
  obtain ⟨k1, k2⟩ := rankI_bnd (r := r) (s := s) hl
  obtain ⟨k5, k6⟩ := rankI_bnd (r := rr) (s := rs) hl3
  have HR := Lib.hid hres
  have HOK := Lib.hid hok
  have hJ := fun W hh hh' => impl_JoinWord r s A es c Aw wd cw W lo hi lo' hi' hh hh' hl hcl hwl HOK.out rr rs res b HR.out
  have h1 := fun W hh => impl_RankOf r s A es c W lo hi hh hl hcl
  have h3 := fun A c W lo hi hh hc => impl_RankOf rr rs A res c W lo hi hh hl3 hc
  have hdr : seI r s es rr rs res b = if b = true then rankI rr rs res - rankI r s es else -1 := rfl
  generalize seI r s es rr rs res b = dd at hdr ⊢
  generalize rankI r s es = x1 at k1 k2 h1 hdr
  generalize rankI rr rs res = x3 at k5 k6 h3 hdr
  have HJ := Lib.hid hJ
  have HR1 := Lib.hid h1
  have HR3 := Lib.hid h3
  have HD := Lib.hid hdr
  clear hJ h1 h3 hdr hok
  go_enter Tryz.func24, Tryz.ntmps24
  go_wp2_with fail
  generalize ((w.alloc (.cells #[.int .i64 r, .int .i64 s, .slice A es.length c] 29)).alloc (.cells #[.int .i64 0, .int .i64 0, .slice none 0 0] 29)) = w1 at hm0 b0 b2 ⊢
  have hs1 : w.heap.size + 1 < w1.heap.size := b2.1
  with_reducible refine (HJ.out w1 (hr.mid hm0 (Or.inl (Nat.zero_le _))) (hw.mid hm0 (Or.inl (Nat.zero_le _)))).mono ?_
  rintro en w2 ⟨A2, c2, rfl, ho2, hm2⟩
  have hcl2 := ho2.cnt.1
  have hs2 := hm2.size
  have ha2 := Mid.alloc w2 (.cells #[.int .i64 rr, .int .i64 rs, .slice A2 res.length c2] 29)
  have Y2 := Box.new w2 #[.int .i64 rr, .int .i64 rs, .slice A2 res.length c2] 29
  replace b0 := b0.mid hm2 (Or.inr (Nat.zero_le _))
  replace b2 := b2.mid hm2 (Or.inr (Nat.zero_le _))
  replace hm0 := hm0.trans hm2
  have hb23 : w.heap.size + 1 < w2.heap.size := b2.1
  have hb22 : w.heap.size < w2.heap.size := by omega
  have bz := b2
  have hmz := hm0
  replace b0 := b0.mid ha2 (Or.inr (Nat.zero_le _))
  replace b2 := b2.mid ha2 (Or.inr (Nat.zero_le _))
  replace ho2 := ho2.mid ha2 (Or.inl (Nat.zero_le _))
  replace hm0 := hm0.trans ha2
  have hs3 := ha2.size
  clear HJ hm2
  cases b with
  | false =>
    have hno : rr = 0 ∧ rs = 0 ∧ res = [] := by
      rcases hres with ⟨h, -⟩ | ⟨-, -, h⟩
      · cases h
      · exact h
    obtain ⟨rfl, rfl, rfl⟩ := hno
    have hdd : dd = -1 := by rw [HD.out]; rfl
    subst hdd
    have z0 := bz.cell 0 rfl
    have z1 := bz.cell 1 rfl
    have z2 := bz.cell 2 rfl
    have zf := bz.2.2
    clear hres HR
    go_wp2_with fail
    refine bodyPost_ret (v := .tuple #[.agg #[.int .i64 0, .int .i64 0, .slice none 0 0], .int .i64 (-1)]) (by simp [results, Tryz.results24, go_sem, z0, z1, z2, zf, hb22, hb23, World.cell?_alloc_lt]) rfl ⟨none, 0, rfl, ?_, ?_⟩
    · exact ⟨Nat.le_refl _, ⟨rfl, .inl ⟨rfl, rfl⟩⟩, fun g hg => by simp [Value.ownBlock] at hg⟩
    · repeat (first | exact hmz | refine Mid.trans ?_ (Mid.alloc _ _) | refine Mid.storeNew ?_ (by simp; try omega) _)
  | true =>
    have hdd : dd = x3 - x1 := by rw [HD.out]; rfl
    subst hdd
    have hw2 : IntKind.i64.wrap (x3 - x1) = x3 - x1 := IntWalk.i64_in _ (by omega)
    clear hres HR
    go_wp2_with fail
    generalize w2.alloc (.cells #[.int .i64 rr, .int .i64 rs, .slice A2 res.length c2] 29) = w3 at hm0 b0 b2 ho2 Y2 hs3 ⊢
    have hmd := Mid.drew1 w3
    have hsd := hmd.size
    clear bz hmz
    replace b0 := b0.mid hmd (Or.inr (Nat.zero_le _))
    replace b2 := b2.mid hmd (Or.inr (Nat.zero_le _))
    replace Y2 := Y2.mid hmd (Or.inr (Nat.zero_le _))
    replace ho2 := ho2.mid hmd (Or.inl (Nat.zero_le _))
    replace hm0 := hm0.trans hmd
    have p0 := b0.cell 0 rfl
    have p1 := b0.cell 1 rfl
    have p2 := b0.cell 2 rfl
    have q0 := Y2.cell 0 rfl
    have q1 := Y2.cell 1 rfl
    have q2 := Y2.cell 2 rfl
    refine wp_region_T (S := (fun w' => (w'.cell? ⟨w.heap.size, 0, none⟩ = some (.int .i64 r) ∧ w'.cell? ⟨w.heap.size, 1, none⟩ = some (.int .i64 s) ∧ w'.cell? ⟨w.heap.size, 2, none⟩ = some (.slice A es.length c)) ∧ w'.cell? ⟨w2.heap.size, 0, none⟩ = some (.int .i64 rr) ∧ w'.cell? ⟨w2.heap.size, 1, none⟩ = some (.int .i64 rs) ∧ w'.cell? ⟨w2.heap.size, 2, none⟩ = some (.slice A2 res.length c2))) 7 (by kernel_rfl) ⟨⟨p0, p1, p2⟩, q0, q1, q2⟩ ?_
    generalize World.drew w3 = wz at b0 b2 Y2 ho2 hm0 p0 p1 p2 q0 q1 q2 hsd ⊢
    have hS : (wz.cell? ⟨w.heap.size, 0, none⟩ = some (.int .i64 r) ∧ wz.cell? ⟨w.heap.size, 1, none⟩ = some (.int .i64 s) ∧ wz.cell? ⟨w.heap.size, 2, none⟩ = some (.slice A es.length c)) ∧ wz.cell? ⟨w2.heap.size, 0, none⟩ = some (.int .i64 rr) ∧ wz.cell? ⟨w2.heap.size, 1, none⟩ = some (.int .i64 rs) ∧ wz.cell? ⟨w2.heap.size, 2, none⟩ = some (.slice A2 res.length c2) := ⟨⟨p0, p1, p2⟩, q0, q1, q2⟩
    refine wpAnyT_take (i := 0) (v := ?_) rfl (by kernel_rfl) (by kernel_rfl) (by kernel_rfl) (by kernel_rfl) (fun _ _ _ h => h) (Or.inl ⟨by rfl, ?_⟩) hS ?_
    rotate_left
    focus (intro w hSw; (try dsimp only at hSw); go_simp; try with_reducible rfl)
    try simp only [Act.put, List.setIfInBounds_toArray, List.set_cons_zero, List.set_cons_succ, List.getElem_toArray, List.getElem_cons_zero, List.getElem_cons_succ]
    refine wpAnyT_take (i := 1) (v := ?_) rfl (by kernel_rfl) (by kernel_rfl) (by kernel_rfl) (by kernel_rfl) (fun _ _ _ h => h) (Or.inl ⟨by rfl, ?_⟩) hS ?_
    rotate_left
    focus (intro w hSw; (try dsimp only at hSw); go_simp; try with_reducible rfl)
    try simp only [Act.put, List.setIfInBounds_toArray, List.set_cons_zero, List.set_cons_succ, List.getElem_toArray, List.getElem_cons_zero, List.getElem_cons_succ]
    refine wpAnyT_take (i := 3) (v := ?_) rfl (by kernel_rfl) (by kernel_rfl) (by kernel_rfl) (by kernel_rfl) (fun _ _ _ h => h) (Or.inl ⟨by rfl, ?_⟩) hS ?_
    rotate_left
    focus (intro w hSw; (try dsimp only at hSw); go_simp; try with_reducible rfl)
    try simp only [Act.put, List.setIfInBounds_toArray, List.set_cons_zero, List.set_cons_succ, List.getElem_toArray, List.getElem_cons_zero, List.getElem_cons_succ]
    refine wpAnyT_ready (rs := [2]) (by kernel_rfl) (by simp) (AllReadyT.cons rfl (fun K hK => ?_) AllReadyT.nil)
    (go_simp; refine (HR3.out A2 c2 _ _ _ ho2.rg hcl2).mono ?_; rintro en w4 ⟨rfl, hm4⟩; have b01 := b0.mid hm4 (Or.inr (Nat.zero_le _)); have Y21 := Y2.mid hm4 (Or.inr (Nat.zero_le _)); go_wp2_with fail)
    refine hK.out _ _ (Or.inr ⟨⟨b01.cell 0 rfl, b01.cell 1 rfl, b01.cell 2 rfl⟩, Y21.cell 0 rfl, Y21.cell 1 rfl, Y21.cell 2 rfl⟩) (fun _ => ?_)
    clear hK K
    try simp only [Act.put, List.setIfInBounds_toArray, List.set_cons_zero, List.set_cons_succ, List.getElem_toArray, List.getElem_cons_zero, List.getElem_cons_succ]
    replace hm0 := hm0.trans hm4
    have b21 := b2.mid hm4 (Or.inr (Nat.zero_le _))
    have ho4 := ho2.mid hm4 (Or.inl (Nat.zero_le _))
    have hs4 := hm4.size
    clear hS p0 p1 p2 q0 q1 q2 b0 Y2 b2 ho2 hm4
    refine wpAnyT_ready (rs := [4]) (by kernel_rfl) (by simp) (AllReadyT.cons rfl (fun K hK => ?_) AllReadyT.nil)
    (go_simp; refine (HR1.out _ (hr.mid hm0 (Or.inl (Nat.zero_le _)))).mono ?_; rintro en w5 ⟨rfl, hm5⟩; have b02 := b01.mid hm5 (Or.inr (Nat.zero_le _)); have Y22 := Y21.mid hm5 (Or.inr (Nat.zero_le _)); go_wp2_with fail)
    refine hK.out _ _ (Or.inr ⟨⟨b02.cell 0 rfl, b02.cell 1 rfl, b02.cell 2 rfl⟩, Y22.cell 0 rfl, Y22.cell 1 rfl, Y22.cell 2 rfl⟩) (fun _ => ?_)
    clear hK K
    try simp only [Act.put, List.setIfInBounds_toArray, List.set_cons_zero, List.set_cons_succ, List.getElem_toArray, List.getElem_cons_zero, List.getElem_cons_succ]
    replace hm0 := hm0.trans hm5
    have b22 := b21.mid hm5 (Or.inr (Nat.zero_le _))
    have ho5 := ho4.mid hm5 (Or.inl (Nat.zero_le _))
    have hs5 := hm5.size
    have hS5 := And.intro (And.intro (b02.cell 0 rfl) (And.intro (b02.cell 1 rfl) (b02.cell 2 rfl))) (And.intro (Y22.cell 0 rfl) (And.intro (Y22.cell 1 rfl) (Y22.cell 2 rfl)))
    clear b01 b21 Y21 ho4 hm5
    refine wpAnyT_take (i := 5) (v := ?_) rfl (by kernel_rfl) (by kernel_rfl) (by kernel_rfl) (by kernel_rfl) (fun _ _ _ h => h) (Or.inl ⟨by rfl, ?_⟩) hS5 ?_
    rotate_left
    focus (intro w hSw; (try dsimp only at hSw); go_simp; try with_reducible rfl)
    try simp only [Act.put, List.setIfInBounds_toArray, List.set_cons_zero, List.set_cons_succ, List.getElem_toArray, List.getElem_cons_zero, List.getElem_cons_succ]
    have z0 := b22.cell 0 rfl
    have z1 := b22.cell 1 rfl
    have z2 := b22.cell 2 rfl
    have zf := b22.2.2
    have hst := ((Mid.setCell w5 (lo := w.heap.size + 1) (hi := w.heap.size + 2) (p := ⟨w.heap.size + 1, 0, none⟩) (.int .i64 rr) (Nat.le_refl _) (Nat.lt_succ_self _)).trans (Mid.setCell _ (lo := w.heap.size + 1) (hi := w.heap.size + 2) (p := ⟨w.heap.size + 1, 1, none⟩) (.int .i64 rs) (Nat.le_refl _) (Nat.lt_succ_self _))).trans (Mid.setCell _ (lo := w.heap.size + 1) (hi := w.heap.size + 2) (p := ⟨w.heap.size + 1, 2, none⟩) (.slice A2 res.length c2) (Nat.le_refl _) (Nat.lt_succ_self _))
    have b03 := b02.mid hst (Or.inl (by omega))
    have Y23 := Y22.mid hst (Or.inr (by omega))
    have hS6 := And.intro (And.intro (b03.cell 0 rfl) (And.intro (b03.cell 1 rfl) (b03.cell 2 rfl))) (And.intro (Y23.cell 0 rfl) (And.intro (Y23.cell 1 rfl) (Y23.cell 2 rfl)))
    refine wpAnyT_ready (rs := [6]) (by kernel_rfl) (by simp) (AllReadyT.cons rfl (fun K hK => ?_) AllReadyT.nil)
    go_simp
    refine hK.out _ _ (Or.inr hS6) (fun _ => ?_)
    clear hK K
    try simp only [Act.put, List.setIfInBounds_toArray, List.set_cons_zero, List.set_cons_succ, List.getElem_toArray, List.getElem_cons_zero, List.getElem_cons_succ]
    refine wpAnyT_ready (rs := [7]) (by kernel_rfl) (by simp) (AllReadyT.cons rfl (fun K hK => ?_) AllReadyT.nil)
    go_simp
    refine hK.out _ _ (Or.inl rfl) (fun _ => ?_)
    clear hK K
    try simp only [Act.put, List.setIfInBounds_toArray, List.set_cons_zero, List.set_cons_succ, List.getElem_toArray, List.getElem_cons_zero, List.getElem_cons_succ]
    refine wpAnyT_done (by kernel_rfl) ?_ _
    go_wp2_with fail
    refine bodyPost_ret (v := .tuple #[.agg #[.int .i64 rr, .int .i64 rs, .slice A2 res.length c2], .int .i64 (x3 - x1)]) (by simp [results, Tryz.results24, go_sem, z0, z1, z2, zf]) rfl ⟨A2, c2, rfl, ?_, ?_⟩
    · refine OG.wide (OG.mid ho5 (a := w.heap.size + 1) (b := w.heap.size + 2) ?_ (Or.inl (by omega))) (by omega) (by simp; omega) (Nat.le_refl _)
      repeat (first | exact Mid.refl _ _ _ | refine Mid.stored ?_ _ (by simp; try omega) (by simp; try omega))
    · repeat (first | exact hm0 | refine Mid.storeNew ?_ (by simp; try omega) _)
end Go.Proofs.YtgpljoplnecioaaGreat

/- The laws on JoinWord and SmallestExtension: their data. -/
namespace Go.Proofs.YtgpljoplnecioaaGreat
set_option linter.unusedVariables false
open Go.RowKit
def JoinWordIs (r0 s0 : Int) (d0 : List Ed) (d1 : List Int) (rr0 rs0 : Int) (res0 : List Ed) (res1 : Bool) : Prop := JwIs r0 s0 d0 d1 rr0 rs0 res0 res1
theorem JoinWordIs_ex (r0 s0 : Int) (d0 : List Ed) (d1 : List Int) (hl0 : d0.length ≤ 1048576) (_ : OkI d1) (hl1 : d1.length ≤ 1048576) : ∃ rr0 rs0 res0 res1, JoinWordIs r0 s0 d0 d1 rr0 rs0 res0 res1 := JwIs_ex r0 s0 d0 d1
theorem JoinWordIs_len {r0 s0 : Int} {d0 : List Ed} {d1 : List Int} {rr0 rs0 : Int} {res0 : List Ed} {res1 : Bool} (h : JoinWordIs r0 s0 d0 d1 rr0 rs0 res0 res1) (hl0 : d0.length ≤ 1048576) (_ : OkI d1) (hl1 : d1.length ≤ 1048576) : res0.length ≤ 1048576 := by
  have := JwIs.lens h
  omega
theorem sspec_JoinWord (r0 s0 : Int) (A0 : Option Addr) (d0 : List Ed) (c0 : Nat) (A1 : Option Addr) (d1 : List Int) (c1 : Nat) (w : World) (lo0 hi0 : Nat) (h0 : OG w lo0 hi0 A0 c0 d0) (hl0 : d0.length ≤ 1048576) (lo1 hi1 : Nat) (h1 : OI w lo1 hi1 A1 c1 d1) (o1 : OkI d1) (hl1 : d1.length ≤ 1048576) (rr0 rs0 : Int) (res0 : List Ed) (res1 : Bool) (h : JoinWordIs r0 s0 d0 d1 rr0 rs0 res0 res1) :
    Calls Tryz.prog 16 #[.agg #[.int .i64 r0, .int .i64 s0, .slice A0 d0.length c0], .slice A1 d1.length c1] w fun e w' => ∃ (A : Option Addr) (c : Nat), e = .returned (.tuple #[.agg #[.int .i64 rr0, .int .i64 rs0, .slice A res0.length c], .bool res1]) ∧ OG w' w.heap.size w'.heap.size A c res0 ∧ Mid 0 0 w w' :=
  spec_JoinWord r0 s0 A0 d0 c0 A1 d1 c1 w lo0 hi0 lo1 hi1 h0.rg h1.ri hl0 hl1 o1 rr0 rs0 res0 res1 h
theorem simpl_JoinWord (r0 s0 : Int) (A0 : Option Addr) (d0 : List Ed) (c0 : Nat) (A1 : Option Addr) (d1 : List Int) (c1 : Nat) (w : World) (lo0 hi0 : Nat) (h0 : OG w lo0 hi0 A0 c0 d0) (hl0 : d0.length ≤ 1048576) (lo1 hi1 : Nat) (h1 : OI w lo1 hi1 A1 c1 d1) (o1 : OkI d1) (hl1 : d1.length ≤ 1048576) (rr0 rs0 : Int) (res0 : List Ed) (res1 : Bool) (h : JoinWordIs r0 s0 d0 d1 rr0 rs0 res0 res1) :
    Calls Tryz.prog 18 #[.agg #[.int .i64 r0, .int .i64 s0, .slice A0 d0.length c0], .slice A1 d1.length c1] w fun e w' => ∃ (A : Option Addr) (c : Nat), e = .returned (.tuple #[.agg #[.int .i64 rr0, .int .i64 rs0, .slice A res0.length c], .bool res1]) ∧ OG w' w.heap.size w'.heap.size A c res0 ∧ Mid 0 0 w w' :=
  impl_JoinWord r0 s0 A0 d0 c0 A1 d1 c1 w lo0 hi0 lo1 hi1 h0.rg h1.ri hl0 h0.cnt.1 hl1 o1 rr0 rs0 res0 res1 h
def SmallestExtensionIs (r0 s0 : Int) (d0 : List Ed) (d1 : List Int) (rr0 rs0 : Int) (res0 : List Ed) (res1 : Int) : Prop := ∃ b, JwIs r0 s0 d0 d1 rr0 rs0 res0 b ∧ res1 = seI r0 s0 d0 rr0 rs0 res0 b
theorem SmallestExtensionIs_ex (r0 s0 : Int) (d0 : List Ed) (d1 : List Int) (hl0 : d0.length ≤ 1048576) (_ : OkI d1) (hl1 : d1.length ≤ 1048576) : ∃ rr0 rs0 res0 res1, SmallestExtensionIs r0 s0 d0 d1 rr0 rs0 res0 res1 := by
  obtain ⟨rr, rs, res, b, h⟩ := JwIs_ex r0 s0 d0 d1
  exact ⟨rr, rs, res, _, b, h, rfl⟩
theorem SmallestExtensionIs_len {r0 s0 : Int} {d0 : List Ed} {d1 : List Int} {rr0 rs0 : Int} {res0 : List Ed} {res1 : Int} (h : SmallestExtensionIs r0 s0 d0 d1 rr0 rs0 res0 res1) (hl0 : d0.length ≤ 1048576) (_ : OkI d1) (hl1 : d1.length ≤ 1048576) : res0.length ≤ 1048576 := by
  obtain ⟨b, h, -⟩ := h
  have := JwIs.lens h
  omega
theorem sspec_SmallestExtension (r0 s0 : Int) (A0 : Option Addr) (d0 : List Ed) (c0 : Nat) (A1 : Option Addr) (d1 : List Int) (c1 : Nat) (w : World) (lo0 hi0 : Nat) (h0 : OG w lo0 hi0 A0 c0 d0) (hl0 : d0.length ≤ 1048576) (lo1 hi1 : Nat) (h1 : OI w lo1 hi1 A1 c1 d1) (o1 : OkI d1) (hl1 : d1.length ≤ 1048576) (rr0 rs0 : Int) (res0 : List Ed) (res1 : Int) (h : SmallestExtensionIs r0 s0 d0 d1 rr0 rs0 res0 res1) :
    Calls Tryz.prog 23 #[.agg #[.int .i64 r0, .int .i64 s0, .slice A0 d0.length c0], .slice A1 d1.length c1] w fun e w' => ∃ (A : Option Addr) (c : Nat), e = .returned (.tuple #[.agg #[.int .i64 rr0, .int .i64 rs0, .slice A res0.length c], .int .i64 res1]) ∧ OG w' w.heap.size w'.heap.size A c res0 ∧ Mid 0 0 w w' := by
  obtain ⟨b, h, rfl⟩ := h
  exact spec_SmallestExtension r0 s0 A0 d0 c0 A1 d1 c1 w lo0 hi0 lo1 hi1 h0.rg h1.ri hl0 hl1 o1 rr0 rs0 res0 b h
theorem simpl_SmallestExtension (r0 s0 : Int) (A0 : Option Addr) (d0 : List Ed) (c0 : Nat) (A1 : Option Addr) (d1 : List Int) (c1 : Nat) (w : World) (lo0 hi0 : Nat) (h0 : OG w lo0 hi0 A0 c0 d0) (hl0 : d0.length ≤ 1048576) (lo1 hi1 : Nat) (h1 : OI w lo1 hi1 A1 c1 d1) (o1 : OkI d1) (hl1 : d1.length ≤ 1048576) (rr0 rs0 : Int) (res0 : List Ed) (res1 : Int) (h : SmallestExtensionIs r0 s0 d0 d1 rr0 rs0 res0 res1) :
    Calls Tryz.prog 24 #[.agg #[.int .i64 r0, .int .i64 s0, .slice A0 d0.length c0], .slice A1 d1.length c1] w fun e w' => ∃ (A : Option Addr) (c : Nat), e = .returned (.tuple #[.agg #[.int .i64 rr0, .int .i64 rs0, .slice A res0.length c], .int .i64 res1]) ∧ OG w' w.heap.size w'.heap.size A c res0 ∧ Mid 0 0 w w' := by
  obtain ⟨b, h, rfl⟩ := h
  exact impl_SmallestExtension r0 s0 A0 d0 c0 A1 d1 c1 w lo0 hi0 lo1 hi1 h0.rg h1.ri hl0 h0.cnt.1 hl1 o1 rr0 rs0 res0 b h
end Go.Proofs.YtgpljoplnecioaaGreat
