/- EqualMorphisms, both sides, and in the laws' words. -/
import Derived.Test.YtaddhbdfjkbgiaaL10
import Derived.Test.YtaddhbdfjkbgiaaK2
namespace Go.Proofs.Ytaddhbdfjkbgiaa
set_option linter.unusedVariables false
set_option linter.unusedSimpArgs false
open Go.RowKit


set_option maxHeartbeats 1600000 in
theorem spec_EqualMorphisms (r1 r2 : Int) (A A' : Option Addr) (xss yss : List (List Int)) (c c' : Nat) (w : World) (lo hi lo' hi' : Nat) (hr : RSS w lo hi A xss) (hr' : RSS w lo' hi' A' yss) (hl : xss.length + sumL xss ≤ 1048576) (r : Bool) (hres : r = true ↔ (r1 = r2 ∧ xss = yss)) :
    Calls Try.prog 24 #[.agg #[.int .i64 r1, .slice A xss.length c], .agg #[.int .i64 r2, .slice A' yss.length c']] w (Stp (.bool r) w) := by
  have hb0 : Mid 0 0 w ((w.alloc (.cells #[.int .i64 r1, .slice A xss.length c] 24)).alloc (.cells #[.int .i64 r2, .slice A' yss.length c'] 24)) := (Mid.alloc _ _).trans (Mid.alloc _ _)
  by_cases h : r1 = r2
  · have hres' : r = true ↔ xss = yss := by simpa [h] using hres
    have HR := Lib.hid hres'
    clear hres hres'
    have HB : (r1 == r2) = true := by simpa using h
    clear h
    go_enter Try.func24, Try.ntmps24
    go_wp2_with fail
    with_reducible refine (spec_EqualWordLists A A' xss yss c c' _ _ _ _ _ (hr.mid hb0 (Or.inl (Nat.zero_le _))) (hr'.mid hb0 (Or.inl (Nat.zero_le _))) hl r HR.out).mono ?_
    rintro e w1 ⟨rfl, n, rfl⟩
    go_wp2_with fail
    go_ret
    exact ⟨by simp, hb0.drewN n⟩
  · have HB : (r1 == r2) = false := by simpa using h
    obtain rfl : r = false := by
      cases r
      · rfl
      · exact absurd (hres.1 rfl).1 h
    clear hres h
    go_enter Try.func24, Try.ntmps24
    go_wp2_with fail
    go_ret
    exact ⟨by simp, hb0⟩


set_option maxHeartbeats 1600000 in
theorem impl_EqualMorphisms (r1 r2 : Int) (A A' : Option Addr) (xss yss : List (List Int)) (c c' : Nat) (w : World) (lo hi lo' hi' : Nat) (hr : RSS w lo hi A xss) (hr' : RSS w lo' hi' A' yss) (hl : xss.length + sumL xss ≤ 1048576) (r : Bool) (hres : r = true ↔ (r1 = r2 ∧ xss = yss)) :
    Calls Try.prog 25 #[.agg #[.int .i64 r1, .slice A xss.length c], .agg #[.int .i64 r2, .slice A' yss.length c']] w (Stp (.bool r) w) := by
  have hb0 : Mid 0 0 w ((w.alloc (.cells #[.int .i64 r1, .slice A xss.length c] 24)).alloc (.cells #[.int .i64 r2, .slice A' yss.length c'] 24)) := (Mid.alloc _ _).trans (Mid.alloc _ _)
  by_cases h : r1 = r2
  · have hres' : r = true ↔ xss = yss := by simpa [h] using hres
    have HR := Lib.hid hres'
    clear hres hres'
    have HB : (r1 == r2) = true := by simpa using h
    clear h
    go_enter Try.func25, Try.ntmps25
    go_wp2_with fail
    with_reducible refine (impl_EqualWordLists A A' xss yss c c' _ _ _ _ _ (hr.mid hb0 (Or.inl (Nat.zero_le _))) (hr'.mid hb0 (Or.inl (Nat.zero_le _))) hl r HR.out).mono ?_
    rintro e w1 ⟨rfl, n, rfl⟩
    go_wp2_with fail
    go_ret
    exact ⟨by simp, hb0.drewN n⟩
  · have HB : (r1 == r2) = false := by simpa using h
    obtain rfl : r = false := by
      cases r
      · rfl
      · exact absurd (hres.1 rfl).1 h
    clear hres h
    go_enter Try.func25, Try.ntmps25
    go_wp2_with fail
    go_ret
    exact ⟨by simp, hb0⟩


def EqualMorphismsIs (r : Int) (d : List (List Int)) (r' : Int) (d' : List (List Int)) (res : Bool) : Prop := res = true ↔ (r = r' ∧ d = d')
theorem EqualMorphismsIs_ex (r : Int) (d : List (List Int)) (r' : Int) (d' : List (List Int)) (_ : (Lit.int .i64 r).wf = true) (_ : OkSS d) (_ : d.length + sumL d ≤ 1048576) (_ : (Lit.int .i64 r').wf = true) (_ : OkSS d') (_ : d'.length + sumL d' ≤ 1048576) : ∃ res, EqualMorphismsIs r d r' d' res :=
  ⟨decide (r = r' ∧ d = d'), by simp [EqualMorphismsIs]⟩

theorem sspec_EqualMorphisms (r : Int) (A : Option Addr) (d : List (List Int)) (c : Nat) (r' : Int) (A' : Option Addr) (d' : List (List Int)) (c' : Nat) (w : World) (lo hi : Nat) (h : RSS w lo hi A d) (_b : (Lit.int .i64 r).wf = true) (_o : OkSS d) (hl : d.length + sumL d ≤ 1048576)
    (lo' hi' : Nat) (h' : RSS w lo' hi' A' d') (_b' : (Lit.int .i64 r').wf = true) (_o' : OkSS d') (hl' : d'.length + sumL d' ≤ 1048576) (res : Bool) (hres : EqualMorphismsIs r d r' d' res) :
    Calls Try.prog 24 #[.agg #[.int .i64 r, .slice A d.length c], .agg #[.int .i64 r', .slice A' d'.length c']] w (Stp (.bool res) w) :=
  spec_EqualMorphisms r r' A A' d d' c c' w lo hi lo' hi' h h' hl res hres
theorem simpl_EqualMorphisms (r : Int) (A : Option Addr) (d : List (List Int)) (c : Nat) (r' : Int) (A' : Option Addr) (d' : List (List Int)) (c' : Nat) (w : World) (lo hi : Nat) (h : RSS w lo hi A d) (_b : (Lit.int .i64 r).wf = true) (_o : OkSS d) (hl : d.length + sumL d ≤ 1048576)
    (lo' hi' : Nat) (h' : RSS w lo' hi' A' d') (_b' : (Lit.int .i64 r').wf = true) (_o' : OkSS d') (hl' : d'.length + sumL d' ≤ 1048576) (res : Bool) (hres : EqualMorphismsIs r d r' d' res) :
    Calls Try.prog 25 #[.agg #[.int .i64 r, .slice A d.length c], .agg #[.int .i64 r', .slice A' d'.length c']] w (Stp (.bool res) w) :=
  impl_EqualMorphisms r r' A A' d d' c c' w lo hi lo' hi' h h' hl res hres
end Go.Proofs.Ytaddhbdfjkbgiaa
