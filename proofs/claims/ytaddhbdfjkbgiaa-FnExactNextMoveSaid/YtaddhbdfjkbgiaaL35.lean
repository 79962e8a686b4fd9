/- NextMove in the laws' words. -/
import Derived.Test.YtaddhbdfjkbgiaaL34
namespace Go.Proofs.Ytaddhbdfjkbgiaa
set_option linter.unusedVariables false
set_option linter.unusedSimpArgs false
open Go.RowKit
def NextMoveIs (d : List (List Int)) (res : Mv) (b : Bool) : Prop := mvD (nextM d) = res ∧ (nextM d).isSome = b
theorem NextMoveIs_ex (d : List (List Int)) (_ : OkSS d) (_ : d.length + sumL d ≤ 1048576) : ∃ res b, NextMoveIs d res b := ⟨_, _, rfl, rfl⟩
theorem sspec_NextMove (A : Option Addr) (d : List (List Int)) (c : Nat) (w : World) (lo hi : Nat) (h : OSS w lo hi 36 3 A c d) (ho : OkSS d) (hl : d.length + sumL d ≤ 1048576) (res : Mv) (b : Bool) (hres : NextMoveIs d res b) :
    Calls Try.prog 59 #[.slice A d.length c] w fun e w' => e = .returned (.tuple #[.agg #[.int .i64 res.kind, .int .i64 res.i, .int .i64 res.j, .int .i64 res.sign], .bool b]) ∧ Mid 0 0 w w' := by
  obtain ⟨rfl, rfl⟩ := hres
  exact spec_NextMove A d c w lo hi h.rsc ho.2 hl
theorem simpl_NextMove (A : Option Addr) (d : List (List Int)) (c : Nat) (w : World) (lo hi : Nat) (h : OSS w lo hi 36 3 A c d) (ho : OkSS d) (hl : d.length + sumL d ≤ 1048576) (res : Mv) (b : Bool) (hres : NextMoveIs d res b) :
    Calls Try.prog 60 #[.slice A d.length c] w fun e w' => e = .returned (.tuple #[.agg #[.int .i64 res.kind, .int .i64 res.i, .int .i64 res.j, .int .i64 res.sign], .bool b]) ∧ Mid 0 0 w w' := by
  obtain ⟨rfl, rfl⟩ := hres
  exact impl_NextMove A d c w lo hi h.rsc ho.2 hl
end Go.Proofs.Ytaddhbdfjkbgiaa
