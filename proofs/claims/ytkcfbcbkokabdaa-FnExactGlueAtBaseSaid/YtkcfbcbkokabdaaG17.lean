
/- The law on GlueAtBase: its data. -/
import Derived.Test.YtkcfbcbkokabdaaG16
namespace Go.Proofs.Ytkcfbcbkokabdaa
set_option linter.unusedVariables false
open Go.RowKit
theorem GlueAtBaseIs_ex (r0 s0 : Int) (d0 : List Ed) (r1 s1 : Int) (d1 : List Ed) (hl0 : d0.length ≤ 1048576) (hl1 : d1.length ≤ 1048576) : ∃ rr0 rs0 res0 res1, GlueAtBaseIs r0 s0 d0 r1 s1 d1 rr0 rs0 res0 res1 := by
  by_cases h : GlueOk r0 s0 d0 r1 s1 d1
  · exact ⟨_, _, _, _, .inl ⟨rfl, h, rfl, rfl, rfl⟩⟩
  · exact ⟨_, _, _, _, .inr ⟨rfl, h, rfl, rfl, rfl⟩⟩
theorem GlueAtBaseIs_len {r0 s0 : Int} {d0 : List Ed} {r1 s1 : Int} {d1 : List Ed} {rr0 rs0 : Int} {res0 : List Ed} {res1 : Bool} (h : GlueAtBaseIs r0 s0 d0 r1 s1 d1 rr0 rs0 res0 res1) (hl0 : d0.length ≤ 1048576) (hl1 : d1.length ≤ 1048576) : res0.length ≤ 1048576 := by
  rcases h with ⟨-, h, -, -, rfl⟩ | ⟨-, -, -, -, rfl⟩
  · have := canon_len (d0 ++ glueE s0 d1)
    have := h.ln
    simp [glueE] at *
    omega
  · simp
theorem sspec_GlueAtBase (r0 s0 : Int) (A0 : Option Addr) (d0 : List Ed) (c0 : Nat) (r1 s1 : Int) (A1 : Option Addr) (d1 : List Ed) (c1 : Nat) (w : World) (lo0 hi0 : Nat) (h0 : RG w lo0 hi0 A0 d0) (hl0 : d0.length ≤ 1048576) (lo1 hi1 : Nat) (h1 : RG w lo1 hi1 A1 d1) (hl1 : d1.length ≤ 1048576) (rr0 rs0 : Int) (res0 : List Ed) (res1 : Bool) (h : GlueAtBaseIs r0 s0 d0 r1 s1 d1 rr0 rs0 res0 res1) :
    Calls Try.prog 15 #[.agg #[.int .i64 r0, .int .i64 s0, .slice A0 d0.length c0], .agg #[.int .i64 r1, .int .i64 s1, .slice A1 d1.length c1]] w fun e w' => ∃ (A : Option Addr) (c : Nat), e = .returned (.tuple #[.agg #[.int .i64 rr0, .int .i64 rs0, .slice A res0.length c], .bool res1]) ∧ OG w' w.heap.size w'.heap.size A c res0 ∧ Mid 0 0 w w' :=
  spec_GlueAtBase r0 s0 A0 d0 c0 r1 s1 A1 d1 c1 w lo0 hi0 lo1 hi1 h0 h1 hl0 hl1 rr0 rs0 res0 res1 h
theorem simpl_GlueAtBase (r0 s0 : Int) (A0 : Option Addr) (d0 : List Ed) (c0 : Nat) (r1 s1 : Int) (A1 : Option Addr) (d1 : List Ed) (c1 : Nat) (w : World) (lo0 hi0 : Nat) (h0 : RG w lo0 hi0 A0 d0) (hl0 : d0.length ≤ 1048576) (lo1 hi1 : Nat) (h1 : RG w lo1 hi1 A1 d1) (hl1 : d1.length ≤ 1048576) (rr0 rs0 : Int) (res0 : List Ed) (res1 : Bool) (h : GlueAtBaseIs r0 s0 d0 r1 s1 d1 rr0 rs0 res0 res1) :
    Calls Try.prog 16 #[.agg #[.int .i64 r0, .int .i64 s0, .slice A0 d0.length c0], .agg #[.int .i64 r1, .int .i64 s1, .slice A1 d1.length c1]] w fun e w' => ∃ (A : Option Addr) (c : Nat), e = .returned (.tuple #[.agg #[.int .i64 rr0, .int .i64 rs0, .slice A res0.length c], .bool res1]) ∧ OG w' w.heap.size w'.heap.size A c res0 ∧ Mid 0 0 w w' :=
  impl_GlueAtBase r0 s0 A0 d0 c0 r1 s1 A1 d1 c1 w lo0 hi0 lo1 hi1 h0 h1 hl0 hl1 rr0 rs0 res0 res1 h
end Go.Proofs.Ytkcfbcbkokabdaa
