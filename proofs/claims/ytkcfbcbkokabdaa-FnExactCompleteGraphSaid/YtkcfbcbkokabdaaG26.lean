
/- The law on CompleteGraph: its data. -/
import Derived.Test.YtkcfbcbkokabdaaG25
namespace Go.Proofs.Ytkcfbcbkokabdaa
set_option linter.unusedVariables false
open Go.RowKit
def CompleteGraphIs (r0 s0 : Int) (d0 : List Ed) (rr0 rs0 : Int) (res0 : List Ed) (res1 : Bool) : Prop := CompleteIs r0 s0 d0 rr0 rs0 res0 res1
theorem CompleteGraphIs_ex (r0 s0 : Int) (d0 : List Ed) (hl0 : d0.length ≤ 1048576) : ∃ rr0 rs0 res0 res1, CompleteGraphIs r0 s0 d0 rr0 rs0 res0 res1 := by
  by_cases h : IsFol r0 s0 d0
  · exact ⟨_, _, _, _, .inl ⟨rfl, h, rfl, rfl, rfl⟩⟩
  · exact ⟨_, _, _, _, .inr ⟨rfl, h, rfl, rfl, rfl⟩⟩
theorem CompleteGraphIs_len {r0 s0 : Int} {d0 : List Ed} {rr0 rs0 : Int} {res0 : List Ed} {res1 : Bool} (h : CompleteGraphIs r0 s0 d0 rr0 rs0 res0 res1) (hl0 : d0.length ≤ 1048576) : res0.length ≤ 1048576 := by
  rcases h with ⟨-, h, -, -, rfl⟩ | ⟨-, -, -, -, rfl⟩
  · have h1 := canon_len (d0 ++ addLs s0 d0 r0.toNat)
    have h2 := addLs_len s0 d0 r0.toNat
    have h3 := h.gr.len
    have h4 := h.gr.rank
    have h5 := h.gr.size
    have h6 : r0.toNat * s0.toNat ≤ 3 * 40 := Nat.mul_le_mul (by omega) (by omega)
    rw [List.length_append] at h1
    omega
  · simp
theorem sspec_CompleteGraph (r0 s0 : Int) (A0 : Option Addr) (d0 : List Ed) (c0 : Nat) (w : World) (lo0 hi0 : Nat) (h0 : OG w lo0 hi0 A0 c0 d0) (hl0 : d0.length ≤ 1048576) (rr0 rs0 : Int) (res0 : List Ed) (res1 : Bool) (h : CompleteGraphIs r0 s0 d0 rr0 rs0 res0 res1) :
    Calls Try.prog 19 #[.agg #[.int .i64 r0, .int .i64 s0, .slice A0 d0.length c0]] w fun e w' => ∃ (A : Option Addr) (c : Nat), e = .returned (.tuple #[.agg #[.int .i64 rr0, .int .i64 rs0, .slice A res0.length c], .bool res1]) ∧ OG w' w.heap.size w'.heap.size A c res0 ∧ Mid 0 0 w w' :=
  spec_CompleteGraph r0 s0 A0 d0 c0 w lo0 hi0 h0.rg hl0 rr0 rs0 res0 res1 h
theorem simpl_CompleteGraph (r0 s0 : Int) (A0 : Option Addr) (d0 : List Ed) (c0 : Nat) (w : World) (lo0 hi0 : Nat) (h0 : OG w lo0 hi0 A0 c0 d0) (hl0 : d0.length ≤ 1048576) (rr0 rs0 : Int) (res0 : List Ed) (res1 : Bool) (h : CompleteGraphIs r0 s0 d0 rr0 rs0 res0 res1) :
    Calls Try.prog 20 #[.agg #[.int .i64 r0, .int .i64 s0, .slice A0 d0.length c0]] w fun e w' => ∃ (A : Option Addr) (c : Nat), e = .returned (.tuple #[.agg #[.int .i64 rr0, .int .i64 rs0, .slice A res0.length c], .bool res1]) ∧ OG w' w.heap.size w'.heap.size A c res0 ∧ Mid 0 0 w w' :=
  impl_CompleteGraph r0 s0 A0 d0 c0 w lo0 hi0 h0.rg hl0 h0.cnt.1 rr0 rs0 res0 res1 h
end Go.Proofs.Ytkcfbcbkokabdaa
