
/- The law on IsSubgraph: its data. -/
import Derived.Test.YtkcfbcbkokabdaaG9
import Derived.Test.YtkcfbcbkokabdaaG7
namespace Go.Proofs.Ytkcfbcbkokabdaa
set_option linter.unusedVariables false
open Go.RowKit
def IsSubgraphIs (r0 s0 : Int) (d0 : List Ed) (r1 s1 : Int) (d1 : List Ed) (res0 : Bool) : Prop := res0 = true ↔ IsSub r0 s0 d0 r1 s1 d1
theorem IsSubgraphIs_ex (r0 s0 : Int) (d0 : List Ed) (r1 s1 : Int) (d1 : List Ed) (hl0 : d0.length ≤ 1048576) (hl1 : d1.length ≤ 1048576) : ∃ res0, IsSubgraphIs r0 s0 d0 r1 s1 d1 res0 := bool_of _
theorem sspec_IsSubgraph (r0 s0 : Int) (A0 : Option Addr) (d0 : List Ed) (c0 : Nat) (r1 s1 : Int) (A1 : Option Addr) (d1 : List Ed) (c1 : Nat) (w : World) (lo hi : Nat) (h0 : RG w lo hi A0 d0) (hl0 : d0.length ≤ 1048576) (lo' hi' : Nat) (h1 : RG w lo' hi' A1 d1) (hl1 : d1.length ≤ 1048576) (res0 : Bool) (h : IsSubgraphIs r0 s0 d0 r1 s1 d1 res0) :
    Calls Try.prog 11 #[.agg #[.int .i64 r0, .int .i64 s0, .slice A0 d0.length c0], .agg #[.int .i64 r1, .int .i64 s1, .slice A1 d1.length c1]] w (Stp (.bool res0) w) :=
  spec_IsSubgraph r0 s0 A0 d0 c0 r1 s1 A1 d1 c1 w lo hi lo' hi' h0 h1 hl0 hl1 res0 h
theorem simpl_IsSubgraph (r0 s0 : Int) (A0 : Option Addr) (d0 : List Ed) (c0 : Nat) (r1 s1 : Int) (A1 : Option Addr) (d1 : List Ed) (c1 : Nat) (w : World) (lo hi : Nat) (h0 : RG w lo hi A0 d0) (hl0 : d0.length ≤ 1048576) (lo' hi' : Nat) (h1 : RG w lo' hi' A1 d1) (hl1 : d1.length ≤ 1048576) (res0 : Bool) (h : IsSubgraphIs r0 s0 d0 r1 s1 d1 res0) :
    Calls Try.prog 13 #[.agg #[.int .i64 r0, .int .i64 s0, .slice A0 d0.length c0], .agg #[.int .i64 r1, .int .i64 s1, .slice A1 d1.length c1]] w (Stp (.bool res0) w) :=
  impl_IsSubgraph r0 s0 A0 d0 c0 r1 s1 A1 d1 c1 w lo hi lo' hi' h0 h1 hl0 hl1 res0 h
end Go.Proofs.Ytkcfbcbkokabdaa
