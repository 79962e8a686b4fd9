/-
  No cell of these rows narrows 'for every input' (looked for: loops, veiled, ifaces, maps, wideKeys, modest, calm, conditions, laid).
  DERIVED. THE GIVEN ROWS OF THIS SEAT. 5 by the template 'for every input the law returns true; each argument reads behind the call as it read before'; 0 by the template 'total and deterministic' (their statements: YtkcfbcbkokabdaaGreatTotals.lean).
  GIVEN WITH THE SEED: the statements are not yours to turn. If you find one false, say at which input.
  Laid BY PROGRAM, IN A SANDBOX (cutbox-rows.mjs): the forced cells as the released guide's own fill.sh prints them over the translation dc81dc84c8966c9b… (all of the seat's roots in one cut). By AI agents, Wed Nov 11 2026. No macro, syntax, notation, axiom, sorry.
-/
import Derived.Test.YtkcfbcbkokabdaaGreatChecked
import GoSem.Claim
import GoSem.ClaimJoined
import GoSem.ClaimMapViews
import Derived.JoinedTies
import Derived.KernelRfl
namespace Go.Proofs.YtkcfbcbkokabdaaGreat
/- THE CELL 'sum', in the pinned program and in every row, IS THE sha256 OF THE DUMP (.gsa) THAT YtkcfbcbkokabdaaGreatProg.lean LOADS. Nothing in Lean hashes anything: it is a label: what it is worth is what the hold of that sum in a sandbox is worth. -/
noncomputable def Tryz.pinned : Pinned := { name := "ytkcfbcbkokabdaagreat", sum := "dc81dc84c8966c9bb7504cc0f1ff89f6b63f7901d4a8c0d1af915d033ac4701e", checked := Tryz.checked }
namespace Rows
def none {H : Type} : Left H := { results := [], args := [] }

/-- 'laws.FnExactActionOf': WHATEVER THE INPUT: true; the input reads as it did. -/
def fnExactActionOfSpec : ChangeSpec := { name := "fnExactActionOf", fn := fun _ => fun
  | [d] => { results := [.lit (.bool true)], args := [d] }
  | _ => none }
def fnExactActionOfRow : OpenClaim := { program := "ytkcfbcbkokabdaagreat", sum := "dc81dc84c8966c9bb7504cc0f1ff89f6b63f7901d4a8c0d1af915d033ac4701e", func := "loop.example/g02075/laws.FnExactActionOf", spec := "fnExactActionOf", unfollowed := true, recurses := true, apart := false }
def FnExactActionOfSaid : Prop := fnExactActionOfRow.holds Tryz.pinned (OpenSpec.ofChange fnExactActionOfSpec)

/-- ITS FALSE NEIGHBOUR: 'it returns false'. Refute it at one input. -/
def fnExactActionOfWrong : ChangeSpec := { name := "fnExactActionOf", fn := fun _ => fun
  | [d] => { results := [.lit (.bool false)], args := [d] }
  | _ => none }
def FnExactActionOfWrongFalsely : Prop := fnExactActionOfRow.holds Tryz.pinned (OpenSpec.ofChange fnExactActionOfWrong)

/-- 'laws.FnExactWordPermutation': WHATEVER THE INPUT: true; the input reads as it did. -/
def fnExactWordPermutationSpec : ChangeSpec := { name := "fnExactWordPermutation", fn := fun _ => fun
  | [d1, d2] => { results := [.lit (.bool true)], args := [d1, d2] }
  | _ => none }
def fnExactWordPermutationRow : OpenClaim := { program := "ytkcfbcbkokabdaagreat", sum := "dc81dc84c8966c9bb7504cc0f1ff89f6b63f7901d4a8c0d1af915d033ac4701e", func := "loop.example/g02075/laws.FnExactWordPermutation", spec := "fnExactWordPermutation", unfollowed := true, recurses := true, apart := false }
def FnExactWordPermutationSaid : Prop := fnExactWordPermutationRow.holds Tryz.pinned (OpenSpec.ofChange fnExactWordPermutationSpec)

/-- ITS FALSE NEIGHBOUR: 'it returns false'. Refute it at one input. -/
def fnExactWordPermutationWrong : ChangeSpec := { name := "fnExactWordPermutation", fn := fun _ => fun
  | [d1, d2] => { results := [.lit (.bool false)], args := [d1, d2] }
  | _ => none }
def FnExactWordPermutationWrongFalsely : Prop := fnExactWordPermutationRow.holds Tryz.pinned (OpenSpec.ofChange fnExactWordPermutationWrong)

/-- 'laws.FnExactInNormalCore': WHATEVER THE INPUT: true; the input reads as it did. -/
def fnExactInNormalCoreSpec : ChangeSpec := { name := "fnExactInNormalCore", fn := fun _ => fun
  | [d1, d2] => { results := [.lit (.bool true)], args := [d1, d2] }
  | _ => none }
def fnExactInNormalCoreRow : OpenClaim := { program := "ytkcfbcbkokabdaagreat", sum := "dc81dc84c8966c9bb7504cc0f1ff89f6b63f7901d4a8c0d1af915d033ac4701e", func := "loop.example/g02075/laws.FnExactInNormalCore", spec := "fnExactInNormalCore", unfollowed := true, recurses := true, apart := false }
def FnExactInNormalCoreSaid : Prop := fnExactInNormalCoreRow.holds Tryz.pinned (OpenSpec.ofChange fnExactInNormalCoreSpec)

/-- ITS FALSE NEIGHBOUR: 'it returns false'. Refute it at one input. -/
def fnExactInNormalCoreWrong : ChangeSpec := { name := "fnExactInNormalCore", fn := fun _ => fun
  | [d1, d2] => { results := [.lit (.bool false)], args := [d1, d2] }
  | _ => none }
def FnExactInNormalCoreWrongFalsely : Prop := fnExactInNormalCoreRow.holds Tryz.pinned (OpenSpec.ofChange fnExactInNormalCoreWrong)

/-- 'laws.FnExactJoinOf': WHATEVER THE INPUT: true; the input reads as it did. -/
def fnExactJoinOfSpec : ChangeSpec := { name := "fnExactJoinOf", fn := fun _ => fun
  | [d1, d2] => { results := [.lit (.bool true)], args := [d1, d2] }
  | _ => none }
def fnExactJoinOfRow : OpenClaim := { program := "ytkcfbcbkokabdaagreat", sum := "dc81dc84c8966c9bb7504cc0f1ff89f6b63f7901d4a8c0d1af915d033ac4701e", func := "loop.example/g02075/laws.FnExactJoinOf", spec := "fnExactJoinOf", unfollowed := true, recurses := true, apart := false }
def FnExactJoinOfSaid : Prop := fnExactJoinOfRow.holds Tryz.pinned (OpenSpec.ofChange fnExactJoinOfSpec)

/-- ITS FALSE NEIGHBOUR: 'it returns false'. Refute it at one input. -/
def fnExactJoinOfWrong : ChangeSpec := { name := "fnExactJoinOf", fn := fun _ => fun
  | [d1, d2] => { results := [.lit (.bool false)], args := [d1, d2] }
  | _ => none }
def FnExactJoinOfWrongFalsely : Prop := fnExactJoinOfRow.holds Tryz.pinned (OpenSpec.ofChange fnExactJoinOfWrong)

/-- 'laws.FnExactCoverOf': WHATEVER THE INPUT: true; the input reads as it did. -/
def fnExactCoverOfSpec : ChangeSpec := { name := "fnExactCoverOf", fn := fun _ => fun
  | [d] => { results := [.lit (.bool true)], args := [d] }
  | _ => none }
def fnExactCoverOfRow : OpenClaim := { program := "ytkcfbcbkokabdaagreat", sum := "dc81dc84c8966c9bb7504cc0f1ff89f6b63f7901d4a8c0d1af915d033ac4701e", func := "loop.example/g02075/laws.FnExactCoverOf", spec := "fnExactCoverOf", unfollowed := true, recurses := true, apart := false }
def FnExactCoverOfSaid : Prop := fnExactCoverOfRow.holds Tryz.pinned (OpenSpec.ofChange fnExactCoverOfSpec)

/-- ITS FALSE NEIGHBOUR: 'it returns false'. Refute it at one input. -/
def fnExactCoverOfWrong : ChangeSpec := { name := "fnExactCoverOf", fn := fun _ => fun
  | [d] => { results := [.lit (.bool false)], args := [d] }
  | _ => none }
def FnExactCoverOfWrongFalsely : Prop := fnExactCoverOfRow.holds Tryz.pinned (OpenSpec.ofChange fnExactCoverOfWrong)

/- THE SECOND FORM. 'bulk': how many values and letters a reading holds, each counted each time it is reached (what is shared counts as often as it is met; a slice's spare places count too). A statement '..UptoSaid' is the law's where the arguments, and the package variables that the reading takes, are together of bulk at most 1048576: NARROWER than '..Said'. Prove '..Said' where nothing that the law and all that it calls make is longer than what came in: it says more and counts as full. Else prove '..UptoSaid'. A law counts once. -/
mutual
def uptoBulk {H : Type} : DataW H → Nat
  | .lit (.string bytes) => bytes.length + 1
  | .lit _ => 1
  | .nil => 1
  | .ptr d => uptoBulk d + 1
  | .slice elems spare => uptoBulkAll elems + uptoBulkAll spare + 1
  | .agg parts => uptoBulkAll parts + 1
  | .iface _ d => uptoBulk d + 1
  | .map entries => uptoBulkEntries entries + 1
  | .held _ => 1
def uptoBulkAll {H : Type} : List (DataW H) → Nat
  | [] => 0
  | d :: r => uptoBulk d + uptoBulkAll r
def uptoBulkEntries {H : Type} : List (Lit × DataW H) → Nat
  | [] => 0
  | x :: r => uptoBulkEntry x + uptoBulkEntries r
def uptoBulkEntry {H : Type} : Lit × DataW H → Nat
  | (.string bytes, d) => bytes.length + uptoBulk d + 1
  | (_, d) => uptoBulk d + 1
 end
def uptoSmall : (H : Type) → List (DataW H) → Bool := fun _ ds => decide (uptoBulkAll ds ≤ 1048576)
def OpenSpec.upto (s : _root_.Go.ChangeSpec) : _root_.Go.OpenSpec := { _root_.Go.OpenSpec.ofChange s with cond := some uptoSmall }

/-- 'laws.FnExactActionOf', WHERE WHAT IT READS IS OF BULK AT MOST 1048576: true; the input reads as it did. -/
def fnExactActionOfUptoRow : OpenClaim := { program := "ytkcfbcbkokabdaagreat", sum := "dc81dc84c8966c9bb7504cc0f1ff89f6b63f7901d4a8c0d1af915d033ac4701e", func := "loop.example/g02075/laws.FnExactActionOf", spec := "fnExactActionOf", unfollowed := true, recurses := true, apart := false, narrowed := true }
def FnExactActionOfUptoSaid : Prop := fnExactActionOfUptoRow.holds Tryz.pinned (OpenSpec.upto fnExactActionOfSpec)

/-- 'laws.FnExactWordPermutation', WHERE WHAT IT READS IS OF BULK AT MOST 1048576: true; the input reads as it did. -/
def fnExactWordPermutationUptoRow : OpenClaim := { program := "ytkcfbcbkokabdaagreat", sum := "dc81dc84c8966c9bb7504cc0f1ff89f6b63f7901d4a8c0d1af915d033ac4701e", func := "loop.example/g02075/laws.FnExactWordPermutation", spec := "fnExactWordPermutation", unfollowed := true, recurses := true, apart := false, narrowed := true }
def FnExactWordPermutationUptoSaid : Prop := fnExactWordPermutationUptoRow.holds Tryz.pinned (OpenSpec.upto fnExactWordPermutationSpec)

/-- 'laws.FnExactInNormalCore', WHERE WHAT IT READS IS OF BULK AT MOST 1048576: true; the input reads as it did. -/
def fnExactInNormalCoreUptoRow : OpenClaim := { program := "ytkcfbcbkokabdaagreat", sum := "dc81dc84c8966c9bb7504cc0f1ff89f6b63f7901d4a8c0d1af915d033ac4701e", func := "loop.example/g02075/laws.FnExactInNormalCore", spec := "fnExactInNormalCore", unfollowed := true, recurses := true, apart := false, narrowed := true }
def FnExactInNormalCoreUptoSaid : Prop := fnExactInNormalCoreUptoRow.holds Tryz.pinned (OpenSpec.upto fnExactInNormalCoreSpec)

/-- 'laws.FnExactJoinOf', WHERE WHAT IT READS IS OF BULK AT MOST 1048576: true; the input reads as it did. -/
def fnExactJoinOfUptoRow : OpenClaim := { program := "ytkcfbcbkokabdaagreat", sum := "dc81dc84c8966c9bb7504cc0f1ff89f6b63f7901d4a8c0d1af915d033ac4701e", func := "loop.example/g02075/laws.FnExactJoinOf", spec := "fnExactJoinOf", unfollowed := true, recurses := true, apart := false, narrowed := true }
def FnExactJoinOfUptoSaid : Prop := fnExactJoinOfUptoRow.holds Tryz.pinned (OpenSpec.upto fnExactJoinOfSpec)

/-- 'laws.FnExactCoverOf', WHERE WHAT IT READS IS OF BULK AT MOST 1048576: true; the input reads as it did. -/
def fnExactCoverOfUptoRow : OpenClaim := { program := "ytkcfbcbkokabdaagreat", sum := "dc81dc84c8966c9bb7504cc0f1ff89f6b63f7901d4a8c0d1af915d033ac4701e", func := "loop.example/g02075/laws.FnExactCoverOf", spec := "fnExactCoverOf", unfollowed := true, recurses := true, apart := false, narrowed := true }
def FnExactCoverOfUptoSaid : Prop := fnExactCoverOfUptoRow.holds Tryz.pinned (OpenSpec.upto fnExactCoverOfSpec)

end Rows
end Go.Proofs.YtkcfbcbkokabdaaGreat
