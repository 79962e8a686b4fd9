/-
  No cell of these rows narrows 'for every input' (looked for: loops, veiled, ifaces, maps, wideKeys, modest, calm, conditions, laid).
  DERIVED. THE GIVEN ROWS OF THIS SEAT. 6 by the template 'for every input the law returns true; each argument reads behind the call as it read before'; 0 by the template 'total and deterministic' (their statements: YtkdmffjnkciecaaGreatTotals.lean).
  GIVEN WITH THE SEED: the statements are not yours to turn. If you find one false, say at which input.
  Laid BY PROGRAM, IN A SANDBOX (cutbox-rows.mjs): the forced cells as the released guide's own fill.sh prints them over the translation 7551e7543e29a56d… (all of the seat's roots in one cut). By AI agents, Wed Nov 11 2026. No macro, syntax, notation, axiom, sorry.
-/
import Derived.Test.YtkdmffjnkciecaaGreatChecked
import GoSem.Claim
import GoSem.ClaimJoined
import GoSem.ClaimMapViews
import Derived.JoinedTies
import Derived.KernelRfl
namespace Go.Proofs.YtkdmffjnkciecaaGreat
/- THE CELL 'sum', in the pinned program and in every row, IS THE sha256 OF THE DUMP (.gsa) THAT YtkdmffjnkciecaaGreatProg.lean LOADS. Nothing in Lean hashes anything: it is a label: what it is worth is what the hold of that sum in a sandbox is worth. -/
noncomputable def Tryz.pinned : Pinned := { name := "ytkdmffjnkciecaagreat", sum := "7551e7543e29a56d8b999bc020cbdc22d72b3938c55f6a04e90c074caba8bc87", checked := Tryz.checked }
namespace Rows
def none {H : Type} : Left H := { results := [], args := [] }

/-- 'laws.FnExactGroupElements': WHATEVER THE INPUT: true; the input reads as it did. -/
def fnExactGroupElementsSpec : ChangeSpec := { name := "fnExactGroupElements", fn := fun _ => fun
  | [d] => { results := [.lit (.bool true)], args := [d] }
  | _ => none }
def fnExactGroupElementsRow : OpenClaim := { program := "ytkdmffjnkciecaagreat", sum := "7551e7543e29a56d8b999bc020cbdc22d72b3938c55f6a04e90c074caba8bc87", func := "loop.example/g02075/laws.FnExactGroupElements", spec := "fnExactGroupElements", unfollowed := true, recurses := true, plainKeys := false, apart := false }
def FnExactGroupElementsSaid : Prop := fnExactGroupElementsRow.holds Tryz.pinned (OpenSpec.ofChange fnExactGroupElementsSpec)

/-- ITS FALSE NEIGHBOUR: 'it returns false'. Refute it at one input. -/
def fnExactGroupElementsWrong : ChangeSpec := { name := "fnExactGroupElements", fn := fun _ => fun
  | [d] => { results := [.lit (.bool false)], args := [d] }
  | _ => none }
def FnExactGroupElementsWrongFalsely : Prop := fnExactGroupElementsRow.holds Tryz.pinned (OpenSpec.ofChange fnExactGroupElementsWrong)

/-- 'laws.FnExactCoreIndex': WHATEVER THE INPUT: true; the input reads as it did. -/
def fnExactCoreIndexSpec : ChangeSpec := { name := "fnExactCoreIndex", fn := fun _ => fun
  | [d] => { results := [.lit (.bool true)], args := [d] }
  | _ => none }
def fnExactCoreIndexRow : OpenClaim := { program := "ytkdmffjnkciecaagreat", sum := "7551e7543e29a56d8b999bc020cbdc22d72b3938c55f6a04e90c074caba8bc87", func := "loop.example/g02075/laws.FnExactCoreIndex", spec := "fnExactCoreIndex", unfollowed := true, recurses := true, plainKeys := false, apart := false }
def FnExactCoreIndexSaid : Prop := fnExactCoreIndexRow.holds Tryz.pinned (OpenSpec.ofChange fnExactCoreIndexSpec)

/-- ITS FALSE NEIGHBOUR: 'it returns false'. Refute it at one input. -/
def fnExactCoreIndexWrong : ChangeSpec := { name := "fnExactCoreIndex", fn := fun _ => fun
  | [d] => { results := [.lit (.bool false)], args := [d] }
  | _ => none }
def FnExactCoreIndexWrongFalsely : Prop := fnExactCoreIndexRow.holds Tryz.pinned (OpenSpec.ofChange fnExactCoreIndexWrong)

/-- 'laws.FnExactOrderModulo': WHATEVER THE INPUT: true; the input reads as it did. -/
def fnExactOrderModuloSpec : ChangeSpec := { name := "fnExactOrderModulo", fn := fun _ => fun
  | [d1, d2] => { results := [.lit (.bool true)], args := [d1, d2] }
  | _ => none }
def fnExactOrderModuloRow : OpenClaim := { program := "ytkdmffjnkciecaagreat", sum := "7551e7543e29a56d8b999bc020cbdc22d72b3938c55f6a04e90c074caba8bc87", func := "loop.example/g02075/laws.FnExactOrderModulo", spec := "fnExactOrderModulo", unfollowed := true, recurses := true, plainKeys := false, apart := false }
def FnExactOrderModuloSaid : Prop := fnExactOrderModuloRow.holds Tryz.pinned (OpenSpec.ofChange fnExactOrderModuloSpec)

/-- ITS FALSE NEIGHBOUR: 'it returns false'. Refute it at one input. -/
def fnExactOrderModuloWrong : ChangeSpec := { name := "fnExactOrderModulo", fn := fun _ => fun
  | [d1, d2] => { results := [.lit (.bool false)], args := [d1, d2] }
  | _ => none }
def FnExactOrderModuloWrongFalsely : Prop := fnExactOrderModuloRow.holds Tryz.pinned (OpenSpec.ofChange fnExactOrderModuloWrong)

/-- 'laws.FnExactIsSurjective': WHATEVER THE INPUT: true; the input reads as it did. -/
def fnExactIsSurjectiveSpec : ChangeSpec := { name := "fnExactIsSurjective", fn := fun _ => fun
  | [d] => { results := [.lit (.bool true)], args := [d] }
  | _ => none }
def fnExactIsSurjectiveRow : OpenClaim := { program := "ytkdmffjnkciecaagreat", sum := "7551e7543e29a56d8b999bc020cbdc22d72b3938c55f6a04e90c074caba8bc87", func := "loop.example/g02075/laws.FnExactIsSurjective", spec := "fnExactIsSurjective", unfollowed := true, recurses := true, plainKeys := false, apart := false }
def FnExactIsSurjectiveSaid : Prop := fnExactIsSurjectiveRow.holds Tryz.pinned (OpenSpec.ofChange fnExactIsSurjectiveSpec)

/-- ITS FALSE NEIGHBOUR: 'it returns false'. Refute it at one input. -/
def fnExactIsSurjectiveWrong : ChangeSpec := { name := "fnExactIsSurjective", fn := fun _ => fun
  | [d] => { results := [.lit (.bool false)], args := [d] }
  | _ => none }
def FnExactIsSurjectiveWrongFalsely : Prop := fnExactIsSurjectiveRow.holds Tryz.pinned (OpenSpec.ofChange fnExactIsSurjectiveWrong)

/-- 'laws.FnExactIsInjective': WHATEVER THE INPUT: true; the input reads as it did. -/
def fnExactIsInjectiveSpec : ChangeSpec := { name := "fnExactIsInjective", fn := fun _ => fun
  | [d] => { results := [.lit (.bool true)], args := [d] }
  | _ => none }
def fnExactIsInjectiveRow : OpenClaim := { program := "ytkdmffjnkciecaagreat", sum := "7551e7543e29a56d8b999bc020cbdc22d72b3938c55f6a04e90c074caba8bc87", func := "loop.example/g02075/laws.FnExactIsInjective", spec := "fnExactIsInjective", unfollowed := true, recurses := true, plainKeys := false, apart := false }
def FnExactIsInjectiveSaid : Prop := fnExactIsInjectiveRow.holds Tryz.pinned (OpenSpec.ofChange fnExactIsInjectiveSpec)

/-- ITS FALSE NEIGHBOUR: 'it returns false'. Refute it at one input. -/
def fnExactIsInjectiveWrong : ChangeSpec := { name := "fnExactIsInjective", fn := fun _ => fun
  | [d] => { results := [.lit (.bool false)], args := [d] }
  | _ => none }
def FnExactIsInjectiveWrongFalsely : Prop := fnExactIsInjectiveRow.holds Tryz.pinned (OpenSpec.ofChange fnExactIsInjectiveWrong)

/-- 'laws.FnExactIntersectionOf': WHATEVER THE INPUT: true; the input reads as it did. -/
def fnExactIntersectionOfSpec : ChangeSpec := { name := "fnExactIntersectionOf", fn := fun _ => fun
  | [d1, d2] => { results := [.lit (.bool true)], args := [d1, d2] }
  | _ => none }
def fnExactIntersectionOfRow : OpenClaim := { program := "ytkdmffjnkciecaagreat", sum := "7551e7543e29a56d8b999bc020cbdc22d72b3938c55f6a04e90c074caba8bc87", func := "loop.example/g02075/laws.FnExactIntersectionOf", spec := "fnExactIntersectionOf", unfollowed := true, recurses := true, plainKeys := false, apart := false }
def FnExactIntersectionOfSaid : Prop := fnExactIntersectionOfRow.holds Tryz.pinned (OpenSpec.ofChange fnExactIntersectionOfSpec)

/-- ITS FALSE NEIGHBOUR: 'it returns false'. Refute it at one input. -/
def fnExactIntersectionOfWrong : ChangeSpec := { name := "fnExactIntersectionOf", fn := fun _ => fun
  | [d1, d2] => { results := [.lit (.bool false)], args := [d1, d2] }
  | _ => none }
def FnExactIntersectionOfWrongFalsely : Prop := fnExactIntersectionOfRow.holds Tryz.pinned (OpenSpec.ofChange fnExactIntersectionOfWrong)

/- THE SECOND FORM. 'bulk': how many values and letters a reading holds, each counted each time it is reached (what is shared counts as often as it is met; a slice's spare places count too). A statement '..UptoSaid' is the law's where the arguments, and the package variables that the reading takes, are together of bulk at most 1048576: NARROWER than '..Said'. Prove '..Said' where nothing that the law and all that it calls make is longer than what came in: it says more and counts as full. Else prove '..UptoSaid'. A law counts once. -/
mutual
def uptoBulk {H : Type} : DataW H → Nat
  | .lit (.string bytes) => bytes.length + 1
  | .lit _ => 1
  | .nil => 1
  | .ptr d => uptoBulk d + 1
  | .slice elems spare => uptoBulkAll elems + uptoBulkAll spare + 1
  | .agg parts => uptoBulkAll parts + 1
  | .iface _ d => uptoBulk d + 1
  | .map entries => uptoBulkEntries entries + 1
  | .held _ => 1
def uptoBulkAll {H : Type} : List (DataW H) → Nat
  | [] => 0
  | d :: r => uptoBulk d + uptoBulkAll r
def uptoBulkEntries {H : Type} : List (Lit × DataW H) → Nat
  | [] => 0
  | x :: r => uptoBulkEntry x + uptoBulkEntries r
def uptoBulkEntry {H : Type} : Lit × DataW H → Nat
  | (.string bytes, d) => bytes.length + uptoBulk d + 1
  | (_, d) => uptoBulk d + 1
 end
def uptoSmall : (H : Type) → List (DataW H) → Bool := fun _ ds => decide (uptoBulkAll ds ≤ 1048576)
def OpenSpec.upto (s : _root_.Go.ChangeSpec) : _root_.Go.OpenSpec := { _root_.Go.OpenSpec.ofChange s with cond := some uptoSmall }

/-- 'laws.FnExactGroupElements', WHERE WHAT IT READS IS OF BULK AT MOST 1048576: true; the input reads as it did. -/
def fnExactGroupElementsUptoRow : OpenClaim := { program := "ytkdmffjnkciecaagreat", sum := "7551e7543e29a56d8b999bc020cbdc22d72b3938c55f6a04e90c074caba8bc87", func := "loop.example/g02075/laws.FnExactGroupElements", spec := "fnExactGroupElements", unfollowed := true, recurses := true, plainKeys := false, apart := false, narrowed := true }
def FnExactGroupElementsUptoSaid : Prop := fnExactGroupElementsUptoRow.holds Tryz.pinned (OpenSpec.upto fnExactGroupElementsSpec)

/-- 'laws.FnExactCoreIndex', WHERE WHAT IT READS IS OF BULK AT MOST 1048576: true; the input reads as it did. -/
def fnExactCoreIndexUptoRow : OpenClaim := { program := "ytkdmffjnkciecaagreat", sum := "7551e7543e29a56d8b999bc020cbdc22d72b3938c55f6a04e90c074caba8bc87", func := "loop.example/g02075/laws.FnExactCoreIndex", spec := "fnExactCoreIndex", unfollowed := true, recurses := true, plainKeys := false, apart := false, narrowed := true }
def FnExactCoreIndexUptoSaid : Prop := fnExactCoreIndexUptoRow.holds Tryz.pinned (OpenSpec.upto fnExactCoreIndexSpec)

/-- 'laws.FnExactOrderModulo', WHERE WHAT IT READS IS OF BULK AT MOST 1048576: true; the input reads as it did. -/
def fnExactOrderModuloUptoRow : OpenClaim := { program := "ytkdmffjnkciecaagreat", sum := "7551e7543e29a56d8b999bc020cbdc22d72b3938c55f6a04e90c074caba8bc87", func := "loop.example/g02075/laws.FnExactOrderModulo", spec := "fnExactOrderModulo", unfollowed := true, recurses := true, plainKeys := false, apart := false, narrowed := true }
def FnExactOrderModuloUptoSaid : Prop := fnExactOrderModuloUptoRow.holds Tryz.pinned (OpenSpec.upto fnExactOrderModuloSpec)

/-- 'laws.FnExactIsSurjective', WHERE WHAT IT READS IS OF BULK AT MOST 1048576: true; the input reads as it did. -/
def fnExactIsSurjectiveUptoRow : OpenClaim := { program := "ytkdmffjnkciecaagreat", sum := "7551e7543e29a56d8b999bc020cbdc22d72b3938c55f6a04e90c074caba8bc87", func := "loop.example/g02075/laws.FnExactIsSurjective", spec := "fnExactIsSurjective", unfollowed := true, recurses := true, plainKeys := false, apart := false, narrowed := true }
def FnExactIsSurjectiveUptoSaid : Prop := fnExactIsSurjectiveUptoRow.holds Tryz.pinned (OpenSpec.upto fnExactIsSurjectiveSpec)

/-- 'laws.FnExactIsInjective', WHERE WHAT IT READS IS OF BULK AT MOST 1048576: true; the input reads as it did. -/
def fnExactIsInjectiveUptoRow : OpenClaim := { program := "ytkdmffjnkciecaagreat", sum := "7551e7543e29a56d8b999bc020cbdc22d72b3938c55f6a04e90c074caba8bc87", func := "loop.example/g02075/laws.FnExactIsInjective", spec := "fnExactIsInjective", unfollowed := true, recurses := true, plainKeys := false, apart := false, narrowed := true }
def FnExactIsInjectiveUptoSaid : Prop := fnExactIsInjectiveUptoRow.holds Tryz.pinned (OpenSpec.upto fnExactIsInjectiveSpec)

/-- 'laws.FnExactIntersectionOf', WHERE WHAT IT READS IS OF BULK AT MOST 1048576: true; the input reads as it did. -/
def fnExactIntersectionOfUptoRow : OpenClaim := { program := "ytkdmffjnkciecaagreat", sum := "7551e7543e29a56d8b999bc020cbdc22d72b3938c55f6a04e90c074caba8bc87", func := "loop.example/g02075/laws.FnExactIntersectionOf", spec := "fnExactIntersectionOf", unfollowed := true, recurses := true, plainKeys := false, apart := false, narrowed := true }
def FnExactIntersectionOfUptoSaid : Prop := fnExactIntersectionOfUptoRow.holds Tryz.pinned (OpenSpec.upto fnExactIntersectionOfSpec)

end Rows
end Go.Proofs.YtkdmffjnkciecaaGreat
