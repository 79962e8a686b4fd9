/-
  No cell of these rows narrows 'for every input' (looked for: loops, veiled, ifaces, maps, wideKeys, modest, calm, conditions, laid).
  DERIVED. THE GIVEN ROWS OF THIS SEAT. 6 by the template 'for every input the law returns true; each argument reads behind the call as it read before'; 0 by the template 'total and deterministic' (their statements: YtgpljoplnecioaaGreatTotals.lean).
  GIVEN WITH THE SEED: the statements are not yours to turn. If you find one false, say at which input.
  Laid BY PROGRAM, IN A SANDBOX (cutbox-rows.mjs): the forced cells as the released guide's own fill.sh prints them over the translation 10e140e37d84c6ac… (all of the seat's roots in one cut). By AI agents, Wed Nov 11 2026. No macro, syntax, notation, axiom, sorry.
-/
import Derived.Test.YtgpljoplnecioaaGreatChecked
import GoSem.Claim
import GoSem.ClaimJoined
import GoSem.ClaimMapViews
import Derived.JoinedTies
import Derived.KernelRfl
namespace Go.Proofs.YtgpljoplnecioaaGreat
/- THE CELL 'sum', in the pinned program and in every row, IS THE sha256 OF THE DUMP (.gsa) THAT YtgpljoplnecioaaGreatProg.lean LOADS. Nothing in Lean hashes anything: it is a label: what it is worth is what the hold of that sum in a sandbox is worth. -/
noncomputable def Tryz.pinned : Pinned := { name := "ytgpljoplnecioaagreat", sum := "10e140e37d84c6ac7760b854103e0b2bc2bf3366c9bb7f2016264c99c6ca5360", checked := Tryz.checked }
namespace Rows
def none {H : Type} : Left H := { results := [], args := [] }

/-- 'laws.FnExactRankDrop': WHATEVER THE INPUT: true; the input reads as it did. -/
def fnExactRankDropSpec : ChangeSpec := { name := "fnExactRankDrop", fn := fun _ => fun
  | [d1, d2] => { results := [.lit (.bool true)], args := [d1, d2] }
  | _ => none }
def fnExactRankDropRow : OpenClaim := { program := "ytgpljoplnecioaagreat", sum := "10e140e37d84c6ac7760b854103e0b2bc2bf3366c9bb7f2016264c99c6ca5360", func := "loop.example/g02075/laws.FnExactRankDrop", spec := "fnExactRankDrop", unfollowed := true, recurses := true, apart := false }
def FnExactRankDropSaid : Prop := fnExactRankDropRow.holds Tryz.pinned (OpenSpec.ofChange fnExactRankDropSpec)

/-- ITS FALSE NEIGHBOUR: 'it returns false'. Refute it at one input. -/
def fnExactRankDropWrong : ChangeSpec := { name := "fnExactRankDrop", fn := fun _ => fun
  | [d1, d2] => { results := [.lit (.bool false)], args := [d1, d2] }
  | _ => none }
def FnExactRankDropWrongFalsely : Prop := fnExactRankDropRow.holds Tryz.pinned (OpenSpec.ofChange fnExactRankDropWrong)

/-- 'laws.FnExactExtraRank': WHATEVER THE INPUT: true; the input reads as it did. -/
def fnExactExtraRankSpec : ChangeSpec := { name := "fnExactExtraRank", fn := fun _ => fun
  | [d] => { results := [.lit (.bool true)], args := [d] }
  | _ => none }
def fnExactExtraRankRow : OpenClaim := { program := "ytgpljoplnecioaagreat", sum := "10e140e37d84c6ac7760b854103e0b2bc2bf3366c9bb7f2016264c99c6ca5360", func := "loop.example/g02075/laws.FnExactExtraRank", spec := "fnExactExtraRank", unfollowed := true, recurses := true, apart := false }
def FnExactExtraRankSaid : Prop := fnExactExtraRankRow.holds Tryz.pinned (OpenSpec.ofChange fnExactExtraRankSpec)

/-- ITS FALSE NEIGHBOUR: 'it returns false'. Refute it at one input. -/
def fnExactExtraRankWrong : ChangeSpec := { name := "fnExactExtraRank", fn := fun _ => fun
  | [d] => { results := [.lit (.bool false)], args := [d] }
  | _ => none }
def FnExactExtraRankWrongFalsely : Prop := fnExactExtraRankRow.holds Tryz.pinned (OpenSpec.ofChange fnExactExtraRankWrong)

/-- 'laws.FnExactJoinWord': WHATEVER THE INPUT: true; the input reads as it did. -/
def fnExactJoinWordSpec : ChangeSpec := { name := "fnExactJoinWord", fn := fun _ => fun
  | [d1, d2] => { results := [.lit (.bool true)], args := [d1, d2] }
  | _ => none }
def fnExactJoinWordRow : OpenClaim := { program := "ytgpljoplnecioaagreat", sum := "10e140e37d84c6ac7760b854103e0b2bc2bf3366c9bb7f2016264c99c6ca5360", func := "loop.example/g02075/laws.FnExactJoinWord", spec := "fnExactJoinWord", unfollowed := true, recurses := true, apart := false }
def FnExactJoinWordSaid : Prop := fnExactJoinWordRow.holds Tryz.pinned (OpenSpec.ofChange fnExactJoinWordSpec)

/-- ITS FALSE NEIGHBOUR: 'it returns false'. Refute it at one input. -/
def fnExactJoinWordWrong : ChangeSpec := { name := "fnExactJoinWord", fn := fun _ => fun
  | [d1, d2] => { results := [.lit (.bool false)], args := [d1, d2] }
  | _ => none }
def FnExactJoinWordWrongFalsely : Prop := fnExactJoinWordRow.holds Tryz.pinned (OpenSpec.ofChange fnExactJoinWordWrong)

/-- 'laws.FnExactSmallestExtension': WHATEVER THE INPUT: true; the input reads as it did. -/
def fnExactSmallestExtensionSpec : ChangeSpec := { name := "fnExactSmallestExtension", fn := fun _ => fun
  | [d1, d2] => { results := [.lit (.bool true)], args := [d1, d2] }
  | _ => none }
def fnExactSmallestExtensionRow : OpenClaim := { program := "ytgpljoplnecioaagreat", sum := "10e140e37d84c6ac7760b854103e0b2bc2bf3366c9bb7f2016264c99c6ca5360", func := "loop.example/g02075/laws.FnExactSmallestExtension", spec := "fnExactSmallestExtension", unfollowed := true, recurses := true, apart := false }
def FnExactSmallestExtensionSaid : Prop := fnExactSmallestExtensionRow.holds Tryz.pinned (OpenSpec.ofChange fnExactSmallestExtensionSpec)

/-- ITS FALSE NEIGHBOUR: 'it returns false'. Refute it at one input. -/
def fnExactSmallestExtensionWrong : ChangeSpec := { name := "fnExactSmallestExtension", fn := fun _ => fun
  | [d1, d2] => { results := [.lit (.bool false)], args := [d1, d2] }
  | _ => none }
def FnExactSmallestExtensionWrongFalsely : Prop := fnExactSmallestExtensionRow.holds Tryz.pinned (OpenSpec.ofChange fnExactSmallestExtensionWrong)

/-- 'laws.FnExactGraphOfAction': WHATEVER THE INPUT: true; the input reads as it did. -/
def fnExactGraphOfActionSpec : ChangeSpec := { name := "fnExactGraphOfAction", fn := fun _ => fun
  | [d1, d2] => { results := [.lit (.bool true)], args := [d1, d2] }
  | _ => none }
def fnExactGraphOfActionRow : OpenClaim := { program := "ytgpljoplnecioaagreat", sum := "10e140e37d84c6ac7760b854103e0b2bc2bf3366c9bb7f2016264c99c6ca5360", func := "loop.example/g02075/laws.FnExactGraphOfAction", spec := "fnExactGraphOfAction", unfollowed := true, recurses := true, apart := false }
def FnExactGraphOfActionSaid : Prop := fnExactGraphOfActionRow.holds Tryz.pinned (OpenSpec.ofChange fnExactGraphOfActionSpec)

/-- ITS FALSE NEIGHBOUR: 'it returns false'. Refute it at one input. -/
def fnExactGraphOfActionWrong : ChangeSpec := { name := "fnExactGraphOfAction", fn := fun _ => fun
  | [d1, d2] => { results := [.lit (.bool false)], args := [d1, d2] }
  | _ => none }
def FnExactGraphOfActionWrongFalsely : Prop := fnExactGraphOfActionRow.holds Tryz.pinned (OpenSpec.ofChange fnExactGraphOfActionWrong)

/-- 'laws.FnExactConjugateSubgroup': WHATEVER THE INPUT: true; the input reads as it did. -/
def fnExactConjugateSubgroupSpec : ChangeSpec := { name := "fnExactConjugateSubgroup", fn := fun _ => fun
  | [d1, d2] => { results := [.lit (.bool true)], args := [d1, d2] }
  | _ => none }
def fnExactConjugateSubgroupRow : OpenClaim := { program := "ytgpljoplnecioaagreat", sum := "10e140e37d84c6ac7760b854103e0b2bc2bf3366c9bb7f2016264c99c6ca5360", func := "loop.example/g02075/laws.FnExactConjugateSubgroup", spec := "fnExactConjugateSubgroup", unfollowed := true, recurses := true, apart := false }
def FnExactConjugateSubgroupSaid : Prop := fnExactConjugateSubgroupRow.holds Tryz.pinned (OpenSpec.ofChange fnExactConjugateSubgroupSpec)

/-- ITS FALSE NEIGHBOUR: 'it returns false'. Refute it at one input. -/
def fnExactConjugateSubgroupWrong : ChangeSpec := { name := "fnExactConjugateSubgroup", fn := fun _ => fun
  | [d1, d2] => { results := [.lit (.bool false)], args := [d1, d2] }
  | _ => none }
def FnExactConjugateSubgroupWrongFalsely : Prop := fnExactConjugateSubgroupRow.holds Tryz.pinned (OpenSpec.ofChange fnExactConjugateSubgroupWrong)

/- THE SECOND FORM. 'bulk': how many values and letters a reading holds, each counted each time it is reached (what is shared counts as often as it is met; a slice's spare places count too). A statement '..UptoSaid' is the law's where the arguments, and the package variables that the reading takes, are together of bulk at most 1048576: NARROWER than '..Said'. Prove '..Said' where nothing that the law and all that it calls make is longer than what came in: it says more and counts as full. Else prove '..UptoSaid'. A law counts once. -/
mutual
def uptoBulk {H : Type} : DataW H → Nat
  | .lit (.string bytes) => bytes.length + 1
  | .lit _ => 1
  | .nil => 1
  | .ptr d => uptoBulk d + 1
  | .slice elems spare => uptoBulkAll elems + uptoBulkAll spare + 1
  | .agg parts => uptoBulkAll parts + 1
  | .iface _ d => uptoBulk d + 1
  | .map entries => uptoBulkEntries entries + 1
  | .held _ => 1
def uptoBulkAll {H : Type} : List (DataW H) → Nat
  | [] => 0
  | d :: r => uptoBulk d + uptoBulkAll r
def uptoBulkEntries {H : Type} : List (Lit × DataW H) → Nat
  | [] => 0
  | x :: r => uptoBulkEntry x + uptoBulkEntries r
def uptoBulkEntry {H : Type} : Lit × DataW H → Nat
  | (.string bytes, d) => bytes.length + uptoBulk d + 1
  | (_, d) => uptoBulk d + 1
 end
def uptoSmall : (H : Type) → List (DataW H) → Bool := fun _ ds => decide (uptoBulkAll ds ≤ 1048576)
def OpenSpec.upto (s : _root_.Go.ChangeSpec) : _root_.Go.OpenSpec := { _root_.Go.OpenSpec.ofChange s with cond := some uptoSmall }

/-- 'laws.FnExactRankDrop', WHERE WHAT IT READS IS OF BULK AT MOST 1048576: true; the input reads as it did. -/
def fnExactRankDropUptoRow : OpenClaim := { program := "ytgpljoplnecioaagreat", sum := "10e140e37d84c6ac7760b854103e0b2bc2bf3366c9bb7f2016264c99c6ca5360", func := "loop.example/g02075/laws.FnExactRankDrop", spec := "fnExactRankDrop", unfollowed := true, recurses := true, apart := false, narrowed := true }
def FnExactRankDropUptoSaid : Prop := fnExactRankDropUptoRow.holds Tryz.pinned (OpenSpec.upto fnExactRankDropSpec)

/-- 'laws.FnExactExtraRank', WHERE WHAT IT READS IS OF BULK AT MOST 1048576: true; the input reads as it did. -/
def fnExactExtraRankUptoRow : OpenClaim := { program := "ytgpljoplnecioaagreat", sum := "10e140e37d84c6ac7760b854103e0b2bc2bf3366c9bb7f2016264c99c6ca5360", func := "loop.example/g02075/laws.FnExactExtraRank", spec := "fnExactExtraRank", unfollowed := true, recurses := true, apart := false, narrowed := true }
def FnExactExtraRankUptoSaid : Prop := fnExactExtraRankUptoRow.holds Tryz.pinned (OpenSpec.upto fnExactExtraRankSpec)

/-- 'laws.FnExactJoinWord', WHERE WHAT IT READS IS OF BULK AT MOST 1048576: true; the input reads as it did. -/
def fnExactJoinWordUptoRow : OpenClaim := { program := "ytgpljoplnecioaagreat", sum := "10e140e37d84c6ac7760b854103e0b2bc2bf3366c9bb7f2016264c99c6ca5360", func := "loop.example/g02075/laws.FnExactJoinWord", spec := "fnExactJoinWord", unfollowed := true, recurses := true, apart := false, narrowed := true }
def FnExactJoinWordUptoSaid : Prop := fnExactJoinWordUptoRow.holds Tryz.pinned (OpenSpec.upto fnExactJoinWordSpec)

/-- 'laws.FnExactSmallestExtension', WHERE WHAT IT READS IS OF BULK AT MOST 1048576: true; the input reads as it did. -/
def fnExactSmallestExtensionUptoRow : OpenClaim := { program := "ytgpljoplnecioaagreat", sum := "10e140e37d84c6ac7760b854103e0b2bc2bf3366c9bb7f2016264c99c6ca5360", func := "loop.example/g02075/laws.FnExactSmallestExtension", spec := "fnExactSmallestExtension", unfollowed := true, recurses := true, apart := false, narrowed := true }
def FnExactSmallestExtensionUptoSaid : Prop := fnExactSmallestExtensionUptoRow.holds Tryz.pinned (OpenSpec.upto fnExactSmallestExtensionSpec)

/-- 'laws.FnExactGraphOfAction', WHERE WHAT IT READS IS OF BULK AT MOST 1048576: true; the input reads as it did. -/
def fnExactGraphOfActionUptoRow : OpenClaim := { program := "ytgpljoplnecioaagreat", sum := "10e140e37d84c6ac7760b854103e0b2bc2bf3366c9bb7f2016264c99c6ca5360", func := "loop.example/g02075/laws.FnExactGraphOfAction", spec := "fnExactGraphOfAction", unfollowed := true, recurses := true, apart := false, narrowed := true }
def FnExactGraphOfActionUptoSaid : Prop := fnExactGraphOfActionUptoRow.holds Tryz.pinned (OpenSpec.upto fnExactGraphOfActionSpec)

/-- 'laws.FnExactConjugateSubgroup', WHERE WHAT IT READS IS OF BULK AT MOST 1048576: true; the input reads as it did. -/
def fnExactConjugateSubgroupUptoRow : OpenClaim := { program := "ytgpljoplnecioaagreat", sum := "10e140e37d84c6ac7760b854103e0b2bc2bf3366c9bb7f2016264c99c6ca5360", func := "loop.example/g02075/laws.FnExactConjugateSubgroup", spec := "fnExactConjugateSubgroup", unfollowed := true, recurses := true, apart := false, narrowed := true }
def FnExactConjugateSubgroupUptoSaid : Prop := fnExactConjugateSubgroupUptoRow.holds Tryz.pinned (OpenSpec.upto fnExactConjugateSubgroupSpec)

end Rows
end Go.Proofs.YtgpljoplnecioaaGreat
