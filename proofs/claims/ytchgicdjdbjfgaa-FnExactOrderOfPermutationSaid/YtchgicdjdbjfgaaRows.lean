/-
  No cell of these rows narrows 'for every input' (looked for: loops, veiled, ifaces, maps, wideKeys, modest, calm, conditions, laid).
  DERIVED. THE GIVEN ROWS OF THIS SEAT. 12 by the template 'for every input the law returns true; each argument reads behind the call as it read before'; 0 by the template 'total and deterministic' (their statements: YtchgicdjdbjfgaaTotals.lean).
  GIVEN WITH THE SEED: the statements are not yours to turn. If you find one false, say at which input.
  Laid BY PROGRAM, IN A SANDBOX (cutbox-rows.mjs): the forced cells as the released guide's own fill.sh prints them over the translation 77104f5b75eb8776… (all of the seat's roots in one cut). By AI agents, Wed Nov 11 2026. No macro, syntax, notation, axiom, sorry.
-/
import Derived.Test.YtchgicdjdbjfgaaChecked
import GoSem.Claim
import GoSem.ClaimJoined
import GoSem.ClaimMapViews
import Derived.JoinedTies
import Derived.KernelRfl
namespace Go.Proofs.Ytchgicdjdbjfgaa
/- THE CELL 'sum', in the pinned program and in every row, IS THE sha256 OF THE DUMP (.gsa) THAT YtchgicdjdbjfgaaProg.lean LOADS. Nothing in Lean hashes anything: it is a label: what it is worth is what the hold of that sum in a sandbox is worth. -/
noncomputable def Try.pinned : Pinned := { name := "ytchgicdjdbjfgaa", sum := "77104f5b75eb8776b58c4f1dfc871991128990b071d55167162e6d183b90b098", checked := Try.checked }
namespace Rows
def none {H : Type} : Left H := { results := [], args := [] }

/-- 'laws.FnExactIsNielsenReduced': WHATEVER THE INPUT: true; the input reads as it did. -/
def fnExactIsNielsenReducedSpec : ChangeSpec := { name := "fnExactIsNielsenReduced", fn := fun _ => fun
  | [d] => { results := [.lit (.bool true)], args := [d] }
  | _ => none }
def fnExactIsNielsenReducedRow : OpenClaim := { program := "ytchgicdjdbjfgaa", sum := "77104f5b75eb8776b58c4f1dfc871991128990b071d55167162e6d183b90b098", func := "loop.example/g02075/laws.FnExactIsNielsenReduced", spec := "fnExactIsNielsenReduced", plainKeys := false, apart := false }
def FnExactIsNielsenReducedSaid : Prop := fnExactIsNielsenReducedRow.holds Try.pinned (OpenSpec.ofChange fnExactIsNielsenReducedSpec)

/-- ITS FALSE NEIGHBOUR: 'it returns false'. Refute it at one input. -/
def fnExactIsNielsenReducedWrong : ChangeSpec := { name := "fnExactIsNielsenReduced", fn := fun _ => fun
  | [d] => { results := [.lit (.bool false)], args := [d] }
  | _ => none }
def FnExactIsNielsenReducedWrongFalsely : Prop := fnExactIsNielsenReducedRow.holds Try.pinned (OpenSpec.ofChange fnExactIsNielsenReducedWrong)

/-- 'laws.FnExactCycleType': WHATEVER THE INPUT: true; the input reads as it did. -/
def fnExactCycleTypeSpec : ChangeSpec := { name := "fnExactCycleType", fn := fun _ => fun
  | [d] => { results := [.lit (.bool true)], args := [d] }
  | _ => none }
def fnExactCycleTypeRow : OpenClaim := { program := "ytchgicdjdbjfgaa", sum := "77104f5b75eb8776b58c4f1dfc871991128990b071d55167162e6d183b90b098", func := "loop.example/g02075/laws.FnExactCycleType", spec := "fnExactCycleType", recurses := true, plainKeys := false, apart := false }
def FnExactCycleTypeSaid : Prop := fnExactCycleTypeRow.holds Try.pinned (OpenSpec.ofChange fnExactCycleTypeSpec)

/-- ITS FALSE NEIGHBOUR: 'it returns false'. Refute it at one input. -/
def fnExactCycleTypeWrong : ChangeSpec := { name := "fnExactCycleType", fn := fun _ => fun
  | [d] => { results := [.lit (.bool false)], args := [d] }
  | _ => none }
def FnExactCycleTypeWrongFalsely : Prop := fnExactCycleTypeRow.holds Try.pinned (OpenSpec.ofChange fnExactCycleTypeWrong)

/-- 'laws.FnExactSignOf': WHATEVER THE INPUT: true; the input reads as it did. -/
def fnExactSignOfSpec : ChangeSpec := { name := "fnExactSignOf", fn := fun _ => fun
  | [d] => { results := [.lit (.bool true)], args := [d] }
  | _ => none }
def fnExactSignOfRow : OpenClaim := { program := "ytchgicdjdbjfgaa", sum := "77104f5b75eb8776b58c4f1dfc871991128990b071d55167162e6d183b90b098", func := "loop.example/g02075/laws.FnExactSignOf", spec := "fnExactSignOf", recurses := true, plainKeys := false, apart := false }
def FnExactSignOfSaid : Prop := fnExactSignOfRow.holds Try.pinned (OpenSpec.ofChange fnExactSignOfSpec)

/-- ITS FALSE NEIGHBOUR: 'it returns false'. Refute it at one input. -/
def fnExactSignOfWrong : ChangeSpec := { name := "fnExactSignOf", fn := fun _ => fun
  | [d] => { results := [.lit (.bool false)], args := [d] }
  | _ => none }
def FnExactSignOfWrongFalsely : Prop := fnExactSignOfRow.holds Try.pinned (OpenSpec.ofChange fnExactSignOfWrong)

/-- 'laws.FnExactFixedWords': WHATEVER THE INPUT: true; the input reads as it did. -/
def fnExactFixedWordsSpec : ChangeSpec := { name := "fnExactFixedWords", fn := fun _ => fun
  | [d1, d2] => { results := [.lit (.bool true)], args := [d1, d2] }
  | _ => none }
def fnExactFixedWordsRow : OpenClaim := { program := "ytchgicdjdbjfgaa", sum := "77104f5b75eb8776b58c4f1dfc871991128990b071d55167162e6d183b90b098", func := "loop.example/g02075/laws.FnExactFixedWords", spec := "fnExactFixedWords", plainKeys := false, apart := false }
def FnExactFixedWordsSaid : Prop := fnExactFixedWordsRow.holds Try.pinned (OpenSpec.ofChange fnExactFixedWordsSpec)

/-- ITS FALSE NEIGHBOUR: 'it returns false'. Refute it at one input. -/
def fnExactFixedWordsWrong : ChangeSpec := { name := "fnExactFixedWords", fn := fun _ => fun
  | [d1, d2] => { results := [.lit (.bool false)], args := [d1, d2] }
  | _ => none }
def FnExactFixedWordsWrongFalsely : Prop := fnExactFixedWordsRow.holds Try.pinned (OpenSpec.ofChange fnExactFixedWordsWrong)

/-- 'laws.FnExactOrderOfPermutation': WHATEVER THE INPUT: true; the input reads as it did. -/
def fnExactOrderOfPermutationSpec : ChangeSpec := { name := "fnExactOrderOfPermutation", fn := fun _ => fun
  | [d] => { results := [.lit (.bool true)], args := [d] }
  | _ => none }
def fnExactOrderOfPermutationRow : OpenClaim := { program := "ytchgicdjdbjfgaa", sum := "77104f5b75eb8776b58c4f1dfc871991128990b071d55167162e6d183b90b098", func := "loop.example/g02075/laws.FnExactOrderOfPermutation", spec := "fnExactOrderOfPermutation", recurses := true, plainKeys := false, apart := false }
def FnExactOrderOfPermutationSaid : Prop := fnExactOrderOfPermutationRow.holds Try.pinned (OpenSpec.ofChange fnExactOrderOfPermutationSpec)

/-- ITS FALSE NEIGHBOUR: 'it returns false'. Refute it at one input. -/
def fnExactOrderOfPermutationWrong : ChangeSpec := { name := "fnExactOrderOfPermutation", fn := fun _ => fun
  | [d] => { results := [.lit (.bool false)], args := [d] }
  | _ => none }
def FnExactOrderOfPermutationWrongFalsely : Prop := fnExactOrderOfPermutationRow.holds Try.pinned (OpenSpec.ofChange fnExactOrderOfPermutationWrong)

/-- 'laws.FnExactReduceNielsen': WHATEVER THE INPUT: true; the input reads as it did. -/
def fnExactReduceNielsenSpec : ChangeSpec := { name := "fnExactReduceNielsen", fn := fun _ => fun
  | [d] => { results := [.lit (.bool true)], args := [d] }
  | _ => none }
def fnExactReduceNielsenRow : OpenClaim := { program := "ytchgicdjdbjfgaa", sum := "77104f5b75eb8776b58c4f1dfc871991128990b071d55167162e6d183b90b098", func := "loop.example/g02075/laws.FnExactReduceNielsen", spec := "fnExactReduceNielsen", plainKeys := false, apart := false }
def FnExactReduceNielsenSaid : Prop := fnExactReduceNielsenRow.holds Try.pinned (OpenSpec.ofChange fnExactReduceNielsenSpec)

/-- ITS FALSE NEIGHBOUR: 'it returns false'. Refute it at one input. -/
def fnExactReduceNielsenWrong : ChangeSpec := { name := "fnExactReduceNielsen", fn := fun _ => fun
  | [d] => { results := [.lit (.bool false)], args := [d] }
  | _ => none }
def FnExactReduceNielsenWrongFalsely : Prop := fnExactReduceNielsenRow.holds Try.pinned (OpenSpec.ofChange fnExactReduceNielsenWrong)

/-- 'laws.FnExactGlueAtBase': WHATEVER THE INPUT: true; the input reads as it did. -/
def fnExactGlueAtBaseSpec : ChangeSpec := { name := "fnExactGlueAtBase", fn := fun _ => fun
  | [d1, d2] => { results := [.lit (.bool true)], args := [d1, d2] }
  | _ => none }
def fnExactGlueAtBaseRow : OpenClaim := { program := "ytchgicdjdbjfgaa", sum := "77104f5b75eb8776b58c4f1dfc871991128990b071d55167162e6d183b90b098", func := "loop.example/g02075/laws.FnExactGlueAtBase", spec := "fnExactGlueAtBase", unfollowed := true, recurses := true, plainKeys := false, apart := false }
def FnExactGlueAtBaseSaid : Prop := fnExactGlueAtBaseRow.holds Try.pinned (OpenSpec.ofChange fnExactGlueAtBaseSpec)

/-- ITS FALSE NEIGHBOUR: 'it returns false'. Refute it at one input. -/
def fnExactGlueAtBaseWrong : ChangeSpec := { name := "fnExactGlueAtBase", fn := fun _ => fun
  | [d1, d2] => { results := [.lit (.bool false)], args := [d1, d2] }
  | _ => none }
def FnExactGlueAtBaseWrongFalsely : Prop := fnExactGlueAtBaseRow.holds Try.pinned (OpenSpec.ofChange fnExactGlueAtBaseWrong)

/-- 'laws.FnExactCompleteGraph': WHATEVER THE INPUT: true; the input reads as it did. -/
def fnExactCompleteGraphSpec : ChangeSpec := { name := "fnExactCompleteGraph", fn := fun _ => fun
  | [d] => { results := [.lit (.bool true)], args := [d] }
  | _ => none }
def fnExactCompleteGraphRow : OpenClaim := { program := "ytchgicdjdbjfgaa", sum := "77104f5b75eb8776b58c4f1dfc871991128990b071d55167162e6d183b90b098", func := "loop.example/g02075/laws.FnExactCompleteGraph", spec := "fnExactCompleteGraph", unfollowed := true, recurses := true, plainKeys := false, apart := false }
def FnExactCompleteGraphSaid : Prop := fnExactCompleteGraphRow.holds Try.pinned (OpenSpec.ofChange fnExactCompleteGraphSpec)

/-- ITS FALSE NEIGHBOUR: 'it returns false'. Refute it at one input. -/
def fnExactCompleteGraphWrong : ChangeSpec := { name := "fnExactCompleteGraph", fn := fun _ => fun
  | [d] => { results := [.lit (.bool false)], args := [d] }
  | _ => none }
def FnExactCompleteGraphWrongFalsely : Prop := fnExactCompleteGraphRow.holds Try.pinned (OpenSpec.ofChange fnExactCompleteGraphWrong)

/-- 'laws.FnExactPullbackAt': WHATEVER THE INPUT: true; the input reads as it did. -/
def fnExactPullbackAtSpec : ChangeSpec := { name := "fnExactPullbackAt", fn := fun _ => fun
  | [d1, d2, d3, d4] => { results := [.lit (.bool true)], args := [d1, d2, d3, d4] }
  | _ => none }
def fnExactPullbackAtRow : OpenClaim := { program := "ytchgicdjdbjfgaa", sum := "77104f5b75eb8776b58c4f1dfc871991128990b071d55167162e6d183b90b098", func := "loop.example/g02075/laws.FnExactPullbackAt", spec := "fnExactPullbackAt", unfollowed := true, recurses := true, plainKeys := false, apart := false }
def FnExactPullbackAtSaid : Prop := fnExactPullbackAtRow.holds Try.pinned (OpenSpec.ofChange fnExactPullbackAtSpec)

/-- ITS FALSE NEIGHBOUR: 'it returns false'. Refute it at one input. -/
def fnExactPullbackAtWrong : ChangeSpec := { name := "fnExactPullbackAt", fn := fun _ => fun
  | [d1, d2, d3, d4] => { results := [.lit (.bool false)], args := [d1, d2, d3, d4] }
  | _ => none }
def FnExactPullbackAtWrongFalsely : Prop := fnExactPullbackAtRow.holds Try.pinned (OpenSpec.ofChange fnExactPullbackAtWrong)

/-- 'laws.FnExactReducedRank': WHATEVER THE INPUT: true; the input reads as it did. -/
def fnExactReducedRankSpec : ChangeSpec := { name := "fnExactReducedRank", fn := fun _ => fun
  | [d] => { results := [.lit (.bool true)], args := [d] }
  | _ => none }
def fnExactReducedRankRow : OpenClaim := { program := "ytchgicdjdbjfgaa", sum := "77104f5b75eb8776b58c4f1dfc871991128990b071d55167162e6d183b90b098", func := "loop.example/g02075/laws.FnExactReducedRank", spec := "fnExactReducedRank", unfollowed := true, recurses := true, plainKeys := false, apart := false }
def FnExactReducedRankSaid : Prop := fnExactReducedRankRow.holds Try.pinned (OpenSpec.ofChange fnExactReducedRankSpec)

/-- ITS FALSE NEIGHBOUR: 'it returns false'. Refute it at one input. -/
def fnExactReducedRankWrong : ChangeSpec := { name := "fnExactReducedRank", fn := fun _ => fun
  | [d] => { results := [.lit (.bool false)], args := [d] }
  | _ => none }
def FnExactReducedRankWrongFalsely : Prop := fnExactReducedRankRow.holds Try.pinned (OpenSpec.ofChange fnExactReducedRankWrong)

/-- 'laws.FnExactNeumannSum': WHATEVER THE INPUT: true; the input reads as it did. -/
def fnExactNeumannSumSpec : ChangeSpec := { name := "fnExactNeumannSum", fn := fun _ => fun
  | [d1, d2] => { results := [.lit (.bool true)], args := [d1, d2] }
  | _ => none }
def fnExactNeumannSumRow : OpenClaim := { program := "ytchgicdjdbjfgaa", sum := "77104f5b75eb8776b58c4f1dfc871991128990b071d55167162e6d183b90b098", func := "loop.example/g02075/laws.FnExactNeumannSum", spec := "fnExactNeumannSum", unfollowed := true, recurses := true, plainKeys := false, apart := false }
def FnExactNeumannSumSaid : Prop := fnExactNeumannSumRow.holds Try.pinned (OpenSpec.ofChange fnExactNeumannSumSpec)

/-- ITS FALSE NEIGHBOUR: 'it returns false'. Refute it at one input. -/
def fnExactNeumannSumWrong : ChangeSpec := { name := "fnExactNeumannSum", fn := fun _ => fun
  | [d1, d2] => { results := [.lit (.bool false)], args := [d1, d2] }
  | _ => none }
def FnExactNeumannSumWrongFalsely : Prop := fnExactNeumannSumRow.holds Try.pinned (OpenSpec.ofChange fnExactNeumannSumWrong)

/-- 'laws.FnExactComponentRanks': WHATEVER THE INPUT: true; the input reads as it did. -/
def fnExactComponentRanksSpec : ChangeSpec := { name := "fnExactComponentRanks", fn := fun _ => fun
  | [d1, d2] => { results := [.lit (.bool true)], args := [d1, d2] }
  | _ => none }
def fnExactComponentRanksRow : OpenClaim := { program := "ytchgicdjdbjfgaa", sum := "77104f5b75eb8776b58c4f1dfc871991128990b071d55167162e6d183b90b098", func := "loop.example/g02075/laws.FnExactComponentRanks", spec := "fnExactComponentRanks", unfollowed := true, recurses := true, plainKeys := false, apart := false }
def FnExactComponentRanksSaid : Prop := fnExactComponentRanksRow.holds Try.pinned (OpenSpec.ofChange fnExactComponentRanksSpec)

/-- ITS FALSE NEIGHBOUR: 'it returns false'. Refute it at one input. -/
def fnExactComponentRanksWrong : ChangeSpec := { name := "fnExactComponentRanks", fn := fun _ => fun
  | [d1, d2] => { results := [.lit (.bool false)], args := [d1, d2] }
  | _ => none }
def FnExactComponentRanksWrongFalsely : Prop := fnExactComponentRanksRow.holds Try.pinned (OpenSpec.ofChange fnExactComponentRanksWrong)

/- THE SECOND FORM. 'bulk': how many values and letters a reading holds, each counted each time it is reached (what is shared counts as often as it is met; a slice's spare places count too). A statement '..UptoSaid' is the law's where the arguments, and the package variables that the reading takes, are together of bulk at most 1048576: NARROWER than '..Said'. Prove '..Said' where nothing that the law and all that it calls make is longer than what came in: it says more and counts as full. Else prove '..UptoSaid'. A law counts once. -/
mutual
def uptoBulk {H : Type} : DataW H → Nat
  | .lit (.string bytes) => bytes.length + 1
  | .lit _ => 1
  | .nil => 1
  | .ptr d => uptoBulk d + 1
  | .slice elems spare => uptoBulkAll elems + uptoBulkAll spare + 1
  | .agg parts => uptoBulkAll parts + 1
  | .iface _ d => uptoBulk d + 1
  | .map entries => uptoBulkEntries entries + 1
  | .held _ => 1
def uptoBulkAll {H : Type} : List (DataW H) → Nat
  | [] => 0
  | d :: r => uptoBulk d + uptoBulkAll r
def uptoBulkEntries {H : Type} : List (Lit × DataW H) → Nat
  | [] => 0
  | x :: r => uptoBulkEntry x + uptoBulkEntries r
def uptoBulkEntry {H : Type} : Lit × DataW H → Nat
  | (.string bytes, d) => bytes.length + uptoBulk d + 1
  | (_, d) => uptoBulk d + 1
 end
def uptoSmall : (H : Type) → List (DataW H) → Bool := fun _ ds => decide (uptoBulkAll ds ≤ 1048576)
def OpenSpec.upto (s : _root_.Go.ChangeSpec) : _root_.Go.OpenSpec := { _root_.Go.OpenSpec.ofChange s with cond := some uptoSmall }

/-- 'laws.FnExactIsNielsenReduced', WHERE WHAT IT READS IS OF BULK AT MOST 1048576: true; the input reads as it did. -/
def fnExactIsNielsenReducedUptoRow : OpenClaim := { program := "ytchgicdjdbjfgaa", sum := "77104f5b75eb8776b58c4f1dfc871991128990b071d55167162e6d183b90b098", func := "loop.example/g02075/laws.FnExactIsNielsenReduced", spec := "fnExactIsNielsenReduced", plainKeys := false, apart := false, narrowed := true }
def FnExactIsNielsenReducedUptoSaid : Prop := fnExactIsNielsenReducedUptoRow.holds Try.pinned (OpenSpec.upto fnExactIsNielsenReducedSpec)

/-- 'laws.FnExactCycleType', WHERE WHAT IT READS IS OF BULK AT MOST 1048576: true; the input reads as it did. -/
def fnExactCycleTypeUptoRow : OpenClaim := { program := "ytchgicdjdbjfgaa", sum := "77104f5b75eb8776b58c4f1dfc871991128990b071d55167162e6d183b90b098", func := "loop.example/g02075/laws.FnExactCycleType", spec := "fnExactCycleType", recurses := true, plainKeys := false, apart := false, narrowed := true }
def FnExactCycleTypeUptoSaid : Prop := fnExactCycleTypeUptoRow.holds Try.pinned (OpenSpec.upto fnExactCycleTypeSpec)

/-- 'laws.FnExactSignOf', WHERE WHAT IT READS IS OF BULK AT MOST 1048576: true; the input reads as it did. -/
def fnExactSignOfUptoRow : OpenClaim := { program := "ytchgicdjdbjfgaa", sum := "77104f5b75eb8776b58c4f1dfc871991128990b071d55167162e6d183b90b098", func := "loop.example/g02075/laws.FnExactSignOf", spec := "fnExactSignOf", recurses := true, plainKeys := false, apart := false, narrowed := true }
def FnExactSignOfUptoSaid : Prop := fnExactSignOfUptoRow.holds Try.pinned (OpenSpec.upto fnExactSignOfSpec)

/-- 'laws.FnExactFixedWords', WHERE WHAT IT READS IS OF BULK AT MOST 1048576: true; the input reads as it did. -/
def fnExactFixedWordsUptoRow : OpenClaim := { program := "ytchgicdjdbjfgaa", sum := "77104f5b75eb8776b58c4f1dfc871991128990b071d55167162e6d183b90b098", func := "loop.example/g02075/laws.FnExactFixedWords", spec := "fnExactFixedWords", plainKeys := false, apart := false, narrowed := true }
def FnExactFixedWordsUptoSaid : Prop := fnExactFixedWordsUptoRow.holds Try.pinned (OpenSpec.upto fnExactFixedWordsSpec)

/-- 'laws.FnExactOrderOfPermutation', WHERE WHAT IT READS IS OF BULK AT MOST 1048576: true; the input reads as it did. -/
def fnExactOrderOfPermutationUptoRow : OpenClaim := { program := "ytchgicdjdbjfgaa", sum := "77104f5b75eb8776b58c4f1dfc871991128990b071d55167162e6d183b90b098", func := "loop.example/g02075/laws.FnExactOrderOfPermutation", spec := "fnExactOrderOfPermutation", recurses := true, plainKeys := false, apart := false, narrowed := true }
def FnExactOrderOfPermutationUptoSaid : Prop := fnExactOrderOfPermutationUptoRow.holds Try.pinned (OpenSpec.upto fnExactOrderOfPermutationSpec)

/-- 'laws.FnExactReduceNielsen', WHERE WHAT IT READS IS OF BULK AT MOST 1048576: true; the input reads as it did. -/
def fnExactReduceNielsenUptoRow : OpenClaim := { program := "ytchgicdjdbjfgaa", sum := "77104f5b75eb8776b58c4f1dfc871991128990b071d55167162e6d183b90b098", func := "loop.example/g02075/laws.FnExactReduceNielsen", spec := "fnExactReduceNielsen", plainKeys := false, apart := false, narrowed := true }
def FnExactReduceNielsenUptoSaid : Prop := fnExactReduceNielsenUptoRow.holds Try.pinned (OpenSpec.upto fnExactReduceNielsenSpec)

/-- 'laws.FnExactGlueAtBase', WHERE WHAT IT READS IS OF BULK AT MOST 1048576: true; the input reads as it did. -/
def fnExactGlueAtBaseUptoRow : OpenClaim := { program := "ytchgicdjdbjfgaa", sum := "77104f5b75eb8776b58c4f1dfc871991128990b071d55167162e6d183b90b098", func := "loop.example/g02075/laws.FnExactGlueAtBase", spec := "fnExactGlueAtBase", unfollowed := true, recurses := true, plainKeys := false, apart := false, narrowed := true }
def FnExactGlueAtBaseUptoSaid : Prop := fnExactGlueAtBaseUptoRow.holds Try.pinned (OpenSpec.upto fnExactGlueAtBaseSpec)

/-- 'laws.FnExactCompleteGraph', WHERE WHAT IT READS IS OF BULK AT MOST 1048576: true; the input reads as it did. -/
def fnExactCompleteGraphUptoRow : OpenClaim := { program := "ytchgicdjdbjfgaa", sum := "77104f5b75eb8776b58c4f1dfc871991128990b071d55167162e6d183b90b098", func := "loop.example/g02075/laws.FnExactCompleteGraph", spec := "fnExactCompleteGraph", unfollowed := true, recurses := true, plainKeys := false, apart := false, narrowed := true }
def FnExactCompleteGraphUptoSaid : Prop := fnExactCompleteGraphUptoRow.holds Try.pinned (OpenSpec.upto fnExactCompleteGraphSpec)

/-- 'laws.FnExactPullbackAt', WHERE WHAT IT READS IS OF BULK AT MOST 1048576: true; the input reads as it did. -/
def fnExactPullbackAtUptoRow : OpenClaim := { program := "ytchgicdjdbjfgaa", sum := "77104f5b75eb8776b58c4f1dfc871991128990b071d55167162e6d183b90b098", func := "loop.example/g02075/laws.FnExactPullbackAt", spec := "fnExactPullbackAt", unfollowed := true, recurses := true, plainKeys := false, apart := false, narrowed := true }
def FnExactPullbackAtUptoSaid : Prop := fnExactPullbackAtUptoRow.holds Try.pinned (OpenSpec.upto fnExactPullbackAtSpec)

/-- 'laws.FnExactReducedRank', WHERE WHAT IT READS IS OF BULK AT MOST 1048576: true; the input reads as it did. -/
def fnExactReducedRankUptoRow : OpenClaim := { program := "ytchgicdjdbjfgaa", sum := "77104f5b75eb8776b58c4f1dfc871991128990b071d55167162e6d183b90b098", func := "loop.example/g02075/laws.FnExactReducedRank", spec := "fnExactReducedRank", unfollowed := true, recurses := true, plainKeys := false, apart := false, narrowed := true }
def FnExactReducedRankUptoSaid : Prop := fnExactReducedRankUptoRow.holds Try.pinned (OpenSpec.upto fnExactReducedRankSpec)

/-- 'laws.FnExactNeumannSum', WHERE WHAT IT READS IS OF BULK AT MOST 1048576: true; the input reads as it did. -/
def fnExactNeumannSumUptoRow : OpenClaim := { program := "ytchgicdjdbjfgaa", sum := "77104f5b75eb8776b58c4f1dfc871991128990b071d55167162e6d183b90b098", func := "loop.example/g02075/laws.FnExactNeumannSum", spec := "fnExactNeumannSum", unfollowed := true, recurses := true, plainKeys := false, apart := false, narrowed := true }
def FnExactNeumannSumUptoSaid : Prop := fnExactNeumannSumUptoRow.holds Try.pinned (OpenSpec.upto fnExactNeumannSumSpec)

/-- 'laws.FnExactComponentRanks', WHERE WHAT IT READS IS OF BULK AT MOST 1048576: true; the input reads as it did. -/
def fnExactComponentRanksUptoRow : OpenClaim := { program := "ytchgicdjdbjfgaa", sum := "77104f5b75eb8776b58c4f1dfc871991128990b071d55167162e6d183b90b098", func := "loop.example/g02075/laws.FnExactComponentRanks", spec := "fnExactComponentRanks", unfollowed := true, recurses := true, plainKeys := false, apart := false, narrowed := true }
def FnExactComponentRanksUptoSaid : Prop := fnExactComponentRanksUptoRow.holds Try.pinned (OpenSpec.upto fnExactComponentRanksSpec)

end Rows
end Go.Proofs.Ytchgicdjdbjfgaa
