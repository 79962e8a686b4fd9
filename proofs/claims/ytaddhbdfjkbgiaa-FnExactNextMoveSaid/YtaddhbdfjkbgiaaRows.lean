/-
  No cell of these rows narrows 'for every input' (looked for: loops, veiled, ifaces, maps, wideKeys, modest, calm, conditions, laid).
  DERIVED. THE GIVEN ROWS OF THIS SEAT. 12 by the template 'for every input the law returns true; each argument reads behind the call as it read before'; 0 by the template 'total and deterministic' (their statements: YtaddhbdfjkbgiaaTotals.lean).
  GIVEN WITH THE SEED: the statements are not yours to turn. If you find one false, say at which input.
  Laid BY PROGRAM, IN A SANDBOX (cutbox-rows.mjs): the forced cells as the released guide's own fill.sh prints them over the translation eafec9dd11e1a22c… (all of the seat's roots in one cut). By AI agents, Wed Nov 11 2026. No macro, syntax, notation, axiom, sorry.
-/
import Derived.Test.YtaddhbdfjkbgiaaChecked
import GoSem.Claim
import GoSem.ClaimJoined
import GoSem.ClaimMapViews
import Derived.JoinedTies
import Derived.KernelRfl
namespace Go.Proofs.Ytaddhbdfjkbgiaa
/- THE CELL 'sum', in the pinned program and in every row, IS THE sha256 OF THE DUMP (.gsa) THAT YtaddhbdfjkbgiaaProg.lean LOADS. Nothing in Lean hashes anything: it is a label: what it is worth is what the hold of that sum in a sandbox is worth. -/
noncomputable def Try.pinned : Pinned := { name := "ytaddhbdfjkbgiaa", sum := "eafec9dd11e1a22ca7ab2cc1ce999837d8915549f81bbdcdc805b35af06cd4eb", checked := Try.checked }
namespace Rows
def none {H : Type} : Left H := { results := [], args := [] }

/-- 'laws.FnExactIdentityMorphism': WHATEVER THE INPUT: true; the input reads as it did. -/
def fnExactIdentityMorphismSpec : ChangeSpec := { name := "fnExactIdentityMorphism", fn := fun _ => fun
  | [d] => { results := [.lit (.bool true)], args := [d] }
  | _ => none }
def fnExactIdentityMorphismRow : OpenClaim := { program := "ytaddhbdfjkbgiaa", sum := "eafec9dd11e1a22ca7ab2cc1ce999837d8915549f81bbdcdc805b35af06cd4eb", func := "loop.example/g02075/laws.FnExactIdentityMorphism", spec := "fnExactIdentityMorphism", apart := false }
def FnExactIdentityMorphismSaid : Prop := fnExactIdentityMorphismRow.holds Try.pinned (OpenSpec.ofChange fnExactIdentityMorphismSpec)

/-- ITS FALSE NEIGHBOUR: 'it returns false'. Refute it at one input. -/
def fnExactIdentityMorphismWrong : ChangeSpec := { name := "fnExactIdentityMorphism", fn := fun _ => fun
  | [d] => { results := [.lit (.bool false)], args := [d] }
  | _ => none }
def FnExactIdentityMorphismWrongFalsely : Prop := fnExactIdentityMorphismRow.holds Try.pinned (OpenSpec.ofChange fnExactIdentityMorphismWrong)

/-- 'laws.FnExactIsMorphism': WHATEVER THE INPUT: true; the input reads as it did. -/
def fnExactIsMorphismSpec : ChangeSpec := { name := "fnExactIsMorphism", fn := fun _ => fun
  | [d] => { results := [.lit (.bool true)], args := [d] }
  | _ => none }
def fnExactIsMorphismRow : OpenClaim := { program := "ytaddhbdfjkbgiaa", sum := "eafec9dd11e1a22ca7ab2cc1ce999837d8915549f81bbdcdc805b35af06cd4eb", func := "loop.example/g02075/laws.FnExactIsMorphism", spec := "fnExactIsMorphism", apart := false }
def FnExactIsMorphismSaid : Prop := fnExactIsMorphismRow.holds Try.pinned (OpenSpec.ofChange fnExactIsMorphismSpec)

/-- ITS FALSE NEIGHBOUR: 'it returns false'. Refute it at one input. -/
def fnExactIsMorphismWrong : ChangeSpec := { name := "fnExactIsMorphism", fn := fun _ => fun
  | [d] => { results := [.lit (.bool false)], args := [d] }
  | _ => none }
def FnExactIsMorphismWrongFalsely : Prop := fnExactIsMorphismRow.holds Try.pinned (OpenSpec.ofChange fnExactIsMorphismWrong)

/-- 'laws.FnExactEqualMorphisms': WHATEVER THE INPUT: true; the input reads as it did. -/
def fnExactEqualMorphismsSpec : ChangeSpec := { name := "fnExactEqualMorphisms", fn := fun _ => fun
  | [d1, d2] => { results := [.lit (.bool true)], args := [d1, d2] }
  | _ => none }
def fnExactEqualMorphismsRow : OpenClaim := { program := "ytaddhbdfjkbgiaa", sum := "eafec9dd11e1a22ca7ab2cc1ce999837d8915549f81bbdcdc805b35af06cd4eb", func := "loop.example/g02075/laws.FnExactEqualMorphisms", spec := "fnExactEqualMorphisms", apart := false }
def FnExactEqualMorphismsSaid : Prop := fnExactEqualMorphismsRow.holds Try.pinned (OpenSpec.ofChange fnExactEqualMorphismsSpec)

/-- ITS FALSE NEIGHBOUR: 'it returns false'. Refute it at one input. -/
def fnExactEqualMorphismsWrong : ChangeSpec := { name := "fnExactEqualMorphisms", fn := fun _ => fun
  | [d1, d2] => { results := [.lit (.bool false)], args := [d1, d2] }
  | _ => none }
def FnExactEqualMorphismsWrongFalsely : Prop := fnExactEqualMorphismsRow.holds Try.pinned (OpenSpec.ofChange fnExactEqualMorphismsWrong)

/-- 'laws.FnExactCompareNielsen': WHATEVER THE INPUT: true; the input reads as it did. -/
def fnExactCompareNielsenSpec : ChangeSpec := { name := "fnExactCompareNielsen", fn := fun _ => fun
  | [d1, d2] => { results := [.lit (.bool true)], args := [d1, d2] }
  | _ => none }
def fnExactCompareNielsenRow : OpenClaim := { program := "ytaddhbdfjkbgiaa", sum := "eafec9dd11e1a22ca7ab2cc1ce999837d8915549f81bbdcdc805b35af06cd4eb", func := "loop.example/g02075/laws.FnExactCompareNielsen", spec := "fnExactCompareNielsen", apart := false }
def FnExactCompareNielsenSaid : Prop := fnExactCompareNielsenRow.holds Try.pinned (OpenSpec.ofChange fnExactCompareNielsenSpec)

/-- ITS FALSE NEIGHBOUR: 'it returns false'. Refute it at one input. -/
def fnExactCompareNielsenWrong : ChangeSpec := { name := "fnExactCompareNielsen", fn := fun _ => fun
  | [d1, d2] => { results := [.lit (.bool false)], args := [d1, d2] }
  | _ => none }
def FnExactCompareNielsenWrongFalsely : Prop := fnExactCompareNielsenRow.holds Try.pinned (OpenSpec.ofChange fnExactCompareNielsenWrong)

/-- 'laws.FnExactFormatMoves': WHATEVER THE INPUT: true; the input reads as it did. -/
def fnExactFormatMovesSpec : ChangeSpec := { name := "fnExactFormatMoves", fn := fun _ => fun
  | [d] => { results := [.lit (.bool true)], args := [d] }
  | _ => none }
def fnExactFormatMovesRow : OpenClaim := { program := "ytaddhbdfjkbgiaa", sum := "eafec9dd11e1a22ca7ab2cc1ce999837d8915549f81bbdcdc805b35af06cd4eb", func := "loop.example/g02075/laws.FnExactFormatMoves", spec := "fnExactFormatMoves", apart := false }
def FnExactFormatMovesSaid : Prop := fnExactFormatMovesRow.holds Try.pinned (OpenSpec.ofChange fnExactFormatMovesSpec)

/-- ITS FALSE NEIGHBOUR: 'it returns false'. Refute it at one input. -/
def fnExactFormatMovesWrong : ChangeSpec := { name := "fnExactFormatMoves", fn := fun _ => fun
  | [d] => { results := [.lit (.bool false)], args := [d] }
  | _ => none }
def FnExactFormatMovesWrongFalsely : Prop := fnExactFormatMovesRow.holds Try.pinned (OpenSpec.ofChange fnExactFormatMovesWrong)

/-- 'laws.FnExactIsSubgraph': WHATEVER THE INPUT: true; the input reads as it did. -/
def fnExactIsSubgraphSpec : ChangeSpec := { name := "fnExactIsSubgraph", fn := fun _ => fun
  | [d1, d2] => { results := [.lit (.bool true)], args := [d1, d2] }
  | _ => none }
def fnExactIsSubgraphRow : OpenClaim := { program := "ytaddhbdfjkbgiaa", sum := "eafec9dd11e1a22ca7ab2cc1ce999837d8915549f81bbdcdc805b35af06cd4eb", func := "loop.example/g02075/laws.FnExactIsSubgraph", spec := "fnExactIsSubgraph", apart := false }
def FnExactIsSubgraphSaid : Prop := fnExactIsSubgraphRow.holds Try.pinned (OpenSpec.ofChange fnExactIsSubgraphSpec)

/-- ITS FALSE NEIGHBOUR: 'it returns false'. Refute it at one input. -/
def fnExactIsSubgraphWrong : ChangeSpec := { name := "fnExactIsSubgraph", fn := fun _ => fun
  | [d1, d2] => { results := [.lit (.bool false)], args := [d1, d2] }
  | _ => none }
def FnExactIsSubgraphWrongFalsely : Prop := fnExactIsSubgraphRow.holds Try.pinned (OpenSpec.ofChange fnExactIsSubgraphWrong)

/-- 'laws.FnExactFormatMorphism': WHATEVER THE INPUT: true; the input reads as it did. -/
def fnExactFormatMorphismSpec : ChangeSpec := { name := "fnExactFormatMorphism", fn := fun _ => fun
  | [d] => { results := [.lit (.bool true)], args := [d] }
  | _ => none }
def fnExactFormatMorphismRow : OpenClaim := { program := "ytaddhbdfjkbgiaa", sum := "eafec9dd11e1a22ca7ab2cc1ce999837d8915549f81bbdcdc805b35af06cd4eb", func := "loop.example/g02075/laws.FnExactFormatMorphism", spec := "fnExactFormatMorphism", apart := false }
def FnExactFormatMorphismSaid : Prop := fnExactFormatMorphismRow.holds Try.pinned (OpenSpec.ofChange fnExactFormatMorphismSpec)

/-- ITS FALSE NEIGHBOUR: 'it returns false'. Refute it at one input. -/
def fnExactFormatMorphismWrong : ChangeSpec := { name := "fnExactFormatMorphism", fn := fun _ => fun
  | [d] => { results := [.lit (.bool false)], args := [d] }
  | _ => none }
def FnExactFormatMorphismWrongFalsely : Prop := fnExactFormatMorphismRow.holds Try.pinned (OpenSpec.ofChange fnExactFormatMorphismWrong)

/-- 'laws.FnExactApplyMove': WHATEVER THE INPUT: true; the input reads as it did. -/
def fnExactApplyMoveSpec : ChangeSpec := { name := "fnExactApplyMove", fn := fun _ => fun
  | [d1, d2] => { results := [.lit (.bool true)], args := [d1, d2] }
  | _ => none }
def fnExactApplyMoveRow : OpenClaim := { program := "ytaddhbdfjkbgiaa", sum := "eafec9dd11e1a22ca7ab2cc1ce999837d8915549f81bbdcdc805b35af06cd4eb", func := "loop.example/g02075/laws.FnExactApplyMove", spec := "fnExactApplyMove", apart := false }
def FnExactApplyMoveSaid : Prop := fnExactApplyMoveRow.holds Try.pinned (OpenSpec.ofChange fnExactApplyMoveSpec)

/-- ITS FALSE NEIGHBOUR: 'it returns false'. Refute it at one input. -/
def fnExactApplyMoveWrong : ChangeSpec := { name := "fnExactApplyMove", fn := fun _ => fun
  | [d1, d2] => { results := [.lit (.bool false)], args := [d1, d2] }
  | _ => none }
def FnExactApplyMoveWrongFalsely : Prop := fnExactApplyMoveRow.holds Try.pinned (OpenSpec.ofChange fnExactApplyMoveWrong)

/-- 'laws.FnExactApplyMorphism': WHATEVER THE INPUT: true; the input reads as it did. -/
def fnExactApplyMorphismSpec : ChangeSpec := { name := "fnExactApplyMorphism", fn := fun _ => fun
  | [d1, d2] => { results := [.lit (.bool true)], args := [d1, d2] }
  | _ => none }
def fnExactApplyMorphismRow : OpenClaim := { program := "ytaddhbdfjkbgiaa", sum := "eafec9dd11e1a22ca7ab2cc1ce999837d8915549f81bbdcdc805b35af06cd4eb", func := "loop.example/g02075/laws.FnExactApplyMorphism", spec := "fnExactApplyMorphism", apart := false }
def FnExactApplyMorphismSaid : Prop := fnExactApplyMorphismRow.holds Try.pinned (OpenSpec.ofChange fnExactApplyMorphismSpec)

/-- ITS FALSE NEIGHBOUR: 'it returns false'. Refute it at one input. -/
def fnExactApplyMorphismWrong : ChangeSpec := { name := "fnExactApplyMorphism", fn := fun _ => fun
  | [d1, d2] => { results := [.lit (.bool false)], args := [d1, d2] }
  | _ => none }
def FnExactApplyMorphismWrongFalsely : Prop := fnExactApplyMorphismRow.holds Try.pinned (OpenSpec.ofChange fnExactApplyMorphismWrong)

/-- 'laws.FnExactComposeMorphisms': WHATEVER THE INPUT: true; the input reads as it did. -/
def fnExactComposeMorphismsSpec : ChangeSpec := { name := "fnExactComposeMorphisms", fn := fun _ => fun
  | [d1, d2] => { results := [.lit (.bool true)], args := [d1, d2] }
  | _ => none }
def fnExactComposeMorphismsRow : OpenClaim := { program := "ytaddhbdfjkbgiaa", sum := "eafec9dd11e1a22ca7ab2cc1ce999837d8915549f81bbdcdc805b35af06cd4eb", func := "loop.example/g02075/laws.FnExactComposeMorphisms", spec := "fnExactComposeMorphisms", apart := false }
def FnExactComposeMorphismsSaid : Prop := fnExactComposeMorphismsRow.holds Try.pinned (OpenSpec.ofChange fnExactComposeMorphismsSpec)

/-- ITS FALSE NEIGHBOUR: 'it returns false'. Refute it at one input. -/
def fnExactComposeMorphismsWrong : ChangeSpec := { name := "fnExactComposeMorphisms", fn := fun _ => fun
  | [d1, d2] => { results := [.lit (.bool false)], args := [d1, d2] }
  | _ => none }
def FnExactComposeMorphismsWrongFalsely : Prop := fnExactComposeMorphismsRow.holds Try.pinned (OpenSpec.ofChange fnExactComposeMorphismsWrong)

/-- 'laws.FnExactReplayMoves': WHATEVER THE INPUT: true; the input reads as it did. -/
def fnExactReplayMovesSpec : ChangeSpec := { name := "fnExactReplayMoves", fn := fun _ => fun
  | [d1, d2] => { results := [.lit (.bool true)], args := [d1, d2] }
  | _ => none }
def fnExactReplayMovesRow : OpenClaim := { program := "ytaddhbdfjkbgiaa", sum := "eafec9dd11e1a22ca7ab2cc1ce999837d8915549f81bbdcdc805b35af06cd4eb", func := "loop.example/g02075/laws.FnExactReplayMoves", spec := "fnExactReplayMoves", apart := false }
def FnExactReplayMovesSaid : Prop := fnExactReplayMovesRow.holds Try.pinned (OpenSpec.ofChange fnExactReplayMovesSpec)

/-- ITS FALSE NEIGHBOUR: 'it returns false'. Refute it at one input. -/
def fnExactReplayMovesWrong : ChangeSpec := { name := "fnExactReplayMoves", fn := fun _ => fun
  | [d1, d2] => { results := [.lit (.bool false)], args := [d1, d2] }
  | _ => none }
def FnExactReplayMovesWrongFalsely : Prop := fnExactReplayMovesRow.holds Try.pinned (OpenSpec.ofChange fnExactReplayMovesWrong)

/-- 'laws.FnExactNextMove': WHATEVER THE INPUT: true; the input reads as it did. -/
def fnExactNextMoveSpec : ChangeSpec := { name := "fnExactNextMove", fn := fun _ => fun
  | [d] => { results := [.lit (.bool true)], args := [d] }
  | _ => none }
def fnExactNextMoveRow : OpenClaim := { program := "ytaddhbdfjkbgiaa", sum := "eafec9dd11e1a22ca7ab2cc1ce999837d8915549f81bbdcdc805b35af06cd4eb", func := "loop.example/g02075/laws.FnExactNextMove", spec := "fnExactNextMove", apart := false }
def FnExactNextMoveSaid : Prop := fnExactNextMoveRow.holds Try.pinned (OpenSpec.ofChange fnExactNextMoveSpec)

/-- ITS FALSE NEIGHBOUR: 'it returns false'. Refute it at one input. -/
def fnExactNextMoveWrong : ChangeSpec := { name := "fnExactNextMove", fn := fun _ => fun
  | [d] => { results := [.lit (.bool false)], args := [d] }
  | _ => none }
def FnExactNextMoveWrongFalsely : Prop := fnExactNextMoveRow.holds Try.pinned (OpenSpec.ofChange fnExactNextMoveWrong)

/- THE SECOND FORM. 'bulk': how many values and letters a reading holds, each counted each time it is reached (what is shared counts as often as it is met; a slice's spare places count too). A statement '..UptoSaid' is the law's where the arguments, and the package variables that the reading takes, are together of bulk at most 1048576: NARROWER than '..Said'. Prove '..Said' where nothing that the law and all that it calls make is longer than what came in: it says more and counts as full. Else prove '..UptoSaid'. A law counts once. -/
mutual
def uptoBulk {H : Type} : DataW H → Nat
  | .lit (.string bytes) => bytes.length + 1
  | .lit _ => 1
  | .nil => 1
  | .ptr d => uptoBulk d + 1
  | .slice elems spare => uptoBulkAll elems + uptoBulkAll spare + 1
  | .agg parts => uptoBulkAll parts + 1
  | .iface _ d => uptoBulk d + 1
  | .map entries => uptoBulkEntries entries + 1
  | .held _ => 1
def uptoBulkAll {H : Type} : List (DataW H) → Nat
  | [] => 0
  | d :: r => uptoBulk d + uptoBulkAll r
def uptoBulkEntries {H : Type} : List (Lit × DataW H) → Nat
  | [] => 0
  | x :: r => uptoBulkEntry x + uptoBulkEntries r
def uptoBulkEntry {H : Type} : Lit × DataW H → Nat
  | (.string bytes, d) => bytes.length + uptoBulk d + 1
  | (_, d) => uptoBulk d + 1
 end
def uptoSmall : (H : Type) → List (DataW H) → Bool := fun _ ds => decide (uptoBulkAll ds ≤ 1048576)
def OpenSpec.upto (s : _root_.Go.ChangeSpec) : _root_.Go.OpenSpec := { _root_.Go.OpenSpec.ofChange s with cond := some uptoSmall }

/-- 'laws.FnExactIdentityMorphism', WHERE WHAT IT READS IS OF BULK AT MOST 1048576: true; the input reads as it did. -/
def fnExactIdentityMorphismUptoRow : OpenClaim := { program := "ytaddhbdfjkbgiaa", sum := "eafec9dd11e1a22ca7ab2cc1ce999837d8915549f81bbdcdc805b35af06cd4eb", func := "loop.example/g02075/laws.FnExactIdentityMorphism", spec := "fnExactIdentityMorphism", apart := false, narrowed := true }
def FnExactIdentityMorphismUptoSaid : Prop := fnExactIdentityMorphismUptoRow.holds Try.pinned (OpenSpec.upto fnExactIdentityMorphismSpec)

/-- 'laws.FnExactIsMorphism', WHERE WHAT IT READS IS OF BULK AT MOST 1048576: true; the input reads as it did. -/
def fnExactIsMorphismUptoRow : OpenClaim := { program := "ytaddhbdfjkbgiaa", sum := "eafec9dd11e1a22ca7ab2cc1ce999837d8915549f81bbdcdc805b35af06cd4eb", func := "loop.example/g02075/laws.FnExactIsMorphism", spec := "fnExactIsMorphism", apart := false, narrowed := true }
def FnExactIsMorphismUptoSaid : Prop := fnExactIsMorphismUptoRow.holds Try.pinned (OpenSpec.upto fnExactIsMorphismSpec)

/-- 'laws.FnExactEqualMorphisms', WHERE WHAT IT READS IS OF BULK AT MOST 1048576: true; the input reads as it did. -/
def fnExactEqualMorphismsUptoRow : OpenClaim := { program := "ytaddhbdfjkbgiaa", sum := "eafec9dd11e1a22ca7ab2cc1ce999837d8915549f81bbdcdc805b35af06cd4eb", func := "loop.example/g02075/laws.FnExactEqualMorphisms", spec := "fnExactEqualMorphisms", apart := false, narrowed := true }
def FnExactEqualMorphismsUptoSaid : Prop := fnExactEqualMorphismsUptoRow.holds Try.pinned (OpenSpec.upto fnExactEqualMorphismsSpec)

/-- 'laws.FnExactCompareNielsen', WHERE WHAT IT READS IS OF BULK AT MOST 1048576: true; the input reads as it did. -/
def fnExactCompareNielsenUptoRow : OpenClaim := { program := "ytaddhbdfjkbgiaa", sum := "eafec9dd11e1a22ca7ab2cc1ce999837d8915549f81bbdcdc805b35af06cd4eb", func := "loop.example/g02075/laws.FnExactCompareNielsen", spec := "fnExactCompareNielsen", apart := false, narrowed := true }
def FnExactCompareNielsenUptoSaid : Prop := fnExactCompareNielsenUptoRow.holds Try.pinned (OpenSpec.upto fnExactCompareNielsenSpec)

/-- 'laws.FnExactFormatMoves', WHERE WHAT IT READS IS OF BULK AT MOST 1048576: true; the input reads as it did. -/
def fnExactFormatMovesUptoRow : OpenClaim := { program := "ytaddhbdfjkbgiaa", sum := "eafec9dd11e1a22ca7ab2cc1ce999837d8915549f81bbdcdc805b35af06cd4eb", func := "loop.example/g02075/laws.FnExactFormatMoves", spec := "fnExactFormatMoves", apart := false, narrowed := true }
def FnExactFormatMovesUptoSaid : Prop := fnExactFormatMovesUptoRow.holds Try.pinned (OpenSpec.upto fnExactFormatMovesSpec)

/-- 'laws.FnExactIsSubgraph', WHERE WHAT IT READS IS OF BULK AT MOST 1048576: true; the input reads as it did. -/
def fnExactIsSubgraphUptoRow : OpenClaim := { program := "ytaddhbdfjkbgiaa", sum := "eafec9dd11e1a22ca7ab2cc1ce999837d8915549f81bbdcdc805b35af06cd4eb", func := "loop.example/g02075/laws.FnExactIsSubgraph", spec := "fnExactIsSubgraph", apart := false, narrowed := true }
def FnExactIsSubgraphUptoSaid : Prop := fnExactIsSubgraphUptoRow.holds Try.pinned (OpenSpec.upto fnExactIsSubgraphSpec)

/-- 'laws.FnExactFormatMorphism', WHERE WHAT IT READS IS OF BULK AT MOST 1048576: true; the input reads as it did. -/
def fnExactFormatMorphismUptoRow : OpenClaim := { program := "ytaddhbdfjkbgiaa", sum := "eafec9dd11e1a22ca7ab2cc1ce999837d8915549f81bbdcdc805b35af06cd4eb", func := "loop.example/g02075/laws.FnExactFormatMorphism", spec := "fnExactFormatMorphism", apart := false, narrowed := true }
def FnExactFormatMorphismUptoSaid : Prop := fnExactFormatMorphismUptoRow.holds Try.pinned (OpenSpec.upto fnExactFormatMorphismSpec)

/-- 'laws.FnExactApplyMove', WHERE WHAT IT READS IS OF BULK AT MOST 1048576: true; the input reads as it did. -/
def fnExactApplyMoveUptoRow : OpenClaim := { program := "ytaddhbdfjkbgiaa", sum := "eafec9dd11e1a22ca7ab2cc1ce999837d8915549f81bbdcdc805b35af06cd4eb", func := "loop.example/g02075/laws.FnExactApplyMove", spec := "fnExactApplyMove", apart := false, narrowed := true }
def FnExactApplyMoveUptoSaid : Prop := fnExactApplyMoveUptoRow.holds Try.pinned (OpenSpec.upto fnExactApplyMoveSpec)

/-- 'laws.FnExactApplyMorphism', WHERE WHAT IT READS IS OF BULK AT MOST 1048576: true; the input reads as it did. -/
def fnExactApplyMorphismUptoRow : OpenClaim := { program := "ytaddhbdfjkbgiaa", sum := "eafec9dd11e1a22ca7ab2cc1ce999837d8915549f81bbdcdc805b35af06cd4eb", func := "loop.example/g02075/laws.FnExactApplyMorphism", spec := "fnExactApplyMorphism", apart := false, narrowed := true }
def FnExactApplyMorphismUptoSaid : Prop := fnExactApplyMorphismUptoRow.holds Try.pinned (OpenSpec.upto fnExactApplyMorphismSpec)

/-- 'laws.FnExactComposeMorphisms', WHERE WHAT IT READS IS OF BULK AT MOST 1048576: true; the input reads as it did. -/
def fnExactComposeMorphismsUptoRow : OpenClaim := { program := "ytaddhbdfjkbgiaa", sum := "eafec9dd11e1a22ca7ab2cc1ce999837d8915549f81bbdcdc805b35af06cd4eb", func := "loop.example/g02075/laws.FnExactComposeMorphisms", spec := "fnExactComposeMorphisms", apart := false, narrowed := true }
def FnExactComposeMorphismsUptoSaid : Prop := fnExactComposeMorphismsUptoRow.holds Try.pinned (OpenSpec.upto fnExactComposeMorphismsSpec)

/-- 'laws.FnExactReplayMoves', WHERE WHAT IT READS IS OF BULK AT MOST 1048576: true; the input reads as it did. -/
def fnExactReplayMovesUptoRow : OpenClaim := { program := "ytaddhbdfjkbgiaa", sum := "eafec9dd11e1a22ca7ab2cc1ce999837d8915549f81bbdcdc805b35af06cd4eb", func := "loop.example/g02075/laws.FnExactReplayMoves", spec := "fnExactReplayMoves", apart := false, narrowed := true }
def FnExactReplayMovesUptoSaid : Prop := fnExactReplayMovesUptoRow.holds Try.pinned (OpenSpec.upto fnExactReplayMovesSpec)

/-- 'laws.FnExactNextMove', WHERE WHAT IT READS IS OF BULK AT MOST 1048576: true; the input reads as it did. -/
def fnExactNextMoveUptoRow : OpenClaim := { program := "ytaddhbdfjkbgiaa", sum := "eafec9dd11e1a22ca7ab2cc1ce999837d8915549f81bbdcdc805b35af06cd4eb", func := "loop.example/g02075/laws.FnExactNextMove", spec := "fnExactNextMove", apart := false, narrowed := true }
def FnExactNextMoveUptoSaid : Prop := fnExactNextMoveUptoRow.holds Try.pinned (OpenSpec.upto fnExactNextMoveSpec)

end Rows
end Go.Proofs.Ytaddhbdfjkbgiaa
