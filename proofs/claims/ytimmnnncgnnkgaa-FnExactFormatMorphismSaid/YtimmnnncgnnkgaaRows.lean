/-
  No cell of these rows narrows 'for every input' (looked for: loops, veiled, ifaces, maps, wideKeys, modest, calm, conditions, laid).
  DERIVED. THE GIVEN ROWS OF THIS SEAT. 6 by the template 'for every input the law returns true; each argument reads behind the call as it read before'; 0 by the template 'total and deterministic' (their statements: YtimmnnncgnnkgaaTotals.lean).
  GIVEN WITH THE SEED: the statements are not yours to turn. If you find one false, say at which input.
  Laid BY PROGRAM, IN A SANDBOX (cutbox-rows.mjs): the forced cells as the released guide's own fill.sh prints them over the translation 635f8b815a4fd67e… (all of the seat's roots in one cut). By AI agents, Wed Nov 11 2026. No macro, syntax, notation, axiom, sorry.
-/
import Derived.Test.YtimmnnncgnnkgaaChecked
import GoSem.Claim
import GoSem.ClaimJoined
import GoSem.ClaimMapViews
import Derived.JoinedTies
import Derived.KernelRfl
namespace Go.Proofs.Ytimmnnncgnnkgaa
/- THE CELL 'sum', in the pinned program and in every row, IS THE sha256 OF THE DUMP (.gsa) THAT YtimmnnncgnnkgaaProg.lean LOADS. Nothing in Lean hashes anything: it is a label: what it is worth is what the hold of that sum in a sandbox is worth. -/
noncomputable def Try.pinned : Pinned := { name := "ytimmnnncgnnkgaa", sum := "635f8b815a4fd67e5e92bf35fb19c1641e783b1a2858b8fc5ee2750c38615aa2", checked := Try.checked }
namespace Rows
def none {H : Type} : Left H := { results := [], args := [] }

/-- 'laws.FnExactPullbackAt': WHATEVER THE INPUT: true; the input reads as it did. -/
def fnExactPullbackAtSpec : ChangeSpec := { name := "fnExactPullbackAt", fn := fun _ => fun
  | [d1, d2, d3, d4] => { results := [.lit (.bool true)], args := [d1, d2, d3, d4] }
  | _ => none }
def fnExactPullbackAtRow : OpenClaim := { program := "ytimmnnncgnnkgaa", sum := "635f8b815a4fd67e5e92bf35fb19c1641e783b1a2858b8fc5ee2750c38615aa2", func := "loop.example/g02075/laws.FnExactPullbackAt", spec := "fnExactPullbackAt", unfollowed := true, recurses := true, plainKeys := false, apart := false }
def FnExactPullbackAtSaid : Prop := fnExactPullbackAtRow.holds Try.pinned (OpenSpec.ofChange fnExactPullbackAtSpec)

/-- ITS FALSE NEIGHBOUR: 'it returns false'. Refute it at one input. -/
def fnExactPullbackAtWrong : ChangeSpec := { name := "fnExactPullbackAt", fn := fun _ => fun
  | [d1, d2, d3, d4] => { results := [.lit (.bool false)], args := [d1, d2, d3, d4] }
  | _ => none }
def FnExactPullbackAtWrongFalsely : Prop := fnExactPullbackAtRow.holds Try.pinned (OpenSpec.ofChange fnExactPullbackAtWrong)

/-- 'laws.FnExactNeumannSum': WHATEVER THE INPUT: true; the input reads as it did. -/
def fnExactNeumannSumSpec : ChangeSpec := { name := "fnExactNeumannSum", fn := fun _ => fun
  | [d1, d2] => { results := [.lit (.bool true)], args := [d1, d2] }
  | _ => none }
def fnExactNeumannSumRow : OpenClaim := { program := "ytimmnnncgnnkgaa", sum := "635f8b815a4fd67e5e92bf35fb19c1641e783b1a2858b8fc5ee2750c38615aa2", func := "loop.example/g02075/laws.FnExactNeumannSum", spec := "fnExactNeumannSum", unfollowed := true, recurses := true, plainKeys := false, apart := false }
def FnExactNeumannSumSaid : Prop := fnExactNeumannSumRow.holds Try.pinned (OpenSpec.ofChange fnExactNeumannSumSpec)

/-- ITS FALSE NEIGHBOUR: 'it returns false'. Refute it at one input. -/
def fnExactNeumannSumWrong : ChangeSpec := { name := "fnExactNeumannSum", fn := fun _ => fun
  | [d1, d2] => { results := [.lit (.bool false)], args := [d1, d2] }
  | _ => none }
def FnExactNeumannSumWrongFalsely : Prop := fnExactNeumannSumRow.holds Try.pinned (OpenSpec.ofChange fnExactNeumannSumWrong)

/-- 'laws.FnExactComponentRanks': WHATEVER THE INPUT: true; the input reads as it did. -/
def fnExactComponentRanksSpec : ChangeSpec := { name := "fnExactComponentRanks", fn := fun _ => fun
  | [d1, d2] => { results := [.lit (.bool true)], args := [d1, d2] }
  | _ => none }
def fnExactComponentRanksRow : OpenClaim := { program := "ytimmnnncgnnkgaa", sum := "635f8b815a4fd67e5e92bf35fb19c1641e783b1a2858b8fc5ee2750c38615aa2", func := "loop.example/g02075/laws.FnExactComponentRanks", spec := "fnExactComponentRanks", unfollowed := true, recurses := true, plainKeys := false, apart := false }
def FnExactComponentRanksSaid : Prop := fnExactComponentRanksRow.holds Try.pinned (OpenSpec.ofChange fnExactComponentRanksSpec)

/-- ITS FALSE NEIGHBOUR: 'it returns false'. Refute it at one input. -/
def fnExactComponentRanksWrong : ChangeSpec := { name := "fnExactComponentRanks", fn := fun _ => fun
  | [d1, d2] => { results := [.lit (.bool false)], args := [d1, d2] }
  | _ => none }
def FnExactComponentRanksWrongFalsely : Prop := fnExactComponentRanksRow.holds Try.pinned (OpenSpec.ofChange fnExactComponentRanksWrong)

/-- 'laws.FnExactFormatMoves': WHATEVER THE INPUT: true; the input reads as it did. -/
def fnExactFormatMovesSpec : ChangeSpec := { name := "fnExactFormatMoves", fn := fun _ => fun
  | [d] => { results := [.lit (.bool true)], args := [d] }
  | _ => none }
def fnExactFormatMovesRow : OpenClaim := { program := "ytimmnnncgnnkgaa", sum := "635f8b815a4fd67e5e92bf35fb19c1641e783b1a2858b8fc5ee2750c38615aa2", func := "loop.example/g02075/laws.FnExactFormatMoves", spec := "fnExactFormatMoves", plainKeys := false, apart := false }
def FnExactFormatMovesSaid : Prop := fnExactFormatMovesRow.holds Try.pinned (OpenSpec.ofChange fnExactFormatMovesSpec)

/-- ITS FALSE NEIGHBOUR: 'it returns false'. Refute it at one input. -/
def fnExactFormatMovesWrong : ChangeSpec := { name := "fnExactFormatMoves", fn := fun _ => fun
  | [d] => { results := [.lit (.bool false)], args := [d] }
  | _ => none }
def FnExactFormatMovesWrongFalsely : Prop := fnExactFormatMovesRow.holds Try.pinned (OpenSpec.ofChange fnExactFormatMovesWrong)

/-- 'laws.FnExactFormatMorphism': WHATEVER THE INPUT: true; the input reads as it did. -/
def fnExactFormatMorphismSpec : ChangeSpec := { name := "fnExactFormatMorphism", fn := fun _ => fun
  | [d] => { results := [.lit (.bool true)], args := [d] }
  | _ => none }
def fnExactFormatMorphismRow : OpenClaim := { program := "ytimmnnncgnnkgaa", sum := "635f8b815a4fd67e5e92bf35fb19c1641e783b1a2858b8fc5ee2750c38615aa2", func := "loop.example/g02075/laws.FnExactFormatMorphism", spec := "fnExactFormatMorphism", plainKeys := false, apart := false }
def FnExactFormatMorphismSaid : Prop := fnExactFormatMorphismRow.holds Try.pinned (OpenSpec.ofChange fnExactFormatMorphismSpec)

/-- ITS FALSE NEIGHBOUR: 'it returns false'. Refute it at one input. -/
def fnExactFormatMorphismWrong : ChangeSpec := { name := "fnExactFormatMorphism", fn := fun _ => fun
  | [d] => { results := [.lit (.bool false)], args := [d] }
  | _ => none }
def FnExactFormatMorphismWrongFalsely : Prop := fnExactFormatMorphismRow.holds Try.pinned (OpenSpec.ofChange fnExactFormatMorphismWrong)

/-- 'laws.FnExactFixedWords': WHATEVER THE INPUT: true; the input reads as it did. -/
def fnExactFixedWordsSpec : ChangeSpec := { name := "fnExactFixedWords", fn := fun _ => fun
  | [d1, d2] => { results := [.lit (.bool true)], args := [d1, d2] }
  | _ => none }
def fnExactFixedWordsRow : OpenClaim := { program := "ytimmnnncgnnkgaa", sum := "635f8b815a4fd67e5e92bf35fb19c1641e783b1a2858b8fc5ee2750c38615aa2", func := "loop.example/g02075/laws.FnExactFixedWords", spec := "fnExactFixedWords", plainKeys := false, apart := false }
def FnExactFixedWordsSaid : Prop := fnExactFixedWordsRow.holds Try.pinned (OpenSpec.ofChange fnExactFixedWordsSpec)

/-- ITS FALSE NEIGHBOUR: 'it returns false'. Refute it at one input. -/
def fnExactFixedWordsWrong : ChangeSpec := { name := "fnExactFixedWords", fn := fun _ => fun
  | [d1, d2] => { results := [.lit (.bool false)], args := [d1, d2] }
  | _ => none }
def FnExactFixedWordsWrongFalsely : Prop := fnExactFixedWordsRow.holds Try.pinned (OpenSpec.ofChange fnExactFixedWordsWrong)

/- THE SECOND FORM. 'bulk': how many values and letters a reading holds, each counted each time it is reached (what is shared counts as often as it is met; a slice's spare places count too). A statement '..UptoSaid' is the law's where the arguments, and the package variables that the reading takes, are together of bulk at most 1048576: NARROWER than '..Said'. Prove '..Said' where nothing that the law and all that it calls make is longer than what came in: it says more and counts as full. Else prove '..UptoSaid'. A law counts once. -/
mutual
def uptoBulk {H : Type} : DataW H → Nat
  | .lit (.string bytes) => bytes.length + 1
  | .lit _ => 1
  | .nil => 1
  | .ptr d => uptoBulk d + 1
  | .slice elems spare => uptoBulkAll elems + uptoBulkAll spare + 1
  | .agg parts => uptoBulkAll parts + 1
  | .iface _ d => uptoBulk d + 1
  | .map entries => uptoBulkEntries entries + 1
  | .held _ => 1
def uptoBulkAll {H : Type} : List (DataW H) → Nat
  | [] => 0
  | d :: r => uptoBulk d + uptoBulkAll r
def uptoBulkEntries {H : Type} : List (Lit × DataW H) → Nat
  | [] => 0
  | x :: r => uptoBulkEntry x + uptoBulkEntries r
def uptoBulkEntry {H : Type} : Lit × DataW H → Nat
  | (.string bytes, d) => bytes.length + uptoBulk d + 1
  | (_, d) => uptoBulk d + 1
 end
def uptoSmall : (H : Type) → List (DataW H) → Bool := fun _ ds => decide (uptoBulkAll ds ≤ 1048576)
def OpenSpec.upto (s : _root_.Go.ChangeSpec) : _root_.Go.OpenSpec := { _root_.Go.OpenSpec.ofChange s with cond := some uptoSmall }

/-- 'laws.FnExactPullbackAt', WHERE WHAT IT READS IS OF BULK AT MOST 1048576: true; the input reads as it did. -/
def fnExactPullbackAtUptoRow : OpenClaim := { program := "ytimmnnncgnnkgaa", sum := "635f8b815a4fd67e5e92bf35fb19c1641e783b1a2858b8fc5ee2750c38615aa2", func := "loop.example/g02075/laws.FnExactPullbackAt", spec := "fnExactPullbackAt", unfollowed := true, recurses := true, plainKeys := false, apart := false, narrowed := true }
def FnExactPullbackAtUptoSaid : Prop := fnExactPullbackAtUptoRow.holds Try.pinned (OpenSpec.upto fnExactPullbackAtSpec)

/-- 'laws.FnExactNeumannSum', WHERE WHAT IT READS IS OF BULK AT MOST 1048576: true; the input reads as it did. -/
def fnExactNeumannSumUptoRow : OpenClaim := { program := "ytimmnnncgnnkgaa", sum := "635f8b815a4fd67e5e92bf35fb19c1641e783b1a2858b8fc5ee2750c38615aa2", func := "loop.example/g02075/laws.FnExactNeumannSum", spec := "fnExactNeumannSum", unfollowed := true, recurses := true, plainKeys := false, apart := false, narrowed := true }
def FnExactNeumannSumUptoSaid : Prop := fnExactNeumannSumUptoRow.holds Try.pinned (OpenSpec.upto fnExactNeumannSumSpec)

/-- 'laws.FnExactComponentRanks', WHERE WHAT IT READS IS OF BULK AT MOST 1048576: true; the input reads as it did. -/
def fnExactComponentRanksUptoRow : OpenClaim := { program := "ytimmnnncgnnkgaa", sum := "635f8b815a4fd67e5e92bf35fb19c1641e783b1a2858b8fc5ee2750c38615aa2", func := "loop.example/g02075/laws.FnExactComponentRanks", spec := "fnExactComponentRanks", unfollowed := true, recurses := true, plainKeys := false, apart := false, narrowed := true }
def FnExactComponentRanksUptoSaid : Prop := fnExactComponentRanksUptoRow.holds Try.pinned (OpenSpec.upto fnExactComponentRanksSpec)

/-- 'laws.FnExactFormatMoves', WHERE WHAT IT READS IS OF BULK AT MOST 1048576: true; the input reads as it did. -/
def fnExactFormatMovesUptoRow : OpenClaim := { program := "ytimmnnncgnnkgaa", sum := "635f8b815a4fd67e5e92bf35fb19c1641e783b1a2858b8fc5ee2750c38615aa2", func := "loop.example/g02075/laws.FnExactFormatMoves", spec := "fnExactFormatMoves", plainKeys := false, apart := false, narrowed := true }
def FnExactFormatMovesUptoSaid : Prop := fnExactFormatMovesUptoRow.holds Try.pinned (OpenSpec.upto fnExactFormatMovesSpec)

/-- 'laws.FnExactFormatMorphism', WHERE WHAT IT READS IS OF BULK AT MOST 1048576: true; the input reads as it did. -/
def fnExactFormatMorphismUptoRow : OpenClaim := { program := "ytimmnnncgnnkgaa", sum := "635f8b815a4fd67e5e92bf35fb19c1641e783b1a2858b8fc5ee2750c38615aa2", func := "loop.example/g02075/laws.FnExactFormatMorphism", spec := "fnExactFormatMorphism", plainKeys := false, apart := false, narrowed := true }
def FnExactFormatMorphismUptoSaid : Prop := fnExactFormatMorphismUptoRow.holds Try.pinned (OpenSpec.upto fnExactFormatMorphismSpec)

/-- 'laws.FnExactFixedWords', WHERE WHAT IT READS IS OF BULK AT MOST 1048576: true; the input reads as it did. -/
def fnExactFixedWordsUptoRow : OpenClaim := { program := "ytimmnnncgnnkgaa", sum := "635f8b815a4fd67e5e92bf35fb19c1641e783b1a2858b8fc5ee2750c38615aa2", func := "loop.example/g02075/laws.FnExactFixedWords", spec := "fnExactFixedWords", plainKeys := false, apart := false, narrowed := true }
def FnExactFixedWordsUptoSaid : Prop := fnExactFixedWordsUptoRow.holds Try.pinned (OpenSpec.upto fnExactFixedWordsSpec)

end Rows
end Go.Proofs.Ytimmnnncgnnkgaa
