/-
  No cell of these rows narrows 'for every input' (looked for: loops, veiled, ifaces, maps, wideKeys, modest, calm, conditions, laid).
  DERIVED. THE GIVEN ROWS OF THIS SEAT. 6 by the template 'for every input the law returns true; each argument reads behind the call as it read before'; 0 by the template 'total and deterministic' (their statements: YtimmnnncgnnkgaaGreatTotals.lean).
  GIVEN WITH THE SEED: the statements are not yours to turn. If you find one false, say at which input.
  Laid BY PROGRAM, IN A SANDBOX (cutbox-rows.mjs): the forced cells as the released guide's own fill.sh prints them over the translation a3d9f67a201515e7… (all of the seat's roots in one cut). By AI agents, Wed Nov 11 2026. No macro, syntax, notation, axiom, sorry.
-/
import Derived.Test.YtimmnnncgnnkgaaGreatChecked
import GoSem.Claim
import GoSem.ClaimJoined
import GoSem.ClaimMapViews
import Derived.JoinedTies
import Derived.KernelRfl
namespace Go.Proofs.YtimmnnncgnnkgaaGreat
/- THE CELL 'sum', in the pinned program and in every row, IS THE sha256 OF THE DUMP (.gsa) THAT YtimmnnncgnnkgaaGreatProg.lean LOADS. Nothing in Lean hashes anything: it is a label: what it is worth is what the hold of that sum in a sandbox is worth. -/
noncomputable def Tryz.pinned : Pinned := { name := "ytimmnnncgnnkgaagreat", sum := "a3d9f67a201515e7cd0487fc0f19e708f885d7e0a690ae9aa0a7c37a647bcbc5", checked := Tryz.checked }
namespace Rows
def none {H : Type} : Left H := { results := [], args := [] }

/-- 'laws.FnExactSeparateWord': WHATEVER THE INPUT: true; the input reads as it did. -/
def fnExactSeparateWordSpec : ChangeSpec := { name := "fnExactSeparateWord", fn := fun _ => fun
  | [d1, d2] => { results := [.lit (.bool true)], args := [d1, d2] }
  | _ => none }
def fnExactSeparateWordRow : OpenClaim := { program := "ytimmnnncgnnkgaagreat", sum := "a3d9f67a201515e7cd0487fc0f19e708f885d7e0a690ae9aa0a7c37a647bcbc5", func := "loop.example/g02075/laws.FnExactSeparateWord", spec := "fnExactSeparateWord", unfollowed := true, recurses := true, plainKeys := false, apart := false }
def FnExactSeparateWordSaid : Prop := fnExactSeparateWordRow.holds Tryz.pinned (OpenSpec.ofChange fnExactSeparateWordSpec)

/-- ITS FALSE NEIGHBOUR: 'it returns false'. Refute it at one input. -/
def fnExactSeparateWordWrong : ChangeSpec := { name := "fnExactSeparateWord", fn := fun _ => fun
  | [d1, d2] => { results := [.lit (.bool false)], args := [d1, d2] }
  | _ => none }
def FnExactSeparateWordWrongFalsely : Prop := fnExactSeparateWordRow.holds Tryz.pinned (OpenSpec.ofChange fnExactSeparateWordWrong)

/-- 'laws.FnExactPreimageOf': WHATEVER THE INPUT: true; the input reads as it did. -/
def fnExactPreimageOfSpec : ChangeSpec := { name := "fnExactPreimageOf", fn := fun _ => fun
  | [d1, d2] => { results := [.lit (.bool true)], args := [d1, d2] }
  | _ => none }
def fnExactPreimageOfRow : OpenClaim := { program := "ytimmnnncgnnkgaagreat", sum := "a3d9f67a201515e7cd0487fc0f19e708f885d7e0a690ae9aa0a7c37a647bcbc5", func := "loop.example/g02075/laws.FnExactPreimageOf", spec := "fnExactPreimageOf", unfollowed := true, recurses := true, plainKeys := false, apart := false }
def FnExactPreimageOfSaid : Prop := fnExactPreimageOfRow.holds Tryz.pinned (OpenSpec.ofChange fnExactPreimageOfSpec)

/-- ITS FALSE NEIGHBOUR: 'it returns false'. Refute it at one input. -/
def fnExactPreimageOfWrong : ChangeSpec := { name := "fnExactPreimageOf", fn := fun _ => fun
  | [d1, d2] => { results := [.lit (.bool false)], args := [d1, d2] }
  | _ => none }
def FnExactPreimageOfWrongFalsely : Prop := fnExactPreimageOfRow.holds Tryz.pinned (OpenSpec.ofChange fnExactPreimageOfWrong)

/-- 'laws.FnExactSeparateWords': WHATEVER THE INPUT: true; the input reads as it did. -/
def fnExactSeparateWordsSpec : ChangeSpec := { name := "fnExactSeparateWords", fn := fun _ => fun
  | [d1, d2] => { results := [.lit (.bool true)], args := [d1, d2] }
  | _ => none }
def fnExactSeparateWordsRow : OpenClaim := { program := "ytimmnnncgnnkgaagreat", sum := "a3d9f67a201515e7cd0487fc0f19e708f885d7e0a690ae9aa0a7c37a647bcbc5", func := "loop.example/g02075/laws.FnExactSeparateWords", spec := "fnExactSeparateWords", unfollowed := true, recurses := true, plainKeys := false, apart := false }
def FnExactSeparateWordsSaid : Prop := fnExactSeparateWordsRow.holds Tryz.pinned (OpenSpec.ofChange fnExactSeparateWordsSpec)

/-- ITS FALSE NEIGHBOUR: 'it returns false'. Refute it at one input. -/
def fnExactSeparateWordsWrong : ChangeSpec := { name := "fnExactSeparateWords", fn := fun _ => fun
  | [d1, d2] => { results := [.lit (.bool false)], args := [d1, d2] }
  | _ => none }
def FnExactSeparateWordsWrongFalsely : Prop := fnExactSeparateWordsRow.holds Tryz.pinned (OpenSpec.ofChange fnExactSeparateWordsWrong)

/-- 'laws.FnExactMeetConjugate': WHATEVER THE INPUT: true; the input reads as it did. -/
def fnExactMeetConjugateSpec : ChangeSpec := { name := "fnExactMeetConjugate", fn := fun _ => fun
  | [d1, d2, d3] => { results := [.lit (.bool true)], args := [d1, d2, d3] }
  | _ => none }
def fnExactMeetConjugateRow : OpenClaim := { program := "ytimmnnncgnnkgaagreat", sum := "a3d9f67a201515e7cd0487fc0f19e708f885d7e0a690ae9aa0a7c37a647bcbc5", func := "loop.example/g02075/laws.FnExactMeetConjugate", spec := "fnExactMeetConjugate", unfollowed := true, recurses := true, plainKeys := false, apart := false }
def FnExactMeetConjugateSaid : Prop := fnExactMeetConjugateRow.holds Tryz.pinned (OpenSpec.ofChange fnExactMeetConjugateSpec)

/-- ITS FALSE NEIGHBOUR: 'it returns false'. Refute it at one input. -/
def fnExactMeetConjugateWrong : ChangeSpec := { name := "fnExactMeetConjugate", fn := fun _ => fun
  | [d1, d2, d3] => { results := [.lit (.bool false)], args := [d1, d2, d3] }
  | _ => none }
def FnExactMeetConjugateWrongFalsely : Prop := fnExactMeetConjugateRow.holds Tryz.pinned (OpenSpec.ofChange fnExactMeetConjugateWrong)

/-- 'laws.FnExactImageOf': WHATEVER THE INPUT: true; the input reads as it did. -/
def fnExactImageOfSpec : ChangeSpec := { name := "fnExactImageOf", fn := fun _ => fun
  | [d1, d2] => { results := [.lit (.bool true)], args := [d1, d2] }
  | _ => none }
def fnExactImageOfRow : OpenClaim := { program := "ytimmnnncgnnkgaagreat", sum := "a3d9f67a201515e7cd0487fc0f19e708f885d7e0a690ae9aa0a7c37a647bcbc5", func := "loop.example/g02075/laws.FnExactImageOf", spec := "fnExactImageOf", unfollowed := true, recurses := true, plainKeys := false, apart := false }
def FnExactImageOfSaid : Prop := fnExactImageOfRow.holds Tryz.pinned (OpenSpec.ofChange fnExactImageOfSpec)

/-- ITS FALSE NEIGHBOUR: 'it returns false'. Refute it at one input. -/
def fnExactImageOfWrong : ChangeSpec := { name := "fnExactImageOf", fn := fun _ => fun
  | [d1, d2] => { results := [.lit (.bool false)], args := [d1, d2] }
  | _ => none }
def FnExactImageOfWrongFalsely : Prop := fnExactImageOfRow.holds Tryz.pinned (OpenSpec.ofChange fnExactImageOfWrong)

/-- 'laws.FnExactIntersectionOf': WHATEVER THE INPUT: true; the input reads as it did. -/
def fnExactIntersectionOfSpec : ChangeSpec := { name := "fnExactIntersectionOf", fn := fun _ => fun
  | [d1, d2] => { results := [.lit (.bool true)], args := [d1, d2] }
  | _ => none }
def fnExactIntersectionOfRow : OpenClaim := { program := "ytimmnnncgnnkgaagreat", sum := "a3d9f67a201515e7cd0487fc0f19e708f885d7e0a690ae9aa0a7c37a647bcbc5", func := "loop.example/g02075/laws.FnExactIntersectionOf", spec := "fnExactIntersectionOf", unfollowed := true, recurses := true, plainKeys := false, apart := false }
def FnExactIntersectionOfSaid : Prop := fnExactIntersectionOfRow.holds Tryz.pinned (OpenSpec.ofChange fnExactIntersectionOfSpec)

/-- ITS FALSE NEIGHBOUR: 'it returns false'. Refute it at one input. -/
def fnExactIntersectionOfWrong : ChangeSpec := { name := "fnExactIntersectionOf", fn := fun _ => fun
  | [d1, d2] => { results := [.lit (.bool false)], args := [d1, d2] }
  | _ => none }
def FnExactIntersectionOfWrongFalsely : Prop := fnExactIntersectionOfRow.holds Tryz.pinned (OpenSpec.ofChange fnExactIntersectionOfWrong)

/- THE SECOND FORM. 'bulk': how many values and letters a reading holds, each counted each time it is reached (what is shared counts as often as it is met; a slice's spare places count too). A statement '..UptoSaid' is the law's where the arguments, and the package variables that the reading takes, are together of bulk at most 1048576: NARROWER than '..Said'. Prove '..Said' where nothing that the law and all that it calls make is longer than what came in: it says more and counts as full. Else prove '..UptoSaid'. A law counts once. -/
mutual
def uptoBulk {H : Type} : DataW H → Nat
  | .lit (.string bytes) => bytes.length + 1
  | .lit _ => 1
  | .nil => 1
  | .ptr d => uptoBulk d + 1
  | .slice elems spare => uptoBulkAll elems + uptoBulkAll spare + 1
  | .agg parts => uptoBulkAll parts + 1
  | .iface _ d => uptoBulk d + 1
  | .map entries => uptoBulkEntries entries + 1
  | .held _ => 1
def uptoBulkAll {H : Type} : List (DataW H) → Nat
  | [] => 0
  | d :: r => uptoBulk d + uptoBulkAll r
def uptoBulkEntries {H : Type} : List (Lit × DataW H) → Nat
  | [] => 0
  | x :: r => uptoBulkEntry x + uptoBulkEntries r
def uptoBulkEntry {H : Type} : Lit × DataW H → Nat
  | (.string bytes, d) => bytes.length + uptoBulk d + 1
  | (_, d) => uptoBulk d + 1
 end
def uptoSmall : (H : Type) → List (DataW H) → Bool := fun _ ds => decide (uptoBulkAll ds ≤ 1048576)
def OpenSpec.upto (s : _root_.Go.ChangeSpec) : _root_.Go.OpenSpec := { _root_.Go.OpenSpec.ofChange s with cond := some uptoSmall }

/-- 'laws.FnExactSeparateWord', WHERE WHAT IT READS IS OF BULK AT MOST 1048576: true; the input reads as it did. -/
def fnExactSeparateWordUptoRow : OpenClaim := { program := "ytimmnnncgnnkgaagreat", sum := "a3d9f67a201515e7cd0487fc0f19e708f885d7e0a690ae9aa0a7c37a647bcbc5", func := "loop.example/g02075/laws.FnExactSeparateWord", spec := "fnExactSeparateWord", unfollowed := true, recurses := true, plainKeys := false, apart := false, narrowed := true }
def FnExactSeparateWordUptoSaid : Prop := fnExactSeparateWordUptoRow.holds Tryz.pinned (OpenSpec.upto fnExactSeparateWordSpec)

/-- 'laws.FnExactPreimageOf', WHERE WHAT IT READS IS OF BULK AT MOST 1048576: true; the input reads as it did. -/
def fnExactPreimageOfUptoRow : OpenClaim := { program := "ytimmnnncgnnkgaagreat", sum := "a3d9f67a201515e7cd0487fc0f19e708f885d7e0a690ae9aa0a7c37a647bcbc5", func := "loop.example/g02075/laws.FnExactPreimageOf", spec := "fnExactPreimageOf", unfollowed := true, recurses := true, plainKeys := false, apart := false, narrowed := true }
def FnExactPreimageOfUptoSaid : Prop := fnExactPreimageOfUptoRow.holds Tryz.pinned (OpenSpec.upto fnExactPreimageOfSpec)

/-- 'laws.FnExactSeparateWords', WHERE WHAT IT READS IS OF BULK AT MOST 1048576: true; the input reads as it did. -/
def fnExactSeparateWordsUptoRow : OpenClaim := { program := "ytimmnnncgnnkgaagreat", sum := "a3d9f67a201515e7cd0487fc0f19e708f885d7e0a690ae9aa0a7c37a647bcbc5", func := "loop.example/g02075/laws.FnExactSeparateWords", spec := "fnExactSeparateWords", unfollowed := true, recurses := true, plainKeys := false, apart := false, narrowed := true }
def FnExactSeparateWordsUptoSaid : Prop := fnExactSeparateWordsUptoRow.holds Tryz.pinned (OpenSpec.upto fnExactSeparateWordsSpec)

/-- 'laws.FnExactMeetConjugate', WHERE WHAT IT READS IS OF BULK AT MOST 1048576: true; the input reads as it did. -/
def fnExactMeetConjugateUptoRow : OpenClaim := { program := "ytimmnnncgnnkgaagreat", sum := "a3d9f67a201515e7cd0487fc0f19e708f885d7e0a690ae9aa0a7c37a647bcbc5", func := "loop.example/g02075/laws.FnExactMeetConjugate", spec := "fnExactMeetConjugate", unfollowed := true, recurses := true, plainKeys := false, apart := false, narrowed := true }
def FnExactMeetConjugateUptoSaid : Prop := fnExactMeetConjugateUptoRow.holds Tryz.pinned (OpenSpec.upto fnExactMeetConjugateSpec)

/-- 'laws.FnExactImageOf', WHERE WHAT IT READS IS OF BULK AT MOST 1048576: true; the input reads as it did. -/
def fnExactImageOfUptoRow : OpenClaim := { program := "ytimmnnncgnnkgaagreat", sum := "a3d9f67a201515e7cd0487fc0f19e708f885d7e0a690ae9aa0a7c37a647bcbc5", func := "loop.example/g02075/laws.FnExactImageOf", spec := "fnExactImageOf", unfollowed := true, recurses := true, plainKeys := false, apart := false, narrowed := true }
def FnExactImageOfUptoSaid : Prop := fnExactImageOfUptoRow.holds Tryz.pinned (OpenSpec.upto fnExactImageOfSpec)

/-- 'laws.FnExactIntersectionOf', WHERE WHAT IT READS IS OF BULK AT MOST 1048576: true; the input reads as it did. -/
def fnExactIntersectionOfUptoRow : OpenClaim := { program := "ytimmnnncgnnkgaagreat", sum := "a3d9f67a201515e7cd0487fc0f19e708f885d7e0a690ae9aa0a7c37a647bcbc5", func := "loop.example/g02075/laws.FnExactIntersectionOf", spec := "fnExactIntersectionOf", unfollowed := true, recurses := true, plainKeys := false, apart := false, narrowed := true }
def FnExactIntersectionOfUptoSaid : Prop := fnExactIntersectionOfUptoRow.holds Tryz.pinned (OpenSpec.upto fnExactIntersectionOfSpec)

end Rows
end Go.Proofs.YtimmnnncgnnkgaaGreat
