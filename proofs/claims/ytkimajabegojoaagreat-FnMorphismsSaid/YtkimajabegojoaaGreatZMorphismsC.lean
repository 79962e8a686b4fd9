
import Derived.Test.YtkimajabegojoaaGreatEMorphismsC
import Derived.Test.YtkimajabegojoaaGreatMo15

/- For every input the law FnMorphisms returns true, and its arguments read as before. No conditions. -/
namespace Go.Proofs.YtkimajabegojoaaGreat.fnMorphisms
open Go.ChangeShapes Go.WideShapes Go.ChangeAt Go.RowKit
set_option linter.unusedVariables false

theorem own : ownKnob Tryz.prog.godebug = none := by kernel_rfl
theorem laidOut : laidOutB Tryz.prog = true := by kernel_rfl

set_option maxRecDepth 100000 in
theorem lifted (os : Os) (a1 : os.Started) (H : Type) (enc : TypeId × Value → H) :
    ReturnsInHanded {} Tryz.checked os 5 .any (Rows.fnMorphismsSpec.pre6 enc Tryz.prog Tryz.f5 Rows.fnMorphismsRow.domain false) (Rows.fnMorphismsSpec.post enc Tryz.prog Tryz.f5 false true false false) := by
  refine returnsInHanded_of_change (C := Tryz.checked) own a1 oK Tryz.func5
    (ChangeSpec.witness6 (enc := enc) (C := Tryz.checked) false ⟨#[], #[.slice none 0 0], []⟩ 8 oK oK oK oK) ?_
  intro W base a0 ds gs a4 a2 hW a8 _
  have a3 : ∀ (j : Nat) t v, Tryz.f5.params[j]? = some t → a0[j]? = some v → Value.okWide Tryz.prog W .any base t v := a2
  have a7 := hW
  obtain ⟨p, q, a5, hV, rfl, aC, aD⟩ := hW
  have hA : DataW.TrodAll enc Tryz.prog W 0 (fun _ => true) true Tryz.f5.params.toList a0.toList ds p := a5
  rw [Tryz.params5] at hA a3
  obtain ⟨v0, aE, d0, aB, p0, q0, a6, rfl, rfl, h0, r0⟩ := trodAll_cons hA
  obtain ⟨rfl, rfl, rfl⟩ := trodAll_nil r0
  obtain rfl : a0 = #[v0] := by cases a0; simp_all
  obtain ⟨rfl, rfl⟩ := trodVars_none hV
  have k0 := h0
  have a9 : ∀ x ∈ p0, x.block < W.heap.size := by obtain ⟨m, hm⟩ := k0; exact DataW.trod_lt m _ _ _ hm
  obtain ⟨A0, aA, c0, rfl, w0, b0, l0⟩ := open_byteS undSU6 undU6 cellsU (a3 0 22 v0 rfl rfl) h0
  clear a5 a2
  refine (walk_Morphisms A0 aA c0 W w0 b0 l0).mono fun e W' ⟨he, bel⟩ => ?_
  subst he
  exact ⟨_, rfl, _, _, _, [], _, [], a7, trodAll_mk1 (shut_bool Tryz.underlying4 _), (trodAll_cons_mk (Below.trod laidOut oK (of_decide_eq_true oK) k0 bel a9) trodAll_mk0), rfl, bel.frame _, fun h => by cases h⟩

theorem over : Rows.fnMorphismsRow.holds Tryz.pinned (OpenSpec.ofChange Rows.fnMorphismsSpec) :=
  OpenClaim.holds_of_wide 5 Tryz.f5 rfl rfl rfl rfl rfl rfl rfl ⟨rfl, rfl, rfl, rfl, rfl⟩ rfl rfl rfl rfl rfl oK Tryz.func5 oK
    (of_decide_eq_true oK) (by unfold Func.isWrapper; first | (rw [if_pos (by decide +kernel)]; kernel_rfl) | (rw [if_neg (by decide +kernel)]; exact ⟨rfl, rfl⟩))
    (fun os started H enc _ => lifted os started H enc)

/-- The statement. -/
theorem proved : Rows.FnMorphismsSaid := over
#print axioms proved
end Go.Proofs.YtkimajabegojoaaGreat.fnMorphisms
