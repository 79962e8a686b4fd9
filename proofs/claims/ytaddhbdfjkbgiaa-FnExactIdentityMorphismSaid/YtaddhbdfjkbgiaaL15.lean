/- IdentityMorphism in the laws' words. -/
import Derived.Test.YtaddhbdfjkbgiaaL14
import Derived.Test.YtaddhbdfjkbgiaaK2
namespace Go.Proofs.Ytaddhbdfjkbgiaa
set_option linter.unusedVariables false
open Go.RowKit
def IdentityMorphismIs (n : Int) (r : Int) (res : List (List Int)) (b : Bool) : Prop := idM n = ⟨r, res⟩ ∧ idB n = b
theorem IdentityMorphismIs_ex (n : Int) : ∃ r res b, IdentityMorphismIs n r res b := ⟨(idM n).rank, (idM n).imgs, _, rfl, rfl⟩
theorem idW_sum (n : Nat) : sumL (idW n) = n := by
  induction n with
  | zero => rfl
  | succ k ih => rw [idW_succ, sumL_append, ih]; rfl
theorem IdentityMorphismIs_len {n r : Int} {res : List (List Int)} {b : Bool} (h : IdentityMorphismIs n r res b) : res.length + sumL res ≤ 1048576 := by
  have h1 := congrArg Mor.imgs h.1
  simp only at h1
  rw [← h1]
  unfold idM
  split
  · simp only [idW_len, idW_sum]; omega
  · simp [sumL]
theorem sspec_IdentityMorphism (n : Int) (w : World) (_o : (Lit.int .i64 n).wf = true) (r : Int) (res : List (List Int)) (b : Bool) (h : IdentityMorphismIs n r res b) :
    Calls Try.prog 15 #[.int .i64 n] w fun e w' => ∃ A c, e = .returned (.tuple #[.agg #[.int .i64 r, .slice A res.length c], .bool b]) ∧
      OSS w' w.heap.size w'.heap.size 36 3 A c res ∧ Mid 0 0 w w' := by
  have h1 := spec_IdentityMorphism n w
  rw [h.1, h.2] at h1
  exact h1
theorem simpl_IdentityMorphism (n : Int) (w : World) (_o : (Lit.int .i64 n).wf = true) (r : Int) (res : List (List Int)) (b : Bool) (h : IdentityMorphismIs n r res b) :
    Calls Try.prog 16 #[.int .i64 n] w fun e w' => ∃ A c, e = .returned (.tuple #[.agg #[.int .i64 r, .slice A res.length c], .bool b]) ∧
      OSS w' w.heap.size w'.heap.size 36 3 A c res ∧ Mid 0 0 w w' := by
  have h1 := impl_IdentityMorphism n w
  rw [h.1, h.2] at h1
  exact h1
end Go.Proofs.Ytaddhbdfjkbgiaa
