
/- Objects of the laws with the blocks they lie in: slices of slices, morphisms. -/
import Derived.Test.YtchgicdjdbjfgaaL13
import Derived.Test.YtchgicdjdbjfgaaO
import Derived.Test.YtchgicdjdbjfgaaK1
import Derived.Test.YtchgicdjdbjfgaaB3
namespace Go.Proofs.Ytchgicdjdbjfgaa
set_option linter.unusedVariables false
set_option linter.unusedSimpArgs false
open Go.RowKit

theorem toSS (A : Option Addr) (xss : List (List Int)) (c : Nat) (w : World) (lo hi : Nat) (hr : RSS w lo hi A xss) (hsz : xss.length + sumL xss ≤ 1048576) :
    Calls Try.prog 17 #[.slice A xss.length c] w fun e w' => ∃ A c, e = .returned (.slice A xss.length c) ∧ OSS w' w.heap.size w'.heap.size 27 3 A c xss ∧ Mid 0 0 w w' := toIntSS_any A xss c w lo hi hr hsz
theorem eqSS (A A' : Option Addr) (xss : List (List Int)) (c c' : Nat) (w : World) (lo hi lo' hi' : Nat) (hr : RSS w lo hi A xss) (hr' : RSS w lo' hi' A' xss) (hsz : xss.length + sumL xss ≤ 1048576) :
    Calls Try.prog 19 #[.slice A xss.length c, .slice A' xss.length c'] w (Stp (.bool true) w) :=
  (eqIntSS_same A A' xss c c' w lo hi lo' hi' hr hr' hsz).mono fun _ _ ⟨he, n, hw⟩ => ⟨he, hw ▸ (Mid.refl 0 0 w).drewN n⟩
theorem heldSS (A : Option Addr) (xss : List (List Int)) (c : Nat) (q : Int) (w : World) (lo hi : Nat) (hr : RSS w lo hi A (markD q xss)) (hq : 0 ≤ q) (hq2 : q ≤ 4194304) (hsz : xss.length + sumL xss ≤ 1048576) :
    Calls Try.prog 35 #[.slice A xss.length c, .int .i64 q] w (Stp (.int .i64 (q + (sumL xss : Int))) w) :=
  (heldIntSS_any A xss c q w lo hi hr hq hq2 hsz).mono fun _ _ ⟨he, hw⟩ => ⟨he, hw ▸ Mid.refl 0 0 w⟩
theorem OkSS.len {d : List (List Int)} (h : OkSS d) : LenOk d := h.1
theorem szI_case (left : Int) (n : Nat) : szI left n = -1 ∨ ((n : Int) ≤ left ∧ szI left n = left - n) := by
  unfold szI
  split
  · right; exact ⟨by assumption, rfl⟩
  · left; rfl
end Go.Proofs.Ytchgicdjdbjfgaa
