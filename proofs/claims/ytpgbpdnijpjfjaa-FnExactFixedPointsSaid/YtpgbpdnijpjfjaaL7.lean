/- The contracts of the permutations' functions, in the laws' words. -/
import Derived.Test.YtpgbpdnijpjfjaaL6
import Derived.Test.YtpgbpdnijpjfjaaK1
namespace Go.Proofs.Ytpgbpdnijpjfjaa
open Go.RowKit

/-- Every number fits an int. -/
def OkI (xs : List Int) : Prop := ∀ x ∈ xs, -9223372036854775808 ≤ x ∧ x ≤ 9223372036854775807

def IdentityPermutationIs (n : Int) (res : List Int) : Prop := res = upto (min n.toNat 40)
theorem IdentityPermutationIs_ex (n : Int) : ∃ res, IdentityPermutationIs n res := ⟨_, rfl⟩
theorem IdentityPermutationIs_len {n : Int} {res : List Int} (h : IdentityPermutationIs n res) : res.length ≤ 1048576 := by rw [h, upto_len]; omega
theorem sspec_IdentityPermutation (n : Int) (w : World) (_o : (Lit.int .i64 n).wf = true) (res : List Int) (h : IdentityPermutationIs n res) :
    Calls Try.prog 8 #[.int .i64 n] w (StpI res w) := by
  rw [h]
  exact (spec_IdentityPermutation n w).mono fun _ _ h => h.stp
theorem simpl_IdentityPermutation (n : Int) (w : World) (_o : (Lit.int .i64 n).wf = true) (res : List Int) (h : IdentityPermutationIs n res) :
    Calls Try.prog 9 #[.int .i64 n] w (StpI res w) := by
  rw [h]
  exact (impl_IdentityPermutation n w).mono fun _ _ h => h.stp

def IsPermutationIs (p : List Int) (r : Bool) : Prop := r = true ↔ IsPerm p
theorem IsPermutationIs_ex (p : List Int) (_h : p.length ≤ 1048576) : ∃ r, IsPermutationIs p r := by
  by_cases h : IsPerm p
  · exact ⟨true, by simp [IsPermutationIs, h]⟩
  · exact ⟨false, by simp [IsPermutationIs, h]⟩
theorem sspec_IsPermutation (A : Option Addr) (p : List Int) (c : Nat) (w : World) (lo hi : Nat) (h : RI w lo hi A p) (hl : p.length ≤ 1048576) (r : Bool) (hr : IsPermutationIs p r) :
    Calls Try.prog 13 #[.slice A p.length c] w (Stp (.bool r) w) :=
  (spec_IsPermutation A p c _ w h.rs hl r hr).mono fun _ _ ⟨he, n, hw⟩ => ⟨he, hw ▸ (Mid.refl 0 0 w).drewN n⟩
theorem simpl_IsPermutation (A : Option Addr) (p : List Int) (c : Nat) (w : World) (lo hi : Nat) (h : RI w lo hi A p) (hl : p.length ≤ 1048576) (r : Bool) (hr : IsPermutationIs p r) :
    Calls Try.prog 15 #[.slice A p.length c] w (Stp (.bool r) w) :=
  (impl_IsPermutation A p c _ w h.rs (Nat.le_refl _) hl r hr).mono fun _ _ ⟨he, hb⟩ => ⟨he, Mid.of_below hb⟩

def ComposePermutationsIs (p q res : List Int) : Prop := ComposeIs p q res
theorem ComposePermutationsIs_ex (p q : List Int) (_h : p.length ≤ 1048576) (_h' : q.length ≤ 1048576) : ∃ r, ComposePermutationsIs p q r := by
  by_cases h : IsPerm p ∧ IsPerm q ∧ p.length = q.length
  · exact ⟨composeP p q, fun _ => rfl, fun h' => absurd h h'⟩
  · exact ⟨[], fun h' => absurd h' h, fun _ => rfl⟩
theorem ComposePermutationsIs_len {p q res : List Int} (h : ComposePermutationsIs p q res) (hp : p.length ≤ 1048576) (_h' : q.length ≤ 1048576) : res.length ≤ 1048576 := by
  by_cases hg : IsPerm p ∧ IsPerm q ∧ p.length = q.length
  · rw [h.1 hg]; simpa [composeP] using hp
  · rw [h.2 hg]; simp
theorem sspec_ComposePermutations (A : Option Addr) (p : List Int) (c : Nat) (A' : Option Addr) (q : List Int) (c' : Nat) (w : World) (lo hi : Nat) (h : RI w lo hi A p) (hl : p.length ≤ 1048576) (lo' hi' : Nat) (h' : RI w lo' hi' A' q) (hl' : q.length ≤ 1048576) (r : List Int) (hr : ComposePermutationsIs p q r) :
    Calls Try.prog 16 #[.slice A p.length c, .slice A' q.length c'] w (StpI r w) :=
  (spec_Compose A p c _ A' q c' _ w h.rs (Nat.le_refl _) h'.rs (Nat.le_refl _) hl hl' r hr).mono fun _ _ h => h.stp
theorem simpl_ComposePermutations (A : Option Addr) (p : List Int) (c : Nat) (A' : Option Addr) (q : List Int) (c' : Nat) (w : World) (lo hi : Nat) (h : RI w lo hi A p) (hl : p.length ≤ 1048576) (lo' hi' : Nat) (h' : RI w lo' hi' A' q) (hl' : q.length ≤ 1048576) (r : List Int) (hr : ComposePermutationsIs p q r) :
    Calls Try.prog 17 #[.slice A p.length c, .slice A' q.length c'] w (StpI r w) :=
  (impl_Compose A p c _ A' q c' _ w h.rs (Nat.le_refl _) h'.rs (Nat.le_refl _) hl hl' r hr).mono fun _ _ h => h.stp

def InversePermutationIs (p res : List Int) : Prop := InvIs p res
theorem InversePermutationIs_ex (p : List Int) (_h : p.length ≤ 1048576) : ∃ r, InversePermutationIs p r := by
  by_cases h : IsPerm p
  · exact ⟨invK p p.length, fun _ => rfl, fun h' => absurd h h'⟩
  · exact ⟨[], fun h' => absurd h' h, fun _ => rfl⟩
theorem InversePermutationIs_len {p res : List Int} (h : InversePermutationIs p res) (hp : p.length ≤ 1048576) : res.length ≤ 1048576 := by
  by_cases hg : IsPerm p
  · rw [h.1 hg, invK_len]; exact hp
  · rw [h.2 hg]; simp
theorem sspec_InversePermutation (A : Option Addr) (p : List Int) (c : Nat) (w : World) (lo hi : Nat) (h : RI w lo hi A p) (hl : p.length ≤ 1048576) (r : List Int) (hr : InversePermutationIs p r) :
    Calls Try.prog 18 #[.slice A p.length c] w (StpI r w) :=
  (spec_Inverse A p c _ w h.rs (Nat.le_refl _) hl r hr).mono fun _ _ h => h.stp
theorem simpl_InversePermutation (A : Option Addr) (p : List Int) (c : Nat) (w : World) (lo hi : Nat) (h : RI w lo hi A p) (hl : p.length ≤ 1048576) (r : List Int) (hr : InversePermutationIs p r) :
    Calls Try.prog 19 #[.slice A p.length c] w (StpI r w) :=
  (impl_Inverse A p c _ w h.rs (Nat.le_refl _) hl r hr).mono fun _ _ h => h.stp

def FixedPointsIs (p res : List Int) : Prop := FixIs p res
theorem FixedPointsIs_ex (p : List Int) (_h : p.length ≤ 1048576) : ∃ r, FixedPointsIs p r := by
  by_cases h : IsPerm p
  · exact ⟨fixK p p.length, fun _ => rfl, fun h' => absurd h h'⟩
  · exact ⟨[], fun h' => absurd h' h, fun _ => rfl⟩
theorem FixedPointsIs_len {p res : List Int} (h : FixedPointsIs p res) (hp : p.length ≤ 1048576) : res.length ≤ 1048576 := by
  by_cases hg : IsPerm p
  · rw [h.1 hg]; have := fixK_len p p.length; omega
  · rw [h.2 hg]; simp
theorem sspec_FixedPoints (A : Option Addr) (p : List Int) (c : Nat) (w : World) (lo hi : Nat) (h : RI w lo hi A p) (hl : p.length ≤ 1048576) (r : List Int) (hr : FixedPointsIs p r) :
    Calls Try.prog 20 #[.slice A p.length c] w (StpI r w) :=
  (spec_Fixed A p c _ w h.rs (Nat.le_refl _) hl r hr).mono fun _ _ h => h.stp
theorem simpl_FixedPoints (A : Option Addr) (p : List Int) (c : Nat) (w : World) (lo hi : Nat) (h : RI w lo hi A p) (hl : p.length ≤ 1048576) (r : List Int) (hr : FixedPointsIs p r) :
    Calls Try.prog 21 #[.slice A p.length c] w (StpI r w) :=
  (impl_Fixed A p c _ w h.rs (Nat.le_refl _) hl r hr).mono fun _ _ h => h.stp
end Go.Proofs.Ytpgbpdnijpjfjaa
