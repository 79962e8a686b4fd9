
/- ApplyMove in the laws' words. -/
import Derived.Test.YtchgicdjdbjfgaaL30
import Derived.Test.YtchgicdjdbjfgaaK2
namespace Go.Proofs.Ytchgicdjdbjfgaa
set_option linter.unusedVariables false
set_option linter.unusedSimpArgs false
open Go.RowKit

def ApplyMoveIs (d : List (List Int)) (m : Mv) (res : List (List Int)) (b : Bool) : Prop := applyM d m = (res, b)
theorem ApplyMoveIs_ex (d : List (List Int)) (m : Mv) (_ : OkSS d) (_ : d.length + sumL d ≤ 1048576) : ∃ res b, ApplyMoveIs d m res b := ⟨_, _, rfl⟩
theorem applyM_len (d : List (List Int)) (m : Mv) : (applyM d m).1.length + sumL (applyM d m).1 ≤ d.length + sumL d + sumL d := by
  by_cases h0 : 0 ≤ m.i ∧ m.i < d.length
  · obtain ⟨kd, i, j, s⟩ := m
    simp only at h0
    obtain ⟨n, rfl⟩ : ∃ n : Nat, i = (n : Int) := ⟨i.toNat, by omega⟩
    have hn : n < d.length := by omega
    obtain ⟨xs, hx⟩ := get_of_lt d hn
    by_cases h1 : kd = 1
    · subst h1
      rw [applyM_1 hx]
      have := sumL_set (ys := invW xs) hx
      rw [invW_len] at this
      simp
      omega
    by_cases h4 : kd = 4
    · subst h4
      rw [applyM_4 hx]
      split
      · show d.length + sumL d ≤ _
        omega
      · have := sumL_erase hx
        simp only [List.length_eraseIdx_of_lt hn]
        omega
    by_cases hb : (kd = 2 ∨ kd = 3) ∧ MvOk d ⟨kd, n, j, s⟩
    · obtain ⟨h23, hb⟩ := hb
      obtain ⟨g1, g2, g3, g4⟩ := hb
      simp at g1 g2 g3 g4
      obtain ⟨n', rfl⟩ : ∃ n' : Nat, j = (n' : Int) := ⟨j.toNat, by omega⟩
      obtain ⟨ys, hy⟩ := get_of_lt d (show n' < d.length by omega)
      rw [applyM_23 hx hy h23 (by omega) g4]
      have hz : (if s < 0 then invW ys else ys).length = ys.length := by split <;> simp [invW_len]
      obtain ⟨zs, hzs⟩ : ∃ zs, zs = (if kd = 2 then xs ++ (if s < 0 then invW ys else ys) else (if s < 0 then invW ys else ys) ++ xs) := ⟨_, rfl⟩
      have hl : zs.length = xs.length + ys.length := by
        rw [hzs]
        split
        · rw [List.length_append, hz]
        · rw [List.length_append, hz]; omega
      rw [← hzs]
      have hs := sumL_set (ys := red [] zs) hx
      have hr := red_nil_len zs
      have h2 := len_le_sumL (List.mem_of_getElem? hy)
      simp
      omega
    · rw [applyM_bad (m := ⟨kd, n, j, s⟩) h1 h4 (by by_cases h : MvOk d ⟨kd, n, j, s⟩; (right; simp; constructor <;> (intro hk; exact hb ⟨by omega, h⟩)); (left; exact h))]
      show d.length + sumL d ≤ _
      omega
  · rw [applyM_out h0]
    show d.length + sumL d ≤ _
    omega
theorem ApplyMoveIs_len {d : List (List Int)} {m : Mv} {res : List (List Int)} {b : Bool} (h : ApplyMoveIs d m res b) (_ : OkSS d) (hl : d.length + sumL d ≤ 1048576) : res.length + sumL res ≤ 4194304 := by
  have := applyM_len d m
  rw [show applyM d m = (res, b) from h] at this
  have h2 : res.length + sumL res ≤ d.length + sumL d + sumL d := this
  omega
theorem sspec_ApplyMove (A : Option Addr) (d : List (List Int)) (c : Nat) (m : Mv) (w : World) (lo hi : Nat) (h : RSS w lo hi A d) (ho : OkSS d) (hl : d.length + sumL d ≤ 1048576) (_ : True) (res : List (List Int)) (b : Bool) (hres : ApplyMoveIs d m res b) :
    Calls Try.prog 82 #[.slice A d.length c, m.v] w fun e w' => ∃ A2 c2, e = .returned (.tuple #[.slice A2 res.length c2, .bool b]) ∧ OSS w' w.heap.size w'.heap.size 27 3 A2 c2 res ∧ Mid 0 0 w w' := by
  have := spec_ApplyMove A d c m w lo hi h ho.2 hl
  unfold RetMv at this
  rw [show applyM d m = (res, b) from hres] at this
  exact this
theorem simpl_ApplyMove (A : Option Addr) (d : List (List Int)) (c : Nat) (m : Mv) (w : World) (lo hi : Nat) (h : RSS w lo hi A d) (ho : OkSS d) (hl : d.length + sumL d ≤ 1048576) (_ : True) (res : List (List Int)) (b : Bool) (hres : ApplyMoveIs d m res b) :
    Calls Try.prog 84 #[.slice A d.length c, m.v] w fun e w' => ∃ A2 c2, e = .returned (.tuple #[.slice A2 res.length c2, .bool b]) ∧ OSS w' w.heap.size w'.heap.size 27 3 A2 c2 res ∧ Mid 0 0 w w' := by
  have := impl_ApplyMove A d c m w lo hi h ho.2 hl
  unfold RetMv at this
  rw [show applyM d m = (res, b) from hres] at this
  exact this
end Go.Proofs.Ytchgicdjdbjfgaa
