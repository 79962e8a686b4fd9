
/- ApplyMove, both sides, all cases. -/
import Derived.Test.YtchgicdjdbjfgaaL29b
import Derived.Test.YtchgicdjdbjfgaaL29c
import Derived.Test.YtchgicdjdbjfgaaL29d
namespace Go.Proofs.Ytchgicdjdbjfgaa
set_option linter.unusedVariables false
set_option linter.unusedSimpArgs false
open Go.RowKit

theorem impl_ApplyMove (A : Option Addr) (d : List (List Int)) (c : Nat) (m : Mv) (w : World) (lo hi : Nat) (hr : RSS w lo hi A d) (hok : ∀ xs ∈ d, OkI xs) (hl : d.length + sumL d ≤ 1048576) :
    Calls Try.prog 84 #[.slice A d.length c, m.v] w (RetMv d m w) := by
  by_cases h0 : 0 ≤ m.i ∧ m.i < d.length
  · obtain ⟨kd, i, j, s⟩ := m
    simp only at h0
    obtain ⟨n, rfl⟩ : ∃ n : Nat, i = (n : Int) := ⟨i.toNat, by omega⟩
    have hn : n < d.length := by omega
    by_cases h1 : kd = 1
    · subst h1; exact impl_ApplyMove_1 A d c n j s w lo hi hr hok hl hn
    by_cases h4 : kd = 4
    · subst h4
      by_cases hx : (rowAt d n).length = 0
      · exact impl_ApplyMove_4t A d c n j s w lo hi hr hok hl hn hx
      · exact impl_ApplyMove_4f A d c n j s w lo hi hr hok hl hn (by omega)
    by_cases h23 : kd = 2 ∨ kd = 3
    · by_cases hb : MvOk d ⟨kd, n, j, s⟩
      · exact impl_ApplyMove_g A d c kd n j s w lo hi hr hok hl hn h23 hb.2.2.1 hb
      · exact impl_ApplyMove_b A d c kd n j s w lo hi hr hok hl hn h23 hb
    · exact impl_ApplyMove_n A d c kd n j s w lo hi hr hok hl hn (by simpa using h1) (by simpa using h4) (by simp; omega) (by simp; omega)
  · exact impl_ApplyMove_a A d c m w lo hi hr hok hl h0
theorem spec_ApplyMove (A : Option Addr) (d : List (List Int)) (c : Nat) (m : Mv) (w : World) (lo hi : Nat) (hr : RSS w lo hi A d) (hok : ∀ xs ∈ d, OkI xs) (hl : d.length + sumL d ≤ 1048576) :
    Calls Try.prog 82 #[.slice A d.length c, m.v] w (RetMv d m w) := by
  by_cases h0 : 0 ≤ m.i ∧ m.i < d.length
  · obtain ⟨kd, i, j, s⟩ := m
    simp only at h0
    obtain ⟨n, rfl⟩ : ∃ n : Nat, i = (n : Int) := ⟨i.toNat, by omega⟩
    have hn : n < d.length := by omega
    by_cases h1 : kd = 1
    · subst h1; exact spec_ApplyMove_1 A d c n j s w lo hi hr hok hl hn
    by_cases h4 : kd = 4
    · subst h4
      by_cases hx : (rowAt d n).length = 0
      · exact spec_ApplyMove_4t A d c n j s w lo hi hr hok hl hn hx
      · exact spec_ApplyMove_4f A d c n j s w lo hi hr hok hl hn (by omega)
    by_cases hb : MvOk d ⟨kd, n, j, s⟩
    · by_cases h23 : kd = 2 ∨ kd = 3
      · exact spec_ApplyMove_g A d c kd n j s w lo hi hr hok hl hn h23 hb.2.2.1 hb
      · exact spec_ApplyMove_n A d c kd n j s w lo hi hr hok hl hn (by simpa using h1) (by simpa using h4) (by simp; omega) (by simp; omega) hb
    · exact spec_ApplyMove_b A d c kd n j s w lo hi hr hok hl hn (by simpa using h1) (by simpa using h4) hb
  · exact spec_ApplyMove_a A d c m w lo hi hr hok hl h0
end Go.Proofs.Ytchgicdjdbjfgaa
