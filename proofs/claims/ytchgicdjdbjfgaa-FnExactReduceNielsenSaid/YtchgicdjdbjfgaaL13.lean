
/- Contracts of the laws' helpers on morphisms. -/
import Derived.Test.YtchgicdjdbjfgaaL8
namespace Go.Proofs.Ytchgicdjdbjfgaa
set_option linter.unusedVariables false
set_option linter.unusedSimpArgs false
open Go.RowKit

theorem Mid.stored {lo hi : Nat} {a w : World} {p : Addr} (h : Mid lo hi a w) (u : Value) (h1 : lo ≤ p.block) (h2 : p.block < hi) : Mid lo hi a (w.setCell p u) := h.trans (Mid.setCell w u h1 h2)
/-- A morphism's value. -/
def morV (r : Int) (A : Option Addr) (n c : Nat) : Value := .agg #[.int .i64 r, .slice A n c]

set_option maxHeartbeats 800000 in
theorem toMorphism_any (r : Int) (A : Option Addr) (xss : List (List Int)) (c : Nat) (w : World) (lo hi : Nat) (hr : RSS w lo hi A xss) (hsz : xss.length + sumL xss ≤ 1048576) :
    Calls Try.prog 30 #[.agg #[.int .i64 r, .slice A xss.length c]] w fun e w' => ∃ A' c', e = .returned (.agg #[.int .i64 r, .slice A' xss.length c']) ∧
      OSS w' w.heap.size w'.heap.size 27 3 A' c' xss ∧ Mid 0 0 w w' := by
  go_enter Try.func30, Try.ntmps30
  go_wp2_with fail
  have hb0 : Mid 0 0 w (((w.alloc (.cells #[.int .i64 r, .slice A xss.length c] 34)).alloc (.cells #[.int .i64 0, .slice none 0 0] 37)).alloc (.cells #[.int .i64 r, .slice none 0 0] 37)) :=
    ((Mid.alloc _ _).trans (Mid.alloc _ _)).trans (Mid.alloc _ _)
  refine (toIntSS_any A xss c _ _ _ (hr.mid hb0 (Or.inl (Nat.zero_le _))) hsz).mono ?_
  rintro e w1 ⟨A', c', rfl, ho, hm⟩
  have hs1 := hm.size
  simp only [World.size_alloc] at hs1 ho
  have c20 : w1.cell? ⟨w.heap.size + 2, 0, none⟩ = some (.int .i64 r) := (World.cell?_of_block (hm.block _ (by simp) (by omega))).trans (World.cell?_alloc_at _ _ _ _ (by simp))
  have c21 : w1.cell? ⟨w.heap.size + 2, 1, none⟩ = some (.slice none 0 0) := (World.cell?_of_block (hm.block _ (by simp) (by omega))).trans (World.cell?_alloc_at _ _ _ _ (by simp))
  have f2 : ∀ i, w1.frozen? ⟨w.heap.size + 2, i, none⟩ = false := fun i => (World.frozen?_of_block (hm.block _ (by simp) (by omega))).trans (World.frozen?_alloc_at _ _ _ _ (by simp))
  have c10 : w1.cell? ⟨w.heap.size + 1, 0, none⟩ = some (.int .i64 0) := (World.cell?_of_block (hm.block _ (by simp) (by omega))).trans ((World.cell?_alloc_past _ _ _ (by simp)).trans (World.cell?_alloc_at _ _ _ _ (by simp)))
  have c11 : w1.cell? ⟨w.heap.size + 1, 1, none⟩ = some (.slice none 0 0) := (World.cell?_of_block (hm.block _ (by simp) (by omega))).trans ((World.cell?_alloc_past _ _ _ (by simp)).trans (World.cell?_alloc_at _ _ _ _ (by simp)))
  have f1 : ∀ i, w1.frozen? ⟨w.heap.size + 1, i, none⟩ = false := fun i => (World.frozen?_of_block (hm.block _ (by simp) (by omega))).trans ((World.frozen?_alloc_past _ _ _ (by simp)).trans (World.frozen?_alloc_at _ _ _ _ (by simp)))
  go_wp2_with fail
  refine bodyPost_ret (v := .agg #[.int .i64 r, .slice A' xss.length c']) (by simp [results, Try.results30, go_sem, c10, c11, f1]) rfl ⟨A', c', rfl, ?_, ?_⟩
  · refine OSS.wide (OSS.mid ho (a := w.heap.size + 1) (b := w.heap.size + 3) ?_ (Or.inl (by omega))) (by omega) (by simp) (Nat.le_refl _)
    repeat (first | exact Mid.refl _ _ _ | refine Mid.stored ?_ _ (by simp) (by simp))
  · have h := hb0.trans hm
    repeat (first | exact h | refine Mid.storeNew ?_ (by simp; try omega) _)

/-- A morphism as data. -/
structure Mor where
  rank : Int
  imgs : List (List Int)
def Mor.mark (d : Mor) (q : Int) : Mor := ⟨d.rank, markD q d.imgs⟩

set_option maxHeartbeats 800000 in
theorem eqMorphism_same (r : Int) (A A' : Option Addr) (xss : List (List Int)) (c c' : Nat) (w : World) (lo hi lo' hi' : Nat) (hr : RSS w lo hi A xss) (hr' : RSS w lo' hi' A' xss) (hsz : xss.length + sumL xss ≤ 1048576) :
    Calls Try.prog 32 #[.agg #[.int .i64 r, .slice A xss.length c], .agg #[.int .i64 r, .slice A' xss.length c']] w fun e w' => e = .returned (.bool true) ∧ Mid 0 0 w w' := by
  go_enter Try.func32, Try.ntmps32
  go_wp2_with fail
  have hb0 : Mid 0 0 w ((w.alloc (.cells #[.int .i64 r, .slice A xss.length c] 37)).alloc (.cells #[.int .i64 r, .slice A' xss.length c'] 37)) := (Mid.alloc _ _).trans (Mid.alloc _ _)
  with_reducible refine (eqIntSS_same A A' xss c c' _ _ _ _ _ (hr.mid hb0 (Or.inl (Nat.zero_le _))) (hr'.mid hb0 (Or.inl (Nat.zero_le _))) hsz).mono ?_
  rintro e w1 ⟨rfl, n, rfl⟩
  go_wp2_with fail
  go_ret
  exact ⟨rfl, hb0.drewN n⟩

set_option maxHeartbeats 800000 in
theorem markMorphism_any (r : Int) (A : Option Addr) (xss : List (List Int)) (c : Nat) (q : Int) (w : World) (lo hi : Nat) (ho : OSS w lo hi 27 3 A c xss) (hq : 0 ≤ q) (hq2 : q ≤ 4194304) (hsz : xss.length + sumL xss ≤ 1048576) :
    Calls Try.prog 33 #[.agg #[.int .i64 r, .slice A xss.length c], .int .i64 q] w fun e w' => e = .returned (.int .i64 (q + (sumL xss : Int))) ∧ OSS w' lo hi 27 3 A c (markD q xss) ∧ Mid lo hi w w' := by
  go_enter Try.func33, Try.ntmps33
  go_wp2_with fail
  have hb0 : Mid 0 0 w (w.alloc (.cells #[.int .i64 r, .slice A xss.length c] 37)) := Mid.alloc _ _
  with_reducible refine (markIntSS_any A xss c q _ lo hi (ho.mid hb0 (Or.inl (Nat.zero_le _))) hq hq2 hsz).mono ?_
  rintro e w1 ⟨rfl, ho1, hm1⟩
  go_wp2_with fail
  go_ret
  exact ⟨rfl, ho1, hb0.zero.trans hm1⟩

set_option maxHeartbeats 800000 in
theorem szMorphism_any (r : Int) (A : Option Addr) (xss : List (List Int)) (c : Nat) (left : Int) (w : World) (lo hi : Nat) (hr : RSS w lo hi A xss) (hok : LenOk xss) (h0 : 0 ≤ left) (h1 : left ≤ 1048576) :
    Calls Try.prog 28 #[.agg #[.int .i64 r, .slice A xss.length c], .int .i64 left] w fun e w' => e = .returned (.int .i64 (szI left (xss.length + sumL xss))) ∧ Mid 0 0 w w' := by
  have hb0 : Mid 0 0 w (w.alloc (.cells #[.int .i64 r, .slice A xss.length c] 34)) := Mid.alloc _ _
  obtain ⟨z, hz⟩ : ∃ z, z = szI left (xss.length + sumL xss) := ⟨_, rfl⟩
  rw [← hz]
  have hcase : z < 0 ∧ z = -1 ∨ 0 ≤ z := by
    rw [hz]
    unfold szI
    split
    · right; omega
    · left; omega
  rcases hcase with ⟨h2, h3⟩ | h2
  · rw [h3] at hz ⊢
    have HZ := Lib.hid hz
    clear hz h2 h3
    go_enter Try.func28, Try.ntmps28
    go_wp2_with fail
    with_reducible refine (szIntSS_any A xss c left _ lo hi (hr.mid hb0 (Or.inl (Nat.zero_le _))) hok h0 h1 (-1) HZ.out).mono ?_
    rintro e w1 ⟨rfl, rfl⟩
    go_wp2_with fail
    go_ret
    exact ⟨rfl, hb0⟩
  · have HZ := Lib.hid hz
    clear hz
    go_enter Try.func28, Try.ntmps28
    go_wp2_with fail
    with_reducible refine (szIntSS_any A xss c left _ lo hi (hr.mid hb0 (Or.inl (Nat.zero_le _))) hok h0 h1 z HZ.out).mono ?_
    rintro e w1 ⟨rfl, rfl⟩
    go_wp2_with fail
    go_ret
    exact ⟨rfl, hb0⟩
end Go.Proofs.Ytchgicdjdbjfgaa
