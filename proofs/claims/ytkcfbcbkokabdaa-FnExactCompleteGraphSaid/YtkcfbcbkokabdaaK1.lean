
/- Objects of the laws with the blocks they lie in: int slices. Each step of a law leaves a 'Mid'. -/
import Derived.Test.YtkcfbcbkokabdaaL1
import Derived.Test.YtkcfbcbkokabdaaB2
namespace Go.Proofs.Ytkcfbcbkokabdaa
set_option linter.unusedVariables false
set_option linter.unusedSimpArgs false
open Go.RowKit

/-! ### int slices -/
def RI (w : World) (lo hi : Nat) (A : Option Addr) (xs : List Int) : Prop := RV w lo hi A (ints xs)
def OI (w : World) (lo hi : Nat) (A : Option Addr) (c : Nat) (xs : List Int) : Prop := OV w lo hi 3 1 A c xs.length (ints xs)
theorem RI.mid {w w' : World} {lo hi a b : Nat} {A : Option Addr} {xs : List Int} (h : RI w lo hi A xs) (m : Mid a b w w') (hd : b ≤ lo ∨ hi ≤ a) : RI w' lo hi A xs := RV.mid h m hd
theorem OI.mid {w w' : World} {lo hi a b : Nat} {A : Option Addr} {c : Nat} {xs : List Int} (h : OI w lo hi A c xs) (m : Mid a b w w') (hd : b ≤ lo ∨ hi ≤ a) : OI w' lo hi A c xs := OV.mid h m hd
theorem OI.ri {w : World} {lo hi : Nat} {A : Option Addr} {c : Nat} {xs : List Int} (h : OI w lo hi A c xs) : RI w lo hi A xs := OV.rv h
theorem RI.size {w : World} {lo hi : Nat} {A : Option Addr} {xs : List Int} (h : RI w lo hi A xs) : hi ≤ w.heap.size := h.1
theorem OI.size {w : World} {lo hi : Nat} {A : Option Addr} {c : Nat} {xs : List Int} (h : OI w lo hi A c xs) : hi ≤ w.heap.size := h.1
theorem RI.rs {w : World} {lo hi : Nat} {A : Option Addr} {xs : List Int} (h : RI w lo hi A xs) : Rs w w.heap.size A (ints xs) := (RV.rs h).more h.1

/-- What a step leaves: the value, and that no block that was there has turned. -/
abbrev Stp (v : Value) (w : World) (e : Ending) (w' : World) : Prop := e = .returned v ∧ Mid 0 0 w w'
abbrev StpI (xs : List Int) (w : World) (e : Ending) (w' : World) : Prop := ∃ A c, e = .returned (.slice A xs.length c) ∧ OI w' w.heap.size w'.heap.size A c xs ∧ Mid 0 0 w w'
theorem RetI.stp {xs : List Int} {w : World} {e : Ending} {w' : World} (h : RetI 3 xs w e w') : StpI xs w e w' := by
  obtain ⟨A, c, he, ho, hb⟩ := h
  exact ⟨A, c, he, OV.new ho, Mid.of_below hb⟩

theorem eqI (A A' : Option Addr) (xs : List Int) (c c' : Nat) (w : World) (lo hi lo' hi' : Nat) (h : RI w lo hi A xs) (h' : RI w lo' hi' A' xs) (hl : xs.length ≤ 1048576) :
    Calls Try.prog 29 #[.slice A xs.length c, .slice A' xs.length c'] w (Stp (.bool true) w) :=
  (eqIntS_same A A' xs c c' _ _ w h.rs h'.rs hl).mono fun _ _ ⟨he, n, hw⟩ => ⟨he, hw ▸ (Mid.refl 0 0 w).drewN n⟩
theorem markI (A : Option Addr) (xs : List Int) (c : Nat) (q : Int) (w : World) (lo hi : Nat) (h : OI w lo hi A c xs) (hq : 0 ≤ q) (hq2 : q ≤ 16777216) (hl : xs.length ≤ 1048576) :
    Calls Try.prog 30 #[.slice A xs.length c, .int .i64 q] w fun e w' => e = .returned (.int .i64 (q + xs.length)) ∧ OI w' lo hi A c (marks q xs.length) ∧ Mid lo hi w w' :=
  (markIntS_any A xs c lo q w h.2.1 hq hq2 hl).mono fun e w' ⟨he, ho, hg⟩ => by
    have hm : Mid lo hi w w' := Mid.of_grown hg (fun g hgg => ⟨(h.2.1.lt g hgg).1, h.2.2 g hgg⟩)
    refine ⟨he, ⟨Nat.le_trans h.1 hm.size, ?_, ?_⟩, hm⟩
    · rw [marks_len]; exact ho
    · rw [marks_len]; exact h.2.2
theorem heldI (A : Option Addr) (n c : Nat) (q : Int) (w : World) (lo hi : Nat) (h : OI w lo hi A c (marks q n)) (hq : 0 ≤ q) (hq2 : q ≤ 16777216) (hl : n ≤ 1048576) :
    Calls Try.prog 31 #[.slice A n c, .int .i64 q] w (Stp (.int .i64 (q + n)) w) :=
  (heldIntS_any A n c _ q w h.ri.rs hq hq2 hl).mono fun _ _ ⟨he, hw⟩ => ⟨he, hw ▸ Mid.refl 0 0 w⟩
end Go.Proofs.Ytkcfbcbkokabdaa
