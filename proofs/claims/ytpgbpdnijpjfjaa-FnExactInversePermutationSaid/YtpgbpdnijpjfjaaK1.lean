/- Objects of the laws with the blocks they lie in: int slices. Each step of a law leaves a 'Mid'. -/
import Derived.Test.YtpgbpdnijpjfjaaL1
import Derived.Test.YtpgbpdnijpjfjaaB2
namespace Go.Proofs.Ytpgbpdnijpjfjaa
open Go.RowKit

theorem Mid.mono {lo hi lo' hi' : Nat} {w w' : World} (h : Mid lo hi w w') (h1 : lo' ≤ lo) (h2 : hi ≤ hi') : Mid lo' hi' w w' :=
  ⟨h.os, h.tape, h.output, h.size, fun k hk hn => h.block k hk (fun hh => hn ⟨by omega, by omega⟩)⟩
theorem below_mid {n a b : Nat} {w0 w w' : World} (h : Below n w0 w) (hs : n ≤ w.heap.size) (m : Mid a b w w') (hn : n ≤ a ∨ b = 0) : Below n w0 w' :=
  h.trans ⟨m.os, m.tape, m.output, m.size, fun k hk => m.block k (by omega) (by omega)⟩

/-- The cells cs at A, in blocks from lo up to hi. -/
def RV (w : World) (lo hi : Nat) (A : Option Addr) (cs : List Value) : Prop :=
  hi ≤ w.heap.size ∧ (cs ≠ [] → ∃ b off, A = some ⟨b, off, none⟩ ∧ lo ≤ b ∧ b < hi ∧ ∀ j u, cs[j]? = some u → w.cell? ⟨b, off + j, none⟩ = some u)
theorem RV.rs {w : World} {lo hi : Nat} {A : Option Addr} {cs : List Value} (h : RV w lo hi A cs) : Rs w hi A cs := fun hn => by
  obtain ⟨b, off, e, _, hb, hc⟩ := h.2 hn
  exact ⟨b, off, e, hb, hc⟩
theorem RV.of_rs {w : World} {hi : Nat} {A : Option Addr} {cs : List Value} (h : Rs w hi A cs) (hs : hi ≤ w.heap.size) : RV w 0 hi A cs := ⟨hs, fun hn => by
  obtain ⟨b, off, e, hb, hc⟩ := h hn
  exact ⟨b, off, e, Nat.zero_le _, hb, hc⟩⟩
theorem RV.mid {w w' : World} {lo hi a b : Nat} {A : Option Addr} {cs : List Value} (h : RV w lo hi A cs) (m : Mid a b w w') (hd : b ≤ lo ∨ hi ≤ a) : RV w' lo hi A cs :=
  ⟨Nat.le_trans h.1 m.size, fun hn => by
    obtain ⟨g, off, e, h1, h2, hc⟩ := h.2 hn
    have hs := h.1
    exact ⟨g, off, e, h1, h2, fun j u hu => (World.cell?_of_block (m.block g (by omega) (by omega))).trans (hc j u hu)⟩⟩
/-- The same, the call's own: a row at the head of a block. -/
def OV (w : World) (lo hi : Nat) (e : TypeId) (size : Nat) (A : Option Addr) (c n : Nat) (cs : List Value) : Prop :=
  hi ≤ w.heap.size ∧ w.ownsRow lo e size (.slice A n c) n cs ∧ ∀ g, Value.ownBlock (.slice A n c) = some g → g < hi
section
variable {w w' : World} {lo hi a b : Nat} {e : TypeId} {size : Nat} {A : Option Addr} {c n : Nat} {cs : List Value}
theorem OV.new {w0 : World} (h : w.ownsRow w0.heap.size e size (.slice A n c) n cs) : OV w w0.heap.size w.heap.size e size A c n cs :=
  ⟨Nat.le_refl _, h, fun g hg => (h.lt g hg).2⟩
theorem OV.mid (h : OV w lo hi e size A c n cs) (m : Mid a b w w') (hd : b ≤ lo ∨ hi ≤ a) : OV w' lo hi e size A c n cs := by
  refine ⟨Nat.le_trans h.1 m.size, ⟨h.2.1.1, ?_⟩, h.2.2⟩
  rcases h.2.1.2 with hn | ⟨g, cap, cur, hv, hbg, hgg, rest⟩
  · exact .inl hn
  · refine .inr ⟨g, cap, cur, hv, hbg, ?_, rest⟩
    have hlt := h.2.2 g (by rw [hv]; rfl)
    rw [m.block g (Array.getElem?_eq_some_iff.1 hgg).1 (by omega)]
    exact hgg
theorem OV.rv (h : OV w lo hi e size A c n cs) : RV w lo hi A cs := ⟨h.1, fun hn => by
  obtain ⟨g, off, hA, _, hc⟩ := Rs.of_own h.2.1 hn
  have hg : Value.ownBlock (.slice A n c) = some g := by rw [hA]; rfl
  exact ⟨g, off, hA, (h.2.1.lt g hg).1, h.2.2 g hg, hc⟩⟩
end

/-! ### int slices -/
def RI (w : World) (lo hi : Nat) (A : Option Addr) (xs : List Int) : Prop := RV w lo hi A (ints xs)
def OI (w : World) (lo hi : Nat) (A : Option Addr) (c : Nat) (xs : List Int) : Prop := OV w lo hi 3 1 A c xs.length (ints xs)
theorem RI.mid {w w' : World} {lo hi a b : Nat} {A : Option Addr} {xs : List Int} (h : RI w lo hi A xs) (m : Mid a b w w') (hd : b ≤ lo ∨ hi ≤ a) : RI w' lo hi A xs := RV.mid h m hd
theorem OI.mid {w w' : World} {lo hi a b : Nat} {A : Option Addr} {c : Nat} {xs : List Int} (h : OI w lo hi A c xs) (m : Mid a b w w') (hd : b ≤ lo ∨ hi ≤ a) : OI w' lo hi A c xs := OV.mid h m hd
theorem OI.ri {w : World} {lo hi : Nat} {A : Option Addr} {c : Nat} {xs : List Int} (h : OI w lo hi A c xs) : RI w lo hi A xs := OV.rv h
theorem RI.size {w : World} {lo hi : Nat} {A : Option Addr} {xs : List Int} (h : RI w lo hi A xs) : hi ≤ w.heap.size := h.1
theorem OI.size {w : World} {lo hi : Nat} {A : Option Addr} {c : Nat} {xs : List Int} (h : OI w lo hi A c xs) : hi ≤ w.heap.size := h.1
theorem RI.rs {w : World} {lo hi : Nat} {A : Option Addr} {xs : List Int} (h : RI w lo hi A xs) : Rs w w.heap.size A (ints xs) := (RV.rs h).more h.1

/-- What a step leaves: the value, and that no block that was there has turned. -/
def Stp (v : Value) (w : World) (e : Ending) (w' : World) : Prop := e = .returned v ∧ Mid 0 0 w w'
def StpI (xs : List Int) (w : World) (e : Ending) (w' : World) : Prop := ∃ A c, e = .returned (.slice A xs.length c) ∧ OI w' w.heap.size w'.heap.size A c xs ∧ Mid 0 0 w w'
theorem RetI.stp {xs : List Int} {w : World} {e : Ending} {w' : World} (h : RetI 3 xs w e w') : StpI xs w e w' := by
  obtain ⟨A, c, he, ho, hb⟩ := h
  exact ⟨A, c, he, OV.new ho, Mid.of_below hb⟩

theorem toI (A : Option Addr) (xs : List Int) (c : Nat) (w : World) (lo hi : Nat) (h : RI w lo hi A xs) (hl : xs.length ≤ 1048576) :
    Calls Try.prog 14 #[.slice A xs.length c] w (StpI xs w) :=
  (toIntS_any A xs c w h.rs hl).mono fun _ _ ⟨he, ho, hb⟩ => ⟨_, _, he, OV.new ho, Mid.of_below hb⟩
theorem eqI (A A' : Option Addr) (xs : List Int) (c c' : Nat) (w : World) (lo hi lo' hi' : Nat) (h : RI w lo hi A xs) (h' : RI w lo' hi' A' xs) (hl : xs.length ≤ 1048576) :
    Calls Try.prog 10 #[.slice A xs.length c, .slice A' xs.length c'] w (Stp (.bool true) w) :=
  (eqIntS_same A A' xs c c' _ _ w h.rs h'.rs hl).mono fun _ _ ⟨he, n, hw⟩ => ⟨he, hw ▸ (Mid.refl 0 0 w).drewN n⟩
theorem markI (A : Option Addr) (xs : List Int) (c : Nat) (q : Int) (w : World) (lo hi : Nat) (h : OI w lo hi A c xs) (hq : 0 ≤ q) (hq2 : q ≤ 4194304) (hl : xs.length ≤ 1048576) :
    Calls Try.prog 11 #[.slice A xs.length c, .int .i64 q] w fun e w' => e = .returned (.int .i64 (q + xs.length)) ∧ OI w' lo hi A c (marks q xs.length) ∧ Mid lo hi w w' :=
  (markIntS_any A xs c lo q w h.2.1 hq hq2 hl).mono fun e w' ⟨he, ho, hg⟩ => by
    have hm : Mid lo hi w w' := Mid.of_grown hg (fun g hgg => ⟨(h.2.1.lt g hgg).1, h.2.2 g hgg⟩)
    refine ⟨he, ⟨Nat.le_trans h.1 hm.size, ?_, ?_⟩, hm⟩
    · rw [marks_len]; exact ho
    · rw [marks_len]; exact h.2.2
theorem heldI (A : Option Addr) (n c : Nat) (q : Int) (w : World) (lo hi : Nat) (h : OI w lo hi A c (marks q n)) (hq : 0 ≤ q) (hq2 : q ≤ 4194304) (hl : n ≤ 1048576) :
    Calls Try.prog 12 #[.slice A n c, .int .i64 q] w (Stp (.int .i64 (q + n)) w) :=
  (heldIntS_any A n c _ q w h.ri.rs hq hq2 hl).mono fun _ _ ⟨he, hw⟩ => ⟨he, hw ▸ Mid.refl 0 0 w⟩
end Go.Proofs.Ytpgbpdnijpjfjaa
