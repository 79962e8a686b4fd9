
/- Edges: their order and their places, both sides. -/
import Derived.Test.YtkcfbcbkokabdaaL11
import Derived.Test.YtkcfbcbkokabdaaM12
import Derived.Test.YtkcfbcbkokabdaaB4
import Derived.Test.YtkcfbcbkokabdaaB5
namespace Go.Proofs.Ytkcfbcbkokabdaa
set_option linter.unusedVariables false
set_option linter.unusedSimpArgs false
open Go.RowKit

abbrev Ed.v (e : Ed) : Value := .agg #[.int .i64 e.a, .int .i64 e.l, .int .i64 e.b]
/-- An edge lies in a graph. -/
def edB (r s : Int) (e : Ed) : Bool := inB e.a 0 (wrap64 (s - 1)) && inB e.b 0 (wrap64 (s - 1)) && inB e.l 1 r
/-- The cells of an edge of a slice. -/
theorem RV.ed {w : World} {lo hi : Nat} {A : Option Addr} {es : List Ed} {k : Nat} (h : RV w lo hi A (ints (edI es))) (hk : k < es.length) :
    ∃ b off e, A = some ⟨b, off, none⟩ ∧ lo ≤ b ∧ b < hi ∧ es[k]? = some e ∧ w.cell? ⟨b, off + k * 3, none⟩ = some (.int .i64 e.a) ∧ w.cell? ⟨b, off + k * 3 + 1, none⟩ = some (.int .i64 e.l) ∧ w.cell? ⟨b, off + k * 3 + 2, none⟩ = some (.int .i64 e.b) := by
  obtain ⟨e, he⟩ := get_of_lt es hk
  obtain ⟨g0, g1, g2⟩ := edI_at he
  obtain ⟨b, off, hA, h1, h2, hc⟩ := h.2 (by intro h0; have := congrArg List.length h0; rw [ints_len, edI_len] at this; simp at this; omega)
  exact ⟨b, off, e, hA, h1, h2, he, hc (k * 3) _ (by rw [ints_get, g0]; rfl), hc (k * 3 + 1) _ (by rw [ints_get, g1]; rfl), hc (k * 3 + 2) _ (by rw [ints_get, g2]; rfl)⟩

set_option maxHeartbeats 400000 in
theorem impl_has (r s : Int) (A : Option Addr) (n c : Nat) (x : Int) (w : World) (b : Bool) (hb : inB x 0 (wrap64 (s - 1)) = b) :
    Calls Try.prog 52 #[.agg #[.int .i64 r, .int .i64 s, .slice A n c], .int .i64 x] w fun e w' => e = .returned (.bool b) ∧ Mid 0 0 w w' := by
  subst hb
  go_enter Try.func52, Try.ntmps52
  go_wp2_with fail
  with_reducible refine (within_any _ _ _ _).mono ?_
  rintro e w' ⟨rfl, rfl⟩
  go_wp2_with fail
  go_ret
  exact ⟨rfl, Mid.alloc _ _⟩

set_option maxHeartbeats 800000 in
theorem impl_accepts (r s : Int) (A : Option Addr) (n c : Nat) (e : Ed) (w : World) :
    Calls Try.prog 64 #[.agg #[.int .i64 r, .int .i64 s, .slice A n c], e.v] w fun en w' => en = .returned (.bool (edB r s e)) ∧ Mid 0 0 w w' := by
  obtain ⟨a, l, b⟩ := e
  have hm0 : Mid 0 0 w ((w.alloc (.cells #[.int .i64 r, .int .i64 s, .slice A n c] 29)).alloc (.cells #[.int .i64 a, .int .i64 l, .int .i64 b] 48)) := (Mid.alloc _ _).trans (Mid.alloc _ _)
  have B0 := (Box.new w #[.int .i64 r, .int .i64 s, .slice A n c] 29).mid (Mid.alloc _ (.cells #[.int .i64 a, .int .i64 l, .int .i64 b] 48)) (Or.inr (Nat.zero_le _))
  have B1 := Box.new (w.alloc (.cells #[.int .i64 r, .int .i64 s, .slice A n c] 29)) #[.int .i64 a, .int .i64 l, .int .i64 b] 48
  cases h1 : inB a 0 (wrap64 (s - 1)) with
  | false =>
    have hv : edB r s ⟨a, l, b⟩ = false := by simp [edB, h1]
    rw [hv]
    clear hv B0 B1
    go_enter Try.func64, Try.ntmps64
    go_wp2_with fail
    with_reducible refine (impl_has _ _ _ _ _ _ _ _ h1).mono ?_
    rintro en w1 ⟨rfl, hm1⟩
    go_wp2_with fail
    go_ret
    exact ⟨rfl, hm0.trans hm1⟩
  | true =>
    cases h2 : inB b 0 (wrap64 (s - 1)) with
    | false =>
      have hv : edB r s ⟨a, l, b⟩ = false := by simp [edB, h2]
      rw [hv]
      clear hv
      go_enter Try.func64, Try.ntmps64
      go_wp2_with fail
      with_reducible refine (impl_has _ _ _ _ _ _ _ _ h1).mono ?_
      rintro en w1 ⟨rfl, hm1⟩
      have C0 := B0.mid hm1 (Or.inr (Nat.zero_le _))
      have C1 := B1.mid hm1 (Or.inr (Nat.zero_le _))
      have c00 := C0.cell 0 rfl
      have c01 := C0.cell 1 rfl
      have c02 := C0.cell 2 rfl
      have c10 := C1.cell 0 rfl
      have c11 := C1.cell 1 rfl
      have c12 := C1.cell 2 rfl
      simp only [World.size_alloc] at c10 c11 c12
      go_wp2_with fail
      with_reducible refine (impl_has _ _ _ _ _ _ _ _ h2).mono ?_
      rintro en w2 ⟨rfl, hm2⟩
      go_wp2_with fail
      go_ret
      exact ⟨rfl, (hm0.trans hm1).trans hm2⟩
    | true =>
      have hv : edB r s ⟨a, l, b⟩ = inB l 1 r := by simp [edB, h1, h2]
      rw [hv]
      clear hv
      go_enter Try.func64, Try.ntmps64
      go_wp2_with fail
      with_reducible refine (impl_has _ _ _ _ _ _ _ _ h1).mono ?_
      rintro en w1 ⟨rfl, hm1⟩
      have C0 := B0.mid hm1 (Or.inr (Nat.zero_le _))
      have C1 := B1.mid hm1 (Or.inr (Nat.zero_le _))
      have c00 := C0.cell 0 rfl
      have c01 := C0.cell 1 rfl
      have c02 := C0.cell 2 rfl
      have c10 := C1.cell 0 rfl
      have c11 := C1.cell 1 rfl
      have c12 := C1.cell 2 rfl
      simp only [World.size_alloc] at c10 c11 c12
      go_wp2_with fail
      with_reducible refine (impl_has _ _ _ _ _ _ _ _ h2).mono ?_
      rintro en w2 ⟨rfl, hm2⟩
      have D0 := C0.mid hm2 (Or.inr (Nat.zero_le _))
      have D1 := C1.mid hm2 (Or.inr (Nat.zero_le _))
      have d00 := D0.cell 0 rfl
      have d11 := D1.cell 1 rfl
      simp only [World.size_alloc] at d11
      go_wp2_with fail
      with_reducible refine (within_any _ _ _ _).mono ?_
      rintro en w3 ⟨rfl, rfl⟩
      go_wp2_with fail
      go_ret
      exact ⟨rfl, (hm0.trans hm1).trans hm2⟩

set_option maxHeartbeats 800000 in
theorem spec_l4Edge (r s : Int) (A : Option Addr) (n c : Nat) (e : Ed) (w : World) :
    Calls Try.prog 60 #[.agg #[.int .i64 r, .int .i64 s, .slice A n c], e.v] w fun en w' => en = .returned (.bool (edB r s e)) ∧ Mid 0 0 w w' := by
  obtain ⟨a, l, b⟩ := e
  have hm0 : Mid 0 0 w ((w.alloc (.cells #[.int .i64 r, .int .i64 s, .slice A n c] 29)).alloc (.cells #[.int .i64 a, .int .i64 l, .int .i64 b] 48)) := (Mid.alloc _ _).trans (Mid.alloc _ _)
  have hL : ∀ x lo hi (W : World) (b : Bool), inB x lo hi = b → Calls Try.prog 49 #[.int .i64 x, .int .i64 lo, .int .i64 hi] W fun e w' => e = .returned (.bool b) ∧ W = w' := fun x lo hi W b h => h ▸ l1In_any x lo hi W
  cases h1 : inB a 0 (wrap64 (s - 1)) with
  | false =>
    have hv : edB r s ⟨a, l, b⟩ = false := by simp [edB, h1]
    rw [hv]
    clear hv
    go_enter Try.func60, Try.ntmps60
    go_wp2_with fail
    with_reducible refine (hL _ _ _ _ _ h1).mono ?_
    rintro en w1 ⟨rfl, rfl⟩
    go_wp2_with fail
    go_ret
    exact ⟨rfl, hm0⟩
  | true =>
    cases h2 : inB b 0 (wrap64 (s - 1)) with
    | false =>
      have hv : edB r s ⟨a, l, b⟩ = false := by simp [edB, h2]
      rw [hv]
      clear hv
      go_enter Try.func60, Try.ntmps60
      go_wp2_with fail
      with_reducible refine (hL _ _ _ _ _ h1).mono ?_
      rintro en w1 ⟨rfl, rfl⟩
      go_wp2_with fail
      with_reducible refine (hL _ _ _ _ _ h2).mono ?_
      rintro en w1 ⟨rfl, rfl⟩
      go_wp2_with fail
      go_ret
      exact ⟨rfl, hm0⟩
    | true =>
      have hv : edB r s ⟨a, l, b⟩ = inB l 1 r := by simp [edB, h1, h2]
      rw [hv]
      clear hv
      go_enter Try.func60, Try.ntmps60
      go_wp2_with fail
      with_reducible refine (hL _ _ _ _ _ h1).mono ?_
      rintro en w1 ⟨rfl, rfl⟩
      go_wp2_with fail
      with_reducible refine (hL _ _ _ _ _ h2).mono ?_
      rintro en w1 ⟨rfl, rfl⟩
      go_wp2_with fail
      with_reducible refine (l1In_any _ _ _ _).mono ?_
      rintro en w1 ⟨rfl, rfl⟩
      go_wp2_with fail
      go_ret
      exact ⟨rfl, hm0⟩

set_option maxHeartbeats 800000 in
theorem impl_CompareEdgesW (e f : Ed) (w : World) :
    Calls Try.prog 65 #[e.v, f.v] w fun en w' => en = .returned (.int .i64 (cmpE e f)) ∧ ((w.alloc (.cells #[.int .i64 e.a, .int .i64 e.l, .int .i64 e.b] 48)).alloc (.cells #[.int .i64 f.a, .int .i64 f.l, .int .i64 f.b] 48)) = w' := by
  obtain ⟨a, l, b⟩ := e
  obtain ⟨a', l', b'⟩ := f
  have hC : ∀ x y (W : World) (v : Int), cmpI x y = v → Calls Try.prog 77 #[.int .i64 x, .int .i64 y] W fun e w' => e = .returned (.int .i64 v) ∧ W = w' := fun x y W v h => h ▸ impl_compareInts x y W
  obtain ⟨u, hu⟩ : ∃ u, cmpI a a' = u := ⟨_, rfl⟩
  obtain ⟨v, hv⟩ : ∃ v, cmpI l l' = v := ⟨_, rfl⟩
  have he : cmpE ⟨a, l, b⟩ ⟨a', l', b'⟩ = if u ≠ 0 then u else if v ≠ 0 then v else cmpI b b' := by simp [cmpE, hu, hv]
  rw [he]
  clear he
  by_cases h1 : u = 0
  · by_cases h2 : v = 0
    · rw [if_neg (by simpa using h1), if_neg (by simpa using h2)]
      subst h1
      subst h2
      go_enter Try.func65, Try.ntmps65
      go_wp2_with fail
      with_reducible refine (hC _ _ _ _ hu).mono ?_
      rintro en w1 ⟨rfl, rfl⟩
      go_wp2_with fail
      with_reducible refine (hC _ _ _ _ hv).mono ?_
      rintro en w1 ⟨rfl, rfl⟩
      go_wp2_with fail
      with_reducible refine (impl_compareInts _ _ _).mono ?_
      rintro en w1 ⟨rfl, rfl⟩
      go_wp2_with fail
      go_ret
      exact ⟨rfl, rfl⟩
    · rw [if_neg (by simpa using h1), if_pos (by simpa using h2)]
      subst h1
      have hn : (v != 0) = true := by simpa using h2
      go_enter Try.func65, Try.ntmps65
      go_wp2_with fail
      with_reducible refine (hC _ _ _ _ hu).mono ?_
      rintro en w1 ⟨rfl, rfl⟩
      go_wp2_with fail
      with_reducible refine (hC _ _ _ _ hv).mono ?_
      rintro en w1 ⟨rfl, rfl⟩
      go_wp2_with fail
      go_ret
      exact ⟨rfl, rfl⟩
  · rw [if_pos (by simpa using h1)]
    have hn : (u != 0) = true := by simpa using h1
    go_enter Try.func65, Try.ntmps65
    go_wp2_with fail
    with_reducible refine (hC _ _ _ _ hu).mono ?_
    rintro en w1 ⟨rfl, rfl⟩
    go_wp2_with fail
    go_ret
    exact ⟨rfl, rfl⟩
theorem impl_CompareEdges (e f : Ed) (w : World) :
    Calls Try.prog 65 #[e.v, f.v] w fun en w' => en = .returned (.int .i64 (cmpE e f)) ∧ Mid 0 0 w w' :=
  (impl_CompareEdgesW e f w).mono fun _ _ ⟨h, hw⟩ => ⟨h, hw ▸ (Mid.alloc _ _).trans (Mid.alloc _ _)⟩
end Go.Proofs.Ytkcfbcbkokabdaa
