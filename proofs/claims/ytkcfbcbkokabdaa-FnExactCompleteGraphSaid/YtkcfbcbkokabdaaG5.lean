
/- The laws' helpers on slices of Edges. -/
import Derived.Test.YtkcfbcbkokabdaaG4
import Derived.Test.YtkcfbcbkokabdaaK2
import Derived.Test.YtkcfbcbkokabdaaB4
import Derived.Deep.RegionHeld3
namespace Go.Proofs.Ytkcfbcbkokabdaa
set_option linter.unusedVariables false
set_option linter.unusedSimpArgs false
open Go.RowKit

set_option maxHeartbeats 800000 in
theorem eqEdge_ints (x0 x1 x2 : Int) (w : World) :
    Calls Try.prog 67 #[.agg #[.int .i64 x0, .int .i64 x1, .int .i64 x2], .agg #[.int .i64 x0, .int .i64 x1, .int .i64 x2]] w fun e w' => e = .returned (.bool true) ∧ Mid 0 0 w w' := by
  go_enter Try.func67, Try.ntmps67
  go_wp2_with fail
  go_ret
  exact ⟨rfl, (Mid.alloc _ _).trans (Mid.alloc _ _)⟩

/-- The cells of one element of a slice of structs of 3 ints. -/
theorem RV.flat3 {w : World} {lo hi : Nat} {A : Option Addr} {xs : List Int} {n k : Nat} (h : RV w lo hi A (ints xs)) (hl : xs.length = n * 3) (hk : k < n) :
    ∃ b off x0 x1 x2, A = some ⟨b, off, none⟩ ∧ lo ≤ b ∧ b < hi ∧ xs[k * 3 + 0]? = some x0 ∧ xs[k * 3 + 1]? = some x1 ∧ xs[k * 3 + 2]? = some x2 ∧ w.cell? ⟨b, off + k * 3, none⟩ = some (.int .i64 x0) ∧ w.cell? ⟨b, off + k * 3 + 1, none⟩ = some (.int .i64 x1) ∧ w.cell? ⟨b, off + k * 3 + 2, none⟩ = some (.int .i64 x2) := by
  obtain ⟨b, off, hA, h1, h2, hc⟩ := h.2 (by intro h0; have := congrArg List.length h0; rw [ints_len] at this; simp at this; subst this; simp at hl; omega)
  obtain ⟨x0, g0⟩ := get_of_lt xs (show k * 3 + 0 < xs.length by omega)
  obtain ⟨x1, g1⟩ := get_of_lt xs (show k * 3 + 1 < xs.length by omega)
  obtain ⟨x2, g2⟩ := get_of_lt xs (show k * 3 + 2 < xs.length by omega)
  exact ⟨b, off, x0, x1, x2, hA, h1, h2, g0, g1, g2, hc (k * 3 + 0) _ (by rw [ints_get, g0]; rfl), hc (k * 3 + 1) _ (by rw [ints_get, g1]; rfl), hc (k * 3 + 2) _ (by rw [ints_get, g2]; rfl)⟩

set_option maxHeartbeats 1600000 in
theorem eqEdgeS_flat (A A' : Option Addr) (xs : List Int) (n c c' : Nat) (w : World) (lo hi lo' hi' : Nat) (hr : RV w lo hi A (ints xs)) (hr' : RV w lo' hi' A' (ints xs)) (hl : xs.length = n * 3) (hn : n ≤ 1048576) :
    Calls Try.prog 37 #[.slice A n c, .slice A' n c'] w (Stp (.bool true) w) := by
  have HL := Lib.hid hl
  clear hl
  go_enter Try.func37, Try.ntmps37
  go_wp2_with fail
  go_loopw [5] (fun i wr => ∃ k : Nat, k ≤ n ∧ i = .int .i64 k ∧ Mid 0 0 w wr) (fun i _ => n - (intOf i).toNat)
  case atStart => exact ⟨0, Nat.zero_le _, rfl, Mid.refl _ _ _⟩
  case round =>
    obtain ⟨k, hk, rfl, hm⟩ := hrel
    by_cases hlt : k < n
    · obtain ⟨b, off, x0, x1, x2, rfl, -, hbh, g0, g1, g2, h0, h1, h2⟩ := (hr.mid hm (Or.inl (Nat.zero_le _))).flat3 HL.out hlt
      obtain ⟨b', off', y0, y1, y2, rfl, -, hbh', q0, q1, q2, p0, p1, p2⟩ := (hr'.mid hm (Or.inl (Nat.zero_le _))).flat3 HL.out hlt
      rw [g0] at q0
      obtain rfl := Option.some.inj q0
      rw [g1] at q1
      obtain rfl := Option.some.inj q1
      rw [g2] at q2
      obtain rfl := Option.some.inj q2
      have hs1 : b < wr.heap.size := Nat.lt_of_lt_of_le hbh (Nat.le_trans hr.1 hm.size)
      have hs2 : b' < wr.heap.size := Nat.lt_of_lt_of_le hbh' (Nat.le_trans hr'.1 hm.size)
      have hmd := Mid.drew1 wr
      have hk0 : (0 : Int) ≤ (k : Int) := by omega
      have hkn : (k : Int) < (n : Int) := by omega
      clear g0 g1 g2
      go_wp2_with fail
      go_region_held3 (fun w' => w'.cell? ⟨b, off + k * 3, none⟩ = some (.int .i64 x0) ∧ w'.cell? ⟨b, off + k * 3 + 1, none⟩ = some (.int .i64 x1) ∧ w'.cell? ⟨b, off + k * 3 + 2, none⟩ = some (.int .i64 x2) ∧ w'.cell? ⟨b', off' + k * 3, none⟩ = some (.int .i64 x0) ∧ w'.cell? ⟨b', off' + k * 3 + 1, none⟩ = some (.int .i64 x1) ∧ w'.cell? ⟨b', off' + k * 3 + 2, none⟩ = some (.int .i64 x2)) (first | exact ⟨h0, h1, h2, p0, p1, p2⟩ | exact ⟨e0, e1, e2, f0, f1, f2⟩) (first | (go_at_call 67; refine (eqEdge_ints x0 x1 x2 _).mono ?_; rintro e w2 ⟨rfl, hm2⟩; have e0 := cell_keep (hmd.trans hm2) hs1 (Or.inr (Nat.zero_le _)) h0; have e1 := cell_keep (hmd.trans hm2) hs1 (Or.inr (Nat.zero_le _)) h1; have e2 := cell_keep (hmd.trans hm2) hs1 (Or.inr (Nat.zero_le _)) h2; have f0 := cell_keep (hmd.trans hm2) hs2 (Or.inr (Nat.zero_le _)) p0; have f1 := cell_keep (hmd.trans hm2) hs2 (Or.inr (Nat.zero_le _)) p1; have f2 := cell_keep (hmd.trans hm2) hs2 (Or.inr (Nat.zero_le _)) p2))
      go_wp2_with fail
      go_roundw
      case rel => exact ⟨k + 1, by omega, by go_num, (hm.trans hmd).trans hm2⟩
      case measure => simp [intOf]; omega
    · go_wp2_with fail
      go_ret
      exact ⟨rfl, hm⟩

theorem owns_setK {w : World} {base : Nat} {e : TypeId} {size g n cap : Nat} {xs ys : List Value} (h : w.ownsRow base e size (.slice (some ⟨g, 0, none⟩) n cap) n xs) (j : Nat) (u : Value) (hy : xs.set j u = ys) :
    (w.setCell ⟨g, j, none⟩ u).ownsRow base e size (.slice (some ⟨g, 0, none⟩) n cap) n ys := by
  subst hy
  exact (h.stored j u).1
theorem marks_setV (q : Int) (xs : List Int) {k : Nat} (v : Int) (h : k < xs.length) (hv : v = q + k) : (ints (marks q k) ++ (ints xs).drop k).set k (.int .i64 v) = ints (marks q (k + 1)) ++ (ints xs).drop (k + 1) := by
  subst hv
  rw [set_over _ _ _ (by rw [ints_len, marks_len]) (by rw [ints_len]; exact h), marks_succ, ints_append]
  rfl
set_option maxHeartbeats 1600000 in
theorem markEdgeS_flat (A : Option Addr) (xs : List Int) (n c : Nat) (q : Int) (w : World) (lo hi : Nat) (ho : OV w lo hi 48 3 A c n (ints xs)) (hq : 0 ≤ q) (hq2 : q ≤ 8388608) (hl : xs.length = n * 3) (hn : n ≤ 1048576) :
    Calls Try.prog 43 #[.slice A n c, .int .i64 q] w fun e w' => e = .returned (.int .i64 (q + 3 * (n : Int))) ∧ OV w' lo hi 48 3 A c n (ints (marks q (n * 3))) ∧ Mid lo hi w w' := by
  have HL := Lib.hid hl
  clear hl
  go_enter Try.func43, Try.ntmps43
  go_wp2_with fail
  go_loopw [1, 5] (fun qv i wr => ∃ k : Nat, k ≤ n ∧ i = .int .i64 k ∧ qv = .int .i64 (q + 3 * (k : Int)) ∧ wr.ownsRow lo 48 3 (.slice A n c) n (ints (marks q (k * 3)) ++ (ints xs).drop (k * 3)) ∧ Mid lo hi w wr)
    (fun _ i _ => n - (intOf i).toNat)
  case atStart => exact ⟨0, Nat.zero_le _, rfl, by simp, by simpa [marks, ints] using ho.2.1, Mid.refl _ _ _⟩
  case round =>
    obtain ⟨k, hk, rfl, rfl, hown, hm⟩ := hrel
    by_cases hlt : k < n
    · obtain ⟨g, rfl, hg1, hg2⟩ := owns_addr hown (by omega)
      have hgh := ho.2.2 g rfl
      have o0 := hown
      have o1 := owns_setK o0 (k * 3) (.int .i64 (q + 3 * (k : Int))) (marks_setV q xs _ (show k * 3 < xs.length by rw [HL.out]; omega) (by omega))
      have o2 := owns_setK o1 (k * 3 + 1) (.int .i64 (q + 3 * (k : Int) + 1)) (marks_setV q xs _ (show k * 3 + 1 < xs.length by rw [HL.out]; omega) (by omega))
      have o3 := owns_setK o2 (k * 3 + 2) (.int .i64 (q + 3 * (k : Int) + 1 + 1)) (marks_setV q xs _ (show k * 3 + 2 < xs.length by rw [HL.out]; omega) (by omega))
      have hlen : (ints (marks q (k * 3)) ++ (ints xs).drop (k * 3)).length = n * 3 := hown.1
      obtain ⟨u0, hu0⟩ := get_of_lt _ (show k * 3 < (ints (marks q (k * 3)) ++ (ints xs).drop (k * 3)).length by omega)
      have d0 := (hown.cellAt (k * 3) (by omega)).trans hu0
      clear hu0
      obtain ⟨u1, hu1⟩ := get_of_lt _ (show k * 3 + 1 < (ints (marks q (k * 3)) ++ (ints xs).drop (k * 3)).length by omega)
      have d1 := (hown.cellAt (k * 3 + 1) (by omega)).trans hu1
      clear hu1
      obtain ⟨u2, hu2⟩ := get_of_lt _ (show k * 3 + 2 < (ints (marks q (k * 3)) ++ (ints xs).drop (k * 3)).length by omega)
      have d2 := (hown.cellAt (k * 3 + 2) (by omega)).trans hu2
      clear hu2
      have hfz := fun i => hown.frozenAt i
      have HO := Lib.hid o3
      have hkn : (k : Int) < (n : Int) := by omega
      clear hlen hown o0 o1 o2 o3
      go_wp2_with fail
      go_roundw
      case rel =>
        refine ⟨k + 1, by omega, by go_num, by go_num, ?_, ?_⟩
        · rw [show (k + 1) * 3 = k * 3 + 3 from by omega]
          exact HO.out
        · repeat (first | exact hm | refine Mid.stored ?_ _ hg1 hgh)
      case measure => simp [intOf]; omega
    · go_wp2_with fail
      go_ret
      obtain rfl : k = n := by omega
      rw [List.drop_eq_nil_of_le (by rw [ints_len, HL.out]; exact Nat.le_refl _), List.append_nil] at hown
      exact ⟨rfl, ⟨Nat.le_trans ho.1 hm.size, hown, ho.2.2⟩, hm⟩

set_option maxHeartbeats 1600000 in
theorem heldEdgeS_flat (A : Option Addr) (n c : Nat) (q : Int) (w : World) (lo hi : Nat) (hr : RV w lo hi A (ints (marks q (n * 3)))) (hq : 0 ≤ q) (hq2 : q ≤ 8388608) (hn : n ≤ 1048576) :
    Calls Try.prog 44 #[.slice A n c, .int .i64 q] w (Stp (.int .i64 (q + 3 * (n : Int))) w) := by
  go_enter Try.func44, Try.ntmps44
  go_wp2_with fail
  go_loop [1, 5] (fun qv i => ∃ k : Nat, k ≤ n ∧ i = .int .i64 k ∧ qv = .int .i64 (q + 3 * (k : Int))) (fun _ i => n - (intOf i).toNat)
  case atStart => exact ⟨0, Nat.zero_le _, rfl, by simp⟩
  case round =>
    obtain ⟨k, hk, rfl, rfl⟩ := hrel
    by_cases hlt : k < n
    · obtain ⟨b, off, x0, x1, x2, rfl, -, -, g0, g1, g2, h0, h1, h2⟩ := hr.flat3 (marks_len _ _) hlt
      rw [marks_get q (show k * 3 + 0 < n * 3 by omega)] at g0
      have e0 : x0 = q + 3 * (k : Int) := by have := Option.some.inj g0; omega
      rw [e0] at h0
      clear g0 e0
      rw [marks_get q (show k * 3 + 1 < n * 3 by omega)] at g1
      have e1 : x1 = q + 3 * (k : Int) + 1 := by have := Option.some.inj g1; omega
      rw [e1] at h1
      clear g1 e1
      rw [marks_get q (show k * 3 + 2 < n * 3 by omega)] at g2
      have e2 : x2 = q + 3 * (k : Int) + 1 + 1 := by have := Option.some.inj g2; omega
      rw [e2] at h2
      clear g2 e2
      have hkn : (k : Int) < (n : Int) := by omega
      go_wp2_with fail
      go_round
      case rel => exact ⟨k + 1, by omega, by go_num, by go_num⟩
      case measure => simp [intOf]; omega
    · go_wp2_with fail
      go_ret
      obtain rfl : k = n := by omega
      exact ⟨rfl, Mid.refl _ _ _⟩
end Go.Proofs.Ytkcfbcbkokabdaa
