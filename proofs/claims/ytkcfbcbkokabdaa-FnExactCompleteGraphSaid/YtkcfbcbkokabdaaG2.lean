
/- The reference's order of edges. -/
import Derived.Test.YtkcfbcbkokabdaaG1
namespace Go.Proofs.Ytkcfbcbkokabdaa
set_option linter.unusedVariables false
set_option linter.unusedSimpArgs false
open Go.RowKit

theorem cmpI_lt {a b : Int} (h : a < b) : cmpI a b = -1 := by simp [cmpI, h]
theorem cmpI_gt {a b : Int} (h : b < a) : cmpI a b = 1 := by simp [cmpI, h, show ¬ a < b from by omega]
theorem cmpE_first {e f : Ed} {v : Int} (h : cmpI e.a f.a = v) (h0 : v ≠ 0) : cmpE e f = v := by simp [cmpE, h, h0]
theorem cmpE_second {e f : Ed} {v : Int} (h1 : e.a = f.a) (h : cmpI e.l f.l = v) (h0 : v ≠ 0) : cmpE e f = v := by simp [cmpE, cmpI_zero.2 h1, h, h0]
theorem cmpE_third {e f : Ed} {v : Int} (h1 : e.a = f.a) (h2 : e.l = f.l) (h : cmpI e.b f.b = v) : cmpE e f = v := by simp [cmpE, cmpI_zero.2 h1, cmpI_zero.2 h2, h]

set_option maxHeartbeats 1600000 in
theorem spec_CompareEdges (e f : Ed) (w : World) :
    Calls Try.prog 61 #[e.v, f.v] w fun en w' => en = .returned (.int .i64 (cmpE e f)) ∧ Mid 0 0 w w' := by
  obtain ⟨a, l, b⟩ := e
  obtain ⟨a', l', b'⟩ := f
  obtain ⟨u, hu⟩ : ∃ u, cmpE ⟨a, l, b⟩ ⟨a', l', b'⟩ = u := ⟨_, rfl⟩
  rw [hu]
  have HU := Lib.hid hu
  clear hu
  go_enter Try.func61, Try.ntmps61
  go_wp2_with fail
  go_loopw [4, 7] (fun _ i wr => ∃ k : Nat, i = .int .i64 k ∧ k ≤ 3 ∧ Mid 0 0 w wr ∧ (0 < k → a = a') ∧ (1 < k → l = l') ∧ (2 < k → b = b') ∧
      wr.cell? ⟨w.heap.size + 1 + 1, 0, none⟩ = some (.int .i64 a) ∧ wr.cell? ⟨w.heap.size + 1 + 1, 1, none⟩ = some (.int .i64 l) ∧ wr.cell? ⟨w.heap.size + 1 + 1, 2, none⟩ = some (.int .i64 b) ∧
      wr.cell? ⟨w.heap.size + 1 + 1 + 1, 0, none⟩ = some (.int .i64 a') ∧ wr.cell? ⟨w.heap.size + 1 + 1 + 1, 1, none⟩ = some (.int .i64 l') ∧ wr.cell? ⟨w.heap.size + 1 + 1 + 1, 2, none⟩ = some (.int .i64 b')) (fun _ i _ => 4 - (intOf i).toNat)
  case atStart =>
    refine ⟨0, rfl, by omega, ?_, by simp, by simp, by simp, ?_, ?_, ?_, ?_, ?_, ?_⟩
    · exact (((Mid.alloc _ _).trans (Mid.alloc _ _)).trans (Mid.alloc _ _)).trans (Mid.alloc _ _)
    all_goals simp [World.cell?_alloc_at, World.cell?_alloc_past]
  case round =>
    obtain ⟨k, rfl, hk, hm, e0, e1, e2, c0, c1, c2, d0, d1, d2⟩ := hrel
    by_cases h3 : 3 ≤ k
    · go_wp2_with fail
      go_ret
      obtain rfl : u = 0 := by rw [← HU.out]; exact cmpE_third (e0 (by omega)) (e1 (by omega)) (cmpI_zero.2 (e2 (by omega)))
      exact ⟨rfl, hm⟩
    · have step : ∀ (x y : Int), wr.cell? ⟨w.heap.size + 1 + 1, k, none⟩ = some (.int .i64 x) → wr.cell? ⟨w.heap.size + 1 + 1 + 1, k, none⟩ = some (.int .i64 y) → True := fun _ _ _ _ => trivial
      obtain ⟨x, y, cx, cy, hxy⟩ : ∃ x y, wr.cell? ⟨w.heap.size + 1 + 1, k, none⟩ = some (.int .i64 x) ∧ wr.cell? ⟨w.heap.size + 1 + 1 + 1, k, none⟩ = some (.int .i64 y) ∧ (x ≠ y → u = cmpI x y) ∧ (k = 0 → x = a ∧ y = a') ∧ (k = 1 → x = l ∧ y = l') ∧ (k = 2 → x = b ∧ y = b') := by
        rcases (by omega : k = 0 ∨ k = 1 ∨ k = 2) with rfl | rfl | rfl
        · exact ⟨a, a', c0, d0, fun h => by rw [← HU.out]; exact cmpE_first rfl (fun h0 => h (cmpI_zero.1 h0)), by simp, by simp, by simp⟩
        · exact ⟨l, l', c1, d1, fun h => by rw [← HU.out]; exact cmpE_second (e0 (by omega)) rfl (fun h0 => h (cmpI_zero.1 h0)), by simp, by simp, by simp⟩
        · exact ⟨b, b', c2, d2, fun h => by rw [← HU.out]; exact cmpE_third (e0 (by omega)) (e1 (by omega)) rfl, by simp, by simp, by simp⟩
      have hk2 : k < 3 := by omega
      have HE := Lib.hid (And.intro e0 (And.intro e1 e2))
      have HC := Lib.hid (And.intro c0 (And.intro c1 (And.intro c2 (And.intro d0 (And.intro d1 d2)))))
      have HX := Lib.hid hxy
      clear e0 e1 e2 c0 c1 c2 d0 d1 d2 hxy step h3 hk
      by_cases hlt : x < y
      · have hv := HX.out.1 (by omega)
        rw [cmpI_lt hlt] at hv
        subst hv
        go_wp2_with fail
        go_quiet (fail)
        go_wp2_with fail
        go_ret
        exact ⟨rfl, hm.drewN _⟩
      · by_cases hgt : y < x
        · have hv := HX.out.1 (by omega)
          rw [cmpI_gt hgt] at hv
          subst hv
          go_wp2_with fail
          go_quiet (fail)
          go_wp2_with fail
          go_quiet (fail)
          go_wp2_with fail
          go_ret
          exact ⟨rfl, by first | exact (hm.drewN _).drewN _ | exact hm.drewN _⟩
        · have hq : x = y := by omega
          clear hlt hgt
          subst hq
          go_wp2_with fail
          go_quiet (fail)
          go_wp2_with fail
          go_quiet (fail)
          go_wp2_with fail
          go_roundw
          case rel =>
            obtain ⟨e0, e1, e2⟩ := HE.out
            obtain ⟨c0, c1, c2, d0, d1, d2⟩ := HC.out
            obtain ⟨-, q0, q1, q2⟩ := HX.out
            refine ⟨k + 1, by go_num, by omega, by first | exact (hm.drewN _).drewN _ | exact hm.drewN _, fun h => ?_, fun h => ?_, fun h => ?_, c0, c1, c2, d0, d1, d2⟩
            · rcases (by omega : k = 0 ∨ 0 < k) with h5 | h5
              · rw [← (q0 h5).1, ← (q0 h5).2]
              · exact e0 h5
            · rcases (by omega : k = 1 ∨ 1 < k) with h5 | h5
              · rw [← (q1 h5).1, ← (q1 h5).2]
              · exact e1 h5
            · rcases (by omega : k = 2 ∨ 2 < k) with h5 | h5
              · rw [← (q2 h5).1, ← (q2 h5).2]
              · exact e2 h5
          case measure => simp [intOf]; omega
end Go.Proofs.Ytkcfbcbkokabdaa
