
/- The laws' helpers on graphs: copies, sizes, comparisons, marks. -/
import Derived.Test.YtkcfbcbkokabdaaG6
namespace Go.Proofs.Ytkcfbcbkokabdaa
set_option linter.unusedVariables false
set_option linter.unusedSimpArgs false
open Go.RowKit

/-- Edges of consecutive numbers. -/
def markE (q : Int) (n : Nat) : List Ed := (List.range n).map fun (i : Nat) => ⟨q + 3 * (i : Int), q + 3 * (i : Int) + 1, q + 3 * (i : Int) + 2⟩
theorem markE_len (q : Int) (n : Nat) : (markE q n).length = n := by simp [markE]
theorem markE_succ (q : Int) (n : Nat) : markE q (n + 1) = markE q n ++ [⟨q + 3 * (n : Int), q + 3 * (n : Int) + 1, q + 3 * (n : Int) + 2⟩] := by simp [markE, List.range_succ]
theorem edI_markE (q : Int) (n : Nat) : edI (markE q n) = marks q (n * 3) := by
  induction n with
  | zero => simp [markE, edI, marks]
  | succ n ih =>
    rw [markE_succ, edI_append, ih, edI_one, show (n + 1) * 3 = n * 3 + 1 + 1 + 1 by omega, marks_succ, marks_succ, marks_succ]
    simp only [List.append_assoc, List.cons_append, List.nil_append]
    congr 1
    simp
    omega
theorem OG.cnt {w : World} {lo hi : Nat} {A : Option Addr} {c : Nat} {es : List Ed} (h : OG w lo hi A c es) : es.length ≤ c ∧ c ≤ maxLen := by
  rcases h.2.1.2 with ⟨hv, hn⟩ | ⟨g, cap, cur, hv, -, -, hnc, hcm, -⟩
  · injection hv with _ h1 h2
    subst h2
    omega
  · injection hv with _ _ h2
    subst h2
    exact ⟨hnc, hcm⟩

theorem szEdgeS_any (A : Option Addr) (n c : Nat) (left : Int) (w : World) (hn : n ≤ 9223372036854775807) (h0 : 0 ≤ left) (h1 : left ≤ 1048576) :
    Calls Try.prog 32 #[.slice A n c, .int .i64 left] w fun e w' => e = .returned (.int .i64 (szI left n)) ∧ w = w' := by
  unfold szI
  by_cases h : (n : Int) ≤ left
  · rw [if_pos h]
    go_enter Try.func32, Try.ntmps32
    go_wp2_with fail
    go_ret
    exact ⟨rfl, rfl⟩
  · rw [if_neg h]
    go_enter Try.func32, Try.ntmps32
    go_wp2_with fail
    go_ret
    exact ⟨rfl, rfl⟩

set_option maxHeartbeats 800000 in
theorem szGraph_any (r s : Int) (A : Option Addr) (es : List Ed) (c : Nat) (left : Int) (w : World) (hok : es.length ≤ 9223372036854775807) (h0 : 0 ≤ left) (h1 : left ≤ 1048576) :
    Calls Try.prog 10 #[.agg #[.int .i64 r, .int .i64 s, .slice A es.length c], .int .i64 left] w fun e w' => e = .returned (.int .i64 (szI left es.length)) ∧ Mid 0 0 w w' := by
  have hb0 : Mid 0 0 w (w.alloc (.cells #[.int .i64 r, .int .i64 s, .slice A es.length c] 24)) := Mid.alloc _ _
  have hS := fun W => szEdgeS_any A es.length c left W hok h0 h1
  obtain ⟨z, hz⟩ : ∃ z, szI left es.length = z := ⟨_, rfl⟩
  have hcase : z < 0 ∧ z = -1 ∨ 0 ≤ z := by
    rw [← hz]
    unfold szI
    split
    · right; omega
    · left; omega
  rw [hz] at hS ⊢
  clear hz
  rcases hcase with ⟨h2, rfl⟩ | h2
  · go_enter Try.func10, Try.ntmps10
    go_wp2_with fail
    with_reducible refine (hS _).mono ?_
    rintro e w1 ⟨rfl, rfl⟩
    go_wp2_with fail
    go_ret
    exact ⟨rfl, hb0⟩
  · go_enter Try.func10, Try.ntmps10
    go_wp2_with fail
    with_reducible refine (hS _).mono ?_
    rintro e w1 ⟨rfl, rfl⟩
    go_wp2_with fail
    go_ret
    exact ⟨rfl, hb0⟩

set_option maxHeartbeats 1600000 in
theorem toGraph_any (r s : Int) (A : Option Addr) (es : List Ed) (c : Nat) (w : World) (lo hi : Nat) (hr : RG w lo hi A es) (hl : es.length ≤ 1048576) :
    Calls Try.prog 12 #[.agg #[.int .i64 r, .int .i64 s, .slice A es.length c]] w fun e w' => ∃ A' c', e = .returned (.agg #[.int .i64 r, .int .i64 s, .slice A' es.length c']) ∧ OG w' w.heap.size w'.heap.size A' c' es ∧ Mid 0 0 w w' := by
  go_enter Try.func12, Try.ntmps12
  go_wp2_with fail
  have hb0 : Mid 0 0 w ((((w.alloc (.cells #[.int .i64 r, .int .i64 s, .slice A es.length c] 24)).alloc (.cells #[.int .i64 0, .int .i64 0, .slice none 0 0] 29)).alloc (.cells #[.int .i64 r, .int .i64 s, .slice none 0 0] 29))) :=
    ((Mid.alloc _ _).trans (Mid.alloc _ _)).trans (Mid.alloc _ _)
  have B1 := (Box.new (w.alloc (.cells #[.int .i64 r, .int .i64 s, .slice A es.length c] 24)) #[.int .i64 0, .int .i64 0, .slice none 0 0] 29).mid (Mid.alloc _ (.cells #[.int .i64 r, .int .i64 s, .slice none 0 0] 29)) (Or.inr (Nat.zero_le _))
  have B2 := Box.new ((w.alloc (.cells #[.int .i64 r, .int .i64 s, .slice A es.length c] 24)).alloc (.cells #[.int .i64 0, .int .i64 0, .slice none 0 0] 29)) #[.int .i64 r, .int .i64 s, .slice none 0 0] 29
  with_reducible refine (toEdgeS_any A es c _ _ _ (hr.mid hb0 (Or.inl (Nat.zero_le _))) hl).mono ?_
  rintro e w1 ⟨A', c', rfl, ho, hm⟩
  have hs1 := hm.size
  have C1 := B1.mid hm (Or.inr (Nat.zero_le _))
  have C2 := B2.mid hm (Or.inr (Nat.zero_le _))
  simp only [World.size_alloc, Nat.add_assoc, Nat.reduceAdd] at hs1 ho C1 C2
  have c20 := C2.cell 0 rfl
  have c21 := C2.cell 1 rfl
  have c22 := C2.cell 2 rfl
  have f2 := C2.2.2
  have c10 := C1.cell 0 rfl
  have c11 := C1.cell 1 rfl
  have c12 := C1.cell 2 rfl
  have f1 := C1.2.2
  go_wp2_with fail
  refine bodyPost_ret (v := .agg #[.int .i64 r, .int .i64 s, .slice A' es.length c']) (by simp [results, Try.results12, go_sem, c10, c11, c12, f1]) rfl ⟨A', c', rfl, ?_, ?_⟩
  · refine OG.wide (OG.mid ho (a := w.heap.size + 1) (b := w.heap.size + 3) ?_ (Or.inl (by omega))) (by omega) (by simp) (Nat.le_refl _)
    repeat (first | exact Mid.refl _ _ _ | refine Mid.stored ?_ _ (by simp) (by simp))
  · have h := hb0.trans hm
    repeat (first | exact h | refine Mid.storeNew ?_ (by simp; try omega) _)

set_option maxHeartbeats 800000 in
theorem eqGraph_same (r s : Int) (A A' : Option Addr) (es : List Ed) (c c' : Nat) (w : World) (lo hi lo' hi' : Nat) (hr : RG w lo hi A es) (hr' : RG w lo' hi' A' es) (hl : es.length ≤ 1048576) :
    Calls Try.prog 14 #[.agg #[.int .i64 r, .int .i64 s, .slice A es.length c], .agg #[.int .i64 r, .int .i64 s, .slice A' es.length c']] w fun e w' => e = .returned (.bool true) ∧ Mid 0 0 w w' := by
  go_enter Try.func14, Try.ntmps14
  go_wp2_with fail
  have hb0 : Mid 0 0 w ((w.alloc (.cells #[.int .i64 r, .int .i64 s, .slice A es.length c] 29)).alloc (.cells #[.int .i64 r, .int .i64 s, .slice A' es.length c'] 29)) := (Mid.alloc _ _).trans (Mid.alloc _ _)
  with_reducible refine (eqEdgeS_flat A A' (edI es) es.length c c' _ _ _ _ _ (RG.rv (RG.mid hr hb0 (Or.inl (Nat.zero_le _)))) (RG.rv (RG.mid hr' hb0 (Or.inl (Nat.zero_le _)))) (edI_len es) hl).mono ?_
  rintro e w1 ⟨rfl, hm⟩
  go_wp2_with fail
  go_ret
  exact ⟨rfl, hb0.trans hm⟩

set_option maxHeartbeats 800000 in
theorem markGraph_any (r s : Int) (A : Option Addr) (es : List Ed) (c : Nat) (q : Int) (w : World) (lo hi : Nat) (ho : OG w lo hi A c es) (hq : 0 ≤ q) (hq2 : q ≤ 8388608) (hl : es.length ≤ 1048576) :
    Calls Try.prog 17 #[.agg #[.int .i64 r, .int .i64 s, .slice A es.length c], .int .i64 q] w fun e w' => e = .returned (.int .i64 (q + 3 * (es.length : Int))) ∧ OG w' lo hi A c (markE q es.length) ∧ Mid lo hi w w' := by
  go_enter Try.func17, Try.ntmps17
  go_wp2_with fail
  have hb0 : Mid 0 0 w (w.alloc (.cells #[.int .i64 r, .int .i64 s, .slice A es.length c] 29)) := Mid.alloc _ _
  with_reducible refine (markEdgeS_flat A (edI es) es.length c q _ lo hi (OG.ov (OG.mid ho hb0 (Or.inl (Nat.zero_le _)))) hq hq2 (edI_len es) hl).mono ?_
  rintro e w1 ⟨rfl, ho1, hm1⟩
  go_wp2_with fail
  go_ret
  refine ⟨rfl, ?_, hb0.zero.trans hm1⟩
  unfold OG
  rw [edI_markE, markE_len]
  exact ho1

set_option maxHeartbeats 800000 in
theorem heldGraph_any (r s : Int) (A : Option Addr) (n : Nat) (c : Nat) (q : Int) (w : World) (lo hi : Nat) (ho : OG w lo hi A c (markE q n)) (hq : 0 ≤ q) (hq2 : q ≤ 8388608) (hl : n ≤ 1048576) :
    Calls Try.prog 18 #[.agg #[.int .i64 r, .int .i64 s, .slice A n c], .int .i64 q] w fun e w' => e = .returned (.int .i64 (q + 3 * (n : Int))) ∧ Mid 0 0 w w' := by
  have hr : RV w lo hi A (ints (marks q (n * 3))) := by
    have := OG.rg ho
    unfold RG at this
    rw [edI_markE] at this
    exact this
  go_enter Try.func18, Try.ntmps18
  go_wp2_with fail
  have hb0 : Mid 0 0 w (w.alloc (.cells #[.int .i64 r, .int .i64 s, .slice A n c] 29)) := Mid.alloc _ _
  with_reducible refine (heldEdgeS_flat A n c q _ lo hi (RV.mid hr hb0 (Or.inl (Nat.zero_le _))) hq hq2 hl).mono ?_
  rintro e w1 ⟨rfl, hm⟩
  go_wp2_with fail
  go_ret
  exact ⟨rfl, hb0.trans hm⟩
end Go.Proofs.Ytkcfbcbkokabdaa
