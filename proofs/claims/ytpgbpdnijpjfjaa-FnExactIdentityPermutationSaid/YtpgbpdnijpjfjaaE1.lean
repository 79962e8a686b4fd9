/- The law on IdentityPermutation: it returns true at every n. -/
import Derived.Test.YtpgbpdnijpjfjaaL2
namespace Go.Proofs.Ytpgbpdnijpjfjaa
open Go.RowKit

set_option maxHeartbeats 800000 in
theorem walk_IdentityPermutation (n : Int) (w : World) (_wf : (Lit.int .i64 n).wf = true) :
    Calls Try.prog 3 #[.int .i64 n] w fun e w' => e = .returned (.bool true) ∧ Below w.heap.size w w' := by
  obtain ⟨xs, hxs⟩ : ∃ xs, xs = upto (min n.toNat 40) := ⟨_, rfl⟩
  have hl : xs.length ≤ 40 := by rw [hxs, upto_len]; omega
  have hS := fun w => spec_IdentityPermutation n w
  have hI := fun w => impl_IdentityPermutation n w
  rw [← hxs] at hS hI
  have HS := Lib.hid hS
  have HI := Lib.hid hI
  clear hS hI hxs
  go_enter Try.func3, Try.ntmps3
  go_wp2_with fail
  refine (HS.out _).mono ?_
  rintro e w1 ⟨A0, c0, rfl, ho0, hb1⟩
  go_wp2_with fail
  refine (HI.out _).mono ?_
  rintro e w2 ⟨A1, c1, rfl, ho1, hb2⟩
  go_wp2_with fail
  refine (eqIntS_same _ _ xs _ _ _ _ _ (Rs.of_own ho1) ((Rs.of_own ho0).below hb2) (by omega)).mono ?_
  rintro e w3 ⟨rfl, n3, rfl⟩
  go_wp2_with fail
  with_reducible refine (markIntS_any A1 xs c1 _ 1 _ (owns_drewN ho1 _) (by omega) (by omega) (by omega)).mono ?_
  rintro e w4 ⟨rfl, ho4, hg4⟩
  have hs1 := hb1.size
  have hs2 := hb2.size
  have hs4 : w2.heap.size ≤ w4.heap.size := hg4.size
  have R0 := ((Rs.of_own ho0).below hb2).grown (w' := w4) (owns_row (row := Value.ownBlock (.slice A1 xs.length c1)) hg4) hs2 (fun g hg => (ho1.lt g hg).1)
  go_wp2_with fail
  with_reducible refine (heldIntS_any A1 xs.length c1 _ 1 _ (Rs.of_own ho4) (by omega) (by omega) (by omega)).mono ?_
  rintro e w5 ⟨rfl, rfl⟩
  go_wp2_with fail
  with_reducible refine (HI.out _).mono ?_
  rintro e w5 ⟨A5, c5, rfl, ho5, hb5⟩
  go_wp2_with fail
  with_reducible refine (eqIntS_same A5 A0 xs c5 c0 _ _ _ (Rs.of_own ho5) (R0.belowM hb5 (by omega)) (by omega)).mono ?_
  rintro e w6 ⟨rfl, n6, rfl⟩
  go_wp2_with fail
  with_reducible refine (heldIntS_any A1 xs.length c1 _ 1 _ ((Rs.of_own (owns_belowS ho4 hb5)).drewN n6) (by omega) (by omega) (by omega)).mono ?_
  rintro e w5 ⟨rfl, rfl⟩
  go_wp2_with fail
  go_ret
  refine ⟨rfl, ?_⟩
  have h1 := (hb1.trans (hb2.mono hs1))
  have h2 := (below_drewN h1 n3).trans ((below_of_grown hg4 (show w.heap.size ≤ (w2.drewN n3).heap.size by show w.heap.size ≤ w2.heap.size; omega)) (fun g hg => by have := (ho1.lt g hg).1; omega))
  exact below_drewN (h2.trans (hb5.mono (by omega))) n6
end Go.Proofs.Ytpgbpdnijpjfjaa
