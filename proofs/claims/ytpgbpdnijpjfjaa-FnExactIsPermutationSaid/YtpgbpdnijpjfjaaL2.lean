/- Contracts: permutations. -/
import Derived.Test.YtpgbpdnijpjfjaaL1
namespace Go.Proofs.Ytpgbpdnijpjfjaa
open Go.RowKit

set_option maxHeartbeats 400000 in
theorem impl_IdentityPermutation (n : Int) (w : World) :
    Calls Try.prog 9 #[.int .i64 n] w fun e w' => RetI 3 (upto (min n.toNat 40)) w e w' := by
  go_enter Try.func9, Try.ntmps9
  go_wp2_with fail
  have hb0 := (Below.refl w.heap.size w).alloc (Nat.le_refl _) (.cells #[] 3)
  have ho0 := owns_empty w 3 1
  go_loopw [3, 4] (fun v i wr => ∃ k : Nat, k ≤ 40 ∧ k ≤ n.toNat ∧ i = .int .i64 k ∧ wr.ownsRow w.heap.size 3 1 v k (ints (upto k)) ∧ Below w.heap.size w wr)
    (fun _ i _ => 40 - (intOf i).toNat)
  case atStart => exact ⟨0, by omega, by omega, rfl, ho0, hb0⟩
  case round =>
    obtain ⟨k, hk, hkn, rfl, hown, hb⟩ := hrel
    by_cases h1 : (k : Int) < n
    · by_cases h2 : k < 40
      · have hsz := hb.size
        go_wp2_with (at_builtin; refine wpList_push rfl _ _ 22 rfl w.heap.size 3 (.int .i64 0) 1 8 undSI infoI rfl (by decide) _ _ _ rfl hown 1 [.int .i64 k] rfl rfl ?c1 ?c2 ?c3 hsz ?next)
        case c1 => exact one_of_ints [(k : Int)]
        case c2 => unfold maxLen; omega
        case c3 => omega
        case next =>
          intro v' w1 hown1 hgr _
          go_wp2_with fail
          go_roundw
          case rel => exact ⟨k + 1, by omega, by omega, by go_num, by rw [upto_succ, ints_append]; exact hown1, hb.grown hgr hsz (fun g hg => (hown.lt g hg).1)⟩
          case measure => simp [intOf]; omega
      · go_wp2_with fail
        go_ret
        obtain rfl : k = 40 := by omega
        rw [show min n.toNat 40 = 40 from by omega]
        exact RetI.mk (upto_len _) hown hb
    · go_wp2_with fail
      go_ret
      rw [show min n.toNat 40 = k from by omega]
      exact RetI.mk (upto_len _) hown hb
set_option maxHeartbeats 400000 in
theorem spec_IdentityPermutation (n : Int) (w : World) :
    Calls Try.prog 8 #[.int .i64 n] w fun e w' => RetI 3 (upto (min n.toNat 40)) w e w' := by
  go_enter Try.func8, Try.ntmps8
  go_wp2_with fail
  have hb0 := (Below.refl w.heap.size w).alloc (Nat.le_refl _) (.cells #[] 3)
  have ho0 := owns_empty w 3 1
  go_loopw [3, 4] (fun v i wr => ∃ k : Nat, k ≤ 40 ∧ k ≤ n.toNat ∧ i = .int .i64 k ∧ wr.ownsRow w.heap.size 3 1 v k (ints (upto k)) ∧ Below w.heap.size w wr)
    (fun _ i _ => 40 - (intOf i).toNat)
  case atStart => exact ⟨0, by omega, by omega, rfl, ho0, hb0⟩
  case round =>
    obtain ⟨k, hk, hkn, rfl, hown, hb⟩ := hrel
    by_cases h1 : (k : Int) < n
    · by_cases h2 : k < 40
      · have hsz := hb.size
        go_wp2_with (at_builtin; refine wpList_push rfl _ _ 22 rfl w.heap.size 3 (.int .i64 0) 1 8 undSI infoI rfl (by decide) _ _ _ rfl hown 1 [.int .i64 k] rfl rfl ?c1 ?c2 ?c3 hsz ?next)
        case c1 => exact one_of_ints [(k : Int)]
        case c2 => unfold maxLen; omega
        case c3 => omega
        case next =>
          intro v' w1 hown1 hgr _
          go_wp2_with fail
          go_roundw
          case rel => exact ⟨k + 1, by omega, by omega, by go_num, by rw [upto_succ, ints_append]; exact hown1, hb.grown hgr hsz (fun g hg => (hown.lt g hg).1)⟩
          case measure => simp [intOf]; omega
      · go_wp2_with fail
        go_ret
        obtain rfl : k = 40 := by omega
        rw [show min n.toNat 40 = 40 from by omega]
        exact RetI.mk (upto_len _) hown hb
    · go_wp2_with fail
      go_ret
      rw [show min n.toNat 40 = k from by omega]
      exact RetI.mk (upto_len _) hown hb
end Go.Proofs.Ytpgbpdnijpjfjaa
