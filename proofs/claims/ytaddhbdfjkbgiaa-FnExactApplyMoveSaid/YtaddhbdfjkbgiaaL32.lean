/- The laws' helpers on longer lists of words. -/
import Derived.Test.YtaddhbdfjkbgiaaK2
namespace Go.Proofs.Ytaddhbdfjkbgiaa
set_option linter.unusedVariables false
set_option linter.unusedSimpArgs false
open Go.RowKit

set_option maxHeartbeats 400000 in
/-- Equal lists: eqIntS says yes. -/
theorem eqIntS_sameB (A A' : Option Addr) (xs : List Int) (c c' B B' : Nat) (w : World) (hr : Rs w B A (ints xs)) (hr' : Rs w B' A' (ints xs)) (hl : xs.length ≤ 4194304) :
    Calls Try.prog 29 #[.slice A xs.length c, .slice A' xs.length c'] w fun e w' => e = .returned (.bool true) ∧ ∃ n, w' = w.drewN n := by
  go_enter Try.func29, Try.ntmps29
  go_wp2_with fail
  go_loopw [5] (fun i wr => ∃ k : Nat, k ≤ xs.length ∧ i = .int .i64 k ∧ ∃ n, wr = w.drewN n) (fun i _ => xs.length - (intOf i).toNat)
  case atStart => exact ⟨0, Nat.zero_le _, rfl, 0, rfl⟩
  case round =>
    obtain ⟨k, hk, rfl, nd, rfl⟩ := hrel
    by_cases hlt : k < xs.length
    · obtain ⟨b, off, x, rfl, -, hx, hc⟩ := hr.int hlt
      obtain ⟨b', off', x', rfl, -, hx', hc'⟩ := hr'.int hlt
      rw [hx] at hx'
      obtain rfl := Option.some.inj hx'
      clear hx hx'
      go_wp2_with fail
      go_quiet (fail)
      go_wp2_with fail
      go_roundw
      case rel => exact ⟨k + 1, by omega, by go_num, _, rfl⟩
      case measure => simp [intOf]; omega
    · go_wp2_with fail
      go_ret
      exact ⟨rfl, _, rfl⟩


set_option maxHeartbeats 400000 in
theorem markIntS_anyB (A : Option Addr) (xs : List Int) (c base : Nat) (q : Int) (w : World) (ho : w.ownsRow base 3 1 (.slice A xs.length c) xs.length (ints xs)) (hq : 0 ≤ q) (hq2 : q ≤ 16777216) (hl : xs.length ≤ 4194304) :
    Calls Try.prog 52 #[.slice A xs.length c, .int .i64 q] w fun e w' => e = .returned (.int .i64 (q + xs.length)) ∧
      w'.ownsRow base 3 1 (.slice A xs.length c) xs.length (ints (marks q xs.length)) ∧ w.grownBy w' (Value.ownBlock (.slice A xs.length c)) := by
  go_enter Try.func52, Try.ntmps52
  go_wp2_with fail
  go_loopw [1, 5] (fun qv i wr => ∃ k : Nat, k ≤ xs.length ∧ i = .int .i64 k ∧ qv = .int .i64 (q + k) ∧ wr.ownsRow base 3 1 (.slice A xs.length c) xs.length (ints (marks q k) ++ (ints xs).drop k) ∧ w.grownBy wr (Value.ownBlock (.slice A xs.length c)))
    (fun _ i _ => xs.length - (intOf i).toNat)
  case atStart => exact ⟨0, Nat.zero_le _, rfl, by simp, by simpa [marks, ints] using ho, World.grownBy.refl _ _⟩
  case round =>
    obtain ⟨k, hk, rfl, rfl, hown, hg⟩ := hrel
    by_cases hlt : k < xs.length
    · obtain ⟨g, rfl, -, -⟩ := owns_addr hown (by omega)
      obtain ⟨u, -, hu⟩ := owns_cell hown hlt
      have hfz := hown.frozenAt k
      go_wp2_with fail
      go_roundw
      case rel =>
        refine ⟨k + 1, by omega, by go_num, by go_num, owns_set hown k _ ?_, grown_setCell hg _ _⟩
        rw [set_over _ _ _ (by rw [ints_len, marks_len]) (by rw [ints_len]; exact hlt), marks_succ, ints_append]
        rfl
      case measure => simp [intOf]; omega
    · go_wp2_with fail
      go_ret
      have hkl : k = xs.length := by omega
      subst hkl
      rw [List.drop_eq_nil_of_le (by rw [ints_len]; exact Nat.le_refl _), List.append_nil] at hown
      exact ⟨rfl, hown, hg⟩


set_option maxHeartbeats 400000 in
theorem heldIntS_anyB (A : Option Addr) (n c B : Nat) (q : Int) (w : World) (hr : Rs w B A (ints (marks q n))) (hq : 0 ≤ q) (hq2 : q ≤ 16777216) (hl : n ≤ 4194304) :
    Calls Try.prog 53 #[.slice A n c, .int .i64 q] w fun e w' => e = .returned (.int .i64 (q + n)) ∧ w = w' := by
  go_enter Try.func53, Try.ntmps53
  go_wp2_with fail
  go_loop [1, 5] (fun qv i => ∃ k : Nat, k ≤ n ∧ i = .int .i64 k ∧ qv = .int .i64 (q + k)) (fun _ i => n - (intOf i).toNat)
  case atStart => exact ⟨0, Nat.zero_le _, rfl, by simp⟩
  case round =>
    obtain ⟨k, hk, rfl, rfl⟩ := hrel
    by_cases hlt : k < n
    · obtain ⟨b, off, x, rfl, -, hx, hc⟩ := hr.int (k := k) (by rw [marks_len]; exact hlt)
      rw [marks_get q hlt] at hx
      obtain rfl := Option.some.inj hx
      clear hx
      go_wp2_with fail
      go_round
      case rel => exact ⟨k + 1, by omega, by go_num, by go_num⟩
      case measure => simp [intOf]; omega
    · go_wp2_with fail
      go_ret
      have hkl : k = n := by omega
      subst hkl
      exact ⟨rfl, rfl⟩

set_option maxHeartbeats 800000 in
theorem eqIntSS_sameB (A A' : Option Addr) (xss : List (List Int)) (c c' : Nat) (w : World) (lo hi lo' hi' : Nat) (hr : RSS w lo hi A xss) (hr' : RSS w lo' hi' A' xss) (hsz : xss.length + sumL xss ≤ 4194304) :
    Calls Try.prog 47 #[.slice A xss.length c, .slice A' xss.length c'] w fun e w' => e = .returned (.bool true) ∧ ∃ n, w' = w.drewN n := by
  go_enter Try.func47, Try.ntmps47
  go_wp2_with fail
  go_loopw [5] (fun i wr => ∃ k : Nat, k ≤ xss.length ∧ i = .int .i64 k ∧ ∃ n, wr = w.drewN n) (fun i _ => xss.length - (intOf i).toNat)
  case atStart => exact ⟨0, Nat.zero_le _, rfl, 0, rfl⟩
  case round =>
    obtain ⟨k, hk, rfl, nd, rfl⟩ := hrel
    by_cases hlt : k < xss.length
    · obtain ⟨b, off, A1, c1, xs, rfl, -, -, hx, hc, hrx⟩ := hr.row hlt
      obtain ⟨b', off', A2, c2, xs', rfl, -, -, hx', hc', hrx'⟩ := hr'.row hlt
      rw [hx] at hx'
      obtain rfl := Option.some.inj hx'
      have hxl := len_le_sumL (List.mem_of_getElem? hx)
      have hC := fun n : Nat => eqIntS_sameB A1 A2 xs c1 c2 _ _ (w.drewN n) (hrx.rs.drewN n) (hrx'.rs.drewN n) (by omega)
      have HC := Lib.hid hC
      clear hx hx' hC
      go_wp2_with fail
      go_quiet ((go_at_call 29; first | exact qz0 (HC.out _) | exact qz1 (HC.out _)))
      go_wp2_with fail
      go_roundw
      case rel => exact ⟨k + 1, by omega, by go_num, _, by first | rfl | exact dn _ _ _⟩
      case measure => simp [intOf]; omega
    · go_wp2_with fail
      go_ret
      exact ⟨rfl, _, rfl⟩


set_option maxHeartbeats 800000 in
theorem markIntSS_anyB (A : Option Addr) (xss : List (List Int)) (c : Nat) (q : Int) (w : World) (lo hi : Nat) (ho : OSS w lo hi 36 3 A c xss) (hq : 0 ≤ q) (hq2 : q ≤ 4194304) (hsz : xss.length + sumL xss ≤ 4194304) :
    Calls Try.prog 48 #[.slice A xss.length c, .int .i64 q] w fun e w' => e = .returned (.int .i64 (q + (sumL xss : Int))) ∧ OSS w' lo hi 36 3 A c (markD q xss) ∧ Mid lo hi w w' := by
  obtain ⟨h0, rows, hD, hout, hrows⟩ := ho
  have hl1 : rows.length ≤ xss.length := by rw [← hD, rowsD_len]; exact Nat.le_refl _
  have hl2 : xss.length ≤ rows.length := by rw [← hD, rowsD_len]; exact Nat.le_refl _
  have HD := Lib.hid hD
  clear hD
  go_enter Try.func48, Try.ntmps48
  go_wp2_with fail
  go_loopw [1, 5] (fun qv i wr => ∃ k : Nat, k ≤ xss.length ∧ i = .int .i64 k ∧ qv = .int .i64 (q + (sumL (xss.take k) : Int)) ∧ OwnRows wr lo hi 3 (markRows q (rows.take k) ++ rows.drop k) ∧
      OV wr lo hi 36 1 A c xss.length (rowsV rows) ∧ Mid lo hi w wr)
    (fun _ i _ => xss.length - (intOf i).toNat)
  case atStart => exact ⟨0, Nat.zero_le _, rfl, by simp [sumL], by simpa [markRows] using hrows, hout, Mid.refl _ _ _⟩
  case round =>
    obtain ⟨k, hk, rfl, rfl, hrw, hout', hm⟩ := hrel
    by_cases hlt : k < xss.length
    · obtain ⟨r, hrk⟩ := get_of_lt rows (show k < rows.length by omega)
      rw [drop_of rows hrk] at hrw
      have hor := hrw.1 r (List.mem_append_right _ List.mem_cons_self)
      have hor1 := hor.2.1
      obtain ⟨b, off, u, hA, -, hu, hc⟩ := hout'.rv.rs.at (j := k) (by rw [rowsV_len]; omega)
      have hu' : u = .slice r.A r.xs.length r.c := by
        rw [rowsV, List.getElem?_map, hrk] at hu
        simp at hu
        exact hu.symm
      subst hu'
      have hdk : xss[k]? = some r.xs := by rw [← HD.out]; simp [rowsD, hrk]
      have hs := sumL_take_succ hdk
      have hs2 := sumL_take_le xss (k + 1)
      have hle : sumL (xss.take k) + r.xs.length ≤ 4194304 := by omega
      have HS := Lib.hid hs
      have HRK := Lib.hid hrk
      rw [hA] at hout
      subst hA
      clear hs hs2 hrk hu hdk
      go_wp2_with fail
      with_reducible refine (markIntS_anyB r.A r.xs r.c lo _ wr hor1 (by omega) (by omega) (by omega)).mono ?_
      rintro e w2 ⟨rfl, ho2, hg2⟩
      have hm2 := hm.trans (Mid.of_grown hg2 (fun g hgg => ⟨(hor1.lt g hgg).1, hor.2.2 g hgg⟩))
      have hout2 := hout'.grown hg2 (owns_ne hout'.2.1 hor1 (by decide))
      have hrw2 := OwnRows.mark hrw (ys := marks (q + (sumL (xss.take k) : Int)) r.xs.length) hg2 (marks_len _ _) ho2
      go_wp2_with fail
      go_roundw
      case rel =>
        refine ⟨k + 1, by omega, by go_num, by rw [HS.out]; go_num, ?_, hout2, hm2⟩
        rw [take_succ_of rows HRK.out, markRows_snoc]
        have e1 : rowsD (rows.take k) = xss.take k := by rw [← HD.out]; simp [rowsD]
        rw [e1, List.append_assoc]
        exact hrw2
      case measure => simp [intOf]; omega
    · go_wp2_with fail
      go_ret
      have hkx : k = xss.length := by omega
      have hkr : k = rows.length := by omega
      have e1 : xss.take k = xss := by rw [hkx]; exact List.take_length
      have e2 : rows.take k = rows := by rw [hkr]; exact List.take_length
      have e3 : rows.drop k = [] := by rw [hkr]; exact List.drop_length
      rw [e2, e3, List.append_nil] at hrw
      rw [e1]
      refine ⟨rfl, ⟨hout'.1, markRows q rows, by rw [markRows_D, HD.out], ?_, hrw⟩, hm⟩
      rw [markD_len, markRows_V]
      exact hout'


set_option maxHeartbeats 800000 in
theorem heldIntSS_anyB (A : Option Addr) (xss : List (List Int)) (c : Nat) (q : Int) (w : World) (lo hi : Nat) (hr : RSS w lo hi A (markD q xss)) (hq : 0 ≤ q) (hq2 : q ≤ 4194304) (hsz : xss.length + sumL xss ≤ 4194304) :
    Calls Try.prog 49 #[.slice A xss.length c, .int .i64 q] w fun e w' => e = .returned (.int .i64 (q + (sumL xss : Int))) ∧ w = w' := by
  go_enter Try.func49, Try.ntmps49
  go_wp2_with fail
  go_loop [1, 5] (fun qv i => ∃ k : Nat, k ≤ xss.length ∧ i = .int .i64 k ∧ qv = .int .i64 (q + (sumL (xss.take k) : Int))) (fun _ i => xss.length - (intOf i).toNat)
  case atStart => exact ⟨0, Nat.zero_le _, rfl, by simp [sumL]⟩
  case round =>
    obtain ⟨k, hk, rfl, rfl⟩ := hrel
    by_cases hlt : k < xss.length
    · obtain ⟨b, off, A', c', ys, rfl, -, -, hy, hc, hry⟩ := hr.row (k := k) (by rw [markD_len]; exact hlt)
      obtain ⟨xs, hx⟩ := get_of_lt xss hlt
      rw [markD_get q xss hx] at hy
      obtain rfl := Option.some.inj hy
      have hs := sumL_take_succ hx
      have hs2 := sumL_take_le xss (k + 1)
      have hle : sumL (xss.take k) + xs.length ≤ 4194304 := by omega
      have HS := Lib.hid hs
      rw [marks_len] at hc
      clear hs hs2 hx hy
      go_wp2_with fail
      with_reducible refine (heldIntS_anyB A' xs.length c' _ _ _ hry.rs (by omega) (by omega) (by omega)).mono ?_
      rintro e w' ⟨rfl, rfl⟩
      go_wp2_with fail
      go_round
      case rel => exact ⟨k + 1, by omega, by go_num, by rw [HS.out]; go_num⟩
      case measure => simp [intOf]; omega
    · go_wp2_with fail
      go_ret
      obtain rfl : k = xss.length := by omega
      rw [List.take_length]
      exact ⟨rfl, rfl⟩

theorem eqSSB (A A' : Option Addr) (xss : List (List Int)) (c c' : Nat) (w : World) (lo hi lo' hi' : Nat) (hr : RSS w lo hi A xss) (hr' : RSS w lo' hi' A' xss) (hsz : xss.length + sumL xss ≤ 4194304) :
    Calls Try.prog 47 #[.slice A xss.length c, .slice A' xss.length c'] w (Stp (.bool true) w) :=
  (eqIntSS_sameB A A' xss c c' w lo hi lo' hi' hr hr' hsz).mono fun _ _ ⟨he, n, hw⟩ => ⟨he, hw ▸ (Mid.refl 0 0 w).drewN n⟩
theorem heldSSB (A : Option Addr) (xss : List (List Int)) (c : Nat) (q : Int) (w : World) (lo hi : Nat) (hr : RSS w lo hi A (markD q xss)) (hq : 0 ≤ q) (hq2 : q ≤ 4194304) (hsz : xss.length + sumL xss ≤ 4194304) :
    Calls Try.prog 49 #[.slice A xss.length c, .int .i64 q] w (Stp (.int .i64 (q + (sumL xss : Int))) w) :=
  (heldIntSS_anyB A xss c q w lo hi hr hq hq2 hsz).mono fun _ _ ⟨he, hw⟩ => ⟨he, hw ▸ Mid.refl 0 0 w⟩
end Go.Proofs.Ytaddhbdfjkbgiaa
