
/- DegreeOf. -/
import Derived.Test.YtkcfbcbkokabdaaG20
import Derived.Test.YtkcfbcbkokabdaaM12
namespace Go.Proofs.Ytkcfbcbkokabdaa
set_option linter.unusedVariables false
set_option linter.unusedSimpArgs false
open Go.RowKit

set_option maxHeartbeats 3200000 in
theorem impl_DegreeOf (r s : Int) (A : Option Addr) (es : List Ed) (c : Nat) (v : Int) (w : World) (lo hi : Nat) (hr : RG w lo hi A es) (hl : es.length ≤ 1048576) :
    Calls Try.prog 87 #[.agg #[.int .i64 r, .int .i64 s, .slice A es.length c], .int .i64 v] w fun e w' => e = .returned (.int .i64 (deg es v)) ∧ Mid 0 0 w w' := by
  have hm0 : Mid 0 0 w (w.alloc (.cells #[.int .i64 r, .int .i64 s, .slice A es.length c] 29)) := Mid.alloc _ _
  have B1 := (Box.new w #[.int .i64 r, .int .i64 s, .slice A es.length c] 29)
  go_enter Try.func87, Try.ntmps87
  go_wp2_with fail
  go_loopw [5, 11] (fun n i wr => ∃ k d : Nat, k ≤ es.length ∧ i = .int .i64 k ∧ n = .int .i64 d ∧ Hid (deg (es.take k) v = d) ∧ Box wr w.heap.size [.int .i64 r, .int .i64 s, .slice A es.length c] ∧ Mid 0 0 w wr) (fun _ i _ => es.length - (intOf i).toNat)
  case atStart => exact ⟨0, 0, Nat.zero_le _, rfl, rfl, Lib.hid (by simp [deg]), B1, hm0⟩
  case round =>
    obtain ⟨k, d, hk, rfl, rfl, HD, bx, hmr⟩ := hrel
    have hd : d ≤ 2097152 := by
      have h1 := deg_le (es.take k) v
      have h2 := HD.out
      simp at h1
      omega
    have p0 := bx.cell 0 rfl
    have p1 := bx.cell 1 rfl
    have p2 := bx.cell 2 rfl
    by_cases hlt : k < es.length
    · obtain ⟨B, off, e, rfl, -, hbh, he, e0, e1, e2⟩ := (hr.mid hmr (Or.inl (Nat.zero_le _))).ed hlt
      have hal := Mid.alloc wr (.cells #[.int .i64 e.a, .int .i64 e.l, .int .i64 e.b] 48)
      have hm1 := hmr.trans hal
      have bx1 := bx.mid hal (Or.inr (Nat.zero_le _))
      have hkn : (k : Int) < (es.length : Int) := by omega
      have HS := Lib.hid (deg_take_succ he v)
      clear he
      by_cases c1 : e.a = v
      · have b1 : (e.a == v) = true := by simpa using c1
        by_cases c2 : e.b = v
        · have b2 : (e.b == v) = true := by simpa using c2
          have HT : Hid (deg (es.take (k + 1)) v = d + 1 + 1) := Lib.hid (by rw [HS.out, HD.out, degE, if_pos c1, if_pos c2])
          clear c1 c2
          go_wp2_with fail
          go_roundw
          case rel => exact ⟨k + 1, d + 1 + 1, by omega, by go_num, congrArg (Value.int .i64) (by omega), HT, bx1, hm1⟩
          case measure => simp [intOf]; omega
        · have b2 : (e.b == v) = false := by simpa only [beq_eq_false_iff_ne] using c2
          have HT : Hid (deg (es.take (k + 1)) v = d + 1) := Lib.hid (by rw [HS.out, HD.out, degE, if_pos c1, if_neg c2])
          clear c1 c2
          go_wp2_with fail
          go_roundw
          case rel => exact ⟨k + 1, d + 1, by omega, by go_num, by go_num, HT, bx1, hm1⟩
          case measure => simp [intOf]; omega
      · have b1 : (e.a == v) = false := by simpa only [beq_eq_false_iff_ne] using c1
        by_cases c2 : e.b = v
        · have b2 : (e.b == v) = true := by simpa using c2
          have HT : Hid (deg (es.take (k + 1)) v = d + 1) := Lib.hid (by rw [HS.out, HD.out, degE, if_neg c1, if_pos c2])
          clear c1 c2
          go_wp2_with fail
          go_roundw
          case rel => exact ⟨k + 1, d + 1, by omega, by go_num, by go_num, HT, bx1, hm1⟩
          case measure => simp [intOf]; omega
        · have b2 : (e.b == v) = false := by simpa only [beq_eq_false_iff_ne] using c2
          have HT : Hid (deg (es.take (k + 1)) v = d) := Lib.hid (by rw [HS.out, HD.out, degE, if_neg c1, if_neg c2]; rfl)
          clear c1 c2
          go_wp2_with fail
          go_roundw
          case rel => exact ⟨k + 1, d, by omega, by go_num, by go_num, HT, bx1, hm1⟩
          case measure => simp [intOf]; omega
    · obtain rfl : k = es.length := by omega
      have hx := HD.out
      rw [List.take_length] at hx
      subst hx
      go_wp2_with fail
      go_ret
      exact ⟨rfl, hmr⟩

set_option maxHeartbeats 3200000 in
theorem spec_DegreeOf (r s : Int) (A : Option Addr) (es : List Ed) (c : Nat) (v : Int) (w : World) (lo hi : Nat) (hr : RG w lo hi A es) (hl : es.length ≤ 1048576) :
    Calls Try.prog 103 #[.agg #[.int .i64 r, .int .i64 s, .slice A es.length c], .int .i64 v] w fun e w' => e = .returned (.int .i64 (deg es v)) ∧ Mid 0 0 w w' := by
  have hm0 : Mid 0 0 w (w.alloc (.cells #[.int .i64 r, .int .i64 s, .slice A es.length c] 29)) := Mid.alloc _ _
  have B1 := (Box.new w #[.int .i64 r, .int .i64 s, .slice A es.length c] 29)
  go_enter Try.func103, Try.ntmps103
  go_wp2_with fail
  go_loopw [5, 6] (fun n i wr => ∃ k d : Nat, k ≤ es.length ∧ i = .int .i64 k ∧ n = .int .i64 d ∧ Hid (deg (es.take k) v = d) ∧ Box wr w.heap.size [.int .i64 r, .int .i64 s, .slice A es.length c] ∧ Mid 0 0 w wr) (fun _ i _ => es.length - (intOf i).toNat)
  case atStart => exact ⟨0, 0, Nat.zero_le _, rfl, rfl, Lib.hid (by simp [deg]), B1, hm0⟩
  case round =>
    obtain ⟨k, d, hk, rfl, rfl, HD, bx, hmr⟩ := hrel
    have hd : d ≤ 2097152 := by
      have h1 := deg_le (es.take k) v
      have h2 := HD.out
      simp at h1
      omega
    have p0 := bx.cell 0 rfl
    have p1 := bx.cell 1 rfl
    have p2 := bx.cell 2 rfl
    by_cases hlt : k < es.length
    · obtain ⟨B, off, e, rfl, -, hbh, he, e0, e1, e2⟩ := (hr.mid hmr (Or.inl (Nat.zero_le _))).ed hlt
      have hm1 := hmr
      have bx1 := bx
      have hkn : (k : Int) < (es.length : Int) := by omega
      have HS := Lib.hid (deg_take_succ he v)
      clear he
      by_cases c1 : e.a = v
      · have b1 : (e.a == v) = true := by simpa using c1
        by_cases c2 : e.b = v
        · have b2 : (e.b == v) = true := by simpa using c2
          have HT : Hid (deg (es.take (k + 1)) v = d + 1 + 1) := Lib.hid (by rw [HS.out, HD.out, degE, if_pos c1, if_pos c2])
          clear c1 c2
          go_wp2_with fail
          go_roundw
          case rel => exact ⟨k + 1, d + 1 + 1, by omega, by go_num, congrArg (Value.int .i64) (by omega), HT, bx1, hm1⟩
          case measure => simp [intOf]; omega
        · have b2 : (e.b == v) = false := by simpa only [beq_eq_false_iff_ne] using c2
          have HT : Hid (deg (es.take (k + 1)) v = d + 1) := Lib.hid (by rw [HS.out, HD.out, degE, if_pos c1, if_neg c2])
          clear c1 c2
          go_wp2_with fail
          go_roundw
          case rel => exact ⟨k + 1, d + 1, by omega, by go_num, by go_num, HT, bx1, hm1⟩
          case measure => simp [intOf]; omega
      · have b1 : (e.a == v) = false := by simpa only [beq_eq_false_iff_ne] using c1
        by_cases c2 : e.b = v
        · have b2 : (e.b == v) = true := by simpa using c2
          have HT : Hid (deg (es.take (k + 1)) v = d + 1) := Lib.hid (by rw [HS.out, HD.out, degE, if_neg c1, if_pos c2])
          clear c1 c2
          go_wp2_with fail
          go_roundw
          case rel => exact ⟨k + 1, d + 1, by omega, by go_num, by go_num, HT, bx1, hm1⟩
          case measure => simp [intOf]; omega
        · have b2 : (e.b == v) = false := by simpa only [beq_eq_false_iff_ne] using c2
          have HT : Hid (deg (es.take (k + 1)) v = d) := Lib.hid (by rw [HS.out, HD.out, degE, if_neg c1, if_neg c2]; rfl)
          clear c1 c2
          go_wp2_with fail
          go_roundw
          case rel => exact ⟨k + 1, d, by omega, by go_num, by go_num, HT, bx1, hm1⟩
          case measure => simp [intOf]; omega
    · obtain rfl : k = es.length := by omega
      have hx := HD.out
      rw [List.take_length] at hx
      subst hx
      go_wp2_with fail
      go_ret
      exact ⟨rfl, hmr⟩
end Go.Proofs.Ytkcfbcbkokabdaa
