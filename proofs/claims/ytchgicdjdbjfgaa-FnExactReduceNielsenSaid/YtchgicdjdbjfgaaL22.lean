
/- product of the program. -/
import Derived.Test.YtchgicdjdbjfgaaM4
import Derived.Test.YtchgicdjdbjfgaaL11
namespace Go.Proofs.Ytchgicdjdbjfgaa
set_option linter.unusedVariables false
set_option linter.unusedSimpArgs false
open Go.RowKit

/-- What holds of the product's list. -/
def PrOut (w wr : World) (v : Value) (out : List Int) : Prop := wr.ownsRow w.heap.size 3 1 v out.length (ints out) ∧ Below w.heap.size w wr
set_option maxHeartbeats 3200000 in
theorem impl_product (A : Option Addr) (d : List (List Int)) (c : Nat) (w : World) (lo hi : Nat) (hr : RSS w lo hi A d) (hok : ∀ xs ∈ d, OkI xs) (hl : d.length ≤ 4194304) (hs : sumL d ≤ 268435456) :
    Calls Try.prog 118 #[.slice A d.length c] w fun e w' => RetI 3 (red [] d.flatten) w e w' := by
  have HOK := Lib.hid hok
  clear hok
  have hb0 := (Below.refl w.heap.size w).alloc (Nat.le_refl _) (.cells #[] 3)
  have ho0 := owns_empty w 3 1
  go_enter Try.func118, Try.ntmps118
  go_wp2_with fail
  go_loopw [3, 5, 7, 11] (fun v _ _ i wr => ∃ k : Nat, k ≤ d.length ∧ i = .int .i64 k ∧ PrOut w wr v (red [] (d.take k).flatten)) (fun _ _ _ i _ => d.length - (intOf i).toNat)
  case atStart => exact ⟨0, Nat.zero_le _, rfl, by simpa [red, ints] using ho0, hb0⟩
  case round =>
    obtain ⟨k, hk, rfl, hown, hb⟩ := hrel
    by_cases hlt : k < d.length
    · obtain ⟨b, off, A', c', xs, rfl, -, hbh, hx, hc, hrx⟩ := hr.row hlt
      have hhi := hr.size
      have hcw : wr.cell? ⟨b, off + k, none⟩ = some (.slice A' xs.length c') := (hb.cell (by simp; omega)).trans hc
      have hm := List.mem_of_getElem? hx
      have hox := HOK.out xs hm
      have hlx := len_le_sumL hm
      have hlx1 : xs.length ≤ 268435456 := by omega
      obtain ⟨out0, hout0⟩ : ∃ o, o = red [] (d.take k).flatten := ⟨_, rfl⟩
      have hstep := red_flatten_step d hx
      rw [← hout0] at hown hstep
      have hok0 : OkI out0 := by
        rw [hout0]
        exact red_ok (okI_flatten fun ys hy => HOK.out ys (List.mem_of_mem_take hy))
      have hl0 : out0.length + xs.length ≤ 268435456 := by
        have h1 := red_nil_len (d.take k).flatten
        rw [← hout0, sumL_flatten] at h1
        have h2 := sumL_take_succ hx
        have h3 := sumL_take_le d (k + 1)
        omega
      have HX := Lib.hid hx
      have HS := Lib.hid hstep
      have HO0 := Lib.hid hok0
      have HOX := Lib.hid hox
      clear hx hm hox hout0 hstep hok0 hlx
      go_wp2_with fail
      go_loopw [3, 7, 17] (fun v _ j wr2 => ∃ l : Nat, l ≤ xs.length ∧ j = .int .i64 l ∧ PrOut w wr2 v (red out0 (xs.take l))) (fun _ _ j _ => xs.length - (intOf j).toNat)
      case atStart => exact ⟨0, Nat.zero_le _, rfl, hown, hb⟩
      case round =>
        clear hown hb hcw
        obtain ⟨l, hlk, rfl, hown, hb⟩ := hrel
        have hsz := hb.size
        by_cases hl2 : l < xs.length
        · obtain ⟨b', off', x, rfl, -, hxx, hcx⟩ := ((hrx.rs.more hhi).below hb).int hl2
          have hst := red_step xs hxx out0
          have hbx := HOX.out x (List.mem_of_getElem? hxx)
          have hlen := red_len out0 (xs.take l)
          rw [List.length_take] at hlen
          obtain ⟨out1, ho1⟩ : ∃ o, o = red out0 (xs.take l) := ⟨_, rfl⟩
          rw [← ho1] at hown hst hlen
          have hok1 : OkI out1 := fun y hy => by
            rw [ho1] at hy
            rcases red_mem hy with h1 | h1
            · exact HO0.out y h1
            · exact HOX.out y (List.mem_of_mem_take h1)
          clear ho1 hxx
          have HST := Lib.hid hst
          have HBX := Lib.hid hbx
          clear hst hbx
          rcases Nat.eq_zero_or_pos out1.length with he | hp
          · obtain rfl := List.eq_nil_of_length_eq_zero he
            clear he hok1 hlen
            obtain ⟨A1, c1, rfl, -, -⟩ := owns_shape hown
            go_wp2_with (at_builtin; refine wpList_push rfl _ _ 27 rfl w.heap.size 3 (.int .i64 0) 1 8 undSI infoI rfl (by decide) _ _ _ rfl hown 1 [.int .i64 x] rfl rfl (one_of_ints [x]) (by unfold maxLen; simp) (by simp) hsz ?n1)
            case n1 =>
              intro v' w1 hown1 hgr _
              go_wp2_with fail
              go_roundw
              case rel =>
                refine ⟨l + 1, by omega, by go_num, ?_, hb.grown hgr hsz (fun g hg => (hown.lt g hg).1)⟩
                rw [HST.out, redStep_empty]
                exact hown1
              case measure => simp [intOf]; omega
          · obtain ⟨ys, a, rfl⟩ := eq_concat out1 hp
            have hba := hok1 a (by simp)
            rw [List.length_append] at hown hlen
            simp only [List.length_cons, List.length_nil, Nat.zero_add] at hown hlen
            clear hp hok1
            obtain ⟨A1, c1, rfl, hnc, -⟩ := owns_shape hown
            obtain ⟨g, rfl, -, -⟩ := owns_addr hown (Nat.succ_pos _)
            have hca : wr.cell? ⟨g, ys.length, none⟩ = some (.int .i64 a) := by
              rw [hown.cellAt ys.length (by omega)]
              simp [ints]
            have HA := Lib.hid hba
            obtain ⟨ha1, ha2⟩ := hba
            by_cases hI : invB a x = true
            · have HI := Lib.hid hI
              clear hI
              have hys : ys.length ≤ c1 := by omega
              go_wp2_with fail
              refine (impl_areInverse _ _ _ ha1 ha2).mono ?_
              rintro e w' ⟨rfl, rfl⟩
              rw [HI.out]
              go_wp2_with fail
              go_roundw
              case rel =>
                refine ⟨l + 1, by omega, by go_num, ?_, hb⟩
                rw [HST.out, redStep_pop HI.out]
                have h1 := owns_cut hown (Nat.le_succ ys.length)
                rw [Nat.mul_one, ints_append, List.take_left' (ints_len ys)] at h1
                exact h1
              case measure => simp [intOf]; omega
            · have hI' : invB a x = false := by simpa using hI
              have HI := Lib.hid hI'
              clear hI hI'
              go_wp2_with fail
              refine (impl_areInverse _ _ _ ha1 ha2).mono ?_
              rintro e w' ⟨rfl, rfl⟩
              rw [HI.out]
              go_wp2_with (at_builtin; refine wpList_push rfl _ _ 27 rfl w.heap.size 3 (.int .i64 0) 1 8 undSI infoI rfl (by decide) _ _ _ rfl hown 1 [.int .i64 x] rfl rfl (one_of_ints [x]) (by unfold maxLen; omega) (by omega) hsz ?n2)
              case n2 =>
                intro v' w1 hown1 hgr _
                go_wp2_with fail
                go_roundw
                case rel =>
                  refine ⟨l + 1, by omega, by go_num, ?_, hb.grown hgr hsz (fun g hg => (hown.lt g hg).1)⟩
                  rw [HST.out, redStep_push HI.out, ints_append, List.length_append, List.length_append]
                  exact hown1
                case measure => simp [intOf]; omega
        · obtain rfl : l = xs.length := by omega
          rw [List.take_length] at hown
          go_wp2_with fail
          go_roundw
          case rel =>
            refine ⟨k + 1, by omega, by go_num, ?_, hb⟩
            rw [HS.out]
            exact hown
          case measure => simp [intOf]; omega
    · obtain rfl : k = d.length := by omega
      rw [List.take_length] at hown
      go_wp2_with fail
      go_ret
      exact RetI.mk rfl hown hb
end Go.Proofs.Ytchgicdjdbjfgaa
