
/- ReduceLetters and MultiplyWords of the reference. -/
import Derived.Test.YtchgicdjdbjfgaaM4
import Derived.Test.YtchgicdjdbjfgaaL11
namespace Go.Proofs.Ytchgicdjdbjfgaa
set_option linter.unusedVariables false
set_option linter.unusedSimpArgs false
open Go.RowKit

theorem invB_spec {a x : Int} (ha : -9223372036854775808 ≤ a ∧ a ≤ 9223372036854775807) (hx : -9223372036854775808 ≤ x ∧ x ≤ 9223372036854775807) :
    invB a x = true ↔ (x ≠ 0 ∧ a = wrap64 (-x) ∧ a ≠ x) := by
  rw [invB_iff, wrap_neg hx.1 hx.2]
  unfold negI minI
  split <;> omega

/-- What holds of the list so far. -/
def RdOut (w wr : World) (v : Value) (out : List Int) : Prop := wr.ownsRow w.heap.size 3 1 v out.length (ints out) ∧ Below w.heap.size w wr
set_option maxHeartbeats 6400000 in
theorem spec_ReduceLetters (A : Option Addr) (xs : List Int) (c : Nat) (w : World) (B : Nat) (hr : Rs w B A (ints xs)) (hB : B ≤ w.heap.size) (hok : OkI xs) (hl : xs.length ≤ 268435456) :
    Calls Try.prog 127 #[.slice A xs.length c] w fun e w' => RetI 3 (red [] xs) w e w' := by
  have HOK := Lib.hid hok
  clear hok
  have hb0 := (Below.refl w.heap.size w).alloc (Nat.le_refl _) (.cells #[] 3)
  have ho0 := owns_empty w 3 1
  go_enter Try.func127, Try.ntmps127
  go_wp2_with fail
  go_loopw [3, 4, 5] (fun v i _ wr => ∃ k : Nat, k ≤ xs.length ∧ i = .int .i64 k ∧ RdOut w wr v (red [] (xs.take k))) (fun _ i _ _ => xs.length - (intOf i).toNat)
  case atStart => exact ⟨0, Nat.zero_le _, rfl, ho0, hb0⟩
  case round =>
    obtain ⟨k, hk, rfl, hown, hb⟩ := hrel
    have hsz := hb.size
    by_cases hlt : k < xs.length
    · obtain ⟨b, off, x, rfl, -, hxx, hc⟩ := ((hr.more hB).below hb).int hlt
      have hlt3 : (k : Int) < (xs.length : Int) := by omega
      have hst := red_step xs hxx []
      have hbx := HOK.out x (List.mem_of_getElem? hxx)
      have hlen := red_len [] (xs.take k)
      rw [List.length_take, List.length_nil, Nat.zero_add] at hlen
      have hok1 : OkI (red [] (xs.take k)) := red_ok fun y hy => HOK.out y (List.mem_of_mem_take hy)
      obtain ⟨out1, ho1⟩ : ∃ o, o = red [] (xs.take k) := ⟨_, rfl⟩
      rw [← ho1] at hown hst hlen hok1
      have HBX := Lib.hid hbx
      have HST := Lib.hid hst
      clear ho1 hxx hbx hst
      rcases Nat.eq_zero_or_pos out1.length with he | hp
      · obtain rfl := List.eq_nil_of_length_eq_zero he
        clear he hok1 hlen
        obtain ⟨A1, c1, rfl, -, -⟩ := owns_shape hown
        go_wp2_with fail
        go_quiet (fail)
        go_wp2_with (at_builtin; refine wpList_push rfl _ _ 27 rfl w.heap.size 3 (.int .i64 0) 1 8 undSI infoI rfl (by decide) _ _ _ rfl (owns_drewN hown _) 1 [.int .i64 x] rfl rfl (one_of_ints [x]) (by unfold maxLen; simp) (by simp) hsz ?n1)
        case n1 =>
          intro v' w1 hown1 hgr _
          go_wp2_with fail
          go_roundw
          case rel =>
            refine ⟨k + 1, by omega, by go_num, ?_, hb.grown (owns_row hgr) hsz (fun g hg => (hown.lt g hg).1)⟩
            rw [HST.out, redStep_empty]
            exact hown1
          case measure => simp [intOf]; omega
      · obtain ⟨ys, a, rfl⟩ := eq_concat out1 hp
        have hba := hok1 a (by simp)
        rw [List.length_append] at hown hlen
        simp only [List.length_cons, List.length_nil, Nat.zero_add] at hown hlen
        clear hp hok1
        obtain ⟨A1, c1, rfl, hnc, -⟩ := owns_shape hown
        obtain ⟨g, rfl, -, -⟩ := owns_addr hown (Nat.succ_pos _)
        have hca : wr.cell? ⟨g, ys.length, none⟩ = some (.int .i64 a) := by
          rw [hown.cellAt ys.length (by omega)]
          simp [ints]
        have hiff := invB_spec hba HBX.out
        have HI := Lib.hid hiff
        clear hba hiff
        obtain ⟨nx, hnx⟩ : ∃ nx, wrap64 (-x) = nx := ⟨_, rfl⟩
        have hp0 : (0 : Int) < (ys.length : Int) + 1 := by omega
        have hp1 : (ys.length : Int) + 1 - 1 = (ys.length : Int) := by omega
        have hys : ys.length ≤ c1 := by omega
        by_cases hpop : invB a x = true
        · obtain ⟨h1, h2, h3⟩ := HI.out.1 hpop
          have hx0 : (x != 0) = true := by simpa using h1
          have hanx : (a == nx) = true := by rw [← hnx]; simpa using h2
          have hax : (a != x) = true := by simpa using h3
          have HP := Lib.hid hpop
          clear h1 h2 h3 hpop
          go_wp2_with fail
          go_quiet (fail)
          go_wp2_with fail
          go_roundw
          case rel =>
            refine ⟨k + 1, by omega, by go_num, ?_, by first | exact below_drewN hb _ | exact hb⟩
            rw [HST.out, redStep_pop HP.out]
            have h1 := owns_cut hown (Nat.le_succ ys.length)
            rw [Nat.mul_one, ints_append, List.take_left' (ints_len ys)] at h1
            exact owns_drewN h1 _
          case measure => simp [intOf]; omega
        · have hpf : invB a x = false := by simpa using hpop
          have HP := Lib.hid hpf
          have hcases : (x != 0) = false ∨ ((x != 0) = true ∧ (a == nx) = false) ∨ ((x != 0) = true ∧ (a == nx) = true ∧ (a != x) = false) := by
            rw [← hnx]
            by_cases h1 : x = 0
            · left; simpa using h1
            · by_cases h2 : a = wrap64 (-x)
              · right; right
                refine ⟨by simpa using h1, by simpa using h2, ?_⟩
                cases hv : (a != x) with
                | false => rfl
                | true => exact absurd (HI.out.2 ⟨h1, h2, by simpa using hv⟩) hpop
              · right; left
                exact ⟨by simpa using h1, by simpa using h2⟩
          clear hpop hpf
          rcases hcases with h1 | ⟨h1, h2⟩ | ⟨h1, h2, h3⟩
          · go_wp2_with fail
            go_quiet (fail)
            go_wp2_with (at_builtin; refine wpList_push rfl _ _ 27 rfl w.heap.size 3 (.int .i64 0) 1 8 undSI infoI rfl (by decide) _ _ _ rfl (owns_drewN hown _) 1 [.int .i64 x] rfl rfl (one_of_ints [x]) (by unfold maxLen; omega) (by omega) hsz ?n2)
            case n2 =>
              intro v' w1 hown1 hgr _
              go_wp2_with fail
              go_roundw
              case rel =>
                refine ⟨k + 1, by omega, by go_num, ?_, hb.grown (owns_row hgr) hsz (fun g hg => (hown.lt g hg).1)⟩
                rw [HST.out, redStep_push HP.out, ints_append, List.length_append, List.length_append]
                exact hown1
              case measure => simp [intOf]; omega
          · go_wp2_with fail
            go_quiet (fail)
            go_wp2_with (at_builtin; refine wpList_push rfl _ _ 27 rfl w.heap.size 3 (.int .i64 0) 1 8 undSI infoI rfl (by decide) _ _ _ rfl (owns_drewN hown _) 1 [.int .i64 x] rfl rfl (one_of_ints [x]) (by unfold maxLen; omega) (by omega) hsz ?n3)
            case n3 =>
              intro v' w1 hown1 hgr _
              go_wp2_with fail
              go_roundw
              case rel =>
                refine ⟨k + 1, by omega, by go_num, ?_, hb.grown (owns_row hgr) hsz (fun g hg => (hown.lt g hg).1)⟩
                rw [HST.out, redStep_push HP.out, ints_append, List.length_append, List.length_append]
                exact hown1
              case measure => simp [intOf]; omega
          · go_wp2_with fail
            go_quiet (fail)
            go_wp2_with (at_builtin; refine wpList_push rfl _ _ 27 rfl w.heap.size 3 (.int .i64 0) 1 8 undSI infoI rfl (by decide) _ _ _ rfl (owns_drewN hown _) 1 [.int .i64 x] rfl rfl (one_of_ints [x]) (by unfold maxLen; omega) (by omega) hsz ?n4)
            case n4 =>
              intro v' w1 hown1 hgr _
              go_wp2_with fail
              go_roundw
              case rel =>
                refine ⟨k + 1, by omega, by go_num, ?_, hb.grown (owns_row hgr) hsz (fun g hg => (hown.lt g hg).1)⟩
                rw [HST.out, redStep_push HP.out, ints_append, List.length_append, List.length_append]
                exact hown1
              case measure => simp [intOf]; omega
    · obtain rfl : k = xs.length := by omega
      rw [List.take_length] at hown
      have hlr := red_nil_len xs
      obtain ⟨out, hout⟩ : ∃ o, o = red [] xs := ⟨_, rfl⟩
      rw [← hout] at hown hlr
      have HO := Lib.hid hout
      clear hout
      obtain ⟨A1, c1, rfl, hnc, -⟩ := owns_shape hown
      have ho2 := owns_empty wr 3 1
      have ho2' : (wr.alloc (.cells #[] 3)).ownsRow w.heap.size 3 1 (.slice (some ⟨wr.heap.size, 0, none⟩) 0 0) 0 [] := owns_base ho2 hsz
      have hra : Rs (wr.alloc (.cells #[] 3)) wr.heap.size A1 (ints out) := (Rs.of_own hown).alloc (Nat.le_refl _) _
      have hla : (ints out).length = out.length * 1 := by rw [ints_len]; omega
      go_wp2_with (at_builtin; refine wpList_cat rfl _ _ 27 rfl w.heap.size 3 (.int .i64 0) 1 8 undSI infoI rfl (by decide) _ _ _ rfl ho2' A1 out.length c1 wr.heap.size (ints out) rfl hra hla (one_of_ints _) ?c2 ?c3 (by simp; omega) ?next)
      case c2 => unfold maxLen; omega
      case c3 => omega
      case next =>
        intro v1 w1 hown1 hgr1 _
        have hb1 : Below w.heap.size w w1 := (hb.grown (World.grownBy_alloc wr _ none) hsz (by intro g h; cases h)).grown hgr1 (by simp; omega) (fun g hg => (ho2'.lt g hg).1)
        go_wp2_with fail
        go_ret
        rw [← HO.out]
        exact RetI.mk rfl (by simpa using hown1) hb1
end Go.Proofs.Ytchgicdjdbjfgaa
