
/- NextMove, spec. -/
import Derived.Test.YtchgicdjdbjfgaaM6
import Derived.Test.YtchgicdjdbjfgaaL33
namespace Go.Proofs.Ytchgicdjdbjfgaa
set_option linter.unusedVariables false
set_option linter.unusedSimpArgs false
open Go.RowKit

theorem spec_ApplyMoveX (A : Option Addr) (d : List (List Int)) (c : Nat) (m : Mv) (w : World) (lo hi : Nat) (h : RSS w lo hi A d) (ho : ∀ xs ∈ d, OkI xs) (hl : d.length + sumL d ≤ 1048576) (res : List (List Int)) (b : Bool) (hres : ApplyMoveIs d m res b) :
    Calls Try.prog 82 #[.slice A d.length c, m.v] w fun e w' => ∃ A2 c2, e = .returned (.tuple #[.slice A2 res.length c2, .bool b]) ∧ OSS w' w.heap.size w'.heap.size 27 3 A2 c2 res ∧ Mid 0 0 w w' := by
  have := spec_ApplyMove A d c m w lo hi h ho hl
  unfold RetMv at this
  rw [show applyM d m = (res, b) from hres] at this
  exact this

set_option maxRecDepth 100000 in
set_option maxHeartbeats 6400000 in
theorem spec_NextMove (A : Option Addr) (d : List (List Int)) (c : Nat) (w : World) (lo hi : Nat) (hr : RSC w lo hi A d) (hok : ∀ xs ∈ d, OkI xs) (hl : d.length + sumL d ≤ 1048576) :
    Calls Try.prog 61 #[.slice A d.length c] w (RetNM d w) := by
  have HOK := Lib.hid hok
  clear hok
  have hb0 : Mid 0 0 w (w.alloc (.cells #[.int .i64 0, .int .i64 0, .int .i64 0, .int .i64 0] 68)) := Mid.alloc _ _
  have hbx0 := Box.new w #[.int .i64 0, .int .i64 0, .int .i64 0, .int .i64 0] 68
  have hr0 := hr.mid hb0 (Or.inl (Nat.zero_le _))
  have hhi := hr.size
  go_enter Try.func61, Try.ntmps61
  go_wp2_with fail
  go_loop [4] (fun i => ∃ k : Nat, k ≤ d.length ∧ i = .int .i64 k ∧ (List.range k).findSome? (tryD d) = none) (fun i => d.length - (intOf i).toNat)
  case atStart => exact ⟨0, Nat.zero_le _, rfl, rfl⟩
  case round =>
    obtain ⟨k, hk, rfl, hD⟩ := hrel
    have HD := Lib.hid hD
    clear hD
    by_cases hlt : k < d.length
    · obtain ⟨b, off, A1, c1, xs, rfl, -, -, hx, hcx, -, -⟩ := hr0.row hlt
      have hlt3 : (k : Int) < (d.length : Int) := by omega
      have hxr := rowAt_get hx
      have HXR := Lib.hid hxr
      have hlx := len_le_sumL (List.mem_of_getElem? hx)
      clear hx hxr
      by_cases hz : xs.length = 0
      · obtain rfl := List.eq_nil_of_length_eq_zero hz
        clear hz hlx
        go_wp2_with fail
        have ht : tryD d k = some ⟨4, k, 0, 0⟩ := by unfold tryD; rw [HXR.out]; rfl
        have k0 := hbx0.cell 0 rfl
        refine bodyPost_ret (v := .tuple #[.agg #[.int .i64 4, .int .i64 k, .int .i64 0, .int .i64 0], .bool true]) (by simp [results, Try.results61, go_sem]) rfl (RetNM.some (nextM_D HD.out hlt ht) ?_)
        repeat (first | exact Mid.alloc _ _ | refine Mid.storeNew ?_ (by simp) _)
      · have hz1 : ((xs.length : Int) == 0) = false := by simp; intro h; exact hz (by rw [h]; rfl)
        go_wp2_with fail
        go_round
        case rel =>
          have ht : tryD d k = none := by unfold tryD; rw [HXR.out, if_neg hz]
          exact ⟨k + 1, by omega, by go_num, by rw [find_range_succ _ _ HD.out, ht]⟩
        case measure => simp [intOf]; omega
    · obtain rfl : k = d.length := by omega
      clear hlt hk
      go_wp2_with fail
      go_loopw [5, 6, 7, 8, 9, 10] (fun i _ _ _ _ _ wr => ∃ k : Nat, k ≤ d.length ∧ i = .int .i64 k ∧ (List.range k).findSome? (tryI d) = none ∧ Box wr w.heap.size [.int .i64 0, .int .i64 0, .int .i64 0, .int .i64 0] ∧ Mid 0 0 w wr) (fun i _ _ _ _ _ _ => d.length - (intOf i).toNat)
      case atStart => exact ⟨0, Nat.zero_le _, rfl, rfl, hbx0, hb0⟩
      case round =>
        obtain ⟨i, hi2, rfl, hI, hbx, hm⟩ := hrel
        have HI := Lib.hid hI
        clear hI hr0 hb0 hbx0
        have k0 := hbx.cell 0 rfl
        have k1 := hbx.cell 1 rfl
        have k2 := hbx.cell 2 rfl
        have k3 := hbx.cell 3 rfl
        have fx := hbx.2.2
        by_cases hlt : i < d.length
        · obtain ⟨b, off, A1, c1, xs, hAe, -, hbhi, hx, hcx0, hrx, hcp⟩ := hr.row hlt
          have hcx := cell_keep hm (show b < w.heap.size by omega) (Or.inr (Nat.zero_le _)) hcx0
          have hlt3 : (i : Int) < (d.length : Int) := by omega
          have hlx := len_le_sumL (List.mem_of_getElem? hx)
          have hox := HOK.out xs (List.mem_of_getElem? hx)
          have HOX := Lib.hid hox
          have HX := Lib.hid hx
          subst hAe
          clear hx hox
          go_wp2_with fail
          go_loopw [6, 7, 8, 9, 10] (fun j _ _ _ _ wr2 => ∃ k : Nat, k ≤ d.length ∧ j = .int .i64 k ∧ (List.range k).findSome? (tryK d i) = none ∧ Box wr2 w.heap.size [.int .i64 0, .int .i64 0, .int .i64 0, .int .i64 0] ∧ Mid 0 0 w wr2) (fun j _ _ _ _ _ => d.length - (intOf j).toNat)
          case atStart => exact ⟨0, Nat.zero_le _, rfl, rfl, hbx, hm⟩
          case round =>
            clear hbx k0 k1 k2 k3 fx hcx hm
            obtain ⟨k, hk, rfl, hK, hbx, hm⟩ := hrel
            have HK := Lib.hid hK
            clear hK
            by_cases hltk : k < d.length
            · obtain ⟨b2, off2, A2, c2, ys, hAe2, -, -, hy, hcy, hry, hcpy⟩ := (hr.mid hm (Or.inl (Nat.zero_le _))).row hltk
              have hrx3 := hrx.mid hm (Or.inl (Nat.zero_le _))
              have hcx3 := cell_keep hm (show b < w.heap.size by omega) (Or.inr (Nat.zero_le _)) hcx0
              injection hAe2 with hAe2
              injection hAe2 with e1 e2
              subst e1 e2
              have hltk3 : (k : Int) < (d.length : Int) := by omega
              have hly := len_le_sumL (List.mem_of_getElem? hy)
              have hoy := HOK.out ys (List.mem_of_getElem? hy)
              have HOY := Lib.hid hoy
              have HY := Lib.hid hy
              clear hy hoy
              go_wp2_with fail
              go_loopw [7] (fun nn wr3 => ∃ n : Nat, n ≤ 4 ∧ nn = .int .i64 n ∧ (List.range n).findSome? (tryN d i k) = none ∧ Box wr3 w.heap.size [.int .i64 0, .int .i64 0, .int .i64 0, .int .i64 0] ∧ Mid 0 0 w wr3) (fun nn _ => 4 - (intOf nn).toNat)
              case atStart => exact ⟨0, Nat.zero_le _, rfl, rfl, hbx, hm⟩
              case round =>
                clear hbx hm hcy hry hcx3 hrx3
                obtain ⟨n, hn, rfl, hN, hbx, hm⟩ := hrel
                have HN := Lib.hid hN
                clear hN
                by_cases hltn : n < 4
                · have hltn3 : (n : Int) < 4 := by omega
                  obtain ⟨x, is, hxi⟩ : ∃ x is, applyM d (mvOf i k n) = (x, is) := ⟨_, _, rfl⟩
                  have ht := mvTry_eq hxi
                  have hrow : is = true → ∃ zs, x[i]? = some zs ∧ zs.length ≤ 1048576 ∧ OkI zs := fun his => by
                    by_cases hik : k = i
                    · subst hik
                      have hk2 := (mvOf_kind (i := k) (k := k) hltn).1
                      have : (applyM d (mvOf k k n)).2 = false := by
                        by_cases h0 : 0 ≤ (mvOf k k n).i ∧ (mvOf k k n).i < d.length
                        · rw [applyM_bad (by omega) (by omega) (.inl (by simp [MvOk, mvOf]))]
                        · rw [applyM_out h0]
                      rw [hxi] at this
                      rw [his] at this
                      cases this
                    · have h1 := (mvTry_at HX.out HY.out hik hltn).1
                      rw [hxi] at h1
                      injection h1 with h1 _
                      refine ⟨mvRes xs ys n, by rw [h1, List.getElem?_set_self hlt], ?_, mvRes_ok HOX.out HOY.out n⟩
                      have h2 := two_le_sumL HX.out HY.out (Ne.symm hik)
                      have h3 := mvRes_len xs ys n
                      omega
                  have HROW := Lib.hid hrow
                  have HT := Lib.hid ht
                  have HXI := Lib.hid (show ApplyMoveIs d (mvOf i k n) x is from hxi)
                  have hlx4 : xs.length ≤ 1048576 := by omega
                  clear hxi ht hrow
                  have hal : Mid 0 0 wr (wr.alloc (.cells #[.int .i64 (2 + (n : Int) / 2), .int .i64 i, .int .i64 k, .int .i64 (1 - 2 * ((n : Int) % 2))] 68)) := Mid.alloc _ _
                  have hby := Box.new wr #[.int .i64 (2 + (n : Int) / 2), .int .i64 i, .int .i64 k, .int .i64 (1 - 2 * ((n : Int) % 2))] 68
                  have hma := hm.trans hal
                  have hszm := hm.size
                  have hbxa := hbx.mid hal (Or.inr (Nat.zero_le _))
                  have hra := (hr.mid hma (Or.inl (Nat.zero_le _)))
                  have hC := spec_ApplyMoveX (some ⟨b, off, none⟩) d c (mvOf i k n) _ _ _ hra.rss HOK.out hl x is HXI.out
                  have HC := Lib.hid hC
                  clear hC
                  go_wp2_with fail
                  refine (HC.out).mono ?_
                  rintro e w1 ⟨Ax, cx, rfl, hox, hmx⟩
                  have hm1 := hma.trans hmx
                  have hby1 := hby.mid hmx (Or.inr (Nat.zero_le _))
                  have hbx1 := hbxa.mid hmx (Or.inr (Nat.zero_le _))
                  have hr1 := hr.mid hm1 (Or.inl (Nat.zero_le _))
                  have y0 := hby1.cell 0 rfl
                  have y1 := hby1.cell 1 rfl
                  have y2 := hby1.cell 2 rfl
                  have y3 := hby1.cell 3 rfl
                  cases hisc : is with
                  | false =>
                    subst hisc
                    go_wp2_with fail
                    go_quiet (fail)
                    go_wp2_with fail
                    go_roundw
                    case rel => exact ⟨n + 1, by omega, by go_num, by rw [find_range_succ _ _ HN.out]; unfold tryN; rw [HT.out]; rfl, by first | exact hbx1 | exact hbx1.drewN _, by first | exact hm1 | exact hm1.drewN _⟩
                    case measure => simp [intOf]; omega
                  | true =>
                    subst hisc
                    obtain ⟨zs, hzs, hlz, hoz⟩ := HROW.out rfl
                    have hxl : i < x.length := (List.getElem?_eq_some_iff.1 hzs).1
                    have hmd := Mid.drew1 w1
                    obtain ⟨b4, off4, A4, c4, zs4, hAe4, -, hbh4, hz4, hcz, hrz, hcpz⟩ := (hox.rsc.mid hmd (Or.inl (Nat.zero_le _))).row hxl
                    rw [hzs] at hz4
                    obtain rfl := Option.some.inj hz4
                    subst hAe4
                    obtain ⟨b5, off5, A5, c5, xs5, hAe5, -, hbh5, hx5, hcx5, hrx5, hcp5⟩ := (hr1.mid hmd (Or.inl (Nat.zero_le _))).row hlt
                    rw [HX.out] at hx5
                    obtain rfl := Option.some.inj hx5
                    injection hAe5 with hAe5
                    injection hAe5 with e1 e2
                    subst e1 e2
                    have hrz1 := rowAt_get hzs
                    have hrz2 := rowAt_get HX.out
                    obtain ⟨q, hq⟩ : ∃ q, q = cmpN zs xs := ⟨_, rfl⟩
                    have HQ := Lib.hid hq
                    have ht2 := HT.out
                    rw [hrz1, hrz2, ← hq] at ht2
                    have HT2 := Lib.hid ht2
                    have HOZ := Lib.hid hoz
                    have hszd : w1.heap.size = w1.drew.heap.size := rfl
                    have hs4 : b4 < w1.drew.heap.size := by have := hox.size; omega
                    have hs5 : b < w1.drew.heap.size := by have := hr1.size; omega
                    have hcz1 : w1.cell? ⟨b4, off4 + i, none⟩ = some (.slice A4 zs.length c4) := hcz
                    have hcx1 : w1.cell? ⟨b, off + i, none⟩ = some (.slice A5 xs.length c5) := hcx5
                    have hxl3 : (i : Int) < (x.length : Int) := by omega
                    have hi0 : (0 : Int) ≤ (i : Int) := by omega
                    have hC := spec_CompareNielsen A4 A5 zs xs c4 c5 w1.drew hrz.rsS hrx5.rsS hcpz hcp5 hoz HOX.out hlz hlx4
                    rw [← hq] at hC
                    have HC2 := Lib.hid hC
                    clear hq ht2 hC hz4 hx5 hzs hrz1 hrz2 hoz hszd
                    go_wp2_with fail
                    go_region_held3 (fun w' => w'.cell? ⟨b4, off4 + i, none⟩ = some (.slice A4 zs.length c4) ∧ w'.cell? ⟨b, off + i, none⟩ = some (.slice A5 xs.length c5)) (first | exact ⟨hcz1, hcx1⟩ | exact ⟨hcz, hcx5⟩ | exact ⟨hcz2, hcx2⟩) (first | (go_at_call 112; refine (HC2.out).mono ?_; rintro e w2 ⟨rfl, hm2⟩; have hcz2 := cell_keep hm2 hs4 (Or.inr (Nat.zero_le _)) hcz; have hcx2 := cell_keep hm2 hs5 (Or.inr (Nat.zero_le _)) hcx5))
                    have hmt := (hm1.trans hmd).trans hm2
                    have hbx2 := (hbx1.mid hmd (Or.inr (Nat.zero_le _))).mid hm2 (Or.inr (Nat.zero_le _))
                    have hby2 := (hby1.mid hmd (Or.inr (Nat.zero_le _))).mid hm2 (Or.inr (Nat.zero_le _))
                    have z0 := hby2.cell 0 rfl
                    have z1 := hby2.cell 1 rfl
                    have z2 := hby2.cell 2 rfl
                    have z3 := hby2.cell 3 rfl
                    have q0 := hbx2.cell 0 rfl
                    have q1 := hbx2.cell 1 rfl
                    have q2 := hbx2.cell 2 rfl
                    have q3 := hbx2.cell 3 rfl
                    have fq := hbx2.2.2
                    by_cases hqlt : q < 0
                    · go_wp2_with fail
                      have hfN : tryN d i k n = some (mvOf i k n) := by unfold tryN; rw [HT2.out, decide_eq_true hqlt]; rfl
                      have hf : tryK d i k = some (mvOf i k n) := by unfold tryK; exact find_range_some _ HN.out hltn hfN
                      refine bodyPost_ret (v := .tuple #[.agg #[.int .i64 (2 + (n : Int) / 2), .int .i64 i, .int .i64 k, .int .i64 (1 - 2 * ((n : Int) % 2))], .bool true]) (by simp [results, Try.results61, go_sem, q0, q1, q2, q3, fq]) rfl (RetNM.some (nextM_I HD.out HI.out hlt HK.out hltk hf) ?_)
                      repeat (first | exact hmt | refine Mid.storeNew ?_ (by simp) _)
                    · go_wp2_with fail
                      go_roundw
                      case rel => exact ⟨n + 1, by omega, by go_num, by rw [find_range_succ _ _ HN.out]; unfold tryN; rw [HT2.out, decide_eq_false hqlt]; rfl, hbx2, hmt⟩
                      case measure => simp [intOf]; omega
                · obtain rfl : n = 4 := by omega
                  go_wp2_with fail
                  go_roundw
                  case rel => exact ⟨k + 1, by omega, by go_num, by rw [find_range_succ _ _ HK.out]; exact HN.out, hbx, hm⟩
                  case measure => simp [intOf]; omega
            · obtain rfl : k = d.length := by omega
              go_wp2_with fail
              go_roundw
              case rel => exact ⟨i + 1, by omega, by go_num, by rw [find_range_succ _ _ HI.out]; exact HK.out, hbx, hm⟩
              case measure => simp [intOf]; omega
        · obtain rfl : i = d.length := by omega
          go_wp2_with fail
          refine bodyPost_ret (v := .tuple #[.agg #[.int .i64 0, .int .i64 0, .int .i64 0, .int .i64 0], .bool false]) (by simp [results, Try.results61, go_sem, k0, k1, k2, k3, fx]) rfl (RetNM.none (nextM_none HD.out HI.out) ?_)
          repeat (first | exact hm | refine Mid.storeNew ?_ (by simp) _)
end Go.Proofs.Ytchgicdjdbjfgaa
