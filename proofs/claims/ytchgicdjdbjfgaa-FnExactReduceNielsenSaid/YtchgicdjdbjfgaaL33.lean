
/- NextMove, impl. -/
import Derived.Test.YtchgicdjdbjfgaaM6

namespace Go.Proofs.Ytchgicdjdbjfgaa
set_option linter.unusedVariables false
set_option linter.unusedSimpArgs false
open Go.RowKit

/-- What NextMove hands back. -/
abbrev RetNM (d : List (List Int)) (w : World) (e : Ending) (w' : World) : Prop := e = .returned (.tuple #[(mvD (nextM d)).v, .bool (nextM d).isSome]) ∧ Mid 0 0 w w'
theorem RetNM.some {d : List (List Int)} {w w' : World} {a b c s : Int} (h : nextM d = some ⟨a, b, c, s⟩) (hm : Mid 0 0 w w') : RetNM d w (.returned (.tuple #[.agg #[.int .i64 a, .int .i64 b, .int .i64 c, .int .i64 s], .bool true])) w' := by
  refine ⟨?_, hm⟩
  rw [h]
  rfl
theorem RetNM.none {d : List (List Int)} {w w' : World} (h : nextM d = none) (hm : Mid 0 0 w w') : RetNM d w (.returned (.tuple #[.agg #[.int .i64 0, .int .i64 0, .int .i64 0, .int .i64 0], .bool false])) w' := by
  refine ⟨?_, hm⟩
  rw [h]
  rfl

set_option maxRecDepth 100000 in
set_option maxHeartbeats 6400000 in
theorem impl_NextMove (A : Option Addr) (d : List (List Int)) (c : Nat) (w : World) (lo hi : Nat) (hr : RSC w lo hi A d) (hok : ∀ xs ∈ d, OkI xs) (hl : d.length + sumL d ≤ 1048576) :
    Calls Try.prog 64 #[.slice A d.length c] w (RetNM d w) := by
  have HOK := Lib.hid hok
  clear hok
  have hb0 : Mid 0 0 w (w.alloc (.cells #[.int .i64 0, .int .i64 0, .int .i64 0, .int .i64 0] 68)) := Mid.alloc _ _
  have hbx0 := Box.new w #[.int .i64 0, .int .i64 0, .int .i64 0, .int .i64 0] 68
  have hr0 := hr.mid hb0 (Or.inl (Nat.zero_le _))
  have hhi := hr.size
  go_enter Try.func64, Try.ntmps64
  go_wp2_with fail
  go_loop [4, 5, 13] (fun _ _ i => ∃ k : Nat, k ≤ d.length ∧ i = .int .i64 k ∧ (List.range k).findSome? (tryD d) = none) (fun _ _ i => d.length - (intOf i).toNat)
  case atStart => exact ⟨0, Nat.zero_le _, rfl, rfl⟩
  case round =>
    obtain ⟨k, hk, rfl, hD⟩ := hrel
    have HD := Lib.hid hD
    clear hD
    by_cases hlt : k < d.length
    · obtain ⟨b, off, A1, c1, xs, rfl, -, -, hx, hcx, -, -⟩ := hr0.row hlt
      have hlt3 : (k : Int) < (d.length : Int) := by omega
      have hxr := rowAt_get hx
      have HXR := Lib.hid hxr
      have hlx := len_le_sumL (List.mem_of_getElem? hx)
      clear hx hxr
      by_cases hz : xs.length = 0
      · obtain rfl := List.eq_nil_of_length_eq_zero hz
        clear hz hlx
        go_wp2_with fail
        have ht : tryD d k = some ⟨4, k, 0, 0⟩ := by unfold tryD; rw [HXR.out]; rfl
        have k0 := hbx0.cell 0 rfl
        refine bodyPost_ret (v := .tuple #[.agg #[.int .i64 4, .int .i64 k, .int .i64 0, .int .i64 0], .bool true]) (by simp [results, Try.results64, go_sem]) rfl (RetNM.some (nextM_D HD.out hlt ht) ?_)
        repeat (first | exact Mid.alloc _ _ | refine Mid.storeNew ?_ (by simp) _)
      · have hz1 : ((xs.length : Int) == 0) = false := by simp; intro h; exact hz (by rw [h]; rfl)
        go_wp2_with fail
        go_round
        case rel =>
          have ht : tryD d k = none := by unfold tryD; rw [HXR.out, if_neg hz]
          exact ⟨k + 1, by omega, by go_num, by rw [find_range_succ _ _ HD.out, ht]⟩
        case measure => simp [intOf]; omega
    · obtain rfl : k = d.length := by omega
      clear hlt hk
      go_wp2_with fail
      go_loopw [6, 7, 8, 9, 10, 26] (fun _ _ _ _ _ i wr => ∃ k : Nat, k ≤ d.length ∧ i = .int .i64 k ∧ (List.range k).findSome? (tryI d) = none ∧ Box wr w.heap.size [.int .i64 0, .int .i64 0, .int .i64 0, .int .i64 0] ∧ Mid 0 0 w wr) (fun _ _ _ _ _ i _ => d.length - (intOf i).toNat)
      case atStart => exact ⟨0, Nat.zero_le _, rfl, rfl, hbx0, hb0⟩
      case round =>
        obtain ⟨i, hi2, rfl, hI, hbx, hm⟩ := hrel
        have HI := Lib.hid hI
        clear hI hr0 hb0 hbx0
        have k0 := hbx.cell 0 rfl
        have k1 := hbx.cell 1 rfl
        have k2 := hbx.cell 2 rfl
        have k3 := hbx.cell 3 rfl
        have fx := hbx.2.2
        by_cases hlt : i < d.length
        · obtain ⟨b, off, A1, c1, xs, hAe, -, hbhi, hx, hcx0, hrx, hcp⟩ := hr.row hlt
          have hcx := cell_keep hm (show b < w.heap.size by omega) (Or.inr (Nat.zero_le _)) hcx0
          have hlt3 : (i : Int) < (d.length : Int) := by omega
          have hlx := len_le_sumL (List.mem_of_getElem? hx)
          have hox := HOK.out xs (List.mem_of_getElem? hx)
          have HOX := Lib.hid hox
          have HX := Lib.hid hx
          subst hAe
          clear hx hox
          go_wp2_with fail
          go_loopw [8, 9, 10, 33] (fun _ _ _ j wr2 => ∃ k : Nat, k ≤ d.length ∧ j = .int .i64 k ∧ (List.range k).findSome? (tryK d i) = none ∧ Box wr2 w.heap.size [.int .i64 0, .int .i64 0, .int .i64 0, .int .i64 0] ∧ Mid 0 0 w wr2) (fun _ _ _ j _ => d.length - (intOf j).toNat)
          case atStart => exact ⟨0, Nat.zero_le _, rfl, rfl, hbx, hm⟩
          case round =>
            clear hbx k0 k1 k2 k3 fx hcx hm
            obtain ⟨k, hk, rfl, hK, hbx, hm⟩ := hrel
            have HK := Lib.hid hK
            clear hK
            by_cases hltk : k < d.length
            · obtain ⟨b2, off2, A2, c2, ys, hAe2, -, -, hy, hcy, hry, hcpy⟩ := (hr.mid hm (Or.inl (Nat.zero_le _))).row hltk
              have hrx3 := hrx.mid hm (Or.inl (Nat.zero_le _))
              have hcx3 := cell_keep hm (show b < w.heap.size by omega) (Or.inr (Nat.zero_le _)) hcx0
              injection hAe2 with hAe2
              injection hAe2 with e1 e2
              subst e1 e2
              have hltk3 : (k : Int) < (d.length : Int) := by omega
              have hly := len_le_sumL (List.mem_of_getElem? hy)
              have hoy := HOK.out ys (List.mem_of_getElem? hy)
              have HOY := Lib.hid hoy
              have HY := Lib.hid hy
              clear hy hoy
              by_cases hik : k = i
              · subst hik
                have heq : ((k : Int) == (k : Int)) = true := by simp
                go_wp2_with fail
                go_roundw
                case rel => exact ⟨k + 1, by omega, by go_num, by rw [find_range_succ _ _ HK.out, tryK_same], hbx, hm⟩
                case measure => simp [intOf]; omega
              · have heq1 : ((i : Int) == (k : Int)) = false := by simp; omega
                have h2 := two_le_sumL HX.out HY.out (Ne.symm hik)
                have hT := fun n (hn : n < 4) => (mvTry_at HX.out HY.out hik hn).2
                have HT := Lib.hid hT
                have hlq := fun n => mvRes_len xs ys n
                have HLQ := Lib.hid hlq
                have HOQ := Lib.hid (fun n => mvRes_ok HOX.out HOY.out n)
                have hlx4 : xs.length ≤ 1048576 := by omega
                have hly4 : ys.length ≤ 4194304 := by omega
                clear hT hlq
                go_wp2_with fail
                with_reducible refine (impl_InvertWordE A2 ys c2 _ hry.rsS HOY.out hly4).mono ?_
                rintro e w1 ⟨Ai, ci, rfl, hoi, hbi⟩
                have hmi : Mid 0 0 wr w1 := Mid.of_below hbi
                have hm1 := hm.trans hmi
                have bx1 := hbx.mid hmi (Or.inr (Nat.zero_le _))
                have rx1 := (hrx3.mid hmi (Or.inl (Nat.zero_le _))).rsS
                have ry1 := (hry.mid hmi (Or.inl (Nat.zero_le _))).rsS
                have ri1 : Rs w1 w1.heap.size Ai (ints (invW ys)) := Rs.of_own hoi
                have hli4 : (invW ys).length ≤ 4194304 := by rw [invW_len]; exact hly4
                have hoki := Lib.hid (okI_invW HOY.out)
                clear hrx3 hry hoi hcy hcx3
                obtain ⟨p0, hp0⟩ : ∃ z, z = red [] (xs ++ ys) := ⟨_, rfl⟩
                have ep0 : mvRes xs ys 0 = p0 := by rw [hp0]; rfl
                have hlp0 : p0.length ≤ 1048576 := by rw [← ep0]; exact Nat.le_trans (HLQ.out 0) (by omega)
                have hop0 := HOQ.out 0
                rw [ep0] at hop0
                have HOp0 := Lib.hid hop0
                have htp0 := HT.out 0 (by omega)
                rw [ep0] at htp0
                obtain ⟨zp0, hzp0⟩ : ∃ z, z = cmpN p0 xs := ⟨_, rfl⟩
                rw [← hzp0] at htp0
                have HTp0 := Lib.hid htp0
                have HZp0 := Lib.hid hzp0
                have halp0 : Mid 0 0 w1 (w1.alloc (.cells #[.slice A1 xs.length c1, .slice A2 ys.length c2] 27)) := Mid.alloc _ _
                have hCp0 := impl_product2 A1 xs c1 A2 ys c2 w1 rx1 ry1 HOX.out HOY.out (by omega)
                rw [← hp0] at hCp0
                have HCp0 := Lib.hid hCp0
                clear hp0 ep0 hop0 htp0 hzp0 hCp0
                go_wp2_with fail
                refine (HCp0.out).mono ?_
                rintro e vp0 ⟨Ap0, cp0, rfl, hop0, hbp0⟩
                have hmp0 := halp0.trans (Mid.of_below hbp0)
                have rxv := Rs.keep rx1 (w' := vp0) (fun p hp => World.cell?_of_block (hmp0.block p.block hp (by omega)))
                have rxv2 := rxv.more hmp0.size
                have rpv : Rs vp0 vp0.heap.size Ap0 (ints p0) := Rs.of_own hop0
                have hcpp0 := owns_cap hop0
                clear hop0 rxv
                go_wp2_with fail
                with_reducible refine (impl_CompareNielsen Ap0 A1 p0 xs cp0 c1 vp0 rpv rxv2 hcpp0 hcp HOp0.out HOX.out hlp0 hlx4).mono ?_
                rintro e up0 ⟨rfl, hmup0⟩
                rw [← HZp0.out]
                have hmAp0 := hmp0.trans hmup0
                have hmBp0 := hm1.trans hmAp0
                have bxnp0 := bx1.mid hmAp0 (Or.inr (Nat.zero_le _))
                have rxnp0 := (Rs.keep rx1 (w' := up0) (fun p hp => World.cell?_of_block (hmAp0.block p.block hp (by omega)))).more hmAp0.size
                have rynp0 := (Rs.keep ry1 (w' := up0) (fun p hp => World.cell?_of_block (hmAp0.block p.block hp (by omega)))).more hmAp0.size
                have rinp0 := (Rs.keep ri1 (w' := up0) (fun p hp => World.cell?_of_block (hmAp0.block p.block hp (by omega)))).more hmAp0.size
                clear rpv rxv2 halp0 hbp0 hmp0 hmup0
                by_cases hltp0 : zp0 < 0
                · have q0 := bxnp0.cell 0 rfl
                  have q1 := bxnp0.cell 1 rfl
                  have q2 := bxnp0.cell 2 rfl
                  have q3 := bxnp0.cell 3 rfl
                  have fq := bxnp0.2.2
                  go_wp2_with fail
                  have hf : tryK d i k = some ⟨2, i, k, 1⟩ := tryK_some (n := 0) (by omega) (fun j hj => by omega) (by rw [HTp0.out]; exact decide_eq_true hltp0)
                  refine bodyPost_ret (v := .tuple #[.agg #[.int .i64 2, .int .i64 i, .int .i64 k, .int .i64 1], .bool true]) (by simp [results, Try.results64, go_sem, q0, q1, q2, q3, fq]) rfl (RetNM.some (nextM_I HD.out HI.out hlt HK.out hltk hf) ?_)
                  repeat (first | exact hmBp0 | refine Mid.storeNew ?_ (by simp) _)
                · have hfp0 : mvTry d i k 0 = false := by rw [HTp0.out]; exact decide_eq_false hltp0
                  have HFp0 := Lib.hid hfp0
                  clear hfp0
                  obtain ⟨p1, hp1⟩ : ∃ z, z = red [] (xs ++ (invW ys)) := ⟨_, rfl⟩
                  have ep1 : mvRes xs ys 1 = p1 := by rw [hp1]; rfl
                  have hlp1 : p1.length ≤ 1048576 := by rw [← ep1]; exact Nat.le_trans (HLQ.out 1) (by omega)
                  have hop1 := HOQ.out 1
                  rw [ep1] at hop1
                  have HOp1 := Lib.hid hop1
                  have htp1 := HT.out 1 (by omega)
                  rw [ep1] at htp1
                  obtain ⟨zp1, hzp1⟩ : ∃ z, z = cmpN p1 xs := ⟨_, rfl⟩
                  rw [← hzp1] at htp1
                  have HTp1 := Lib.hid htp1
                  have HZp1 := Lib.hid hzp1
                  have halp1 : Mid 0 0 up0 (up0.alloc (.cells #[.slice A1 xs.length c1, .slice Ai (invW ys).length ci] 27)) := Mid.alloc _ _
                  have hCp1 := impl_product2 A1 xs c1 Ai (invW ys) ci up0 rxnp0 rinp0 HOX.out hoki.out (by omega)
                  rw [← hp1] at hCp1
                  have HCp1 := Lib.hid hCp1
                  clear hp1 ep1 hop1 htp1 hzp1 hCp1
                  go_wp2_with fail
                  refine (HCp1.out).mono ?_
                  rintro e vp1 ⟨Ap1, cp1, rfl, hop1, hbp1⟩
                  have hmp1 := halp1.trans (Mid.of_below hbp1)
                  have rxv := Rs.keep rxnp0 (w' := vp1) (fun p hp => World.cell?_of_block (hmp1.block p.block hp (by omega)))
                  have rxv2 := rxv.more hmp1.size
                  have rpv : Rs vp1 vp1.heap.size Ap1 (ints p1) := Rs.of_own hop1
                  have hcpp1 := owns_cap hop1
                  clear hop1 rxv
                  go_wp2_with fail
                  with_reducible refine (impl_CompareNielsen Ap1 A1 p1 xs cp1 c1 vp1 rpv rxv2 hcpp1 hcp HOp1.out HOX.out hlp1 hlx4).mono ?_
                  rintro e up1 ⟨rfl, hmup1⟩
                  rw [← HZp1.out]
                  have hmAp1 := hmp1.trans hmup1
                  have hmBp1 := hmBp0.trans hmAp1
                  have bxnp1 := bxnp0.mid hmAp1 (Or.inr (Nat.zero_le _))
                  have rxnp1 := (Rs.keep rxnp0 (w' := up1) (fun p hp => World.cell?_of_block (hmAp1.block p.block hp (by omega)))).more hmAp1.size
                  have rynp1 := (Rs.keep rynp0 (w' := up1) (fun p hp => World.cell?_of_block (hmAp1.block p.block hp (by omega)))).more hmAp1.size
                  have rinp1 := (Rs.keep rinp0 (w' := up1) (fun p hp => World.cell?_of_block (hmAp1.block p.block hp (by omega)))).more hmAp1.size
                  clear rpv rxv2 halp1 hbp1 hmp1 hmup1
                  by_cases hltp1 : zp1 < 0
                  · have q0 := bxnp1.cell 0 rfl
                    have q1 := bxnp1.cell 1 rfl
                    have q2 := bxnp1.cell 2 rfl
                    have q3 := bxnp1.cell 3 rfl
                    have fq := bxnp1.2.2
                    go_wp2_with fail
                    have hf : tryK d i k = some ⟨2, i, k, (-1)⟩ := tryK_some (n := 1) (by omega) (fun j hj => by (have h3 : j = 0 := (by omega); subst h3; exact HFp0.out)) (by rw [HTp1.out]; exact decide_eq_true hltp1)
                    refine bodyPost_ret (v := .tuple #[.agg #[.int .i64 2, .int .i64 i, .int .i64 k, .int .i64 (-1)], .bool true]) (by simp [results, Try.results64, go_sem, q0, q1, q2, q3, fq]) rfl (RetNM.some (nextM_I HD.out HI.out hlt HK.out hltk hf) ?_)
                    repeat (first | exact hmBp1 | refine Mid.storeNew ?_ (by simp) _)
                  · have hfp1 : mvTry d i k 1 = false := by rw [HTp1.out]; exact decide_eq_false hltp1
                    have HFp1 := Lib.hid hfp1
                    clear hfp1
                    obtain ⟨p2, hp2⟩ : ∃ z, z = red [] (ys ++ xs) := ⟨_, rfl⟩
                    have ep2 : mvRes xs ys 2 = p2 := by rw [hp2]; rfl
                    have hlp2 : p2.length ≤ 1048576 := by rw [← ep2]; exact Nat.le_trans (HLQ.out 2) (by omega)
                    have hop2 := HOQ.out 2
                    rw [ep2] at hop2
                    have HOp2 := Lib.hid hop2
                    have htp2 := HT.out 2 (by omega)
                    rw [ep2] at htp2
                    obtain ⟨zp2, hzp2⟩ : ∃ z, z = cmpN p2 xs := ⟨_, rfl⟩
                    rw [← hzp2] at htp2
                    have HTp2 := Lib.hid htp2
                    have HZp2 := Lib.hid hzp2
                    have halp2 : Mid 0 0 up1 (up1.alloc (.cells #[.slice A2 ys.length c2, .slice A1 xs.length c1] 27)) := Mid.alloc _ _
                    have hCp2 := impl_product2 A2 ys c2 A1 xs c1 up1 rynp1 rxnp1 HOY.out HOX.out (by omega)
                    rw [← hp2] at hCp2
                    have HCp2 := Lib.hid hCp2
                    clear hp2 ep2 hop2 htp2 hzp2 hCp2
                    go_wp2_with fail
                    refine (HCp2.out).mono ?_
                    rintro e vp2 ⟨Ap2, cp2, rfl, hop2, hbp2⟩
                    have hmp2 := halp2.trans (Mid.of_below hbp2)
                    have rxv := Rs.keep rxnp1 (w' := vp2) (fun p hp => World.cell?_of_block (hmp2.block p.block hp (by omega)))
                    have rxv2 := rxv.more hmp2.size
                    have rpv : Rs vp2 vp2.heap.size Ap2 (ints p2) := Rs.of_own hop2
                    have hcpp2 := owns_cap hop2
                    clear hop2 rxv
                    go_wp2_with fail
                    with_reducible refine (impl_CompareNielsen Ap2 A1 p2 xs cp2 c1 vp2 rpv rxv2 hcpp2 hcp HOp2.out HOX.out hlp2 hlx4).mono ?_
                    rintro e up2 ⟨rfl, hmup2⟩
                    rw [← HZp2.out]
                    have hmAp2 := hmp2.trans hmup2
                    have hmBp2 := hmBp1.trans hmAp2
                    have bxnp2 := bxnp1.mid hmAp2 (Or.inr (Nat.zero_le _))
                    have rxnp2 := (Rs.keep rxnp1 (w' := up2) (fun p hp => World.cell?_of_block (hmAp2.block p.block hp (by omega)))).more hmAp2.size
                    have rynp2 := (Rs.keep rynp1 (w' := up2) (fun p hp => World.cell?_of_block (hmAp2.block p.block hp (by omega)))).more hmAp2.size
                    have rinp2 := (Rs.keep rinp1 (w' := up2) (fun p hp => World.cell?_of_block (hmAp2.block p.block hp (by omega)))).more hmAp2.size
                    clear rpv rxv2 halp2 hbp2 hmp2 hmup2
                    by_cases hltp2 : zp2 < 0
                    · have q0 := bxnp2.cell 0 rfl
                      have q1 := bxnp2.cell 1 rfl
                      have q2 := bxnp2.cell 2 rfl
                      have q3 := bxnp2.cell 3 rfl
                      have fq := bxnp2.2.2
                      go_wp2_with fail
                      have hf : tryK d i k = some ⟨3, i, k, 1⟩ := tryK_some (n := 2) (by omega) (fun j hj => by (have h3 : j = 0 ∨ j = 1 := (by omega); rcases h3 with rfl | rfl; exact HFp0.out; exact HFp1.out)) (by rw [HTp2.out]; exact decide_eq_true hltp2)
                      refine bodyPost_ret (v := .tuple #[.agg #[.int .i64 3, .int .i64 i, .int .i64 k, .int .i64 1], .bool true]) (by simp [results, Try.results64, go_sem, q0, q1, q2, q3, fq]) rfl (RetNM.some (nextM_I HD.out HI.out hlt HK.out hltk hf) ?_)
                      repeat (first | exact hmBp2 | refine Mid.storeNew ?_ (by simp) _)
                    · have hfp2 : mvTry d i k 2 = false := by rw [HTp2.out]; exact decide_eq_false hltp2
                      have HFp2 := Lib.hid hfp2
                      clear hfp2
                      obtain ⟨p3, hp3⟩ : ∃ z, z = red [] ((invW ys) ++ xs) := ⟨_, rfl⟩
                      have ep3 : mvRes xs ys 3 = p3 := by rw [hp3]; rfl
                      have hlp3 : p3.length ≤ 1048576 := by rw [← ep3]; exact Nat.le_trans (HLQ.out 3) (by omega)
                      have hop3 := HOQ.out 3
                      rw [ep3] at hop3
                      have HOp3 := Lib.hid hop3
                      have htp3 := HT.out 3 (by omega)
                      rw [ep3] at htp3
                      obtain ⟨zp3, hzp3⟩ : ∃ z, z = cmpN p3 xs := ⟨_, rfl⟩
                      rw [← hzp3] at htp3
                      have HTp3 := Lib.hid htp3
                      have HZp3 := Lib.hid hzp3
                      have halp3 : Mid 0 0 up2 (up2.alloc (.cells #[.slice Ai (invW ys).length ci, .slice A1 xs.length c1] 27)) := Mid.alloc _ _
                      have hCp3 := impl_product2 Ai (invW ys) ci A1 xs c1 up2 rinp2 rxnp2 hoki.out HOX.out (by omega)
                      rw [← hp3] at hCp3
                      have HCp3 := Lib.hid hCp3
                      clear hp3 ep3 hop3 htp3 hzp3 hCp3
                      go_wp2_with fail
                      refine (HCp3.out).mono ?_
                      rintro e vp3 ⟨Ap3, cp3, rfl, hop3, hbp3⟩
                      have hmp3 := halp3.trans (Mid.of_below hbp3)
                      have rxv := Rs.keep rxnp2 (w' := vp3) (fun p hp => World.cell?_of_block (hmp3.block p.block hp (by omega)))
                      have rxv2 := rxv.more hmp3.size
                      have rpv : Rs vp3 vp3.heap.size Ap3 (ints p3) := Rs.of_own hop3
                      have hcpp3 := owns_cap hop3
                      clear hop3 rxv
                      go_wp2_with fail
                      with_reducible refine (impl_CompareNielsen Ap3 A1 p3 xs cp3 c1 vp3 rpv rxv2 hcpp3 hcp HOp3.out HOX.out hlp3 hlx4).mono ?_
                      rintro e up3 ⟨rfl, hmup3⟩
                      rw [← HZp3.out]
                      have hmAp3 := hmp3.trans hmup3
                      have hmBp3 := hmBp2.trans hmAp3
                      have bxnp3 := bxnp2.mid hmAp3 (Or.inr (Nat.zero_le _))
                      have rxnp3 := (Rs.keep rxnp2 (w' := up3) (fun p hp => World.cell?_of_block (hmAp3.block p.block hp (by omega)))).more hmAp3.size
                      have rynp3 := (Rs.keep rynp2 (w' := up3) (fun p hp => World.cell?_of_block (hmAp3.block p.block hp (by omega)))).more hmAp3.size
                      have rinp3 := (Rs.keep rinp2 (w' := up3) (fun p hp => World.cell?_of_block (hmAp3.block p.block hp (by omega)))).more hmAp3.size
                      clear rpv rxv2 halp3 hbp3 hmp3 hmup3
                      by_cases hltp3 : zp3 < 0
                      · have q0 := bxnp3.cell 0 rfl
                        have q1 := bxnp3.cell 1 rfl
                        have q2 := bxnp3.cell 2 rfl
                        have q3 := bxnp3.cell 3 rfl
                        have fq := bxnp3.2.2
                        go_wp2_with fail
                        have hf : tryK d i k = some ⟨3, i, k, (-1)⟩ := tryK_some (n := 3) (by omega) (fun j hj => by (have h3 : j = 0 ∨ j = 1 ∨ j = 2 := (by omega); rcases h3 with rfl | rfl | rfl; exact HFp0.out; exact HFp1.out; exact HFp2.out)) (by rw [HTp3.out]; exact decide_eq_true hltp3)
                        refine bodyPost_ret (v := .tuple #[.agg #[.int .i64 3, .int .i64 i, .int .i64 k, .int .i64 (-1)], .bool true]) (by simp [results, Try.results64, go_sem, q0, q1, q2, q3, fq]) rfl (RetNM.some (nextM_I HD.out HI.out hlt HK.out hltk hf) ?_)
                        repeat (first | exact hmBp3 | refine Mid.storeNew ?_ (by simp) _)
                      · have hfp3 : mvTry d i k 3 = false := by rw [HTp3.out]; exact decide_eq_false hltp3
                        have HFp3 := Lib.hid hfp3
                        clear hfp3
                        go_wp2_with fail
                        go_roundw
                        case rel =>
                          have ht : tryK d i k = none := tryK_none (fun j hj => by
                            have h3 : j = 0 ∨ j = 1 ∨ j = 2 ∨ j = 3 := by omega
                            rcases h3 with rfl | rfl | rfl | rfl
                            · exact HFp0.out
                            · exact HFp1.out
                            · exact HFp2.out
                            · exact HFp3.out)
                          exact ⟨k + 1, by omega, by go_num, by rw [find_range_succ _ _ HK.out, ht], bxnp3, hmBp3⟩
                        case measure => simp [intOf]; omega
            · obtain rfl : k = d.length := by omega
              go_wp2_with fail
              go_roundw
              case rel => exact ⟨i + 1, by omega, by go_num, by rw [find_range_succ _ _ HI.out]; exact HK.out, hbx, hm⟩
              case measure => simp [intOf]; omega
        · obtain rfl : i = d.length := by omega
          go_wp2_with fail
          refine bodyPost_ret (v := .tuple #[.agg #[.int .i64 0, .int .i64 0, .int .i64 0, .int .i64 0], .bool false]) (by simp [results, Try.results64, go_sem, k0, k1, k2, k3, fx]) rfl (RetNM.none (nextM_none HD.out HI.out) ?_)
          repeat (first | exact hm | refine Mid.storeNew ?_ (by simp) _)
end Go.Proofs.Ytchgicdjdbjfgaa
