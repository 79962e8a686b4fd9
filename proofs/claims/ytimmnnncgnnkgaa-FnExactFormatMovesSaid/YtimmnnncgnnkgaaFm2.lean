/- Contracts and lemmas of this seat, many texts in one: see the words ahead of each. No condition beyond those typed in each lemma. -/
import Derived.Test.YtimmnnncgnnkgaaFm1
import Derived.Deep.Slices
import Derived.Deep.Fields
import Derived.ChangeSame

/- FormatMoves, both sides. -/
namespace Go.Proofs.Ytimmnnncgnnkgaa
set_option linter.unusedVariables false
set_option linter.unusedSimpArgs false
open Go.RowKit

theorem RV.mv {w : World} {lo hi : Nat} {A : Option Addr} {ms : List Mv} {k : Nat} (h : RV w lo hi A (ints (mvsI ms))) (hk : k < ms.length) :
    ∃ b off m, A = some ⟨b, off, none⟩ ∧ lo ≤ b ∧ b < hi ∧ ms[k]? = some m ∧ w.cell? ⟨b, off + k * 4, none⟩ = some (.int .i64 m.kind) ∧ w.cell? ⟨b, off + k * 4 + 1, none⟩ = some (.int .i64 m.i) ∧ w.cell? ⟨b, off + k * 4 + 2, none⟩ = some (.int .i64 m.j) ∧ w.cell? ⟨b, off + k * 4 + 3, none⟩ = some (.int .i64 m.sign) := by
  obtain ⟨m, hm⟩ := get_of_lt ms hk
  obtain ⟨g0, g1, g2, g3⟩ := mvsI_at hm
  obtain ⟨b, off, x0, x1, x2, x3, hA, h1, h2, e0, e1, e2, e3, c0, c1, c2, c3⟩ := h.flat4 (mvsI_len ms) hk
  rw [Nat.add_zero] at *
  rw [e0] at g0
  rw [e1] at g1
  rw [e2] at g2
  rw [e3] at g3
  injection g0 with g0
  injection g1 with g1
  injection g2 with g2
  injection g3 with g3
  subst g0 g1 g2 g3
  exact ⟨b, off, m, hA, h1, h2, hm, c0, c1, c2, c3⟩

set_option maxHeartbeats 3200000 in
set_option maxRecDepth 100000 in
theorem impl_FormatMoves (A : Option Addr) (ms : List Mv) (c : Nat) (w : World) (lo hi : Nat) (hr : RV w lo hi A (ints (mvsI ms))) (hl : ms.length ≤ 1048576) (hok : ∀ m ∈ ms, OkMv m) :
    Calls Try.prog 26 #[.slice A ms.length c] w fun e w' => e = .returned (.string (str (fmtMs ms))) ∧ Mid 0 0 w w' := by
  have HOK := Lib.hid hok
  have O0 := owns_empty w 9 1
  have hm0 := Mid.alloc w (.cells #[] 9)
  clear hok
  go_enter Try.func26, Try.ntmps26
  go_wp2_with fail
  generalize w.alloc (.cells #[] 9) = w1 at O0 hm0 ⊢
  have HO0 : Hid (w1.ownsRow w.heap.size 9 1 (.slice (some ⟨w.heap.size, 0, none⟩) 0 0) 0 (strs ((ms.take 0).map itemMv))) := Lib.hid O0
  have HT0 : Hid (∀ x ∈ ms.take 0, okMv x) := Lib.hid (by simp)
  clear O0
  generalize (some (⟨w.heap.size, 0, none⟩ : Addr)) = A0 at HO0 ⊢
  go_loopw [3, 12] (fun ov kv wr => ∃ (k : Nat) (A1 : Option Addr) (c1 : Nat), kv = .int .i64 k ∧ ov = .slice A1 k c1 ∧ k ≤ ms.length ∧ Hid (∀ x ∈ ms.take k, okMv x) ∧ Hid (wr.ownsRow w.heap.size 9 1 (.slice A1 k c1) k (strs ((ms.take k).map itemMv))) ∧ Mid 0 0 w wr) (fun _ kv _ => ms.length - (intOf kv).toNat)
  case atStart => exact ⟨0, A0, 0, rfl, rfl, Nat.zero_le _, HT0, HO0, hm0⟩
  case round =>
    clear HT0 HO0 hm0
    obtain ⟨wo, hwo⟩ : ∃ wo, wo = wr := ⟨_, rfl⟩
    subst hwo
    obtain ⟨k, A1, c1, rfl, rfl, hk, HT, HO, hm⟩ := hrel
    by_cases hlt : k < ms.length
    · obtain ⟨b, off, m, hA, -, hbh, hmk, e0, e1, e2, e3⟩ := (hr.mid hm (Or.inl (Nat.zero_le _))).mv hlt
      subst hA
      have HM := Lib.hid hmk
      have hb1 : b < wo.heap.size := Nat.lt_of_lt_of_le hbh (Nat.le_trans hr.1 hm.size)
      have hk0 : (0 : Int) ≤ (k : Int) := by omega
      have hkn : (k : Int) < (ms.length : Int) := by omega
      have hom := HOK.out m (List.mem_of_getElem? hmk)
      have B1 := Box.new wo #[.int .i64 m.kind, .int .i64 m.i, .int .i64 m.j, .int .i64 m.sign] 89
      have hal := Mid.alloc wo (.cells #[.int .i64 m.kind, .int .i64 m.i, .int .i64 m.j, .int .i64 m.sign] 89)
      have HO1 := Lib.hid (owns_mid HO.out hal (Or.inl (Nat.zero_le _)))
      have hm1 := hm.trans hal
      obtain ⟨si, hsi⟩ : ∃ s, s = str (fmtI m.i) := ⟨_, rfl⟩
      obtain ⟨sj, hsj⟩ : ∃ s, s = str (fmtI m.j) := ⟨_, rfl⟩
      have hI := fun W => impl_FormatInt m.i W hom.1.1 hom.1.2
      have hJ := fun W => impl_FormatInt m.j W hom.2.1 hom.2.2
      rw [← hsi] at hI
      rw [← hsj] at hJ
      have hsz1 : si.size ≤ 21 := by rw [hsi, str_size]; exact fmtI_len hom.1.1 hom.1.2
      have hsz2 : sj.size ≤ 21 := by rw [hsj, str_size]; exact fmtI_len hom.2.1 hom.2.2
      have HSI := Lib.hid hsi
      have HSJ := Lib.hid hsj
      clear hmk hsi hsj HO hm
      have q0 := B1.cell 0 rfl
      have q1 := B1.cell 1 rfl
      have q2 := B1.cell 2 rfl
      have q3 := B1.cell 3 rfl
      by_cases hsg : m.sign < 0
      · skip
        have dsg : decide (m.sign < 0) = true := by simpa using hsg
        go_wp2_with fail
        generalize wo.alloc (.cells #[.int .i64 m.kind, .int .i64 m.i, .int .i64 m.j, .int .i64 m.sign] 89) = w2 at B1 HO1 hm1 q0 q1 q2 q3 hal ⊢
        have hsb : wo.heap.size < w2.heap.size := B1.1
        have r0 := wg_cell hsb q0
        have r1 := wg_cell hsb q1
        have r2 := wg_cell hsb q2
        have r3 := wg_cell hsb q3
        refine wp_region_quiet_wg (by kernel_rfl) (by kernel_rfl) ?_
        repeat
          (with_reducible refine wpQuiet_step (fun K hK => ?_))
          go_simp
          first
            | ((with_reducible refine hK _ ?_); clear hK K)
            | (rw [if_neg (by decide)]; (with_reducible refine hK _ ?_); clear hK K)
            | (apply Exists.intro; refine ⟨fun _ => ?_, hK _ ?_⟩; ((go_at_call 61; first | with_reducible exact Calls.wg_of (hI _) | with_reducible exact Calls.wg_of (hJ _))); clear hK K)
        with_reducible refine wpQuiet_nil ?_
        intro _ hw'
        obtain ⟨⟨nq, osq⟩, hw''⟩ := hw'
        subst hw''
        have hwg := Mid.ofWg w2 nq osq
        generalize wg w2 nq osq = w4 at hwg ⊢
        have B2 := B1.mid hwg (Or.inr (Nat.zero_le _))
        have HO2 := Lib.hid (owns_mid HO1.out hwg (Or.inl (Nat.zero_le _)))
        have hm2 := hm1.trans hwg
        clear B1 HO1 hm1 hwg q0 q1 q2 q3 r0 r1 r2 r3 hI hJ hal e0 e1 e2 e3
        have p0 := B2.cell 0 rfl
        by_cases hk1 : m.kind = 1
        · have hn2 : ¬ m.kind = 2 := by omega
          have hn4 : ¬ m.kind = 4 := by omega
          have hn3 : ¬ m.kind = 3 := by omega
          have hokm : okMv m := Or.inl hk1
          have d1 : (m.kind == 1) = true := by rw [hk1]; rfl
          have hcz0 : (⟨#[105, 110, 118, 101, 114, 116]⟩ : ByteArray).size = 6 := rfl
          have hcz1 : (⟨#[100, 114, 111, 112]⟩ : ByteArray).size = 4 := rfl
          have hcz2 : (⟨#[42]⟩ : ByteArray).size = 1 := rfl
          have hcz3 : (⟨#[43]⟩ : ByteArray).size = 1 := rfl
          have hcz4 : (⟨#[45]⟩ : ByteArray).size = 1 := rfl
          have hcz5 : (⟨#[32]⟩ : ByteArray).size = 1 := rfl
          have hz0 : ((⟨#[105, 110, 118, 101, 114, 116]⟩ : ByteArray)).size + si.size ≤ 9223372036854775807 := by first | omega | (simp only [ByteArray.size_append]; omega)
          have hit : itemMv m = [105, 110, 118, 101, 114, 116] ++ fmtI m.i := by
            unfold itemMv
            rw [if_pos hk1]
          have HU : Hid ((⟨#[105, 110, 118, 101, 114, 116]⟩ : ByteArray) ++ si = str (itemMv m)) := Lib.hid (by
            rw [HSI.out, hit]
            show str ([105, 110, 118, 101, 114, 116]) ++ str (fmtI m.i) = _
            rw [str_app])
          clear hit
          have HT2 := Lib.hid (take_ok HM.out HT.out hokm)
          clear hcz0 hcz1 hcz2 hcz3 hcz4 hcz5 hokm
          go_wp2_with (at_builtin; refine MarkerS.to ?_)
          unfold MarkerS
          refine wpList_pushStr rfl _ _ rfl w.heap.size A1 k c1 _ rfl HO2.out (itemMv m) _ HU.out rfl (by omega) hm2.size ?_
          intro A3 c3 w3 ho3 hm3'
          have HO3 : Hid (w3.ownsRow w.heap.size 9 1 (.slice A3 (k + 1) c3) (k + 1) (strs ((ms.take (k + 1)).map itemMv))) := Lib.hid (by rw [map_take HM.out]; exact ho3)
          have hm3 := hm2.transNew hm3' (Or.inl (Nat.le_refl _))
          clear ho3 hm3' HO2 hm2 HT HU B2 HSI HSJ
          go_wp2_with fail
          go_roundw
          case rel => exact ⟨k + 1, A3, c3, by go_num, rfl, by omega, HT2, HO3, hm3⟩
          case measure => simp [intOf]; omega
        have hn1 := hk1
        by_cases hk4 : m.kind = 4
        · skip
          have hokm : okMv m := Or.inr (Or.inl hk4)
          have d1 : (m.kind == 1) = false := by simp [hn1]
          have d4 : (m.kind == 4) = true := by rw [hk4]; rfl
          have hcz0 : (⟨#[105, 110, 118, 101, 114, 116]⟩ : ByteArray).size = 6 := rfl
          have hcz1 : (⟨#[100, 114, 111, 112]⟩ : ByteArray).size = 4 := rfl
          have hcz2 : (⟨#[42]⟩ : ByteArray).size = 1 := rfl
          have hcz3 : (⟨#[43]⟩ : ByteArray).size = 1 := rfl
          have hcz4 : (⟨#[45]⟩ : ByteArray).size = 1 := rfl
          have hcz5 : (⟨#[32]⟩ : ByteArray).size = 1 := rfl
          have hz0 : ((⟨#[100, 114, 111, 112]⟩ : ByteArray)).size + si.size ≤ 9223372036854775807 := by first | omega | (simp only [ByteArray.size_append]; omega)
          have hit : itemMv m = [100, 114, 111, 112] ++ fmtI m.i := by
            unfold itemMv
            rw [if_neg hn1, if_pos hk4]
          have HU : Hid ((⟨#[100, 114, 111, 112]⟩ : ByteArray) ++ si = str (itemMv m)) := Lib.hid (by
            rw [HSI.out, hit]
            show str ([100, 114, 111, 112]) ++ str (fmtI m.i) = _
            rw [str_app])
          clear hit
          have HT2 := Lib.hid (take_ok HM.out HT.out hokm)
          clear hcz0 hcz1 hcz2 hcz3 hcz4 hcz5 hokm
          go_wp2_with (at_builtin; refine MarkerS.to ?_)
          unfold MarkerS
          refine wpList_pushStr rfl _ _ rfl w.heap.size A1 k c1 _ rfl HO2.out (itemMv m) _ HU.out rfl (by omega) hm2.size ?_
          intro A3 c3 w3 ho3 hm3'
          have HO3 : Hid (w3.ownsRow w.heap.size 9 1 (.slice A3 (k + 1) c3) (k + 1) (strs ((ms.take (k + 1)).map itemMv))) := Lib.hid (by rw [map_take HM.out]; exact ho3)
          have hm3 := hm2.transNew hm3' (Or.inl (Nat.le_refl _))
          clear ho3 hm3' HO2 hm2 HT HU B2 HSI HSJ
          go_wp2_with fail
          go_roundw
          case rel => exact ⟨k + 1, A3, c3, by go_num, rfl, by omega, HT2, HO3, hm3⟩
          case measure => simp [intOf]; omega
        have hn4 := hk4
        by_cases hk2 : m.kind = 2
        · skip
          have hokm : okMv m := Or.inr (Or.inr (Or.inl hk2))
          have d1 : (m.kind == 1) = false := by simp [hn1]
          have d4 : (m.kind == 4) = false := by simp [hn4]
          have d2 : (m.kind == 2) = true := by rw [hk2]; rfl
          have hcz0 : (⟨#[105, 110, 118, 101, 114, 116]⟩ : ByteArray).size = 6 := rfl
          have hcz1 : (⟨#[100, 114, 111, 112]⟩ : ByteArray).size = 4 := rfl
          have hcz2 : (⟨#[42]⟩ : ByteArray).size = 1 := rfl
          have hcz3 : (⟨#[43]⟩ : ByteArray).size = 1 := rfl
          have hcz4 : (⟨#[45]⟩ : ByteArray).size = 1 := rfl
          have hcz5 : (⟨#[32]⟩ : ByteArray).size = 1 := rfl
          have hz0 : (si).size + (⟨#[42]⟩ : ByteArray).size ≤ 9223372036854775807 := by first | omega | (simp only [ByteArray.size_append]; omega)
          have hz1 : (si ++ (⟨#[42]⟩ : ByteArray)).size + (⟨#[45]⟩ : ByteArray).size ≤ 9223372036854775807 := by first | omega | (simp only [ByteArray.size_append]; omega)
          have hz2 : (si ++ (⟨#[42]⟩ : ByteArray) ++ (⟨#[45]⟩ : ByteArray)).size + sj.size ≤ 9223372036854775807 := by first | omega | (simp only [ByteArray.size_append]; omega)
          have hit : itemMv m = fmtI m.i ++ [42] ++ [45] ++ fmtI m.j := by
            unfold itemMv
            rw [if_neg hn1, if_neg hn4, if_pos hk2, sgB, if_pos hsg]
          have HU : Hid (si ++ (⟨#[42]⟩ : ByteArray) ++ (⟨#[45]⟩ : ByteArray) ++ sj = str (itemMv m)) := Lib.hid (by
            rw [HSI.out, HSJ.out, hit]
            show str (fmtI m.i) ++ str ([42]) ++ str ([45]) ++ str (fmtI m.j) = _
            rw [str_app, str_app, str_app])
          clear hit
          have HT2 := Lib.hid (take_ok HM.out HT.out hokm)
          clear hcz0 hcz1 hcz2 hcz3 hcz4 hcz5 hokm
          go_wp2_with (at_builtin; refine MarkerS.to ?_)
          unfold MarkerS
          refine wpList_pushStr rfl _ _ rfl w.heap.size A1 k c1 _ rfl HO2.out (itemMv m) _ HU.out rfl (by omega) hm2.size ?_
          intro A3 c3 w3 ho3 hm3'
          have HO3 : Hid (w3.ownsRow w.heap.size 9 1 (.slice A3 (k + 1) c3) (k + 1) (strs ((ms.take (k + 1)).map itemMv))) := Lib.hid (by rw [map_take HM.out]; exact ho3)
          have hm3 := hm2.transNew hm3' (Or.inl (Nat.le_refl _))
          clear ho3 hm3' HO2 hm2 HT HU B2 HSI HSJ
          go_wp2_with fail
          go_roundw
          case rel => exact ⟨k + 1, A3, c3, by go_num, rfl, by omega, HT2, HO3, hm3⟩
          case measure => simp [intOf]; omega
        have hn2 := hk2
        by_cases hk3 : m.kind = 3
        · skip
          have hokm : okMv m := Or.inr (Or.inr (Or.inr hk3))
          have d1 : (m.kind == 1) = false := by simp [hn1]
          have d4 : (m.kind == 4) = false := by simp [hn4]
          have d2 : (m.kind == 2) = false := by simp [hn2]
          have d3 : (m.kind == 3) = true := by rw [hk3]; rfl
          have hcz0 : (⟨#[105, 110, 118, 101, 114, 116]⟩ : ByteArray).size = 6 := rfl
          have hcz1 : (⟨#[100, 114, 111, 112]⟩ : ByteArray).size = 4 := rfl
          have hcz2 : (⟨#[42]⟩ : ByteArray).size = 1 := rfl
          have hcz3 : (⟨#[43]⟩ : ByteArray).size = 1 := rfl
          have hcz4 : (⟨#[45]⟩ : ByteArray).size = 1 := rfl
          have hcz5 : (⟨#[32]⟩ : ByteArray).size = 1 := rfl
          have hz0 : ((⟨#[45]⟩ : ByteArray)).size + sj.size ≤ 9223372036854775807 := by first | omega | (simp only [ByteArray.size_append]; omega)
          have hz1 : ((⟨#[45]⟩ : ByteArray) ++ sj).size + (⟨#[42]⟩ : ByteArray).size ≤ 9223372036854775807 := by first | omega | (simp only [ByteArray.size_append]; omega)
          have hz2 : ((⟨#[45]⟩ : ByteArray) ++ sj ++ (⟨#[42]⟩ : ByteArray)).size + si.size ≤ 9223372036854775807 := by first | omega | (simp only [ByteArray.size_append]; omega)
          have hit : itemMv m = [45] ++ fmtI m.j ++ [42] ++ fmtI m.i := by
            unfold itemMv
            rw [if_neg hn1, if_neg hn4, if_neg hn2, sgB, if_pos hsg]
          have HU : Hid ((⟨#[45]⟩ : ByteArray) ++ sj ++ (⟨#[42]⟩ : ByteArray) ++ si = str (itemMv m)) := Lib.hid (by
            rw [HSI.out, HSJ.out, hit]
            show str ([45]) ++ str (fmtI m.j) ++ str ([42]) ++ str (fmtI m.i) = _
            rw [str_app, str_app, str_app])
          clear hit
          have HT2 := Lib.hid (take_ok HM.out HT.out hokm)
          clear hcz0 hcz1 hcz2 hcz3 hcz4 hcz5 hokm
          go_wp2_with (at_builtin; refine MarkerS.to ?_)
          unfold MarkerS
          refine wpList_pushStr rfl _ _ rfl w.heap.size A1 k c1 _ rfl HO2.out (itemMv m) _ HU.out rfl (by omega) hm2.size ?_
          intro A3 c3 w3 ho3 hm3'
          have HO3 : Hid (w3.ownsRow w.heap.size 9 1 (.slice A3 (k + 1) c3) (k + 1) (strs ((ms.take (k + 1)).map itemMv))) := Lib.hid (by rw [map_take HM.out]; exact ho3)
          have hm3 := hm2.transNew hm3' (Or.inl (Nat.le_refl _))
          clear ho3 hm3' HO2 hm2 HT HU B2 HSI HSJ
          go_wp2_with fail
          go_roundw
          case rel => exact ⟨k + 1, A3, c3, by go_num, rfl, by omega, HT2, HO3, hm3⟩
          case measure => simp [intOf]; omega
        have hn3 := hk3
        have hres := fmtMs_no HM.out (fun h => by unfold okMv at h; omega)
        have HRES := Lib.hid hres
        have d1 : (m.kind == 1) = false := by simp [hn1]
        have d4 : (m.kind == 4) = false := by simp [hn4]
        have d2 : (m.kind == 2) = false := by simp [hn2]
        have d3 : (m.kind == 3) = false := by simp [hn3]
        clear hres
        go_wp2_with fail
        go_ret
        exact ⟨by rw [HRES.out]; rfl, hm2⟩
      · skip
        have dsg : decide (m.sign < 0) = false := by simpa using hsg
        go_wp2_with fail
        generalize wo.alloc (.cells #[.int .i64 m.kind, .int .i64 m.i, .int .i64 m.j, .int .i64 m.sign] 89) = w2 at B1 HO1 hm1 q0 q1 q2 q3 hal ⊢
        have hsb : wo.heap.size < w2.heap.size := B1.1
        have r0 := wg_cell hsb q0
        have r1 := wg_cell hsb q1
        have r2 := wg_cell hsb q2
        have r3 := wg_cell hsb q3
        refine wp_region_quiet_wg (by kernel_rfl) (by kernel_rfl) ?_
        repeat
          (with_reducible refine wpQuiet_step (fun K hK => ?_))
          go_simp
          first
            | ((with_reducible refine hK _ ?_); clear hK K)
            | (rw [if_neg (by decide)]; (with_reducible refine hK _ ?_); clear hK K)
            | (apply Exists.intro; refine ⟨fun _ => ?_, hK _ ?_⟩; ((go_at_call 61; first | with_reducible exact Calls.wg_of (hI _) | with_reducible exact Calls.wg_of (hJ _))); clear hK K)
        with_reducible refine wpQuiet_nil ?_
        intro _ hw'
        obtain ⟨⟨nq, osq⟩, hw''⟩ := hw'
        subst hw''
        have hwg := Mid.ofWg w2 nq osq
        generalize wg w2 nq osq = w4 at hwg ⊢
        have B2 := B1.mid hwg (Or.inr (Nat.zero_le _))
        have HO2 := Lib.hid (owns_mid HO1.out hwg (Or.inl (Nat.zero_le _)))
        have hm2 := hm1.trans hwg
        clear B1 HO1 hm1 hwg q0 q1 q2 q3 r0 r1 r2 r3 hI hJ hal e0 e1 e2 e3
        have p0 := B2.cell 0 rfl
        by_cases hk1 : m.kind = 1
        · have hn2 : ¬ m.kind = 2 := by omega
          have hn4 : ¬ m.kind = 4 := by omega
          have hn3 : ¬ m.kind = 3 := by omega
          have hokm : okMv m := Or.inl hk1
          have d1 : (m.kind == 1) = true := by rw [hk1]; rfl
          have hcz0 : (⟨#[105, 110, 118, 101, 114, 116]⟩ : ByteArray).size = 6 := rfl
          have hcz1 : (⟨#[100, 114, 111, 112]⟩ : ByteArray).size = 4 := rfl
          have hcz2 : (⟨#[42]⟩ : ByteArray).size = 1 := rfl
          have hcz3 : (⟨#[43]⟩ : ByteArray).size = 1 := rfl
          have hcz4 : (⟨#[45]⟩ : ByteArray).size = 1 := rfl
          have hcz5 : (⟨#[32]⟩ : ByteArray).size = 1 := rfl
          have hz0 : ((⟨#[105, 110, 118, 101, 114, 116]⟩ : ByteArray)).size + si.size ≤ 9223372036854775807 := by first | omega | (simp only [ByteArray.size_append]; omega)
          have hit : itemMv m = [105, 110, 118, 101, 114, 116] ++ fmtI m.i := by
            unfold itemMv
            rw [if_pos hk1]
          have HU : Hid ((⟨#[105, 110, 118, 101, 114, 116]⟩ : ByteArray) ++ si = str (itemMv m)) := Lib.hid (by
            rw [HSI.out, hit]
            show str ([105, 110, 118, 101, 114, 116]) ++ str (fmtI m.i) = _
            rw [str_app])
          clear hit
          have HT2 := Lib.hid (take_ok HM.out HT.out hokm)
          clear hcz0 hcz1 hcz2 hcz3 hcz4 hcz5 hokm
          go_wp2_with (at_builtin; refine MarkerS.to ?_)
          unfold MarkerS
          refine wpList_pushStr rfl _ _ rfl w.heap.size A1 k c1 _ rfl HO2.out (itemMv m) _ HU.out rfl (by omega) hm2.size ?_
          intro A3 c3 w3 ho3 hm3'
          have HO3 : Hid (w3.ownsRow w.heap.size 9 1 (.slice A3 (k + 1) c3) (k + 1) (strs ((ms.take (k + 1)).map itemMv))) := Lib.hid (by rw [map_take HM.out]; exact ho3)
          have hm3 := hm2.transNew hm3' (Or.inl (Nat.le_refl _))
          clear ho3 hm3' HO2 hm2 HT HU B2 HSI HSJ
          go_wp2_with fail
          go_roundw
          case rel => exact ⟨k + 1, A3, c3, by go_num, rfl, by omega, HT2, HO3, hm3⟩
          case measure => simp [intOf]; omega
        have hn1 := hk1
        by_cases hk4 : m.kind = 4
        · skip
          have hokm : okMv m := Or.inr (Or.inl hk4)
          have d1 : (m.kind == 1) = false := by simp [hn1]
          have d4 : (m.kind == 4) = true := by rw [hk4]; rfl
          have hcz0 : (⟨#[105, 110, 118, 101, 114, 116]⟩ : ByteArray).size = 6 := rfl
          have hcz1 : (⟨#[100, 114, 111, 112]⟩ : ByteArray).size = 4 := rfl
          have hcz2 : (⟨#[42]⟩ : ByteArray).size = 1 := rfl
          have hcz3 : (⟨#[43]⟩ : ByteArray).size = 1 := rfl
          have hcz4 : (⟨#[45]⟩ : ByteArray).size = 1 := rfl
          have hcz5 : (⟨#[32]⟩ : ByteArray).size = 1 := rfl
          have hz0 : ((⟨#[100, 114, 111, 112]⟩ : ByteArray)).size + si.size ≤ 9223372036854775807 := by first | omega | (simp only [ByteArray.size_append]; omega)
          have hit : itemMv m = [100, 114, 111, 112] ++ fmtI m.i := by
            unfold itemMv
            rw [if_neg hn1, if_pos hk4]
          have HU : Hid ((⟨#[100, 114, 111, 112]⟩ : ByteArray) ++ si = str (itemMv m)) := Lib.hid (by
            rw [HSI.out, hit]
            show str ([100, 114, 111, 112]) ++ str (fmtI m.i) = _
            rw [str_app])
          clear hit
          have HT2 := Lib.hid (take_ok HM.out HT.out hokm)
          clear hcz0 hcz1 hcz2 hcz3 hcz4 hcz5 hokm
          go_wp2_with (at_builtin; refine MarkerS.to ?_)
          unfold MarkerS
          refine wpList_pushStr rfl _ _ rfl w.heap.size A1 k c1 _ rfl HO2.out (itemMv m) _ HU.out rfl (by omega) hm2.size ?_
          intro A3 c3 w3 ho3 hm3'
          have HO3 : Hid (w3.ownsRow w.heap.size 9 1 (.slice A3 (k + 1) c3) (k + 1) (strs ((ms.take (k + 1)).map itemMv))) := Lib.hid (by rw [map_take HM.out]; exact ho3)
          have hm3 := hm2.transNew hm3' (Or.inl (Nat.le_refl _))
          clear ho3 hm3' HO2 hm2 HT HU B2 HSI HSJ
          go_wp2_with fail
          go_roundw
          case rel => exact ⟨k + 1, A3, c3, by go_num, rfl, by omega, HT2, HO3, hm3⟩
          case measure => simp [intOf]; omega
        have hn4 := hk4
        by_cases hk2 : m.kind = 2
        · skip
          have hokm : okMv m := Or.inr (Or.inr (Or.inl hk2))
          have d1 : (m.kind == 1) = false := by simp [hn1]
          have d4 : (m.kind == 4) = false := by simp [hn4]
          have d2 : (m.kind == 2) = true := by rw [hk2]; rfl
          have hcz0 : (⟨#[105, 110, 118, 101, 114, 116]⟩ : ByteArray).size = 6 := rfl
          have hcz1 : (⟨#[100, 114, 111, 112]⟩ : ByteArray).size = 4 := rfl
          have hcz2 : (⟨#[42]⟩ : ByteArray).size = 1 := rfl
          have hcz3 : (⟨#[43]⟩ : ByteArray).size = 1 := rfl
          have hcz4 : (⟨#[45]⟩ : ByteArray).size = 1 := rfl
          have hcz5 : (⟨#[32]⟩ : ByteArray).size = 1 := rfl
          have hz0 : (si).size + (⟨#[42]⟩ : ByteArray).size ≤ 9223372036854775807 := by first | omega | (simp only [ByteArray.size_append]; omega)
          have hz1 : (si ++ (⟨#[42]⟩ : ByteArray)).size + (⟨#[43]⟩ : ByteArray).size ≤ 9223372036854775807 := by first | omega | (simp only [ByteArray.size_append]; omega)
          have hz2 : (si ++ (⟨#[42]⟩ : ByteArray) ++ (⟨#[43]⟩ : ByteArray)).size + sj.size ≤ 9223372036854775807 := by first | omega | (simp only [ByteArray.size_append]; omega)
          have hit : itemMv m = fmtI m.i ++ [42] ++ [43] ++ fmtI m.j := by
            unfold itemMv
            rw [if_neg hn1, if_neg hn4, if_pos hk2, sgB, if_neg (show ¬ m.sign < 0 by omega)]
          have HU : Hid (si ++ (⟨#[42]⟩ : ByteArray) ++ (⟨#[43]⟩ : ByteArray) ++ sj = str (itemMv m)) := Lib.hid (by
            rw [HSI.out, HSJ.out, hit]
            show str (fmtI m.i) ++ str ([42]) ++ str ([43]) ++ str (fmtI m.j) = _
            rw [str_app, str_app, str_app])
          clear hit
          have HT2 := Lib.hid (take_ok HM.out HT.out hokm)
          clear hcz0 hcz1 hcz2 hcz3 hcz4 hcz5 hokm
          go_wp2_with (at_builtin; refine MarkerS.to ?_)
          unfold MarkerS
          refine wpList_pushStr rfl _ _ rfl w.heap.size A1 k c1 _ rfl HO2.out (itemMv m) _ HU.out rfl (by omega) hm2.size ?_
          intro A3 c3 w3 ho3 hm3'
          have HO3 : Hid (w3.ownsRow w.heap.size 9 1 (.slice A3 (k + 1) c3) (k + 1) (strs ((ms.take (k + 1)).map itemMv))) := Lib.hid (by rw [map_take HM.out]; exact ho3)
          have hm3 := hm2.transNew hm3' (Or.inl (Nat.le_refl _))
          clear ho3 hm3' HO2 hm2 HT HU B2 HSI HSJ
          go_wp2_with fail
          go_roundw
          case rel => exact ⟨k + 1, A3, c3, by go_num, rfl, by omega, HT2, HO3, hm3⟩
          case measure => simp [intOf]; omega
        have hn2 := hk2
        by_cases hk3 : m.kind = 3
        · skip
          have hokm : okMv m := Or.inr (Or.inr (Or.inr hk3))
          have d1 : (m.kind == 1) = false := by simp [hn1]
          have d4 : (m.kind == 4) = false := by simp [hn4]
          have d2 : (m.kind == 2) = false := by simp [hn2]
          have d3 : (m.kind == 3) = true := by rw [hk3]; rfl
          have hcz0 : (⟨#[105, 110, 118, 101, 114, 116]⟩ : ByteArray).size = 6 := rfl
          have hcz1 : (⟨#[100, 114, 111, 112]⟩ : ByteArray).size = 4 := rfl
          have hcz2 : (⟨#[42]⟩ : ByteArray).size = 1 := rfl
          have hcz3 : (⟨#[43]⟩ : ByteArray).size = 1 := rfl
          have hcz4 : (⟨#[45]⟩ : ByteArray).size = 1 := rfl
          have hcz5 : (⟨#[32]⟩ : ByteArray).size = 1 := rfl
          have hz0 : ((⟨#[43]⟩ : ByteArray)).size + sj.size ≤ 9223372036854775807 := by first | omega | (simp only [ByteArray.size_append]; omega)
          have hz1 : ((⟨#[43]⟩ : ByteArray) ++ sj).size + (⟨#[42]⟩ : ByteArray).size ≤ 9223372036854775807 := by first | omega | (simp only [ByteArray.size_append]; omega)
          have hz2 : ((⟨#[43]⟩ : ByteArray) ++ sj ++ (⟨#[42]⟩ : ByteArray)).size + si.size ≤ 9223372036854775807 := by first | omega | (simp only [ByteArray.size_append]; omega)
          have hit : itemMv m = [43] ++ fmtI m.j ++ [42] ++ fmtI m.i := by
            unfold itemMv
            rw [if_neg hn1, if_neg hn4, if_neg hn2, sgB, if_neg (show ¬ m.sign < 0 by omega)]
          have HU : Hid ((⟨#[43]⟩ : ByteArray) ++ sj ++ (⟨#[42]⟩ : ByteArray) ++ si = str (itemMv m)) := Lib.hid (by
            rw [HSI.out, HSJ.out, hit]
            show str ([43]) ++ str (fmtI m.j) ++ str ([42]) ++ str (fmtI m.i) = _
            rw [str_app, str_app, str_app])
          clear hit
          have HT2 := Lib.hid (take_ok HM.out HT.out hokm)
          clear hcz0 hcz1 hcz2 hcz3 hcz4 hcz5 hokm
          go_wp2_with (at_builtin; refine MarkerS.to ?_)
          unfold MarkerS
          refine wpList_pushStr rfl _ _ rfl w.heap.size A1 k c1 _ rfl HO2.out (itemMv m) _ HU.out rfl (by omega) hm2.size ?_
          intro A3 c3 w3 ho3 hm3'
          have HO3 : Hid (w3.ownsRow w.heap.size 9 1 (.slice A3 (k + 1) c3) (k + 1) (strs ((ms.take (k + 1)).map itemMv))) := Lib.hid (by rw [map_take HM.out]; exact ho3)
          have hm3 := hm2.transNew hm3' (Or.inl (Nat.le_refl _))
          clear ho3 hm3' HO2 hm2 HT HU B2 HSI HSJ
          go_wp2_with fail
          go_roundw
          case rel => exact ⟨k + 1, A3, c3, by go_num, rfl, by omega, HT2, HO3, hm3⟩
          case measure => simp [intOf]; omega
        have hn3 := hk3
        have hres := fmtMs_no HM.out (fun h => by unfold okMv at h; omega)
        have HRES := Lib.hid hres
        have d1 : (m.kind == 1) = false := by simp [hn1]
        have d4 : (m.kind == 4) = false := by simp [hn4]
        have d2 : (m.kind == 2) = false := by simp [hn2]
        have d3 : (m.kind == 3) = false := by simp [hn3]
        clear hres
        go_wp2_with fail
        go_ret
        exact ⟨by rw [HRES.out]; rfl, hm2⟩
    · obtain rfl : k = ms.length := by omega
      have htk : ms.take ms.length = ms := List.take_length
      have hall : ∀ x ∈ ms, okMv x := by have h := HT.out; rw [htk] at h; exact h
      have HRES := Lib.hid (fmtMs_yes hall)
      have ho := HO.out
      rw [htk] at ho
      have hll : (ms.map itemMv).length = ms.length := List.length_map ..
      obtain ⟨L, hL⟩ : ∃ L, ms.map itemMv = L := ⟨_, rfl⟩
      rw [hL] at ho hll
      have hbd : ∀ x ∈ L, x.length ≤ 1000 := by
        intro x hx
        rw [← hL] at hx
        obtain ⟨m, hm, rfl⟩ := List.mem_map.1 hx
        have := itemMv_len (HOK.out m hm)
        omega
      have hG := fun W h => impl_glued A1 L c1 [32] [110, 111, 110, 101] W w.heap.size wo.heap.size h (by omega) (by rw [hll]; exact owns_cap ho) hbd (by simp)
      rw [hll] at hG
      have hrv := OV.rv (⟨Nat.le_refl _, ho, fun g hg => (ho.lt g hg).2⟩ : OV wo w.heap.size wo.heap.size 9 1 A1 c1 ms.length (strs L))
      have HL := Lib.hid hL
      clear hall htk HT HO ho hll hL
      go_wp2_with fail
      with_reducible refine (hG _ hrv).mono ?_
      rintro en w5 ⟨rfl, hm5⟩
      go_wp2_with fail
      go_ret
      exact ⟨by rw [HRES.out, HL.out]; rfl, hm.trans hm5⟩
end Go.Proofs.Ytimmnnncgnnkgaa

/- FormatMoves, the reference. -/
namespace Go.Proofs.Ytimmnnncgnnkgaa
set_option linter.unusedVariables false
set_option linter.unusedSimpArgs false
open Go.RowKit

set_option maxHeartbeats 6400000 in
set_option maxRecDepth 100000 in
theorem spec_FormatMoves (A : Option Addr) (ms : List Mv) (c : Nat) (w : World) (lo hi : Nat) (hr : RV w lo hi A (ints (mvsI ms))) (hl : ms.length ≤ 1048576) (hok : ∀ m ∈ ms, OkMv m) :
    Calls Try.prog 24 #[.slice A ms.length c] w fun e w' => e = .returned (.string (str (fmtMs ms))) ∧ Mid 0 0 w w' := by
  have HOK := Lib.hid hok
  clear hok
  have HS0 : Hid ((⟨#[]⟩ : ByteArray) = str (accB [32] ((ms.take 0).map itemMv))) := Lib.hid rfl
  have HT0 : Hid (∀ x ∈ ms.take 0, okMv x) := Lib.hid (by simp)
  go_enter Try.func24, Try.ntmps24
  go_wp2_with fail
  go_loopw [3, 4] (fun sv kv wr => ∃ (k : Nat) (s : ByteArray), kv = .int .i64 k ∧ sv = .string s ∧ k ≤ ms.length ∧ Hid (∀ x ∈ ms.take k, okMv x) ∧ Hid (s = str (accB [32] ((ms.take k).map itemMv))) ∧ Mid 0 0 w wr) (fun _ kv _ => ms.length - (intOf kv).toNat)
  case atStart => exact ⟨0, ⟨#[]⟩, rfl, rfl, Nat.zero_le _, HT0, HS0, Mid.refl _ _ _⟩
  case round =>
    clear HT0 HS0
    obtain ⟨wo, hwo⟩ : ∃ wo, wo = wr := ⟨_, rfl⟩
    subst hwo
    obtain ⟨k, s, rfl, rfl, hk, HT, HS, hm⟩ := hrel
    have hss : s.size ≤ 1048576 * 46 := by
      rw [HS.out, str_size]
      have h1 := accB_len [32] 45 ((ms.take k).map itemMv) fun y hy => by
        obtain ⟨m, hm, rfl⟩ := List.mem_map.1 hy
        exact itemMv_len (HOK.out m (List.mem_of_mem_take hm))
      rw [List.length_map] at h1
      have h2 : (ms.take k).length ≤ 1048576 := by rw [List.length_take]; omega
      have h3 : (ms.take k).length * (45 + [(32 : UInt8)].length) ≤ 1048576 * 46 := Nat.mul_le_mul h2 (Nat.le_refl _)
      omega
    by_cases hlt : k < ms.length
    · obtain ⟨b, off, m, hA, -, hbh, hmk, e0, e1, e2, e3⟩ := (hr.mid hm (Or.inl (Nat.zero_le _))).mv hlt
      subst hA
      have HM := Lib.hid hmk
      have hb1 : b < wo.heap.size := Nat.lt_of_lt_of_le hbh (Nat.le_trans hr.1 hm.size)
      have hk0 : (0 : Int) ≤ (k : Int) := by omega
      have hkn : (k : Int) < (ms.length : Int) := by omega
      have hom := HOK.out m (List.mem_of_getElem? hmk)
      obtain ⟨si, hsi⟩ : ∃ s, s = str (fmtI m.i) := ⟨_, rfl⟩
      obtain ⟨sj, hsj⟩ : ∃ s, s = str (fmtI m.j) := ⟨_, rfl⟩
      have hI := fun W => spec_FormatInt m.i W hom.1.1 hom.1.2
      have hJ := fun W => spec_FormatInt m.j W hom.2.1 hom.2.2
      rw [← hsi] at hI
      rw [← hsj] at hJ
      have hsz1 : si.size ≤ 21 := by rw [hsi, str_size]; exact fmtI_len hom.1.1 hom.1.2
      have hsz2 : sj.size ≤ 21 := by rw [hsj, str_size]; exact fmtI_len hom.2.1 hom.2.2
      have HSI := Lib.hid hsi
      have HSJ := Lib.hid hsj
      obtain ⟨pre, hpre⟩ : ∃ pre : List UInt8, pre = if k = 0 then [] else accB [32] ((ms.take k).map itemMv) ++ [32] := ⟨_, rfl⟩
      have hacc : accB [32] ((ms.take (k + 1)).map itemMv) = pre ++ itemMv m := by
        rw [map_take hmk, accB_snoc, hpre]
        by_cases h0 : k = 0
        · subst h0
          simp
        · rw [if_neg h0, if_neg]
          intro h
          have := congrArg List.length h
          rw [List.length_map, List.length_take, List.length_nil] at this
          omega
      have HACC := Lib.hid hacc
      clear hmk hsi hsj hacc
      by_cases hz : k = 0
      · have HS1 : Hid (s = str pre) := Lib.hid (by rw [HS.out, hpre, if_pos hz]; subst hz; rfl)
        have dk : decide ((0 : Int) < (k : Int)) = false := by simp; omega
        have hng : ¬ (0 : Int) < (k : Int) := by omega
        clear hpre hz
        by_cases hsg : m.sign < 0
        · skip
          have dsg : decide (m.sign < 0) = true := by simpa using hsg
          by_cases hk1 : m.kind = 1
          · skip
            have hokm : okMv m := Or.inl hk1
            have d1 : (m.kind == 1) = true := by rw [hk1]; rfl
            have hcz0 : (⟨#[105, 110, 118, 101, 114, 116]⟩ : ByteArray).size = 6 := rfl
            have hcz1 : (⟨#[100, 114, 111, 112]⟩ : ByteArray).size = 4 := rfl
            have hcz2 : (⟨#[42]⟩ : ByteArray).size = 1 := rfl
            have hcz3 : (⟨#[43]⟩ : ByteArray).size = 1 := rfl
            have hcz4 : (⟨#[45]⟩ : ByteArray).size = 1 := rfl
            have hcz5 : (⟨#[32]⟩ : ByteArray).size = 1 := rfl
            have hz0 : (s).size + (⟨#[105, 110, 118, 101, 114, 116]⟩ : ByteArray).size ≤ 9223372036854775807 := by first | omega | (simp only [ByteArray.size_append]; omega)
            have hz1 : (s ++ (⟨#[105, 110, 118, 101, 114, 116]⟩ : ByteArray)).size + si.size ≤ 9223372036854775807 := by first | omega | (simp only [ByteArray.size_append]; omega)
            have hit : itemMv m = [105, 110, 118, 101, 114, 116] ++ fmtI m.i := by
              unfold itemMv
              rw [if_pos hk1]
            have HU : Hid (s ++ (⟨#[105, 110, 118, 101, 114, 116]⟩ : ByteArray) ++ si = str (accB [32] ((ms.take (k + 1)).map itemMv))) := Lib.hid (by
              rw [HACC.out, hit, HS1.out, HSI.out]
              show str pre ++ str ([105, 110, 118, 101, 114, 116]) ++ str (fmtI m.i) = _
              simp only [str_app, List.append_assoc])
            clear hit
            have HT2 := Lib.hid (take_ok HM.out HT.out hokm)
            clear hokm HT HACC HSI HSJ
            go_wp2_with fail
            with_reducible refine (hI _).mono ?_
            rintro en w4 ⟨rfl, hm4⟩
            have hm5 := hm.trans hm4
            clear hm hm4
            go_wp2_with fail
            go_roundw
            case rel => exact ⟨k + 1, s ++ (⟨#[105, 110, 118, 101, 114, 116]⟩ : ByteArray) ++ si, by go_num, rfl, by omega, HT2, HU, hm5⟩
            case measure => simp [intOf]; omega
          have hn1 := hk1
          by_cases hk2 : m.kind = 2
          · skip
            have hokm : okMv m := Or.inr (Or.inr (Or.inl hk2))
            have d1 : (m.kind == 1) = false := by simp [hn1]
            have d2 : (m.kind == 2) = true := by rw [hk2]; rfl
            have hcz0 : (⟨#[105, 110, 118, 101, 114, 116]⟩ : ByteArray).size = 6 := rfl
            have hcz1 : (⟨#[100, 114, 111, 112]⟩ : ByteArray).size = 4 := rfl
            have hcz2 : (⟨#[42]⟩ : ByteArray).size = 1 := rfl
            have hcz3 : (⟨#[43]⟩ : ByteArray).size = 1 := rfl
            have hcz4 : (⟨#[45]⟩ : ByteArray).size = 1 := rfl
            have hcz5 : (⟨#[32]⟩ : ByteArray).size = 1 := rfl
            have hz0 : (s).size + si.size ≤ 9223372036854775807 := by first | omega | (simp only [ByteArray.size_append]; omega)
            have hz1 : (s ++ si).size + (⟨#[42]⟩ : ByteArray).size ≤ 9223372036854775807 := by first | omega | (simp only [ByteArray.size_append]; omega)
            have hz2 : (s ++ si ++ (⟨#[42]⟩ : ByteArray)).size + (⟨#[45]⟩ : ByteArray).size ≤ 9223372036854775807 := by first | omega | (simp only [ByteArray.size_append]; omega)
            have hz3 : (s ++ si ++ (⟨#[42]⟩ : ByteArray) ++ (⟨#[45]⟩ : ByteArray)).size + sj.size ≤ 9223372036854775807 := by first | omega | (simp only [ByteArray.size_append]; omega)
            have hit : itemMv m = fmtI m.i ++ [42] ++ [45] ++ fmtI m.j := by
              unfold itemMv
              rw [if_neg hn1, if_neg (show ¬ m.kind = 4 by omega), if_pos hk2, sgB, if_pos hsg]
            have HU : Hid (s ++ si ++ (⟨#[42]⟩ : ByteArray) ++ (⟨#[45]⟩ : ByteArray) ++ sj = str (accB [32] ((ms.take (k + 1)).map itemMv))) := Lib.hid (by
              rw [HACC.out, hit, HS1.out, HSI.out, HSJ.out]
              show str pre ++ str (fmtI m.i) ++ str ([42]) ++ str ([45]) ++ str (fmtI m.j) = _
              simp only [str_app, List.append_assoc])
            clear hit
            have HT2 := Lib.hid (take_ok HM.out HT.out hokm)
            clear hokm HT HACC HSI HSJ
            have r1 := wg_cell hb1 e1
            have r2 := wg_cell hb1 e2
            go_wp2_with fail
            refine wp_region_quiet_wg (by kernel_rfl) (by kernel_rfl) ?_
            repeat
              (with_reducible refine wpQuiet_step (fun K hK => ?_))
              go_simp
              first
                | ((with_reducible refine hK _ ?_); clear hK K)
                | (rw [if_neg (by decide)]; (with_reducible refine hK _ ?_); clear hK K)
                | (apply Exists.intro; refine ⟨fun _ => ?_, hK _ ?_⟩; (rw [if_neg (by omega)]; exact ⟨rfl, rfl⟩); clear hK K)
                | (apply Exists.intro; refine ⟨fun _ => ?_, hK _ ?_⟩; ((go_at_call 59; first | with_reducible exact Calls.wg_of (hI _) | with_reducible exact Calls.wg_of (hJ _))); clear hK K)
            with_reducible refine wpQuiet_nil ?_
            intro _ hw'
            obtain ⟨⟨nq, osq⟩, hw''⟩ := hw'
            subst hw''
            have hwg := Mid.ofWg wo nq osq
            generalize wg wo nq osq = w4 at hwg ⊢
            have hm5 := hm.trans hwg
            clear hwg r1 r2 hm
            go_wp2_with fail
            go_roundw
            case rel => exact ⟨k + 1, s ++ si ++ (⟨#[42]⟩ : ByteArray) ++ (⟨#[45]⟩ : ByteArray) ++ sj, by go_num, rfl, by omega, HT2, HU, hm5⟩
            case measure => simp [intOf]; omega
          have hn2 := hk2
          by_cases hk3 : m.kind = 3
          · skip
            have hokm : okMv m := Or.inr (Or.inr (Or.inr hk3))
            have d1 : (m.kind == 1) = false := by simp [hn1]
            have d2 : (m.kind == 2) = false := by simp [hn2]
            have d3 : (m.kind == 3) = true := by rw [hk3]; rfl
            have hcz0 : (⟨#[105, 110, 118, 101, 114, 116]⟩ : ByteArray).size = 6 := rfl
            have hcz1 : (⟨#[100, 114, 111, 112]⟩ : ByteArray).size = 4 := rfl
            have hcz2 : (⟨#[42]⟩ : ByteArray).size = 1 := rfl
            have hcz3 : (⟨#[43]⟩ : ByteArray).size = 1 := rfl
            have hcz4 : (⟨#[45]⟩ : ByteArray).size = 1 := rfl
            have hcz5 : (⟨#[32]⟩ : ByteArray).size = 1 := rfl
            have hz0 : (s).size + (⟨#[45]⟩ : ByteArray).size ≤ 9223372036854775807 := by first | omega | (simp only [ByteArray.size_append]; omega)
            have hz1 : (s ++ (⟨#[45]⟩ : ByteArray)).size + sj.size ≤ 9223372036854775807 := by first | omega | (simp only [ByteArray.size_append]; omega)
            have hz2 : (s ++ (⟨#[45]⟩ : ByteArray) ++ sj).size + (⟨#[42]⟩ : ByteArray).size ≤ 9223372036854775807 := by first | omega | (simp only [ByteArray.size_append]; omega)
            have hz3 : (s ++ (⟨#[45]⟩ : ByteArray) ++ sj ++ (⟨#[42]⟩ : ByteArray)).size + si.size ≤ 9223372036854775807 := by first | omega | (simp only [ByteArray.size_append]; omega)
            have hit : itemMv m = [45] ++ fmtI m.j ++ [42] ++ fmtI m.i := by
              unfold itemMv
              rw [if_neg hn1, if_neg (show ¬ m.kind = 4 by omega), if_neg hn2, sgB, if_pos hsg]
            have HU : Hid (s ++ (⟨#[45]⟩ : ByteArray) ++ sj ++ (⟨#[42]⟩ : ByteArray) ++ si = str (accB [32] ((ms.take (k + 1)).map itemMv))) := Lib.hid (by
              rw [HACC.out, hit, HS1.out, HSI.out, HSJ.out]
              show str pre ++ str ([45]) ++ str (fmtI m.j) ++ str ([42]) ++ str (fmtI m.i) = _
              simp only [str_app, List.append_assoc])
            clear hit
            have HT2 := Lib.hid (take_ok HM.out HT.out hokm)
            clear hokm HT HACC HSI HSJ
            have r1 := wg_cell hb1 e1
            have r2 := wg_cell hb1 e2
            go_wp2_with fail
            refine wp_region_quiet_wg (by kernel_rfl) (by kernel_rfl) ?_
            repeat
              (with_reducible refine wpQuiet_step (fun K hK => ?_))
              go_simp
              first
                | ((with_reducible refine hK _ ?_); clear hK K)
                | (rw [if_neg (by decide)]; (with_reducible refine hK _ ?_); clear hK K)
                | (apply Exists.intro; refine ⟨fun _ => ?_, hK _ ?_⟩; (rw [if_neg (by omega)]; exact ⟨rfl, rfl⟩); clear hK K)
                | (apply Exists.intro; refine ⟨fun _ => ?_, hK _ ?_⟩; ((go_at_call 59; first | with_reducible exact Calls.wg_of (hI _) | with_reducible exact Calls.wg_of (hJ _))); clear hK K)
            with_reducible refine wpQuiet_nil ?_
            intro _ hw'
            obtain ⟨⟨nq, osq⟩, hw''⟩ := hw'
            subst hw''
            have hwg := Mid.ofWg wo nq osq
            generalize wg wo nq osq = w4 at hwg ⊢
            have hm5 := hm.trans hwg
            clear hwg r1 r2 hm
            go_wp2_with fail
            go_roundw
            case rel => exact ⟨k + 1, s ++ (⟨#[45]⟩ : ByteArray) ++ sj ++ (⟨#[42]⟩ : ByteArray) ++ si, by go_num, rfl, by omega, HT2, HU, hm5⟩
            case measure => simp [intOf]; omega
          have hn3 := hk3
          by_cases hk4 : m.kind = 4
          · skip
            have hokm : okMv m := Or.inr (Or.inl hk4)
            have d1 : (m.kind == 1) = false := by simp [hn1]
            have d2 : (m.kind == 2) = false := by simp [hn2]
            have d3 : (m.kind == 3) = false := by simp [hn3]
            have d4 : (m.kind == 4) = true := by rw [hk4]; rfl
            have hcz0 : (⟨#[105, 110, 118, 101, 114, 116]⟩ : ByteArray).size = 6 := rfl
            have hcz1 : (⟨#[100, 114, 111, 112]⟩ : ByteArray).size = 4 := rfl
            have hcz2 : (⟨#[42]⟩ : ByteArray).size = 1 := rfl
            have hcz3 : (⟨#[43]⟩ : ByteArray).size = 1 := rfl
            have hcz4 : (⟨#[45]⟩ : ByteArray).size = 1 := rfl
            have hcz5 : (⟨#[32]⟩ : ByteArray).size = 1 := rfl
            have hz0 : (s).size + (⟨#[100, 114, 111, 112]⟩ : ByteArray).size ≤ 9223372036854775807 := by first | omega | (simp only [ByteArray.size_append]; omega)
            have hz1 : (s ++ (⟨#[100, 114, 111, 112]⟩ : ByteArray)).size + si.size ≤ 9223372036854775807 := by first | omega | (simp only [ByteArray.size_append]; omega)
            have hit : itemMv m = [100, 114, 111, 112] ++ fmtI m.i := by
              unfold itemMv
              rw [if_neg hn1, if_pos hk4]
            have HU : Hid (s ++ (⟨#[100, 114, 111, 112]⟩ : ByteArray) ++ si = str (accB [32] ((ms.take (k + 1)).map itemMv))) := Lib.hid (by
              rw [HACC.out, hit, HS1.out, HSI.out]
              show str pre ++ str ([100, 114, 111, 112]) ++ str (fmtI m.i) = _
              simp only [str_app, List.append_assoc])
            clear hit
            have HT2 := Lib.hid (take_ok HM.out HT.out hokm)
            clear hokm HT HACC HSI HSJ
            go_wp2_with fail
            with_reducible refine (hI _).mono ?_
            rintro en w4 ⟨rfl, hm4⟩
            have hm5 := hm.trans hm4
            clear hm hm4
            go_wp2_with fail
            go_roundw
            case rel => exact ⟨k + 1, s ++ (⟨#[100, 114, 111, 112]⟩ : ByteArray) ++ si, by go_num, rfl, by omega, HT2, HU, hm5⟩
            case measure => simp [intOf]; omega
          have hn4 := hk4
          have hres := fmtMs_no HM.out (fun h => by unfold okMv at h; omega)
          have HRES := Lib.hid hres
          have d1 : (m.kind == 1) = false := by simp [hn1]
          have d2 : (m.kind == 2) = false := by simp [hn2]
          have d3 : (m.kind == 3) = false := by simp [hn3]
          have d4 : (m.kind == 4) = false := by simp [hn4]
          clear hres
          go_wp2_with fail
          go_ret
          exact ⟨by rw [HRES.out]; rfl, hm⟩
        · skip
          have dsg : decide (m.sign < 0) = false := by simpa using hsg
          by_cases hk1 : m.kind = 1
          · skip
            have hokm : okMv m := Or.inl hk1
            have d1 : (m.kind == 1) = true := by rw [hk1]; rfl
            have hcz0 : (⟨#[105, 110, 118, 101, 114, 116]⟩ : ByteArray).size = 6 := rfl
            have hcz1 : (⟨#[100, 114, 111, 112]⟩ : ByteArray).size = 4 := rfl
            have hcz2 : (⟨#[42]⟩ : ByteArray).size = 1 := rfl
            have hcz3 : (⟨#[43]⟩ : ByteArray).size = 1 := rfl
            have hcz4 : (⟨#[45]⟩ : ByteArray).size = 1 := rfl
            have hcz5 : (⟨#[32]⟩ : ByteArray).size = 1 := rfl
            have hz0 : (s).size + (⟨#[105, 110, 118, 101, 114, 116]⟩ : ByteArray).size ≤ 9223372036854775807 := by first | omega | (simp only [ByteArray.size_append]; omega)
            have hz1 : (s ++ (⟨#[105, 110, 118, 101, 114, 116]⟩ : ByteArray)).size + si.size ≤ 9223372036854775807 := by first | omega | (simp only [ByteArray.size_append]; omega)
            have hit : itemMv m = [105, 110, 118, 101, 114, 116] ++ fmtI m.i := by
              unfold itemMv
              rw [if_pos hk1]
            have HU : Hid (s ++ (⟨#[105, 110, 118, 101, 114, 116]⟩ : ByteArray) ++ si = str (accB [32] ((ms.take (k + 1)).map itemMv))) := Lib.hid (by
              rw [HACC.out, hit, HS1.out, HSI.out]
              show str pre ++ str ([105, 110, 118, 101, 114, 116]) ++ str (fmtI m.i) = _
              simp only [str_app, List.append_assoc])
            clear hit
            have HT2 := Lib.hid (take_ok HM.out HT.out hokm)
            clear hokm HT HACC HSI HSJ
            go_wp2_with fail
            with_reducible refine (hI _).mono ?_
            rintro en w4 ⟨rfl, hm4⟩
            have hm5 := hm.trans hm4
            clear hm hm4
            go_wp2_with fail
            go_roundw
            case rel => exact ⟨k + 1, s ++ (⟨#[105, 110, 118, 101, 114, 116]⟩ : ByteArray) ++ si, by go_num, rfl, by omega, HT2, HU, hm5⟩
            case measure => simp [intOf]; omega
          have hn1 := hk1
          by_cases hk2 : m.kind = 2
          · skip
            have hokm : okMv m := Or.inr (Or.inr (Or.inl hk2))
            have d1 : (m.kind == 1) = false := by simp [hn1]
            have d2 : (m.kind == 2) = true := by rw [hk2]; rfl
            have hcz0 : (⟨#[105, 110, 118, 101, 114, 116]⟩ : ByteArray).size = 6 := rfl
            have hcz1 : (⟨#[100, 114, 111, 112]⟩ : ByteArray).size = 4 := rfl
            have hcz2 : (⟨#[42]⟩ : ByteArray).size = 1 := rfl
            have hcz3 : (⟨#[43]⟩ : ByteArray).size = 1 := rfl
            have hcz4 : (⟨#[45]⟩ : ByteArray).size = 1 := rfl
            have hcz5 : (⟨#[32]⟩ : ByteArray).size = 1 := rfl
            have hz0 : (s).size + si.size ≤ 9223372036854775807 := by first | omega | (simp only [ByteArray.size_append]; omega)
            have hz1 : (s ++ si).size + (⟨#[42]⟩ : ByteArray).size ≤ 9223372036854775807 := by first | omega | (simp only [ByteArray.size_append]; omega)
            have hz2 : (s ++ si ++ (⟨#[42]⟩ : ByteArray)).size + (⟨#[43]⟩ : ByteArray).size ≤ 9223372036854775807 := by first | omega | (simp only [ByteArray.size_append]; omega)
            have hz3 : (s ++ si ++ (⟨#[42]⟩ : ByteArray) ++ (⟨#[43]⟩ : ByteArray)).size + sj.size ≤ 9223372036854775807 := by first | omega | (simp only [ByteArray.size_append]; omega)
            have hit : itemMv m = fmtI m.i ++ [42] ++ [43] ++ fmtI m.j := by
              unfold itemMv
              rw [if_neg hn1, if_neg (show ¬ m.kind = 4 by omega), if_pos hk2, sgB, if_neg (show ¬ m.sign < 0 by omega)]
            have HU : Hid (s ++ si ++ (⟨#[42]⟩ : ByteArray) ++ (⟨#[43]⟩ : ByteArray) ++ sj = str (accB [32] ((ms.take (k + 1)).map itemMv))) := Lib.hid (by
              rw [HACC.out, hit, HS1.out, HSI.out, HSJ.out]
              show str pre ++ str (fmtI m.i) ++ str ([42]) ++ str ([43]) ++ str (fmtI m.j) = _
              simp only [str_app, List.append_assoc])
            clear hit
            have HT2 := Lib.hid (take_ok HM.out HT.out hokm)
            clear hokm HT HACC HSI HSJ
            have r1 := wg_cell hb1 e1
            have r2 := wg_cell hb1 e2
            go_wp2_with fail
            refine wp_region_quiet_wg (by kernel_rfl) (by kernel_rfl) ?_
            repeat
              (with_reducible refine wpQuiet_step (fun K hK => ?_))
              go_simp
              first
                | ((with_reducible refine hK _ ?_); clear hK K)
                | (rw [if_neg (by decide)]; (with_reducible refine hK _ ?_); clear hK K)
                | (apply Exists.intro; refine ⟨fun _ => ?_, hK _ ?_⟩; (rw [if_neg (by omega)]; exact ⟨rfl, rfl⟩); clear hK K)
                | (apply Exists.intro; refine ⟨fun _ => ?_, hK _ ?_⟩; ((go_at_call 59; first | with_reducible exact Calls.wg_of (hI _) | with_reducible exact Calls.wg_of (hJ _))); clear hK K)
            with_reducible refine wpQuiet_nil ?_
            intro _ hw'
            obtain ⟨⟨nq, osq⟩, hw''⟩ := hw'
            subst hw''
            have hwg := Mid.ofWg wo nq osq
            generalize wg wo nq osq = w4 at hwg ⊢
            have hm5 := hm.trans hwg
            clear hwg r1 r2 hm
            go_wp2_with fail
            go_roundw
            case rel => exact ⟨k + 1, s ++ si ++ (⟨#[42]⟩ : ByteArray) ++ (⟨#[43]⟩ : ByteArray) ++ sj, by go_num, rfl, by omega, HT2, HU, hm5⟩
            case measure => simp [intOf]; omega
          have hn2 := hk2
          by_cases hk3 : m.kind = 3
          · skip
            have hokm : okMv m := Or.inr (Or.inr (Or.inr hk3))
            have d1 : (m.kind == 1) = false := by simp [hn1]
            have d2 : (m.kind == 2) = false := by simp [hn2]
            have d3 : (m.kind == 3) = true := by rw [hk3]; rfl
            have hcz0 : (⟨#[105, 110, 118, 101, 114, 116]⟩ : ByteArray).size = 6 := rfl
            have hcz1 : (⟨#[100, 114, 111, 112]⟩ : ByteArray).size = 4 := rfl
            have hcz2 : (⟨#[42]⟩ : ByteArray).size = 1 := rfl
            have hcz3 : (⟨#[43]⟩ : ByteArray).size = 1 := rfl
            have hcz4 : (⟨#[45]⟩ : ByteArray).size = 1 := rfl
            have hcz5 : (⟨#[32]⟩ : ByteArray).size = 1 := rfl
            have hz0 : (s).size + (⟨#[43]⟩ : ByteArray).size ≤ 9223372036854775807 := by first | omega | (simp only [ByteArray.size_append]; omega)
            have hz1 : (s ++ (⟨#[43]⟩ : ByteArray)).size + sj.size ≤ 9223372036854775807 := by first | omega | (simp only [ByteArray.size_append]; omega)
            have hz2 : (s ++ (⟨#[43]⟩ : ByteArray) ++ sj).size + (⟨#[42]⟩ : ByteArray).size ≤ 9223372036854775807 := by first | omega | (simp only [ByteArray.size_append]; omega)
            have hz3 : (s ++ (⟨#[43]⟩ : ByteArray) ++ sj ++ (⟨#[42]⟩ : ByteArray)).size + si.size ≤ 9223372036854775807 := by first | omega | (simp only [ByteArray.size_append]; omega)
            have hit : itemMv m = [43] ++ fmtI m.j ++ [42] ++ fmtI m.i := by
              unfold itemMv
              rw [if_neg hn1, if_neg (show ¬ m.kind = 4 by omega), if_neg hn2, sgB, if_neg (show ¬ m.sign < 0 by omega)]
            have HU : Hid (s ++ (⟨#[43]⟩ : ByteArray) ++ sj ++ (⟨#[42]⟩ : ByteArray) ++ si = str (accB [32] ((ms.take (k + 1)).map itemMv))) := Lib.hid (by
              rw [HACC.out, hit, HS1.out, HSI.out, HSJ.out]
              show str pre ++ str ([43]) ++ str (fmtI m.j) ++ str ([42]) ++ str (fmtI m.i) = _
              simp only [str_app, List.append_assoc])
            clear hit
            have HT2 := Lib.hid (take_ok HM.out HT.out hokm)
            clear hokm HT HACC HSI HSJ
            have r1 := wg_cell hb1 e1
            have r2 := wg_cell hb1 e2
            go_wp2_with fail
            refine wp_region_quiet_wg (by kernel_rfl) (by kernel_rfl) ?_
            repeat
              (with_reducible refine wpQuiet_step (fun K hK => ?_))
              go_simp
              first
                | ((with_reducible refine hK _ ?_); clear hK K)
                | (rw [if_neg (by decide)]; (with_reducible refine hK _ ?_); clear hK K)
                | (apply Exists.intro; refine ⟨fun _ => ?_, hK _ ?_⟩; (rw [if_neg (by omega)]; exact ⟨rfl, rfl⟩); clear hK K)
                | (apply Exists.intro; refine ⟨fun _ => ?_, hK _ ?_⟩; ((go_at_call 59; first | with_reducible exact Calls.wg_of (hI _) | with_reducible exact Calls.wg_of (hJ _))); clear hK K)
            with_reducible refine wpQuiet_nil ?_
            intro _ hw'
            obtain ⟨⟨nq, osq⟩, hw''⟩ := hw'
            subst hw''
            have hwg := Mid.ofWg wo nq osq
            generalize wg wo nq osq = w4 at hwg ⊢
            have hm5 := hm.trans hwg
            clear hwg r1 r2 hm
            go_wp2_with fail
            go_roundw
            case rel => exact ⟨k + 1, s ++ (⟨#[43]⟩ : ByteArray) ++ sj ++ (⟨#[42]⟩ : ByteArray) ++ si, by go_num, rfl, by omega, HT2, HU, hm5⟩
            case measure => simp [intOf]; omega
          have hn3 := hk3
          by_cases hk4 : m.kind = 4
          · skip
            have hokm : okMv m := Or.inr (Or.inl hk4)
            have d1 : (m.kind == 1) = false := by simp [hn1]
            have d2 : (m.kind == 2) = false := by simp [hn2]
            have d3 : (m.kind == 3) = false := by simp [hn3]
            have d4 : (m.kind == 4) = true := by rw [hk4]; rfl
            have hcz0 : (⟨#[105, 110, 118, 101, 114, 116]⟩ : ByteArray).size = 6 := rfl
            have hcz1 : (⟨#[100, 114, 111, 112]⟩ : ByteArray).size = 4 := rfl
            have hcz2 : (⟨#[42]⟩ : ByteArray).size = 1 := rfl
            have hcz3 : (⟨#[43]⟩ : ByteArray).size = 1 := rfl
            have hcz4 : (⟨#[45]⟩ : ByteArray).size = 1 := rfl
            have hcz5 : (⟨#[32]⟩ : ByteArray).size = 1 := rfl
            have hz0 : (s).size + (⟨#[100, 114, 111, 112]⟩ : ByteArray).size ≤ 9223372036854775807 := by first | omega | (simp only [ByteArray.size_append]; omega)
            have hz1 : (s ++ (⟨#[100, 114, 111, 112]⟩ : ByteArray)).size + si.size ≤ 9223372036854775807 := by first | omega | (simp only [ByteArray.size_append]; omega)
            have hit : itemMv m = [100, 114, 111, 112] ++ fmtI m.i := by
              unfold itemMv
              rw [if_neg hn1, if_pos hk4]
            have HU : Hid (s ++ (⟨#[100, 114, 111, 112]⟩ : ByteArray) ++ si = str (accB [32] ((ms.take (k + 1)).map itemMv))) := Lib.hid (by
              rw [HACC.out, hit, HS1.out, HSI.out]
              show str pre ++ str ([100, 114, 111, 112]) ++ str (fmtI m.i) = _
              simp only [str_app, List.append_assoc])
            clear hit
            have HT2 := Lib.hid (take_ok HM.out HT.out hokm)
            clear hokm HT HACC HSI HSJ
            go_wp2_with fail
            with_reducible refine (hI _).mono ?_
            rintro en w4 ⟨rfl, hm4⟩
            have hm5 := hm.trans hm4
            clear hm hm4
            go_wp2_with fail
            go_roundw
            case rel => exact ⟨k + 1, s ++ (⟨#[100, 114, 111, 112]⟩ : ByteArray) ++ si, by go_num, rfl, by omega, HT2, HU, hm5⟩
            case measure => simp [intOf]; omega
          have hn4 := hk4
          have hres := fmtMs_no HM.out (fun h => by unfold okMv at h; omega)
          have HRES := Lib.hid hres
          have d1 : (m.kind == 1) = false := by simp [hn1]
          have d2 : (m.kind == 2) = false := by simp [hn2]
          have d3 : (m.kind == 3) = false := by simp [hn3]
          have d4 : (m.kind == 4) = false := by simp [hn4]
          clear hres
          go_wp2_with fail
          go_ret
          exact ⟨by rw [HRES.out]; rfl, hm⟩
      · have HS1 : Hid (s ++ (⟨#[32]⟩ : ByteArray) = str pre) := Lib.hid (by rw [HS.out, hpre, if_neg hz]; exact str_app _ [32])
        have dk : decide ((0 : Int) < (k : Int)) = true := by simp; omega
        have hng : (0 : Int) < (k : Int) := by omega
        have hz32 : s.size + (⟨#[32]⟩ : ByteArray).size ≤ 9223372036854775807 := by
          have : (⟨#[32]⟩ : ByteArray).size = 1 := rfl
          omega
        clear hpre
        by_cases hsg : m.sign < 0
        · skip
          have dsg : decide (m.sign < 0) = true := by simpa using hsg
          by_cases hk1 : m.kind = 1
          · skip
            have hokm : okMv m := Or.inl hk1
            have d1 : (m.kind == 1) = true := by rw [hk1]; rfl
            have hcz0 : (⟨#[105, 110, 118, 101, 114, 116]⟩ : ByteArray).size = 6 := rfl
            have hcz1 : (⟨#[100, 114, 111, 112]⟩ : ByteArray).size = 4 := rfl
            have hcz2 : (⟨#[42]⟩ : ByteArray).size = 1 := rfl
            have hcz3 : (⟨#[43]⟩ : ByteArray).size = 1 := rfl
            have hcz4 : (⟨#[45]⟩ : ByteArray).size = 1 := rfl
            have hcz5 : (⟨#[32]⟩ : ByteArray).size = 1 := rfl
            have hz0 : ((s ++ (⟨#[32]⟩ : ByteArray))).size + (⟨#[105, 110, 118, 101, 114, 116]⟩ : ByteArray).size ≤ 9223372036854775807 := by first | omega | (simp only [ByteArray.size_append]; omega)
            have hz1 : ((s ++ (⟨#[32]⟩ : ByteArray)) ++ (⟨#[105, 110, 118, 101, 114, 116]⟩ : ByteArray)).size + si.size ≤ 9223372036854775807 := by first | omega | (simp only [ByteArray.size_append]; omega)
            have hit : itemMv m = [105, 110, 118, 101, 114, 116] ++ fmtI m.i := by
              unfold itemMv
              rw [if_pos hk1]
            have HU : Hid ((s ++ (⟨#[32]⟩ : ByteArray)) ++ (⟨#[105, 110, 118, 101, 114, 116]⟩ : ByteArray) ++ si = str (accB [32] ((ms.take (k + 1)).map itemMv))) := Lib.hid (by
              rw [HACC.out, hit, HS1.out, HSI.out]
              show str pre ++ str ([105, 110, 118, 101, 114, 116]) ++ str (fmtI m.i) = _
              simp only [str_app, List.append_assoc])
            clear hit
            have HT2 := Lib.hid (take_ok HM.out HT.out hokm)
            clear hokm HT HACC HSI HSJ
            go_wp2_with fail
            with_reducible refine (hI _).mono ?_
            rintro en w4 ⟨rfl, hm4⟩
            have hm5 := hm.trans hm4
            clear hm hm4
            go_wp2_with fail
            go_roundw
            case rel => exact ⟨k + 1, (s ++ (⟨#[32]⟩ : ByteArray)) ++ (⟨#[105, 110, 118, 101, 114, 116]⟩ : ByteArray) ++ si, by go_num, rfl, by omega, HT2, HU, hm5⟩
            case measure => simp [intOf]; omega
          have hn1 := hk1
          by_cases hk2 : m.kind = 2
          · skip
            have hokm : okMv m := Or.inr (Or.inr (Or.inl hk2))
            have d1 : (m.kind == 1) = false := by simp [hn1]
            have d2 : (m.kind == 2) = true := by rw [hk2]; rfl
            have hcz0 : (⟨#[105, 110, 118, 101, 114, 116]⟩ : ByteArray).size = 6 := rfl
            have hcz1 : (⟨#[100, 114, 111, 112]⟩ : ByteArray).size = 4 := rfl
            have hcz2 : (⟨#[42]⟩ : ByteArray).size = 1 := rfl
            have hcz3 : (⟨#[43]⟩ : ByteArray).size = 1 := rfl
            have hcz4 : (⟨#[45]⟩ : ByteArray).size = 1 := rfl
            have hcz5 : (⟨#[32]⟩ : ByteArray).size = 1 := rfl
            have hz0 : ((s ++ (⟨#[32]⟩ : ByteArray))).size + si.size ≤ 9223372036854775807 := by first | omega | (simp only [ByteArray.size_append]; omega)
            have hz1 : ((s ++ (⟨#[32]⟩ : ByteArray)) ++ si).size + (⟨#[42]⟩ : ByteArray).size ≤ 9223372036854775807 := by first | omega | (simp only [ByteArray.size_append]; omega)
            have hz2 : ((s ++ (⟨#[32]⟩ : ByteArray)) ++ si ++ (⟨#[42]⟩ : ByteArray)).size + (⟨#[45]⟩ : ByteArray).size ≤ 9223372036854775807 := by first | omega | (simp only [ByteArray.size_append]; omega)
            have hz3 : ((s ++ (⟨#[32]⟩ : ByteArray)) ++ si ++ (⟨#[42]⟩ : ByteArray) ++ (⟨#[45]⟩ : ByteArray)).size + sj.size ≤ 9223372036854775807 := by first | omega | (simp only [ByteArray.size_append]; omega)
            have hit : itemMv m = fmtI m.i ++ [42] ++ [45] ++ fmtI m.j := by
              unfold itemMv
              rw [if_neg hn1, if_neg (show ¬ m.kind = 4 by omega), if_pos hk2, sgB, if_pos hsg]
            have HU : Hid ((s ++ (⟨#[32]⟩ : ByteArray)) ++ si ++ (⟨#[42]⟩ : ByteArray) ++ (⟨#[45]⟩ : ByteArray) ++ sj = str (accB [32] ((ms.take (k + 1)).map itemMv))) := Lib.hid (by
              rw [HACC.out, hit, HS1.out, HSI.out, HSJ.out]
              show str pre ++ str (fmtI m.i) ++ str ([42]) ++ str ([45]) ++ str (fmtI m.j) = _
              simp only [str_app, List.append_assoc])
            clear hit
            have HT2 := Lib.hid (take_ok HM.out HT.out hokm)
            clear hokm HT HACC HSI HSJ
            have r1 := wg_cell hb1 e1
            have r2 := wg_cell hb1 e2
            go_wp2_with fail
            refine wp_region_quiet_wg (by kernel_rfl) (by kernel_rfl) ?_
            repeat
              (with_reducible refine wpQuiet_step (fun K hK => ?_))
              go_simp
              first
                | ((with_reducible refine hK _ ?_); clear hK K)
                | (rw [if_neg (by decide)]; (with_reducible refine hK _ ?_); clear hK K)
                | (apply Exists.intro; refine ⟨fun _ => ?_, hK _ ?_⟩; (rw [if_neg (by omega)]; exact ⟨rfl, rfl⟩); clear hK K)
                | (apply Exists.intro; refine ⟨fun _ => ?_, hK _ ?_⟩; ((go_at_call 59; first | with_reducible exact Calls.wg_of (hI _) | with_reducible exact Calls.wg_of (hJ _))); clear hK K)
            with_reducible refine wpQuiet_nil ?_
            intro _ hw'
            obtain ⟨⟨nq, osq⟩, hw''⟩ := hw'
            subst hw''
            have hwg := Mid.ofWg wo nq osq
            generalize wg wo nq osq = w4 at hwg ⊢
            have hm5 := hm.trans hwg
            clear hwg r1 r2 hm
            go_wp2_with fail
            go_roundw
            case rel => exact ⟨k + 1, (s ++ (⟨#[32]⟩ : ByteArray)) ++ si ++ (⟨#[42]⟩ : ByteArray) ++ (⟨#[45]⟩ : ByteArray) ++ sj, by go_num, rfl, by omega, HT2, HU, hm5⟩
            case measure => simp [intOf]; omega
          have hn2 := hk2
          by_cases hk3 : m.kind = 3
          · skip
            have hokm : okMv m := Or.inr (Or.inr (Or.inr hk3))
            have d1 : (m.kind == 1) = false := by simp [hn1]
            have d2 : (m.kind == 2) = false := by simp [hn2]
            have d3 : (m.kind == 3) = true := by rw [hk3]; rfl
            have hcz0 : (⟨#[105, 110, 118, 101, 114, 116]⟩ : ByteArray).size = 6 := rfl
            have hcz1 : (⟨#[100, 114, 111, 112]⟩ : ByteArray).size = 4 := rfl
            have hcz2 : (⟨#[42]⟩ : ByteArray).size = 1 := rfl
            have hcz3 : (⟨#[43]⟩ : ByteArray).size = 1 := rfl
            have hcz4 : (⟨#[45]⟩ : ByteArray).size = 1 := rfl
            have hcz5 : (⟨#[32]⟩ : ByteArray).size = 1 := rfl
            have hz0 : ((s ++ (⟨#[32]⟩ : ByteArray))).size + (⟨#[45]⟩ : ByteArray).size ≤ 9223372036854775807 := by first | omega | (simp only [ByteArray.size_append]; omega)
            have hz1 : ((s ++ (⟨#[32]⟩ : ByteArray)) ++ (⟨#[45]⟩ : ByteArray)).size + sj.size ≤ 9223372036854775807 := by first | omega | (simp only [ByteArray.size_append]; omega)
            have hz2 : ((s ++ (⟨#[32]⟩ : ByteArray)) ++ (⟨#[45]⟩ : ByteArray) ++ sj).size + (⟨#[42]⟩ : ByteArray).size ≤ 9223372036854775807 := by first | omega | (simp only [ByteArray.size_append]; omega)
            have hz3 : ((s ++ (⟨#[32]⟩ : ByteArray)) ++ (⟨#[45]⟩ : ByteArray) ++ sj ++ (⟨#[42]⟩ : ByteArray)).size + si.size ≤ 9223372036854775807 := by first | omega | (simp only [ByteArray.size_append]; omega)
            have hit : itemMv m = [45] ++ fmtI m.j ++ [42] ++ fmtI m.i := by
              unfold itemMv
              rw [if_neg hn1, if_neg (show ¬ m.kind = 4 by omega), if_neg hn2, sgB, if_pos hsg]
            have HU : Hid ((s ++ (⟨#[32]⟩ : ByteArray)) ++ (⟨#[45]⟩ : ByteArray) ++ sj ++ (⟨#[42]⟩ : ByteArray) ++ si = str (accB [32] ((ms.take (k + 1)).map itemMv))) := Lib.hid (by
              rw [HACC.out, hit, HS1.out, HSI.out, HSJ.out]
              show str pre ++ str ([45]) ++ str (fmtI m.j) ++ str ([42]) ++ str (fmtI m.i) = _
              simp only [str_app, List.append_assoc])
            clear hit
            have HT2 := Lib.hid (take_ok HM.out HT.out hokm)
            clear hokm HT HACC HSI HSJ
            have r1 := wg_cell hb1 e1
            have r2 := wg_cell hb1 e2
            go_wp2_with fail
            refine wp_region_quiet_wg (by kernel_rfl) (by kernel_rfl) ?_
            repeat
              (with_reducible refine wpQuiet_step (fun K hK => ?_))
              go_simp
              first
                | ((with_reducible refine hK _ ?_); clear hK K)
                | (rw [if_neg (by decide)]; (with_reducible refine hK _ ?_); clear hK K)
                | (apply Exists.intro; refine ⟨fun _ => ?_, hK _ ?_⟩; (rw [if_neg (by omega)]; exact ⟨rfl, rfl⟩); clear hK K)
                | (apply Exists.intro; refine ⟨fun _ => ?_, hK _ ?_⟩; ((go_at_call 59; first | with_reducible exact Calls.wg_of (hI _) | with_reducible exact Calls.wg_of (hJ _))); clear hK K)
            with_reducible refine wpQuiet_nil ?_
            intro _ hw'
            obtain ⟨⟨nq, osq⟩, hw''⟩ := hw'
            subst hw''
            have hwg := Mid.ofWg wo nq osq
            generalize wg wo nq osq = w4 at hwg ⊢
            have hm5 := hm.trans hwg
            clear hwg r1 r2 hm
            go_wp2_with fail
            go_roundw
            case rel => exact ⟨k + 1, (s ++ (⟨#[32]⟩ : ByteArray)) ++ (⟨#[45]⟩ : ByteArray) ++ sj ++ (⟨#[42]⟩ : ByteArray) ++ si, by go_num, rfl, by omega, HT2, HU, hm5⟩
            case measure => simp [intOf]; omega
          have hn3 := hk3
          by_cases hk4 : m.kind = 4
          · skip
            have hokm : okMv m := Or.inr (Or.inl hk4)
            have d1 : (m.kind == 1) = false := by simp [hn1]
            have d2 : (m.kind == 2) = false := by simp [hn2]
            have d3 : (m.kind == 3) = false := by simp [hn3]
            have d4 : (m.kind == 4) = true := by rw [hk4]; rfl
            have hcz0 : (⟨#[105, 110, 118, 101, 114, 116]⟩ : ByteArray).size = 6 := rfl
            have hcz1 : (⟨#[100, 114, 111, 112]⟩ : ByteArray).size = 4 := rfl
            have hcz2 : (⟨#[42]⟩ : ByteArray).size = 1 := rfl
            have hcz3 : (⟨#[43]⟩ : ByteArray).size = 1 := rfl
            have hcz4 : (⟨#[45]⟩ : ByteArray).size = 1 := rfl
            have hcz5 : (⟨#[32]⟩ : ByteArray).size = 1 := rfl
            have hz0 : ((s ++ (⟨#[32]⟩ : ByteArray))).size + (⟨#[100, 114, 111, 112]⟩ : ByteArray).size ≤ 9223372036854775807 := by first | omega | (simp only [ByteArray.size_append]; omega)
            have hz1 : ((s ++ (⟨#[32]⟩ : ByteArray)) ++ (⟨#[100, 114, 111, 112]⟩ : ByteArray)).size + si.size ≤ 9223372036854775807 := by first | omega | (simp only [ByteArray.size_append]; omega)
            have hit : itemMv m = [100, 114, 111, 112] ++ fmtI m.i := by
              unfold itemMv
              rw [if_neg hn1, if_pos hk4]
            have HU : Hid ((s ++ (⟨#[32]⟩ : ByteArray)) ++ (⟨#[100, 114, 111, 112]⟩ : ByteArray) ++ si = str (accB [32] ((ms.take (k + 1)).map itemMv))) := Lib.hid (by
              rw [HACC.out, hit, HS1.out, HSI.out]
              show str pre ++ str ([100, 114, 111, 112]) ++ str (fmtI m.i) = _
              simp only [str_app, List.append_assoc])
            clear hit
            have HT2 := Lib.hid (take_ok HM.out HT.out hokm)
            clear hokm HT HACC HSI HSJ
            go_wp2_with fail
            with_reducible refine (hI _).mono ?_
            rintro en w4 ⟨rfl, hm4⟩
            have hm5 := hm.trans hm4
            clear hm hm4
            go_wp2_with fail
            go_roundw
            case rel => exact ⟨k + 1, (s ++ (⟨#[32]⟩ : ByteArray)) ++ (⟨#[100, 114, 111, 112]⟩ : ByteArray) ++ si, by go_num, rfl, by omega, HT2, HU, hm5⟩
            case measure => simp [intOf]; omega
          have hn4 := hk4
          have hres := fmtMs_no HM.out (fun h => by unfold okMv at h; omega)
          have HRES := Lib.hid hres
          have d1 : (m.kind == 1) = false := by simp [hn1]
          have d2 : (m.kind == 2) = false := by simp [hn2]
          have d3 : (m.kind == 3) = false := by simp [hn3]
          have d4 : (m.kind == 4) = false := by simp [hn4]
          clear hres
          go_wp2_with fail
          go_ret
          exact ⟨by rw [HRES.out]; rfl, hm⟩
        · skip
          have dsg : decide (m.sign < 0) = false := by simpa using hsg
          by_cases hk1 : m.kind = 1
          · skip
            have hokm : okMv m := Or.inl hk1
            have d1 : (m.kind == 1) = true := by rw [hk1]; rfl
            have hcz0 : (⟨#[105, 110, 118, 101, 114, 116]⟩ : ByteArray).size = 6 := rfl
            have hcz1 : (⟨#[100, 114, 111, 112]⟩ : ByteArray).size = 4 := rfl
            have hcz2 : (⟨#[42]⟩ : ByteArray).size = 1 := rfl
            have hcz3 : (⟨#[43]⟩ : ByteArray).size = 1 := rfl
            have hcz4 : (⟨#[45]⟩ : ByteArray).size = 1 := rfl
            have hcz5 : (⟨#[32]⟩ : ByteArray).size = 1 := rfl
            have hz0 : ((s ++ (⟨#[32]⟩ : ByteArray))).size + (⟨#[105, 110, 118, 101, 114, 116]⟩ : ByteArray).size ≤ 9223372036854775807 := by first | omega | (simp only [ByteArray.size_append]; omega)
            have hz1 : ((s ++ (⟨#[32]⟩ : ByteArray)) ++ (⟨#[105, 110, 118, 101, 114, 116]⟩ : ByteArray)).size + si.size ≤ 9223372036854775807 := by first | omega | (simp only [ByteArray.size_append]; omega)
            have hit : itemMv m = [105, 110, 118, 101, 114, 116] ++ fmtI m.i := by
              unfold itemMv
              rw [if_pos hk1]
            have HU : Hid ((s ++ (⟨#[32]⟩ : ByteArray)) ++ (⟨#[105, 110, 118, 101, 114, 116]⟩ : ByteArray) ++ si = str (accB [32] ((ms.take (k + 1)).map itemMv))) := Lib.hid (by
              rw [HACC.out, hit, HS1.out, HSI.out]
              show str pre ++ str ([105, 110, 118, 101, 114, 116]) ++ str (fmtI m.i) = _
              simp only [str_app, List.append_assoc])
            clear hit
            have HT2 := Lib.hid (take_ok HM.out HT.out hokm)
            clear hokm HT HACC HSI HSJ
            go_wp2_with fail
            with_reducible refine (hI _).mono ?_
            rintro en w4 ⟨rfl, hm4⟩
            have hm5 := hm.trans hm4
            clear hm hm4
            go_wp2_with fail
            go_roundw
            case rel => exact ⟨k + 1, (s ++ (⟨#[32]⟩ : ByteArray)) ++ (⟨#[105, 110, 118, 101, 114, 116]⟩ : ByteArray) ++ si, by go_num, rfl, by omega, HT2, HU, hm5⟩
            case measure => simp [intOf]; omega
          have hn1 := hk1
          by_cases hk2 : m.kind = 2
          · skip
            have hokm : okMv m := Or.inr (Or.inr (Or.inl hk2))
            have d1 : (m.kind == 1) = false := by simp [hn1]
            have d2 : (m.kind == 2) = true := by rw [hk2]; rfl
            have hcz0 : (⟨#[105, 110, 118, 101, 114, 116]⟩ : ByteArray).size = 6 := rfl
            have hcz1 : (⟨#[100, 114, 111, 112]⟩ : ByteArray).size = 4 := rfl
            have hcz2 : (⟨#[42]⟩ : ByteArray).size = 1 := rfl
            have hcz3 : (⟨#[43]⟩ : ByteArray).size = 1 := rfl
            have hcz4 : (⟨#[45]⟩ : ByteArray).size = 1 := rfl
            have hcz5 : (⟨#[32]⟩ : ByteArray).size = 1 := rfl
            have hz0 : ((s ++ (⟨#[32]⟩ : ByteArray))).size + si.size ≤ 9223372036854775807 := by first | omega | (simp only [ByteArray.size_append]; omega)
            have hz1 : ((s ++ (⟨#[32]⟩ : ByteArray)) ++ si).size + (⟨#[42]⟩ : ByteArray).size ≤ 9223372036854775807 := by first | omega | (simp only [ByteArray.size_append]; omega)
            have hz2 : ((s ++ (⟨#[32]⟩ : ByteArray)) ++ si ++ (⟨#[42]⟩ : ByteArray)).size + (⟨#[43]⟩ : ByteArray).size ≤ 9223372036854775807 := by first | omega | (simp only [ByteArray.size_append]; omega)
            have hz3 : ((s ++ (⟨#[32]⟩ : ByteArray)) ++ si ++ (⟨#[42]⟩ : ByteArray) ++ (⟨#[43]⟩ : ByteArray)).size + sj.size ≤ 9223372036854775807 := by first | omega | (simp only [ByteArray.size_append]; omega)
            have hit : itemMv m = fmtI m.i ++ [42] ++ [43] ++ fmtI m.j := by
              unfold itemMv
              rw [if_neg hn1, if_neg (show ¬ m.kind = 4 by omega), if_pos hk2, sgB, if_neg (show ¬ m.sign < 0 by omega)]
            have HU : Hid ((s ++ (⟨#[32]⟩ : ByteArray)) ++ si ++ (⟨#[42]⟩ : ByteArray) ++ (⟨#[43]⟩ : ByteArray) ++ sj = str (accB [32] ((ms.take (k + 1)).map itemMv))) := Lib.hid (by
              rw [HACC.out, hit, HS1.out, HSI.out, HSJ.out]
              show str pre ++ str (fmtI m.i) ++ str ([42]) ++ str ([43]) ++ str (fmtI m.j) = _
              simp only [str_app, List.append_assoc])
            clear hit
            have HT2 := Lib.hid (take_ok HM.out HT.out hokm)
            clear hokm HT HACC HSI HSJ
            have r1 := wg_cell hb1 e1
            have r2 := wg_cell hb1 e2
            go_wp2_with fail
            refine wp_region_quiet_wg (by kernel_rfl) (by kernel_rfl) ?_
            repeat
              (with_reducible refine wpQuiet_step (fun K hK => ?_))
              go_simp
              first
                | ((with_reducible refine hK _ ?_); clear hK K)
                | (rw [if_neg (by decide)]; (with_reducible refine hK _ ?_); clear hK K)
                | (apply Exists.intro; refine ⟨fun _ => ?_, hK _ ?_⟩; (rw [if_neg (by omega)]; exact ⟨rfl, rfl⟩); clear hK K)
                | (apply Exists.intro; refine ⟨fun _ => ?_, hK _ ?_⟩; ((go_at_call 59; first | with_reducible exact Calls.wg_of (hI _) | with_reducible exact Calls.wg_of (hJ _))); clear hK K)
            with_reducible refine wpQuiet_nil ?_
            intro _ hw'
            obtain ⟨⟨nq, osq⟩, hw''⟩ := hw'
            subst hw''
            have hwg := Mid.ofWg wo nq osq
            generalize wg wo nq osq = w4 at hwg ⊢
            have hm5 := hm.trans hwg
            clear hwg r1 r2 hm
            go_wp2_with fail
            go_roundw
            case rel => exact ⟨k + 1, (s ++ (⟨#[32]⟩ : ByteArray)) ++ si ++ (⟨#[42]⟩ : ByteArray) ++ (⟨#[43]⟩ : ByteArray) ++ sj, by go_num, rfl, by omega, HT2, HU, hm5⟩
            case measure => simp [intOf]; omega
          have hn2 := hk2
          by_cases hk3 : m.kind = 3
          · skip
            have hokm : okMv m := Or.inr (Or.inr (Or.inr hk3))
            have d1 : (m.kind == 1) = false := by simp [hn1]
            have d2 : (m.kind == 2) = false := by simp [hn2]
            have d3 : (m.kind == 3) = true := by rw [hk3]; rfl
            have hcz0 : (⟨#[105, 110, 118, 101, 114, 116]⟩ : ByteArray).size = 6 := rfl
            have hcz1 : (⟨#[100, 114, 111, 112]⟩ : ByteArray).size = 4 := rfl
            have hcz2 : (⟨#[42]⟩ : ByteArray).size = 1 := rfl
            have hcz3 : (⟨#[43]⟩ : ByteArray).size = 1 := rfl
            have hcz4 : (⟨#[45]⟩ : ByteArray).size = 1 := rfl
            have hcz5 : (⟨#[32]⟩ : ByteArray).size = 1 := rfl
            have hz0 : ((s ++ (⟨#[32]⟩ : ByteArray))).size + (⟨#[43]⟩ : ByteArray).size ≤ 9223372036854775807 := by first | omega | (simp only [ByteArray.size_append]; omega)
            have hz1 : ((s ++ (⟨#[32]⟩ : ByteArray)) ++ (⟨#[43]⟩ : ByteArray)).size + sj.size ≤ 9223372036854775807 := by first | omega | (simp only [ByteArray.size_append]; omega)
            have hz2 : ((s ++ (⟨#[32]⟩ : ByteArray)) ++ (⟨#[43]⟩ : ByteArray) ++ sj).size + (⟨#[42]⟩ : ByteArray).size ≤ 9223372036854775807 := by first | omega | (simp only [ByteArray.size_append]; omega)
            have hz3 : ((s ++ (⟨#[32]⟩ : ByteArray)) ++ (⟨#[43]⟩ : ByteArray) ++ sj ++ (⟨#[42]⟩ : ByteArray)).size + si.size ≤ 9223372036854775807 := by first | omega | (simp only [ByteArray.size_append]; omega)
            have hit : itemMv m = [43] ++ fmtI m.j ++ [42] ++ fmtI m.i := by
              unfold itemMv
              rw [if_neg hn1, if_neg (show ¬ m.kind = 4 by omega), if_neg hn2, sgB, if_neg (show ¬ m.sign < 0 by omega)]
            have HU : Hid ((s ++ (⟨#[32]⟩ : ByteArray)) ++ (⟨#[43]⟩ : ByteArray) ++ sj ++ (⟨#[42]⟩ : ByteArray) ++ si = str (accB [32] ((ms.take (k + 1)).map itemMv))) := Lib.hid (by
              rw [HACC.out, hit, HS1.out, HSI.out, HSJ.out]
              show str pre ++ str ([43]) ++ str (fmtI m.j) ++ str ([42]) ++ str (fmtI m.i) = _
              simp only [str_app, List.append_assoc])
            clear hit
            have HT2 := Lib.hid (take_ok HM.out HT.out hokm)
            clear hokm HT HACC HSI HSJ
            have r1 := wg_cell hb1 e1
            have r2 := wg_cell hb1 e2
            go_wp2_with fail
            refine wp_region_quiet_wg (by kernel_rfl) (by kernel_rfl) ?_
            repeat
              (with_reducible refine wpQuiet_step (fun K hK => ?_))
              go_simp
              first
                | ((with_reducible refine hK _ ?_); clear hK K)
                | (rw [if_neg (by decide)]; (with_reducible refine hK _ ?_); clear hK K)
                | (apply Exists.intro; refine ⟨fun _ => ?_, hK _ ?_⟩; (rw [if_neg (by omega)]; exact ⟨rfl, rfl⟩); clear hK K)
                | (apply Exists.intro; refine ⟨fun _ => ?_, hK _ ?_⟩; ((go_at_call 59; first | with_reducible exact Calls.wg_of (hI _) | with_reducible exact Calls.wg_of (hJ _))); clear hK K)
            with_reducible refine wpQuiet_nil ?_
            intro _ hw'
            obtain ⟨⟨nq, osq⟩, hw''⟩ := hw'
            subst hw''
            have hwg := Mid.ofWg wo nq osq
            generalize wg wo nq osq = w4 at hwg ⊢
            have hm5 := hm.trans hwg
            clear hwg r1 r2 hm
            go_wp2_with fail
            go_roundw
            case rel => exact ⟨k + 1, (s ++ (⟨#[32]⟩ : ByteArray)) ++ (⟨#[43]⟩ : ByteArray) ++ sj ++ (⟨#[42]⟩ : ByteArray) ++ si, by go_num, rfl, by omega, HT2, HU, hm5⟩
            case measure => simp [intOf]; omega
          have hn3 := hk3
          by_cases hk4 : m.kind = 4
          · skip
            have hokm : okMv m := Or.inr (Or.inl hk4)
            have d1 : (m.kind == 1) = false := by simp [hn1]
            have d2 : (m.kind == 2) = false := by simp [hn2]
            have d3 : (m.kind == 3) = false := by simp [hn3]
            have d4 : (m.kind == 4) = true := by rw [hk4]; rfl
            have hcz0 : (⟨#[105, 110, 118, 101, 114, 116]⟩ : ByteArray).size = 6 := rfl
            have hcz1 : (⟨#[100, 114, 111, 112]⟩ : ByteArray).size = 4 := rfl
            have hcz2 : (⟨#[42]⟩ : ByteArray).size = 1 := rfl
            have hcz3 : (⟨#[43]⟩ : ByteArray).size = 1 := rfl
            have hcz4 : (⟨#[45]⟩ : ByteArray).size = 1 := rfl
            have hcz5 : (⟨#[32]⟩ : ByteArray).size = 1 := rfl
            have hz0 : ((s ++ (⟨#[32]⟩ : ByteArray))).size + (⟨#[100, 114, 111, 112]⟩ : ByteArray).size ≤ 9223372036854775807 := by first | omega | (simp only [ByteArray.size_append]; omega)
            have hz1 : ((s ++ (⟨#[32]⟩ : ByteArray)) ++ (⟨#[100, 114, 111, 112]⟩ : ByteArray)).size + si.size ≤ 9223372036854775807 := by first | omega | (simp only [ByteArray.size_append]; omega)
            have hit : itemMv m = [100, 114, 111, 112] ++ fmtI m.i := by
              unfold itemMv
              rw [if_neg hn1, if_pos hk4]
            have HU : Hid ((s ++ (⟨#[32]⟩ : ByteArray)) ++ (⟨#[100, 114, 111, 112]⟩ : ByteArray) ++ si = str (accB [32] ((ms.take (k + 1)).map itemMv))) := Lib.hid (by
              rw [HACC.out, hit, HS1.out, HSI.out]
              show str pre ++ str ([100, 114, 111, 112]) ++ str (fmtI m.i) = _
              simp only [str_app, List.append_assoc])
            clear hit
            have HT2 := Lib.hid (take_ok HM.out HT.out hokm)
            clear hokm HT HACC HSI HSJ
            go_wp2_with fail
            with_reducible refine (hI _).mono ?_
            rintro en w4 ⟨rfl, hm4⟩
            have hm5 := hm.trans hm4
            clear hm hm4
            go_wp2_with fail
            go_roundw
            case rel => exact ⟨k + 1, (s ++ (⟨#[32]⟩ : ByteArray)) ++ (⟨#[100, 114, 111, 112]⟩ : ByteArray) ++ si, by go_num, rfl, by omega, HT2, HU, hm5⟩
            case measure => simp [intOf]; omega
          have hn4 := hk4
          have hres := fmtMs_no HM.out (fun h => by unfold okMv at h; omega)
          have HRES := Lib.hid hres
          have d1 : (m.kind == 1) = false := by simp [hn1]
          have d2 : (m.kind == 2) = false := by simp [hn2]
          have d3 : (m.kind == 3) = false := by simp [hn3]
          have d4 : (m.kind == 4) = false := by simp [hn4]
          clear hres
          go_wp2_with fail
          go_ret
          exact ⟨by rw [HRES.out]; rfl, hm⟩
    · obtain rfl : k = ms.length := by omega
      have htk : ms.take ms.length = ms := List.take_length
      have hall : ∀ x ∈ ms, okMv x := by have h := HT.out; rw [htk] at h; exact h
      have hres := fmtMs_yes hall
      have hs := HS.out
      rw [htk] at hs
      by_cases hnil : ms = []
      · subst hnil
        have hs0 : s = ⟨#[]⟩ := hs
        subst hs0
        have HRES := Lib.hid hres
        clear hres hs hall htk HS HT
        go_wp2_with fail
        go_ret
        exact ⟨by rw [HRES.out]; rfl, hm⟩
      · have hne := accB_ne [32] (ms.map itemMv) (by simpa using hnil) (fun x hx => by obtain ⟨m, -, rfl⟩ := List.mem_map.1 hx; exact itemMv_ne m)
        have hb : s.toList.isEmpty = false := by
          rw [hs, ByteArray.toList_mk, List.isEmpty_eq_false_iff]
          exact hne
        have hfin : s = str (fmtMs ms) := by rw [hs, hres, glueB, if_neg (by simpa using hnil)]
        have HFIN := Lib.hid hfin
        clear hres hs hall htk HS HT hne hfin
        go_wp2_with fail
        go_ret
        exact ⟨by rw [← HFIN.out]; rfl, hm⟩
end Go.Proofs.Ytimmnnncgnnkgaa

/- The law's helpers on lists of moves: sizes and copies; the law on FormatMoves: its data. -/
namespace Go.Proofs.Ytimmnnncgnnkgaa
set_option linter.unusedVariables false
set_option linter.unusedSimpArgs false
open Go.RowKit

theorem infoMv : (Try.prog.info? 89).map (fun i => (i.zero, i.size, i.bytes)) = some (some (.agg #[.int .i64 0, .int .i64 0, .int .i64 0, .int .i64 0]), 4, 32) := by kernel_rfl
theorem undSMv : Try.prog.underlying 44 = some (.slice 89) := by kernel_rfl
theorem szMoveS_any (A : Option Addr) (n c : Nat) (left : Int) (w : World) (hn : n ≤ 9223372036854775807) (h0 : 0 ≤ left) (h1 : left ≤ 1048576) :
    Calls Try.prog 23 #[.slice A n c, .int .i64 left] w fun e w' => e = .returned (.int .i64 (szI left n)) ∧ w = w' := by
  unfold szI
  by_cases h : (n : Int) ≤ left
  · rw [if_pos h]
    go_enter Try.func23, Try.ntmps23
    go_wp2_with fail
    go_ret
    exact ⟨rfl, rfl⟩
  · rw [if_neg h]
    go_enter Try.func23, Try.ntmps23
    go_wp2_with fail
    go_ret
    exact ⟨rfl, rfl⟩

set_option maxHeartbeats 800000 in
theorem toMove_mv (m : Mv) (w : World) :
    Calls Try.prog 60 #[.agg #[.int .i64 m.kind, .int .i64 m.i, .int .i64 m.j, .int .i64 m.sign]] w fun en w' => en = .returned (.agg #[.int .i64 m.kind, .int .i64 m.i, .int .i64 m.j, .int .i64 m.sign]) ∧ Mid 0 0 w w' := by
  obtain ⟨a, b, c, d⟩ := m
  go_enter Try.func60, Try.ntmps60
  go_wp2_with fail
  refine bodyPost_ret (v := .agg #[.int .i64 a, .int .i64 b, .int .i64 c, .int .i64 d]) (by simp [results, Try.results60, go_sem]) rfl ⟨rfl, ?_⟩
  repeat (first | exact Mid.alloc _ _ | exact (Mid.alloc _ _).trans (Mid.alloc _ _) | exact ((Mid.alloc _ _).trans (Mid.alloc _ _)).trans (Mid.alloc _ _) | refine Mid.storeNew ?_ (by simp) _)

theorem mvsI_fill (ms : List Mv) {k : Nat} {m : Mv} (he : ms[k]? = some m) (zs : List Value) (hz : zs.length = ms.length * 4) :
    ((((ints (mvsI (ms.take k)) ++ zs.drop (k * 4)).set (k * 4) (.int .i64 m.kind)).set (k * 4 + 1) (.int .i64 m.i)).set (k * 4 + 2) (.int .i64 m.j)).set (k * 4 + 3) (.int .i64 m.sign) = ints (mvsI (ms.take (k + 1))) ++ zs.drop ((k + 1) * 4) := by
  obtain ⟨hk, rfl⟩ := List.getElem?_eq_some_iff.1 he
  have hl : (ints (mvsI (ms.take k))).length = k * 4 := by rw [ints_len, mvsI_len, List.length_take, Nat.min_eq_left (by omega)]
  obtain ⟨z0, z1, z2, z3, rest, hd⟩ : ∃ z0 z1 z2 z3 rest, zs.drop (k * 4) = z0 :: z1 :: z2 :: z3 :: rest := by
    refine ⟨zs[k * 4], zs[k * 4 + 1], zs[k * 4 + 2], zs[k * 4 + 3], zs.drop (k * 4 + 4), ?_⟩
    rw [List.drop_eq_getElem_cons (by omega), List.drop_eq_getElem_cons (by omega), List.drop_eq_getElem_cons (by omega), List.drop_eq_getElem_cons (by omega)]
  have hd4 : zs.drop ((k + 1) * 4) = rest := by
    rw [show (k + 1) * 4 = k * 4 + 4 by omega, ← List.drop_drop, hd]
    rfl
  rw [hd4, hd, List.take_succ_eq_append_getElem hk, mvsI_append, ints_append, mvsI_one]
  rw [List.set_append_right _ _ (by omega), List.set_append_right _ _ (by omega), List.set_append_right _ _ (by omega), List.set_append_right _ _ (by omega), hl]
  simp [ints, mvI]

set_option maxHeartbeats 1600000 in
theorem toMoveS_any (A : Option Addr) (ms : List Mv) (c : Nat) (w : World) (lo hi : Nat) (hr : RV w lo hi A (ints (mvsI ms))) (hl : ms.length ≤ 1048576) :
    Calls Try.prog 25 #[.slice A ms.length c] w fun e w' => ∃ A' c', e = .returned (.slice A' ms.length c') ∧ OV w' w.heap.size w'.heap.size 89 4 A' c' ms.length (ints (mvsI ms)) ∧ Mid 0 0 w w' := by
  have hmx : ms.length ≤ maxLen := by unfold maxLen; omega
  obtain ⟨i, hi1, hi2, hi3, hi4⟩ := info_parts infoMv
  go_enter Try.func25, Try.ntmps25
  go_wp2_with (at_make; refine wpList_make_full w rfl _ _ 44 rfl w.heap.size 89 i _ 4 undSMv hi1 hi2 hi3 .i64 .i64 _ _ ms.length rfl rfl rfl rfl (by rw [hi4]; omega) hmx (Nat.le_refl _) ?_; intro w1 hown1 hgr1)
  have hb1 : Mid 0 0 w w1 := Mid.of_grown hgr1 (by intro g h; cases h)
  obtain ⟨zs, hzs⟩ : ∃ zs, zs = (madeCells (Value.agg #[.int .i64 0, .int .i64 0, .int .i64 0, .int .i64 0]).cells (ms.length * 4)).toList := ⟨_, rfl⟩
  rw [← hzs] at hown1
  have hzl := hown1.1
  have HZ := Lib.hid hzl
  clear hzs hzl hi1 hi2 hi3 hi4
  go_loopw [4] (fun i wr => ∃ k : Nat, k ≤ ms.length ∧ i = .int .i64 k ∧ wr.ownsRow w.heap.size 89 4 (.slice (some ⟨w.heap.size, 0, none⟩) ms.length ms.length) ms.length (ints (mvsI (ms.take k)) ++ zs.drop (k * 4)) ∧ Mid 0 0 w wr)
    (fun i _ => ms.length - (intOf i).toNat)
  case atStart => exact ⟨0, Nat.zero_le _, rfl, by simpa [ints, mvsI] using hown1, hb1⟩
  case round =>
    obtain ⟨k, hk, rfl, hown, hm⟩ := hrel
    by_cases hlt : k < ms.length
    · obtain ⟨b, off, m, rfl, -, hbh, he, c0, c1, c2, c3⟩ := (hr.mid hm (Or.inl (Nat.zero_le _))).mv hlt
      have hs1 : b < wr.heap.size := Nat.lt_of_lt_of_le hbh (Nat.le_trans hr.1 hm.size)
      have HE := Lib.hid he
      have hk0 : (0 : Int) ≤ (k : Int) := by omega
      have hkn : (k : Int) < (ms.length : Int) := by omega
      have hcell : ∀ (W : World) (ys : List Value), W.ownsRow w.heap.size 89 4 (.slice (some ⟨w.heap.size, 0, none⟩) ms.length ms.length) ms.length ys → ∀ j, j < ms.length * 4 → ∃ u, W.cell? ⟨w.heap.size, j, none⟩ = some u := by
        intro W ys h j hj
        exact ⟨_, (h.cellAt j hj).trans (List.getElem?_eq_getElem (by have := h.1; omega))⟩
      clear he
      go_wp2_with fail
      with_reducible refine (toMove_mv m _).mono ?_
      rintro en w2 ⟨rfl, hm2⟩
      have hown2 := owns_mid hown hm2 (Or.inl (Nat.zero_le _))
      obtain ⟨u0, hu0⟩ := hcell _ _ hown2 (k * 4) (by omega)
      obtain ⟨u1, hu1⟩ := hcell _ _ hown2 (k * 4 + 1) (by omega)
      obtain ⟨u2, hu2⟩ := hcell _ _ hown2 (k * 4 + 2) (by omega)
      obtain ⟨u3, hu3⟩ := hcell _ _ hown2 (k * 4 + 3) (by omega)
      have hfz := fun i => hown2.frozenAt i
      have HO := Lib.hid (owns_setK (owns_setK (owns_setK (owns_setK hown2 (k * 4) (.int .i64 m.kind) rfl) (k * 4 + 1) (.int .i64 m.i) rfl) (k * 4 + 2) (.int .i64 m.j) rfl) (k * 4 + 3) (.int .i64 m.sign) rfl)
      clear hown hown2 hcell
      go_wp2_with fail
      go_roundw
      case rel =>
        refine ⟨k + 1, by omega, by go_num, ?_, ?_⟩
        · have h := HO.out
          rw [mvsI_fill ms HE.out zs HZ.out] at h
          exact h
        · have h := hm.trans hm2
          repeat (first | exact h | refine Mid.storeNew ?_ (Nat.le_refl _) _)
      case measure => simp [intOf]; omega
    · obtain rfl : k = ms.length := by omega
      go_wp2_with fail
      go_ret
      rw [List.drop_eq_nil_of_le (by rw [HZ.out]; exact Nat.le_refl _), List.append_nil, List.take_length] at hown
      exact ⟨_, _, rfl, ⟨Nat.le_refl _, hown, fun g hg => (hown.lt g hg).2⟩, hm⟩
theorem eqMvSL (A A' : Option Addr) (ms : List Mv) (c c' : Nat) (w : World) (lo hi lo' hi' : Nat) (hr : RV w lo hi A (ints (mvsI ms))) (hr' : RV w lo' hi' A' (ints (mvsI ms))) (hl : ms.length ≤ 1048576) :
    Calls Try.prog 27 #[.slice A ms.length c, .slice A' ms.length c'] w (Stp (.bool true) w) :=
  eqMoveS_flat A A' (mvsI ms) ms.length c c' w lo hi lo' hi' hr hr' (mvsI_len ms) (by omega)
def FormatMovesIs (d0 : List Mv) (res0 : ByteArray) : Prop := res0 = str (fmtMs d0)
theorem FormatMovesIs_ex (d0 : List Mv) (o0 : ∀ m ∈ d0, OkMv m) (hl0 : d0.length ≤ 1048576) : ∃ res0, FormatMovesIs d0 res0 := ⟨_, rfl⟩
theorem sspec_FormatMoves (A0 : Option Addr) (d0 : List Mv) (c0 : Nat) (w : World) (lo0 hi0 : Nat) (h0 : RV w lo0 hi0 A0 (ints (mvsI d0))) (o0 : ∀ m ∈ d0, OkMv m) (hl0 : d0.length ≤ 1048576) (res0 : ByteArray) (h : FormatMovesIs d0 res0) :
    Calls Try.prog 24 #[.slice A0 d0.length c0] w fun e w' => e = .returned (.string res0) ∧ Mid 0 0 w w' := by
  rw [h]
  exact spec_FormatMoves A0 d0 c0 w lo0 hi0 h0 hl0 o0
theorem simpl_FormatMoves (A0 : Option Addr) (d0 : List Mv) (c0 : Nat) (w : World) (lo0 hi0 : Nat) (h0 : RV w lo0 hi0 A0 (ints (mvsI d0))) (o0 : ∀ m ∈ d0, OkMv m) (hl0 : d0.length ≤ 1048576) (res0 : ByteArray) (h : FormatMovesIs d0 res0) :
    Calls Try.prog 26 #[.slice A0 d0.length c0] w fun e w' => e = .returned (.string res0) ∧ Mid 0 0 w w' := by
  rw [h]
  exact impl_FormatMoves A0 d0 c0 w lo0 hi0 h0 hl0 o0
end Go.Proofs.Ytimmnnncgnnkgaa

/- Opening of a list of moves that came in. -/
namespace Go.Proofs.Ytimmnnncgnnkgaa
set_option linter.unusedVariables false
set_option linter.unusedSimpArgs false
open Go.ChangeShapes Go.WideShapes Go.ChangeAt Go.RowKit
open Go.Joins Go.Deep

theorem cellsML : Try.prog.cellsOf 92 = 4 := by kernel_rfl
theorem undSML : Try.prog.underlying 41 = some (.slice 92) := by kernel_rfl
theorem fieldsM {H : Type} {enc : TypeId × Value → H} {P : Program} {w : World} {base : Nat} {spare : Nat → Bool} {held : Bool} {t : TypeId} {fs : Array Field} {fuel : Nat} {cs : List Value} {x : DataW H × List MemPlace}
    (ht : P.underlying t = some (.struct fs)) (hone : oneCellFields P fs = true) (h : DataW.trod enc P w base spare held fuel t cs = some x) (hl : cs.length = fs.size) :
    ∃ n, ∀ (j : Nat) (f : Field), fs[j]? = some f → ∃ v y, cs[j]? = some v ∧ DataW.trod enc P w base spare held n f.type [v] = some y := by
  obtain ⟨ys, n', hn', hy, hlen, hyl, hf⟩ := DataW.trod_struct ht h
  refine ⟨n', fun j f hj => ?_⟩
  obtain ⟨ho, hk⟩ := hone_of hone j f hj
  have hjl : j < fs.size := (Array.getElem?_eq_some_iff.1 hj).1
  have h1 := hf j f hj
  rw [ho, hk] at h1
  have h2 : (cs.drop j).take 1 = [cs[j]] := by
    rw [List.drop_eq_getElem_cons (by omega)]
    rfl
  rw [h2] at h1
  exact ⟨cs[j], ys[j], List.getElem?_eq_getElem (by omega), h1.trans (List.getElem?_eq_getElem (by omega))⟩
set_option maxRecDepth 100000 in
theorem move_cells {H : Type} {enc : TypeId × Value → H} {W : World} {a : Addr} {n : Nat} {cs : List Value} {x : DataW H × List MemPlace}
    (hc : W.cells? 0 a 4 = some cs) (h : DataW.trod enc Try.prog W 0 (fun _ => true) true n 92 cs = some x) :
    ∃ e : Mv, W.cell? a = some (.int .i64 e.kind) ∧ W.cell? (a.add 1) = some (.int .i64 e.i) ∧ W.cell? (a.add 2) = some (.int .i64 e.j) ∧ W.cell? (a.add 3) = some (.int .i64 e.sign) ∧ OkMv e := by
  obtain ⟨_, hcl, hat⟩ := World.cells?_some hc
  obtain ⟨n', hf⟩ := fieldsM Try.underlying92 (by kernel_rfl) h (by rw [hcl]; rfl)
  obtain ⟨v0, y0, g0, t0⟩ := hf 0 _ rfl
  obtain ⟨v1, y1, g1, t1⟩ := hf 1 _ rfl
  obtain ⟨v2, y2, g2, t2⟩ := hf 2 _ rfl
  obtain ⟨v3, y3, g3, t3⟩ := hf 3 _ rfl
  obtain ⟨m0, hm0, -, w0⟩ := DataW.trod_int undI t0
  obtain ⟨m1, hm1, -, w1⟩ := DataW.trod_int undI t1
  obtain ⟨m2, hm2, -, w2⟩ := DataW.trod_int undI t2
  obtain ⟨m3, hm3, -, w3⟩ := DataW.trod_int undI t3
  simp at hm0 hm1 hm2 hm3
  subst hm0 hm1 hm2 hm3
  refine ⟨⟨m0, m1, m2, m3⟩, ?_, ?_, ?_, ?_, wf_bounds w1, wf_bounds w2⟩
  · have := hat 0 (by omega)
    rw [show a.add 0 = a by simp [Addr.add]] at this
    rw [this, g0]
  · rw [hat 1 (by omega), g1]
  · rw [hat 2 (by omega), g2]
  · rw [hat 3 (by omega), g3]
theorem moves_of_cells {H : Type} {enc : TypeId × Value → H} {W : World} {fuel : Nat} {A : Option Addr} {len c : Nat} {x : DataW H × List MemPlace}
    (h : DataW.trod enc Try.prog W 0 (fun _ => true) true fuel 41 [.slice A len c] = some x) : ∃ ms : List Mv, len = ms.length ∧ RV W 0 W.heap.size A (ints (mvsI ms)) ∧ (∀ m ∈ ms, OkMv m) ∧ ms.length ≤ 9223372036854775807 := by
  rcases open_slice undSML h with ⟨hcs, _⟩ | ⟨a, len', cap, m, n, D, Pl, hcs, _, hl, hm, hmm, -, hi⟩
  · simp at hcs
    obtain ⟨rfl, rfl, rfl⟩ := hcs
    exact ⟨[], rfl, ⟨Nat.le_refl _, fun hn => absurd rfl hn⟩, fun x hx => by simp at hx, by simp⟩
  · simp at hcs
    obtain ⟨rfl, rfl, rfl⟩ := hcs
    simp at hmm
    subst hmm
    have hx : ∀ i, ∃ e : Mv, i < len → (W.cell? (a.add (i * 4)) = some (.int .i64 e.kind) ∧ W.cell? ((a.add (i * 4)).add 1) = some (.int .i64 e.i) ∧ W.cell? ((a.add (i * 4)).add 2) = some (.int .i64 e.j) ∧ W.cell? ((a.add (i * 4)).add 3) = some (.int .i64 e.sign) ∧ OkMv e) := by
      intro i
      by_cases hil : i < len
      · obtain ⟨cs', hc, ht'⟩ := hi i (by omega)
        rw [cellsML] at hc
        obtain ⟨e, he⟩ := move_cells hc ht'
        exact ⟨e, fun _ => he⟩
      · exact ⟨⟨0, 0, 0, 0⟩, fun h => absurd h hil⟩
    obtain ⟨f, hf⟩ := Classical.axiomOfChoice hx
    refine ⟨(List.range len).map f, by simp, ⟨Nat.le_refl _, fun hne => ?_⟩, ?_, by unfold maxLen at hm; simp; omega⟩
    · have hp : 0 < len := by
        rcases Nat.eq_zero_or_pos len with h0 | h0
        · subst h0
          simp [ints, mvsI] at hne
        · exact h0
      have h0 := (hf 0 hp).1
      obtain ⟨b, off, spot⟩ := a
      have hspot : spot = none := by simpa [Addr.add] using World.cell?_spot h0
      subst hspot
      refine ⟨b, off, rfl, Nat.zero_le _, ?_, fun j u hu => ?_⟩
      · have := World.block_lt_of_cell? _ _ h0
        simpa [Addr.add] using this
      · have hj : j < len * 4 := by
          have := (List.getElem?_eq_some_iff.1 hu).1
          rw [ints_len, mvsI_len] at this
          simpa using this
        obtain ⟨k, r, hr, rfl⟩ : ∃ k r, r < 4 ∧ j = k * 4 + r := ⟨j / 4, j % 4, by omega, by omega⟩
        obtain ⟨c0, c1, c2, c3, -⟩ := hf k (by omega)
        have hg : ((List.range len).map f)[k]? = some (f k) := by
          rw [List.getElem?_map, List.getElem?_range (by omega)]
          rfl
        obtain ⟨g0, g1, g2, g3⟩ := mvsI_at hg
        rw [Addr.add_lit] at c0
        rw [Addr.add_lit, Addr.add_lit] at c1 c2 c3
        rw [ints_get] at hu
        rcases r with _ | _ | _ | _ | r
        · rw [Nat.add_zero, g0] at hu
          rw [Nat.add_zero, c0]
          simpa using hu
        · rw [g1] at hu
          rw [← Nat.add_assoc, c1]
          simpa using hu
        · rw [g2] at hu
          rw [← Nat.add_assoc, c2]
          simpa using hu
        · rw [g3] at hu
          rw [← Nat.add_assoc, c3]
          simpa using hu
        · omega
    · intro e he
      obtain ⟨i, hi', rfl⟩ := List.mem_map.1 he
      exact (hf i (by simpa using hi')).2.2.2.2
set_option maxRecDepth 100000 in
theorem open_mvs {H : Type} {enc : TypeId × Value → H} {W : World} {r : Reach} {base : Nat} {v : Value} {d : DataW H} {ps : List MemPlace}
    (hok : Value.okWide Try.prog W r base 41 v) (h : DataW.Trod enc Try.prog W 0 (fun _ => true) true 41 v d ps) :
    ∃ A ms c, v = .slice A (List.length ms) c ∧ RV W 0 W.heap.size A (ints (mvsI ms)) ∧ (∀ m ∈ ms, OkMv m) ∧ ms.length ≤ 9223372036854775807 := by
  obtain ⟨A, len, c, rfl⟩ := okWide_slice undSML hok
  obtain ⟨fuel, hf⟩ := h
  obtain ⟨ms, rfl, h1, h2, h3⟩ := moves_of_cells (A := A) (len := len) (c := c) (by simpa [Value.cells] using hf)
  exact ⟨A, ms, c, rfl, h1, h2, h3⟩
end Go.Proofs.Ytimmnnncgnnkgaa

/- Opening of a morphism that came in. -/
namespace Go.Proofs.Ytimmnnncgnnkgaa
set_option linter.unusedVariables false
open Go.ChangeShapes Go.WideShapes Go.ChangeAt Go.RowKit
open Go.Joins
end Go.Proofs.Ytimmnnncgnnkgaa
