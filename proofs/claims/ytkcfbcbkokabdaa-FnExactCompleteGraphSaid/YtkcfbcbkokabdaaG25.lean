
/- CompleteGraph, the reference. -/
import Derived.Test.YtkcfbcbkokabdaaG22
namespace Go.Proofs.Ytkcfbcbkokabdaa
set_option linter.unusedVariables false
set_option linter.unusedSimpArgs false
open Go.RowKit

set_option maxHeartbeats 6400000 in
set_option maxRecDepth 100000 in
theorem spec_CompleteGraph (r s : Int) (A : Option Addr) (es : List Ed) (c : Nat) (w : World) (lo hi : Nat)
    (hr : RG w lo hi A es) (hl : es.length ≤ 1048576) (rr rs : Int) (res : List Ed) (b : Bool) (hres : CompleteIs r s es rr rs res b) :
    Calls Try.prog 19 #[graV r s A es.length c] w fun e w' => ∃ A1 c1, e = .returned (.tuple #[graV rr rs A1 res.length c1, .bool b]) ∧ OG w' w.heap.size w'.heap.size A1 c1 res ∧ Mid 0 0 w w' := by
  have HR := Lib.hid hres
  clear hres
  obtain ⟨b1, hb1⟩ := bool_of (IsFol r s es)
  have H1 := Lib.hid hb1
  clear hb1
  have hm0 : Mid 0 0 w ((w.alloc (.cells #[.int .i64 r, .int .i64 s, .slice A es.length c] 29)).alloc (.cells #[.int .i64 0, .int .i64 0, .slice none 0 0] 29)) := (Mid.alloc _ _).trans (Mid.alloc _ _)
  have B0 := (Box.new w #[.int .i64 r, .int .i64 s, .slice A es.length c] 29).mid (Mid.alloc _ (.cells #[.int .i64 0, .int .i64 0, .slice none 0 0] 29)) (Or.inr (Nat.zero_le _))
  have B2 := Box.new (w.alloc (.cells #[.int .i64 r, .int .i64 s, .slice A es.length c] 29)) #[.int .i64 0, .int .i64 0, .slice none 0 0] 29
  simp only [World.size_alloc] at B2
  go_enter Try.func19, Try.ntmps19
  go_wp2_with fail
  generalize hw1 : ((w.alloc (.cells #[.int .i64 r, .int .i64 s, .slice A es.length c] 29)).alloc (.cells #[.int .i64 0, .int .i64 0, .slice none 0 0] 29)) = w1 at hm0 B0 B2 ⊢
  have hs1 : w1.heap.size = w.heap.size + 1 + 1 := by rw [← hw1]; simp
  have HS := Lib.hid hs1
  clear hw1 hs1
  with_reducible refine (spec_IsFolded r s A es c _ _ _ (hr.mid hm0 (Or.inl (Nat.zero_le _))) hl b1 H1.out).mono ?_
  rintro en w2 ⟨rfl, hm2⟩
  have C0 := B0.mid hm2 (Or.inr (Nat.zero_le _))
  have C2 := B2.mid hm2 (Or.inr (Nat.zero_le _))
  have p0 := C0.cell 0 rfl
  have p1 := C0.cell 1 rfl
  have p2 := C0.cell 2 rfl
  have z0 := C2.cell 0 rfl
  have z1 := C2.cell 1 rfl
  have z2 := C2.cell 2 rfl
  have zf := C2.2.2
  have hm := hm0.trans hm2
  cases b1 with
  | false =>
    have hno : ¬ IsFol r s es := fun h => by have := H1.out.2 h; cases this
    obtain ⟨rfl, rfl, rfl, rfl⟩ := HR.out.no hno
    go_wp2_with fail
    refine bodyPost_ret (v := .tuple #[.agg #[.int .i64 0, .int .i64 0, .slice none 0 0], .bool false]) (by simp [results, Try.results19, go_sem, z0, z1, z2, zf]) rfl ⟨none, 0, rfl, OG.nil, ?_⟩
    repeat (first | exact hm | refine Mid.storeNew ?_ (by simp; try omega) _)
  | true =>
  have F1 := Lib.hid (H1.out.1 rfl)
  have hg := F1.out.gr
  have g1 := hg.rank
  have g2 := hg.size
  have g3 := hg.len
  obtain ⟨rfl, hrr, hrs, hre⟩ := HR.out.yes F1.out
  have HRR := Lib.hid hrr
  have HRS := Lib.hid hrs
  have HRE := Lib.hid hre
  have hmul : 0 ≤ s * r ∧ s * r ≤ 120 := ⟨Int.mul_nonneg (by omega) (by omega), by have := Int.mul_le_mul (show s ≤ 40 by omega) (show r ≤ 3 by omega) (by omega) (by omega); omega⟩
  have hmd : decide (120 < s * r) = false := by simp; omega
  clear B0 B2 HR H1 hrr hrs hre hg
  go_wp2_with fail
  with_reducible refine (spec_l4Copy r s A es c _ _ _ (hr.mid hm (Or.inl (Nat.zero_le _))) hl).mono ?_
  rintro en w4 ⟨A1, c1, rfl, ho4, hm4⟩
  have E0 := C0.mid hm4 (Or.inr (Nat.zero_le _))
  have E2 := C2.mid hm4 (Or.inr (Nat.zero_le _))
  have hal := Mid.alloc w4 (.cells #[.int .i64 r, .int .i64 s, .slice A1 es.length c1] 29)
  have Y0 := E0.mid hal (Or.inr (Nat.zero_le _))
  have Y2 := E2.mid hal (Or.inr (Nat.zero_le _))
  have Y3 := Box.new w4 #[.int .i64 r, .int .i64 s, .slice A1 es.length c1] 29
  have hzs := hm4.size
  have hmy := (hm.trans hm4).trans hal
  have ho5 := ho4.mid hal (Or.inl (Nat.zero_le _))
  clear p0 p1 p2 z0 z1 z2 zf C0 C2
  have hz0 := E0.1
  have hz2 := E2.1
  clear E0 E2
  have hw2 : w.heap.size ≤ w2.heap.size := hm.size
  have hw22 : w.heap.size + 2 ≤ w2.heap.size := by have h1 := HS.out; have h2 := hm2.size; omega
  go_wp2_with fail
  generalize hw5 : w4.alloc (.cells #[.int .i64 r, .int .i64 s, .slice A1 es.length c1] 29) = w5 at Y0 Y2 Y3 hmy ho5 ⊢
  have hs5 : w4.heap.size + 1 ≤ w5.heap.size := by rw [← hw5]; simp
  clear hw5 hal ho4
  have hGw : w.heap.size + 1 < w4.heap.size := by have := HS.out; have := hm2.size; omega
  have hG2 : w2.heap.size ≤ w4.heap.size := hzs
  generalize hG : w4.heap.size = G at Y3 hs5 hGw hG2 ho5 ⊢
  have hgl : ∀ e ∈ es, 1 ≤ e.l ∧ e.l ≤ 3 := fun e he => by have := F1.out.gr.all e he; unfold InG at this; omega
  clear hG hm2 hm4 hm0 hz0 hz2 hzs HS hm
  go_loopw [5] (fun x wr => ∃ (k : Nat) (A2 : Option Addr) (c2 lo2 hi2 : Nat) (xs : List Ed), (k : Int) ≤ r ∧ x = .int .i64 ((k : Int) + 1) ∧ Hid (xs = putAll es (addLs s es k)) ∧
      OG wr lo2 hi2 A2 c2 xs ∧ (hi2 ≤ G ∨ G + 1 ≤ lo2) ∧ w2.heap.size ≤ lo2 ∧
      Box wr w.heap.size [.int .i64 r, .int .i64 s, .slice A es.length c] ∧ Box wr (w.heap.size + 1) [.int .i64 0, .int .i64 0, .slice none 0 0] ∧
      Box wr G [.int .i64 r, .int .i64 s, .slice A2 xs.length c2] ∧ Mid 0 0 w wr) (fun x _ => (r + 1 - intOf x).toNat)
  case atStart => exact ⟨0, A1, c1, _, _, es, by omega, rfl, Lib.hid (by simp [addLs, putAll]), ho5, .inl (Nat.le_refl _), Nat.le_refl _, Y0, Y2, Y3, hmy⟩
  case round =>
    obtain ⟨wo, hwo⟩ : ∃ wo, wo = wr := ⟨_, rfl⟩
    subst hwo
    obtain ⟨k, A2, c2, lo2, hi2, xs, hk, rfl, HX, hown, hdis, hlo2, Z0, Z2, Z3, hmr⟩ := hrel
    have hGo : G < wo.heap.size := Z3.1
    have p0 := Z0.cell 0 rfl
    have p1 := Z0.cell 1 rfl
    have p2 := Z0.cell 2 rfl
    by_cases hlt : (k : Int) < r
    · have hkx : (k : Int) + 1 ≤ r := by omega
      have hk0 : (0 : Int) < (k : Int) + 1 := by omega
      have hal := (Mid.alloc wo (.cells #[] 3)).trans (Mid.alloc (wo.alloc (.cells #[] 3)) (.cells #[] 3))
      have T0 : TwoI ((wo.alloc (.cells #[] 3)).alloc (.cells #[] 3)) wo.heap.size (.slice (some ⟨wo.heap.size, 0, none⟩) 0 0) (.slice (some ⟨wo.heap.size + 1, 0, none⟩) 0 0) 0 0 [] [] := by
        have O1 := owns_empty wo 3 1
        have O2 := owns_empty (wo.alloc (.cells #[] 3)) 3 1
        rw [World.size_alloc] at O2
        refine ⟨O1.alloc _, owns_base O2 (Nat.le_succ _), ?_⟩
        intro h
        simp [Value.ownBlock] at h
      go_wp2_with fail
      go_loopw [6, 7, 8] (fun f t v wr => ∃ (j : Nat) (AF : Option Addr) (nF cF : Nat) (AT : Option Addr) (nT cT : Nat), (j : Int) ≤ s ∧ v = .int .i64 j ∧ f = .slice AF nF cF ∧ t = .slice AT nT cT ∧ Hid ((freeV es ((k : Int) + 1) j).length = nF) ∧ Hid ((freeV es (-((k : Int) + 1)) j).length = nT) ∧
        Hid (TwoI wr wo.heap.size (.slice AF nF cF) (.slice AT nT cT) nF nT (freeV es ((k : Int) + 1) j) (freeV es (-((k : Int) + 1)) j)) ∧ Mid 0 0 wo wr) (fun _ _ v _ => (s - intOf v).toNat)
      case atStart => exact ⟨0, _, 0, 0, _, 0, 0, by omega, rfl, rfl, rfl, Lib.hid rfl, Lib.hid rfl, Lib.hid T0, hal⟩
      case round =>
        obtain ⟨j, AF, nF, cF, AT, nT, cT, hj, rfl, rfl, rfl, HNF, HNT, HT, hmx⟩ := hrel
        have hnF : nF ≤ 40 := by have h1 := freeV_le es ((k : Int) + 1) j; have h2 := HNF.out; omega
        have hnT : nT ≤ 40 := by have h1 := freeV_le es (-((k : Int) + 1)) j; have h2 := HNT.out; omega
        have X0 := Z0.mid hmx (Or.inr (Nat.zero_le _))
        have q0 := X0.cell 0 rfl
        have q1 := X0.cell 1 rfl
        have q2 := X0.cell 2 rfl
        by_cases hlt2 : (j : Int) < s
        · have hS1 := freeV_succ es ((k : Int) + 1) j
          have hS2 := freeV_succ es (-((k : Int) + 1)) j
          go_wp2_with fail
          with_reducible refine (spec_NextVertex r s A es c j ((k : Int) + 1) _ lo hi (hr.mid (hmr.trans hmx) (Or.inl (Nat.zero_le _))) (by omega) hgl (by omega) (by omega)).mono ?_
          rintro en w6 ⟨rfl, hm6⟩
          generalize hv1 : nextV es (j : Int) ((k : Int) + 1) = v1 at hS1 ⊢
          have X1 := X0.mid hm6 (Or.inr (Nat.zero_le _))
          clear q0 q1 q2
          have q0 := X1.cell 0 rfl
          have q1 := X1.cell 1 rfl
          have q2 := X1.cell 2 rfl
          have hmx6 := hmx.trans hm6
          have hsz6 := hmx6.size
          have HT6 := Lib.hid (HT.out.mid hm6 (Nat.zero_le _))
          have hwo : w.heap.size < wo.heap.size := Z0.1
          by_cases c1 : v1 < 0
          · have b1 : decide (v1 < 0) = true := by simpa using c1
            rw [if_pos c1] at hS1
            go_wp2_with (at_builtin; refine wpList_push2 rfl _ _ rfl wo.heap.size AF nF cF _ _ _ _ rfl HT6.out j rfl (by omega) hsz6 ?_; intro A7 c7 w7 ht7 hm7; have X2 := X1.mid hm7 (Or.inl hwo); have z0 := X2.cell 0 rfl; have z1 := X2.cell 1 rfl; have z2 := X2.cell 2 rfl)
            with_reducible refine (spec_NextVertex r s A es c j (-((k : Int) + 1)) _ lo hi (hr.mid (hmr.trans (hmx6.transNew hm7 (Or.inl (Nat.le_refl _)))) (Or.inl (Nat.zero_le _))) (by omega) hgl (by omega) (by omega)).mono ?_
            rintro en w8 ⟨rfl, hm8⟩
            generalize hv2 : nextV es (j : Int) (-((k : Int) + 1)) = v2 at hS2 ⊢
            have hmx8 := ((hmx6.transNew hm7 (Or.inl (Nat.le_refl _)))).trans hm8
            have hsz8 := hmx8.size
            have HT8 := Lib.hid ((ht7).mid hm8 (Nat.zero_le _))
            by_cases c2 : v2 < 0
            · have b2 : decide (v2 < 0) = true := by simpa using c2
              rw [if_pos c2] at hS2
              clear hv2 c2 hv1
              go_wp2_with (at_builtin; refine wpList_push2 rfl _ _ rfl wo.heap.size AT nT cT _ _ _ _ rfl HT8.out.swap j rfl (by omega) hsz8 ?_; intro A9 c9 w9 ht9 hm9)
              go_roundw
              case rel => exact ⟨j + 1, A7, nF + 1, c7, A9, nT + 1, c9, by omega, by go_num, rfl, rfl, Lib.hid (by rw [hS1, List.length_append, HNF.out]; rfl), Lib.hid (by rw [hS2, List.length_append, HNT.out]; rfl), Lib.hid (by rw [hS1, hS2]; exact ht9.swap), hmx8.transNew hm9 (Or.inl (Nat.le_refl _))⟩
              case measure => simp [intOf]; omega
            · have b2 : decide (v2 < 0) = false := by simpa using c2
              rw [if_neg c2] at hS2
              clear hv2 c2 hv1
              go_wp2_with fail
              go_roundw
              case rel => exact ⟨j + 1, A7, nF + 1, c7, AT, nT, cT, by omega, by go_num, rfl, rfl, Lib.hid (by rw [hS1, List.length_append, HNF.out]; rfl), Lib.hid (by rw [hS2, List.append_nil, HNT.out]), Lib.hid (by rw [hS1, hS2, List.append_nil]; exact HT8.out), hmx8⟩
              case measure => simp [intOf]; omega
          · have b1 : decide (v1 < 0) = false := by simpa using c1
            rw [if_neg c1] at hS1
            have X2 := X1
            clear q0 q1 q2
            have q0 := X2.cell 0 rfl
            have q1 := X2.cell 1 rfl
            have q2 := X2.cell 2 rfl
            go_wp2_with fail
            with_reducible refine (spec_NextVertex r s A es c j (-((k : Int) + 1)) _ lo hi (hr.mid (hmr.trans hmx6) (Or.inl (Nat.zero_le _))) (by omega) hgl (by omega) (by omega)).mono ?_
            rintro en w8 ⟨rfl, hm8⟩
            generalize hv2 : nextV es (j : Int) (-((k : Int) + 1)) = v2 at hS2 ⊢
            have hmx8 := (hmx6).trans hm8
            have hsz8 := hmx8.size
            have HT8 := Lib.hid ((HT6.out).mid hm8 (Nat.zero_le _))
            by_cases c2 : v2 < 0
            · have b2 : decide (v2 < 0) = true := by simpa using c2
              rw [if_pos c2] at hS2
              clear hv2 c2 hv1
              go_wp2_with (at_builtin; refine wpList_push2 rfl _ _ rfl wo.heap.size AT nT cT _ _ _ _ rfl HT8.out.swap j rfl (by omega) hsz8 ?_; intro A9 c9 w9 ht9 hm9)
              go_roundw
              case rel => exact ⟨j + 1, AF, nF, cF, A9, nT + 1, c9, by omega, by go_num, rfl, rfl, Lib.hid (by rw [hS1, List.append_nil, HNF.out]), Lib.hid (by rw [hS2, List.length_append, HNT.out]; rfl), Lib.hid (by rw [hS1, hS2]; rw [List.append_nil]; exact ht9.swap), hmx8.transNew hm9 (Or.inl (Nat.le_refl _))⟩
              case measure => simp [intOf]; omega
            · have b2 : decide (v2 < 0) = false := by simpa using c2
              rw [if_neg c2] at hS2
              clear hv2 c2 hv1
              go_wp2_with fail
              go_roundw
              case rel => exact ⟨j + 1, AF, nF, cF, AT, nT, cT, by omega, by go_num, rfl, rfl, Lib.hid (by rw [hS1, List.append_nil, HNF.out]), Lib.hid (by rw [hS2, List.append_nil, HNT.out]), Lib.hid (by rw [hS1, hS2, List.append_nil]; rw [List.append_nil]; exact HT8.out), hmx8⟩
              case measure => simp [intOf]; omega
        · obtain ⟨wi, hwi⟩ : ∃ wi, wi = wr := ⟨_, rfl⟩
          subst hwi
          obtain rfl : j = s.toNat := by omega
          have hsame := free_same F1.out hk0
          have hall := addL_all F1.out hk0
          have hwo : w.heap.size < wo.heap.size := Z0.1
          have hnf : nF = nT := by rw [← HNF.out, ← HNT.out]; exact hsame
          have X2 := Z2.mid hmx (Or.inr (Nat.zero_le _))
          have X3 := Z3.mid hmx (Or.inr (Nat.zero_le _))
          have hown2 := hown.mid hmx (Or.inl (Nat.zero_le _))
          have hmi := hmr.trans hmx
          have HNX := Lib.hid hnf
          go_wp2_with fail
          go_loopw [9] (fun i wr => ∃ (m : Nat) (A3 : Option Addr) (c3 lo3 hi3 : Nat) (ys : List Ed), m ≤ nF ∧ i = .int .i64 m ∧ Hid (ys = putAll es (addLs s es k ++ (addL s es ((k : Int) + 1)).take m)) ∧
            OG wr lo3 hi3 A3 c3 ys ∧ (hi3 ≤ G ∨ G + 1 ≤ lo3) ∧ w2.heap.size ≤ lo3 ∧
            Box wr w.heap.size [.int .i64 r, .int .i64 s, .slice A es.length c] ∧ Box wr (w.heap.size + 1) [.int .i64 0, .int .i64 0, .slice none 0 0] ∧ Box wr G [.int .i64 r, .int .i64 s, .slice A3 ys.length c3] ∧
            Hid (TwoI wr wo.heap.size (.slice AF nF cF) (.slice AT nT cT) nF nT (freeV es ((k : Int) + 1) s.toNat) (freeV es (-((k : Int) + 1)) s.toNat)) ∧ Mid 0 0 w wr) (fun i _ => nF - (intOf i).toNat)
          case atStart => exact ⟨0, A2, c2, lo2, hi2, xs, Nat.zero_le _, rfl, Lib.hid (by rw [List.take_zero, List.append_nil]; exact HX.out), hown2, hdis, hlo2, X0, X2, X3, HT, hmi⟩
          case round =>
            obtain ⟨m, A3, c3, lo3, hi3, ys, hm3, rfl, HY, hown3, hdis3, hlo3, V0, V2, V3, HT3, hmv⟩ := hrel
            have hyl : ys.length ≤ 1000 := by
              have h1 := putAll_len es (addLs s es k ++ (addL s es ((k : Int) + 1)).take m)
              have h2 := addLs_len s es k
              have h3 := addL_len s es ((k : Int) + 1)
              have h4 : k * s.toNat ≤ 3 * 40 := Nat.mul_le_mul (by omega) (by omega)
              rw [← HY.out] at h1
              simp at h1
              omega
            by_cases hlt3 : m < nF
            · obtain ⟨a, b', ha, hb', hab⟩ := addL_at F1.out hk0 (i := m) (by rw [HNF.out]; exact hlt3)
              obtain ⟨BF, oF, f, rfl, hBF, hf, cF0⟩ := (owns_rv HT3.out.f).at (k := m) (by rw [HNF.out]; exact hlt3)
              obtain ⟨BT, oT, t, rfl, hBT, ht, cT0⟩ := (owns_rv HT3.out.t).at (k := m) (by rw [HNT.out]; omega)
              rw [ha] at hf
              rw [hb'] at ht
              injection hf with hf
              injection ht with ht
              subst hf ht
              have HAB := Lib.hid hab
              have hmn : (m : Int) < (nF : Int) := by omega
              have hmt : (m : Int) < (nT : Int) := by omega
              have hm0' : (0 : Int) ≤ (m : Int) := by omega
              have HA1 := Lib.hid ha
              have HA2 := Lib.hid hb'
              clear ha hb' hab
              have hbase : w2.heap.size ≤ wr.heap.size := by have := V3.1; omega
              go_wp2_with fail
              have hmd := Mid.drew1 wr
              have U0 := V0.mid hmd (Or.inr (Nat.zero_le _))
              have U2 := V2.mid hmd (Or.inr (Nat.zero_le _))
              have U3 := V3.mid hmd (Or.inr (Nat.zero_le _))
              have hownU := hown3.mid hmd (Or.inl (Nat.zero_le _))
              have HT4 := HT3.out.mid hmd (Nat.zero_le _)
              have hmu := hmv.trans hmd
              have f0 := HT4.cellF HA1.out
              have f1 := HT4.swap.cellF HA2.out
              have g2 := U3.cell 2 rfl
              clear V0 V2 V3 hown3 hmv hmd HT3 cF0 cT0
              refine wp_region_T (S := (fun w' => w'.cell? ⟨G, 2, none⟩ = some (.slice A3 ys.length c3) ∧ w'.cell? ⟨BF, oF + m, none⟩ = some (.int .i64 a) ∧ w'.cell? ⟨BT, oT + m, none⟩ = some (.int .i64 b'))) 14 (by kernel_rfl) ⟨g2, f0, f1⟩ ?_
              generalize World.drew wr = wz at U0 U2 U3 hownU HT4 hmu f0 f1 g2 ⊢
              have hS : wz.cell? ⟨G, 2, none⟩ = some (.slice A3 ys.length c3) ∧ wz.cell? ⟨BF, oF + m, none⟩ = some (.int .i64 a) ∧ wz.cell? ⟨BT, oT + m, none⟩ = some (.int .i64 b') := ⟨g2, f0, f1⟩
              refine wpAnyT_take (i := 0) (v := ?_) rfl (by kernel_rfl) (by kernel_rfl) (by kernel_rfl) (by kernel_rfl) (fun _ _ _ h => h) (Or.inl ⟨by rfl, ?_⟩) hS ?_
              rotate_left
              focus (intro w hSw; (try dsimp only at hSw); go_simp; try with_reducible rfl)
              try simp only [Act.put, List.setIfInBounds_toArray, List.set_cons_zero, List.set_cons_succ, List.getElem_toArray, List.getElem_cons_zero, List.getElem_cons_succ]
              refine wpAnyT_take (i := 1) (v := ?_) rfl (by kernel_rfl) (by kernel_rfl) (by kernel_rfl) (by kernel_rfl) (fun _ _ _ h => h) (Or.inl ⟨by rfl, ?_⟩) hS ?_
              rotate_left
              focus (intro w hSw; (try dsimp only at hSw); go_simp; try with_reducible rfl)
              try simp only [Act.put, List.setIfInBounds_toArray, List.set_cons_zero, List.set_cons_succ, List.getElem_toArray, List.getElem_cons_zero, List.getElem_cons_succ]
              refine wpAnyT_take (i := 2) (v := ?_) rfl (by kernel_rfl) (by kernel_rfl) (by kernel_rfl) (by kernel_rfl) (fun _ _ _ h => h) (Or.inl ⟨by rfl, ?_⟩) hS ?_
              rotate_left
              focus (intro w hSw; (try dsimp only at hSw); go_simp; try with_reducible rfl)
              try simp only [Act.put, List.setIfInBounds_toArray, List.set_cons_zero, List.set_cons_succ, List.getElem_toArray, List.getElem_cons_zero, List.getElem_cons_succ]
              refine wpAnyT_take (i := 3) (v := ?_) rfl (by kernel_rfl) (by kernel_rfl) (by kernel_rfl) (by kernel_rfl) (fun _ _ _ h => h) (Or.inl ⟨by rfl, ?_⟩) hS ?_
              rotate_left
              focus (intro w hSw; (try dsimp only at hSw); go_simp; try with_reducible rfl)
              try simp only [Act.put, List.setIfInBounds_toArray, List.set_cons_zero, List.set_cons_succ, List.getElem_toArray, List.getElem_cons_zero, List.getElem_cons_succ]
              refine wpAnyT_take (i := 4) (v := ?_) rfl (by kernel_rfl) (by kernel_rfl) (by kernel_rfl) (by kernel_rfl) (fun _ _ _ h => h) (Or.inl ⟨by rfl, ?_⟩) hS ?_
              rotate_left
              focus (intro w hSw; (try dsimp only at hSw); go_simp; try with_reducible rfl)
              try simp only [Act.put, List.setIfInBounds_toArray, List.set_cons_zero, List.set_cons_succ, List.getElem_toArray, List.getElem_cons_zero, List.getElem_cons_succ]
              refine wpAnyT_take (i := 5) (v := ?_) rfl (by kernel_rfl) (by kernel_rfl) (by kernel_rfl) (by kernel_rfl) (fun _ _ _ h => h) (Or.inl ⟨by rfl, ?_⟩) hS ?_
              rotate_left
              focus (intro w hSw; (try dsimp only at hSw); go_simp; try with_reducible rfl)
              try simp only [Act.put, List.setIfInBounds_toArray, List.set_cons_zero, List.set_cons_succ, List.getElem_toArray, List.getElem_cons_zero, List.getElem_cons_succ]
              refine wpAnyT_take (i := 6) (v := ?_) rfl (by kernel_rfl) (by kernel_rfl) (by kernel_rfl) (by kernel_rfl) (fun _ _ _ h => h) (Or.inl ⟨by rfl, ?_⟩) hS ?_
              rotate_left
              focus (intro w hSw; (try dsimp only at hSw); go_simp; try with_reducible rfl)
              try simp only [Act.put, List.setIfInBounds_toArray, List.set_cons_zero, List.set_cons_succ, List.getElem_toArray, List.getElem_cons_zero, List.getElem_cons_succ]
              refine wpAnyT_take (i := 7) (v := ?_) rfl (by kernel_rfl) (by kernel_rfl) (by kernel_rfl) (by kernel_rfl) (fun _ _ _ h => h) (Or.inl ⟨by rfl, ?_⟩) hS ?_
              rotate_left
              focus (intro w hSw; (try dsimp only at hSw); go_simp; try with_reducible rfl)
              try simp only [Act.put, List.setIfInBounds_toArray, List.set_cons_zero, List.set_cons_succ, List.getElem_toArray, List.getElem_cons_zero, List.getElem_cons_succ]
              refine wpAnyT_take (i := 8) (v := ?_) rfl (by kernel_rfl) (by kernel_rfl) (by kernel_rfl) (by kernel_rfl) (fun _ _ _ h => h) (Or.inl ⟨by rfl, ?_⟩) hS ?_
              rotate_left
              focus (intro w hSw; (try dsimp only at hSw); go_simp; try with_reducible rfl)
              try simp only [Act.put, List.setIfInBounds_toArray, List.set_cons_zero, List.set_cons_succ, List.getElem_toArray, List.getElem_cons_zero, List.getElem_cons_succ]
              refine wpAnyT_take (i := 9) (v := ?_) rfl (by kernel_rfl) (by kernel_rfl) (by kernel_rfl) (by kernel_rfl) (fun _ _ _ h => h) (Or.inl ⟨by rfl, ?_⟩) hS ?_
              rotate_left
              focus (intro w hSw; (try dsimp only at hSw); go_simp; try with_reducible rfl)
              try simp only [Act.put, List.setIfInBounds_toArray, List.set_cons_zero, List.set_cons_succ, List.getElem_toArray, List.getElem_cons_zero, List.getElem_cons_succ]
              refine wpAnyT_take (i := 10) (v := ?_) rfl (by kernel_rfl) (by kernel_rfl) (by kernel_rfl) (by kernel_rfl) (fun _ _ _ h => h) (Or.inl ⟨by rfl, ?_⟩) hS ?_
              rotate_left
              focus (intro w hSw; (try dsimp only at hSw); go_simp; try with_reducible rfl)
              try simp only [Act.put, List.setIfInBounds_toArray, List.set_cons_zero, List.set_cons_succ, List.getElem_toArray, List.getElem_cons_zero, List.getElem_cons_succ]
              refine wpAnyT_take (i := 11) (v := ?_) rfl (by kernel_rfl) (by kernel_rfl) (by kernel_rfl) (by kernel_rfl) (fun _ _ _ h => h) (Or.inl ⟨by rfl, ?_⟩) hS ?_
              rotate_left
              focus (intro w hSw; (try dsimp only at hSw); go_simp; try with_reducible rfl)
              try simp only [Act.put, List.setIfInBounds_toArray, List.set_cons_zero, List.set_cons_succ, List.getElem_toArray, List.getElem_cons_zero, List.getElem_cons_succ]
              have hP := spec_l4Put A3 ys c3 ⟨a, (k : Int) + 1, b'⟩ wz _ _ hownU.rg (by omega)
              refine wpAnyT_ready (rs := [12]) (by kernel_rfl) (by simp) (AllReadyT.cons rfl (fun K hK => ?_) AllReadyT.nil)
              (go_simp; refine hP.mono ?_; rintro en w9 ⟨A9, c9, rfl, ho9, hm9⟩; have T0' := U0.mid hm9 (Or.inr (Nat.zero_le _)); have T2' := U2.mid hm9 (Or.inr (Nat.zero_le _)); have T3' := U3.mid hm9 (Or.inr (Nat.zero_le _)); have HT5 := HT4.mid hm9 (Nat.zero_le _); go_wp2_with fail)
              refine hK.out _ _ (Or.inr ⟨T3'.cell 2 rfl, HT5.cellF HA1.out, HT5.swap.cellF HA2.out⟩) (fun _ => ?_)
              clear hK K
              try simp only [Act.put, List.setIfInBounds_toArray, List.set_cons_zero, List.set_cons_succ, List.getElem_toArray, List.getElem_cons_zero, List.getElem_cons_succ]
              have hmr9 := hmu.trans hm9
              have hGz : G < wz.heap.size := U3.1
              have hw2z : w2.heap.size ≤ wz.heap.size := by omega
              have hS3 := And.intro (T3'.cell 2 rfl) (And.intro (HT5.cellF HA1.out) (HT5.swap.cellF HA2.out))
              have hr2 := T3'.cell 2 rfl
              have hrf := T3'.2.2
              clear hS U0 U2 U3 hmu HT4
              refine wpAnyT_take (i := 13) (v := ?_) rfl (by kernel_rfl) (by kernel_rfl) (by kernel_rfl) (by kernel_rfl) (fun _ _ _ h => h) (Or.inl ⟨by rfl, ?_⟩) hS3 ?_
              rotate_left
              focus (intro w hSw; (try dsimp only at hSw); go_simp; try with_reducible rfl)
              try simp only [Act.put, List.setIfInBounds_toArray, List.set_cons_zero, List.set_cons_succ, List.getElem_toArray, List.getElem_cons_zero, List.getElem_cons_succ]
              refine wpAnyT_ready (rs := [14]) (by kernel_rfl) (by simp) (AllReadyT.cons rfl (fun K hK => ?_) AllReadyT.nil)
              (go_simp)
              refine hK.out _ _ (Or.inl rfl) (fun _ => ?_)
              clear hK K
              try simp only [Act.put, List.setIfInBounds_toArray, List.set_cons_zero, List.set_cons_succ, List.getElem_toArray, List.getElem_cons_zero, List.getElem_cons_succ]
              refine wpAnyT_done (by kernel_rfl) ?_ _
              go_wp2_with fail
              go_roundw
              case rel =>
                have hst := Mid.setCell w9 (lo := G) (hi := G + 1) (p := ⟨G, 2, none⟩) (.slice A9 (putE ⟨a, (k : Int) + 1, b'⟩ ys).length c9) (Nat.le_refl _) (Nat.lt_succ_self _)
                have htk : (addL s es ((k : Int) + 1)).take (m + 1) = (addL s es ((k : Int) + 1)).take m ++ [⟨a, (k : Int) + 1, b'⟩] := take_snoc HAB.out
                refine ⟨m + 1, A9, c9, _, _, _, by omega, by go_num, Lib.hid ?_, ho9.mid hst (Or.inl (by omega)), .inr (by omega), hw2z, T0'.mid hst (Or.inl (by omega)), T2'.mid hst (Or.inl (by omega)), T3'.set 2 _ (by simp) rfl, Lib.hid (HT5.mid hst (by omega)), hmr9.storeNew (by show w.heap.size ≤ G; omega) _⟩
                rw [htk, ← List.append_assoc, putAll_snoc, ← HY.out]
              case measure => simp [intOf]; omega
            · obtain rfl : m = nF := by omega
              have hta : (addL s es ((k : Int) + 1)).take m = addL s es ((k : Int) + 1) := List.take_of_length_le (by rw [hall, HNF.out]; exact Nat.le_refl _)
              rw [hta, ← addLs_succ] at HY
              go_wp2_with fail
              go_roundw
              case rel => exact ⟨k + 1, A3, c3, lo3, hi3, ys, by omega, by go_num, HY, hown3, hdis3, hlo3, V0, V2, V3, hmv⟩
              case measure => simp [intOf]; omega
    · obtain rfl : r = (k : Int) := by omega
      clear p0 p1 p2
      have p0 := Z0.cell 0 rfl
      have p1 := Z0.cell 1 rfl
      have p2 := Z0.cell 2 rfl
      have a0 := Z2.cell 0 rfl
      have a1 := Z2.cell 1 rfl
      have a2 := Z2.cell 2 rfl
      have b0 := Z3.cell 0 rfl
      have b1 := Z3.cell 1 rfl
      have b2 := Z3.cell 2 rfl
      have af := Z2.2.2
      have bf := Z3.2.2
      go_wp2_with fail
      have hcl : (w.heap.size + 1 == G) = false := by simp; omega
      have hxx := HX.out
      rw [putAll_canon F1.out.gr.asc] at hxx
      refine bodyPost_ret (v := .tuple #[.agg #[.int .i64 k, .int .i64 s, .slice A2 xs.length c2], .bool true]) (by simp [results, Try.results19, go_sem, a0, a1, a2, b0, b1, b2, af, bf]) rfl ⟨A2, c2, ?_, ?_, ?_⟩
      · rw [HRR.out, HRS.out, HRE.out, hxx]
        rfl
      · rw [HRE.out, Int.toNat_natCast, ← hxx]
        refine OG.wide (OG.mid hown (a := w.heap.size) (b := w.heap.size + 2) ?_ (Or.inl (by omega))) (by omega) (by have := hown.size; simpa using this) (Nat.le_refl _)
        repeat (first | exact Mid.refl _ _ _ | refine Mid.stored ?_ _ (by simp; try omega) (by simp; try omega))
      · repeat (first | exact hmr | refine Mid.storeNew ?_ (by simp; try omega) _)
end Go.Proofs.Ytkcfbcbkokabdaa
