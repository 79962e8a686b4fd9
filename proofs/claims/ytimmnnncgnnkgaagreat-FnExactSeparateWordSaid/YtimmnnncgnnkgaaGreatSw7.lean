/- Contracts and lemmas of this seat, many texts in one: see the words ahead of each. No condition beyond those typed in each lemma. -/
import Derived.Test.YtimmnnncgnnkgaaGreatSw3
import Derived.Test.YtimmnnncgnnkgaaGreatSw5
import Derived.Test.YtimmnnncgnnkgaaGreatSw1
import Derived.Test.YtimmnnncgnnkgaaGreatSw6
import Derived.Test.YtimmnnncgnnkgaaGreatSw2
import Derived.Deep.Slices
import Derived.Deep.Fields
import Derived.ChangeSame

/- CompleteGraph, the reference. -/
namespace Go.Proofs.YtimmnnncgnnkgaaGreat
set_option linter.unusedVariables false
set_option linter.unusedSimpArgs false
open Go.RowKit

set_option maxHeartbeats 6400000 in
set_option maxRecDepth 100000 in
theorem spec_CompleteGraph (r s : Int) (A : Option Addr) (es : List Ed) (c : Nat) (w : World) (lo hi : Nat)
    (hr : RG w lo hi A es) (hl : es.length ≤ 1048576) (rr rs : Int) (res : List Ed) (b : Bool) (hres : CompleteIs r s es rr rs res b) :
    Calls Tryz.prog 56 #[graV r s A es.length c] w fun e w' => ∃ A1 c1, e = .returned (.tuple #[graV rr rs A1 res.length c1, .bool b]) ∧ OG w' w.heap.size w'.heap.size A1 c1 res ∧ Mid 0 0 w w' := by
  have HR := Lib.hid hres
  clear hres
  obtain ⟨b1, hb1⟩ := bool_of (IsFol r s es)
  have H1 := Lib.hid hb1
  clear hb1
  have hm0 : Mid 0 0 w ((w.alloc (.cells #[.int .i64 r, .int .i64 s, .slice A es.length c] 29)).alloc (.cells #[.int .i64 0, .int .i64 0, .slice none 0 0] 29)) := (Mid.alloc _ _).trans (Mid.alloc _ _)
  have B0 := (Box.new w #[.int .i64 r, .int .i64 s, .slice A es.length c] 29).mid (Mid.alloc _ (.cells #[.int .i64 0, .int .i64 0, .slice none 0 0] 29)) (Or.inr (Nat.zero_le _))
  have B2 := Box.new (w.alloc (.cells #[.int .i64 r, .int .i64 s, .slice A es.length c] 29)) #[.int .i64 0, .int .i64 0, .slice none 0 0] 29
  simp only [World.size_alloc] at B2
  go_enter Tryz.func56, Tryz.ntmps56
  go_wp2_with fail
  generalize hw1 : ((w.alloc (.cells #[.int .i64 r, .int .i64 s, .slice A es.length c] 29)).alloc (.cells #[.int .i64 0, .int .i64 0, .slice none 0 0] 29)) = w1 at hm0 B0 B2 ⊢
  have hs1 : w1.heap.size = w.heap.size + 1 + 1 := by rw [← hw1]; simp
  have HS := Lib.hid hs1
  clear hw1 hs1
  with_reducible refine (spec_IsFolded r s A es c _ _ _ (hr.mid hm0 (Or.inl (Nat.zero_le _))) hl b1 H1.out).mono ?_
  rintro en w2 ⟨rfl, hm2⟩
  have C0 := B0.mid hm2 (Or.inr (Nat.zero_le _))
  have C2 := B2.mid hm2 (Or.inr (Nat.zero_le _))
  have p0 := C0.cell 0 rfl
  have p1 := C0.cell 1 rfl
  have p2 := C0.cell 2 rfl
  have z0 := C2.cell 0 rfl
  have z1 := C2.cell 1 rfl
  have z2 := C2.cell 2 rfl
  have zf := C2.2.2
  have hm := hm0.trans hm2
  cases b1 with
  | false =>
    have hno : ¬ IsFol r s es := fun h => by have := H1.out.2 h; cases this
    obtain ⟨rfl, rfl, rfl, rfl⟩ := HR.out.no hno
    go_wp2_with fail
    refine bodyPost_ret (v := .tuple #[.agg #[.int .i64 0, .int .i64 0, .slice none 0 0], .bool false]) (by simp [results, Tryz.results56, go_sem, z0, z1, z2, zf]) rfl ⟨none, 0, rfl, OG.nil, ?_⟩
    repeat (first | exact hm | refine Mid.storeNew ?_ (by simp; try omega) _)
  | true =>
  have F1 := Lib.hid (H1.out.1 rfl)
  have hg := F1.out.gr
  have g1 := hg.rank
  have g2 := hg.size
  have g3 := hg.len
  obtain ⟨rfl, hrr, hrs, hre⟩ := HR.out.yes F1.out
  have HRR := Lib.hid hrr
  have HRS := Lib.hid hrs
  have HRE := Lib.hid hre
  have hmul : 0 ≤ s * r ∧ s * r ≤ 120 := ⟨Int.mul_nonneg (by omega) (by omega), by have := Int.mul_le_mul (show s ≤ 40 by omega) (show r ≤ 3 by omega) (by omega) (by omega); omega⟩
  have hmd : decide (120 < s * r) = false := by simp; omega
  clear B0 B2 HR H1 hrr hrs hre hg
  go_wp2_with fail
  with_reducible refine (spec_l4Copy r s A es c _ _ _ (hr.mid hm (Or.inl (Nat.zero_le _))) hl).mono ?_
  rintro en w4 ⟨A1, c1, rfl, ho4, hm4⟩
  have E0 := C0.mid hm4 (Or.inr (Nat.zero_le _))
  have E2 := C2.mid hm4 (Or.inr (Nat.zero_le _))
  have hal := Mid.alloc w4 (.cells #[.int .i64 r, .int .i64 s, .slice A1 es.length c1] 29)
  have Y0 := E0.mid hal (Or.inr (Nat.zero_le _))
  have Y2 := E2.mid hal (Or.inr (Nat.zero_le _))
  have Y3 := Box.new w4 #[.int .i64 r, .int .i64 s, .slice A1 es.length c1] 29
  have hzs := hm4.size
  have hmy := (hm.trans hm4).trans hal
  have ho5 := ho4.mid hal (Or.inl (Nat.zero_le _))
  clear p0 p1 p2 z0 z1 z2 zf C0 C2
  have hz0 := E0.1
  have hz2 := E2.1
  clear E0 E2
  have hw2 : w.heap.size ≤ w2.heap.size := hm.size
  have hw22 : w.heap.size + 2 ≤ w2.heap.size := by have h1 := HS.out; have h2 := hm2.size; omega
  go_wp2_with fail
  generalize hw5 : w4.alloc (.cells #[.int .i64 r, .int .i64 s, .slice A1 es.length c1] 29) = w5 at Y0 Y2 Y3 hmy ho5 ⊢
  have hs5 : w4.heap.size + 1 ≤ w5.heap.size := by rw [← hw5]; simp
  clear hw5 hal ho4
  have hGw : w.heap.size + 1 < w4.heap.size := by have := HS.out; have := hm2.size; omega
  have hG2 : w2.heap.size ≤ w4.heap.size := hzs
  generalize hG : w4.heap.size = G at Y3 hs5 hGw hG2 ho5 ⊢
  have hgl : ∀ e ∈ es, 1 ≤ e.l ∧ e.l ≤ 3 := fun e he => by have := F1.out.gr.all e he; unfold InG at this; omega
  clear hG hm2 hm4 hm0 hz0 hz2 hzs HS hm
  go_loopw [5] (fun x wr => ∃ (k : Nat) (A2 : Option Addr) (c2 lo2 hi2 : Nat) (xs : List Ed), (k : Int) ≤ r ∧ x = .int .i64 ((k : Int) + 1) ∧ Hid (xs = putAll es (addLs s es k)) ∧
      OG wr lo2 hi2 A2 c2 xs ∧ (hi2 ≤ G ∨ G + 1 ≤ lo2) ∧ w2.heap.size ≤ lo2 ∧
      Box wr w.heap.size [.int .i64 r, .int .i64 s, .slice A es.length c] ∧ Box wr (w.heap.size + 1) [.int .i64 0, .int .i64 0, .slice none 0 0] ∧
      Box wr G [.int .i64 r, .int .i64 s, .slice A2 xs.length c2] ∧ Mid 0 0 w wr) (fun x _ => (r + 1 - intOf x).toNat)
  case atStart => exact ⟨0, A1, c1, _, _, es, by omega, rfl, Lib.hid (by simp [addLs, putAll]), ho5, .inl (Nat.le_refl _), Nat.le_refl _, Y0, Y2, Y3, hmy⟩
  case round =>
    obtain ⟨wo, hwo⟩ : ∃ wo, wo = wr := ⟨_, rfl⟩
    subst hwo
    obtain ⟨k, A2, c2, lo2, hi2, xs, hk, rfl, HX, hown, hdis, hlo2, Z0, Z2, Z3, hmr⟩ := hrel
    have hGo : G < wo.heap.size := Z3.1
    have p0 := Z0.cell 0 rfl
    have p1 := Z0.cell 1 rfl
    have p2 := Z0.cell 2 rfl
    by_cases hlt : (k : Int) < r
    · have hkx : (k : Int) + 1 ≤ r := by omega
      have hk0 : (0 : Int) < (k : Int) + 1 := by omega
      have hal := (Mid.alloc wo (.cells #[] 3)).trans (Mid.alloc (wo.alloc (.cells #[] 3)) (.cells #[] 3))
      have T0 : TwoI ((wo.alloc (.cells #[] 3)).alloc (.cells #[] 3)) wo.heap.size (.slice (some ⟨wo.heap.size, 0, none⟩) 0 0) (.slice (some ⟨wo.heap.size + 1, 0, none⟩) 0 0) 0 0 [] [] := by
        have O1 := owns_empty wo 3 1
        have O2 := owns_empty (wo.alloc (.cells #[] 3)) 3 1
        rw [World.size_alloc] at O2
        refine ⟨O1.alloc _, owns_base O2 (Nat.le_succ _), ?_⟩
        intro h
        simp [Value.ownBlock] at h
      go_wp2_with fail
      go_loopw [6, 7, 8] (fun f t v wr => ∃ (j : Nat) (AF : Option Addr) (nF cF : Nat) (AT : Option Addr) (nT cT : Nat), (j : Int) ≤ s ∧ v = .int .i64 j ∧ f = .slice AF nF cF ∧ t = .slice AT nT cT ∧ Hid ((freeV es ((k : Int) + 1) j).length = nF) ∧ Hid ((freeV es (-((k : Int) + 1)) j).length = nT) ∧
        Hid (TwoI wr wo.heap.size (.slice AF nF cF) (.slice AT nT cT) nF nT (freeV es ((k : Int) + 1) j) (freeV es (-((k : Int) + 1)) j)) ∧ Mid 0 0 wo wr) (fun _ _ v _ => (s - intOf v).toNat)
      case atStart => exact ⟨0, _, 0, 0, _, 0, 0, by omega, rfl, rfl, rfl, Lib.hid rfl, Lib.hid rfl, Lib.hid T0, hal⟩
      case round =>
        obtain ⟨j, AF, nF, cF, AT, nT, cT, hj, rfl, rfl, rfl, HNF, HNT, HT, hmx⟩ := hrel
        have hnF : nF ≤ 40 := by have h1 := freeV_le es ((k : Int) + 1) j; have h2 := HNF.out; omega
        have hnT : nT ≤ 40 := by have h1 := freeV_le es (-((k : Int) + 1)) j; have h2 := HNT.out; omega
        have X0 := Z0.mid hmx (Or.inr (Nat.zero_le _))
        have q0 := X0.cell 0 rfl
        have q1 := X0.cell 1 rfl
        have q2 := X0.cell 2 rfl
        by_cases hlt2 : (j : Int) < s
        · have hS1 := freeV_succ es ((k : Int) + 1) j
          have hS2 := freeV_succ es (-((k : Int) + 1)) j
          go_wp2_with fail
          with_reducible refine (spec_NextVertex r s A es c j ((k : Int) + 1) _ lo hi (hr.mid (hmr.trans hmx) (Or.inl (Nat.zero_le _))) (by omega) hgl (by omega) (by omega)).mono ?_
          rintro en w6 ⟨rfl, hm6⟩
          generalize hv1 : nextV es (j : Int) ((k : Int) + 1) = v1 at hS1 ⊢
          have X1 := X0.mid hm6 (Or.inr (Nat.zero_le _))
          clear q0 q1 q2
          have q0 := X1.cell 0 rfl
          have q1 := X1.cell 1 rfl
          have q2 := X1.cell 2 rfl
          have hmx6 := hmx.trans hm6
          have hsz6 := hmx6.size
          have HT6 := Lib.hid (HT.out.mid hm6 (Nat.zero_le _))
          have hwo : w.heap.size < wo.heap.size := Z0.1
          by_cases c1 : v1 < 0
          · have b1 : decide (v1 < 0) = true := by simpa using c1
            rw [if_pos c1] at hS1
            go_wp2_with (at_builtin; refine wpList_push2 rfl _ _ rfl wo.heap.size AF nF cF _ _ _ _ rfl HT6.out j rfl (by omega) hsz6 ?_; intro A7 c7 w7 ht7 hm7; have X2 := X1.mid hm7 (Or.inl hwo); have z0 := X2.cell 0 rfl; have z1 := X2.cell 1 rfl; have z2 := X2.cell 2 rfl)
            with_reducible refine (spec_NextVertex r s A es c j (-((k : Int) + 1)) _ lo hi (hr.mid (hmr.trans (hmx6.transNew hm7 (Or.inl (Nat.le_refl _)))) (Or.inl (Nat.zero_le _))) (by omega) hgl (by omega) (by omega)).mono ?_
            rintro en w8 ⟨rfl, hm8⟩
            generalize hv2 : nextV es (j : Int) (-((k : Int) + 1)) = v2 at hS2 ⊢
            have hmx8 := ((hmx6.transNew hm7 (Or.inl (Nat.le_refl _)))).trans hm8
            have hsz8 := hmx8.size
            have HT8 := Lib.hid ((ht7).mid hm8 (Nat.zero_le _))
            by_cases c2 : v2 < 0
            · have b2 : decide (v2 < 0) = true := by simpa using c2
              rw [if_pos c2] at hS2
              clear hv2 c2 hv1
              go_wp2_with (at_builtin; refine wpList_push2 rfl _ _ rfl wo.heap.size AT nT cT _ _ _ _ rfl HT8.out.swap j rfl (by omega) hsz8 ?_; intro A9 c9 w9 ht9 hm9)
              go_roundw
              case rel => exact ⟨j + 1, A7, nF + 1, c7, A9, nT + 1, c9, by omega, by go_num, rfl, rfl, Lib.hid (by rw [hS1, List.length_append, HNF.out]; rfl), Lib.hid (by rw [hS2, List.length_append, HNT.out]; rfl), Lib.hid (by rw [hS1, hS2]; exact ht9.swap), hmx8.transNew hm9 (Or.inl (Nat.le_refl _))⟩
              case measure => simp [intOf]; omega
            · have b2 : decide (v2 < 0) = false := by simpa using c2
              rw [if_neg c2] at hS2
              clear hv2 c2 hv1
              go_wp2_with fail
              go_roundw
              case rel => exact ⟨j + 1, A7, nF + 1, c7, AT, nT, cT, by omega, by go_num, rfl, rfl, Lib.hid (by rw [hS1, List.length_append, HNF.out]; rfl), Lib.hid (by rw [hS2, List.append_nil, HNT.out]), Lib.hid (by rw [hS1, hS2, List.append_nil]; exact HT8.out), hmx8⟩
              case measure => simp [intOf]; omega
          · have b1 : decide (v1 < 0) = false := by simpa using c1
            rw [if_neg c1] at hS1
            have X2 := X1
            clear q0 q1 q2
            have q0 := X2.cell 0 rfl
            have q1 := X2.cell 1 rfl
            have q2 := X2.cell 2 rfl
            go_wp2_with fail
            with_reducible refine (spec_NextVertex r s A es c j (-((k : Int) + 1)) _ lo hi (hr.mid (hmr.trans hmx6) (Or.inl (Nat.zero_le _))) (by omega) hgl (by omega) (by omega)).mono ?_
            rintro en w8 ⟨rfl, hm8⟩
            generalize hv2 : nextV es (j : Int) (-((k : Int) + 1)) = v2 at hS2 ⊢
            have hmx8 := (hmx6).trans hm8
            have hsz8 := hmx8.size
            have HT8 := Lib.hid ((HT6.out).mid hm8 (Nat.zero_le _))
            by_cases c2 : v2 < 0
            · have b2 : decide (v2 < 0) = true := by simpa using c2
              rw [if_pos c2] at hS2
              clear hv2 c2 hv1
              go_wp2_with (at_builtin; refine wpList_push2 rfl _ _ rfl wo.heap.size AT nT cT _ _ _ _ rfl HT8.out.swap j rfl (by omega) hsz8 ?_; intro A9 c9 w9 ht9 hm9)
              go_roundw
              case rel => exact ⟨j + 1, AF, nF, cF, A9, nT + 1, c9, by omega, by go_num, rfl, rfl, Lib.hid (by rw [hS1, List.append_nil, HNF.out]), Lib.hid (by rw [hS2, List.length_append, HNT.out]; rfl), Lib.hid (by rw [hS1, hS2]; rw [List.append_nil]; exact ht9.swap), hmx8.transNew hm9 (Or.inl (Nat.le_refl _))⟩
              case measure => simp [intOf]; omega
            · have b2 : decide (v2 < 0) = false := by simpa using c2
              rw [if_neg c2] at hS2
              clear hv2 c2 hv1
              go_wp2_with fail
              go_roundw
              case rel => exact ⟨j + 1, AF, nF, cF, AT, nT, cT, by omega, by go_num, rfl, rfl, Lib.hid (by rw [hS1, List.append_nil, HNF.out]), Lib.hid (by rw [hS2, List.append_nil, HNT.out]), Lib.hid (by rw [hS1, hS2, List.append_nil]; rw [List.append_nil]; exact HT8.out), hmx8⟩
              case measure => simp [intOf]; omega
        · obtain ⟨wi, hwi⟩ : ∃ wi, wi = wr := ⟨_, rfl⟩
          subst hwi
          obtain rfl : j = s.toNat := by omega
          have hsame := free_same F1.out hk0
          have hall := addL_all F1.out hk0
          have hwo : w.heap.size < wo.heap.size := Z0.1
          have hnf : nF = nT := by rw [← HNF.out, ← HNT.out]; exact hsame
          have X2 := Z2.mid hmx (Or.inr (Nat.zero_le _))
          have X3 := Z3.mid hmx (Or.inr (Nat.zero_le _))
          have hown2 := hown.mid hmx (Or.inl (Nat.zero_le _))
          have hmi := hmr.trans hmx
          have HNX := Lib.hid hnf
          go_wp2_with fail
          go_loopw [9] (fun i wr => ∃ (m : Nat) (A3 : Option Addr) (c3 lo3 hi3 : Nat) (ys : List Ed), m ≤ nF ∧ i = .int .i64 m ∧ Hid (ys = putAll es (addLs s es k ++ (addL s es ((k : Int) + 1)).take m)) ∧
            OG wr lo3 hi3 A3 c3 ys ∧ (hi3 ≤ G ∨ G + 1 ≤ lo3) ∧ w2.heap.size ≤ lo3 ∧
            Box wr w.heap.size [.int .i64 r, .int .i64 s, .slice A es.length c] ∧ Box wr (w.heap.size + 1) [.int .i64 0, .int .i64 0, .slice none 0 0] ∧ Box wr G [.int .i64 r, .int .i64 s, .slice A3 ys.length c3] ∧
            Hid (TwoI wr wo.heap.size (.slice AF nF cF) (.slice AT nT cT) nF nT (freeV es ((k : Int) + 1) s.toNat) (freeV es (-((k : Int) + 1)) s.toNat)) ∧ Mid 0 0 w wr) (fun i _ => nF - (intOf i).toNat)
          case atStart => exact ⟨0, A2, c2, lo2, hi2, xs, Nat.zero_le _, rfl, Lib.hid (by rw [List.take_zero, List.append_nil]; exact HX.out), hown2, hdis, hlo2, X0, X2, X3, HT, hmi⟩
          case round =>
            obtain ⟨m, A3, c3, lo3, hi3, ys, hm3, rfl, HY, hown3, hdis3, hlo3, V0, V2, V3, HT3, hmv⟩ := hrel
            have hyl : ys.length ≤ 1000 := by
              have h1 := putAll_len es (addLs s es k ++ (addL s es ((k : Int) + 1)).take m)
              have h2 := addLs_len s es k
              have h3 := addL_len s es ((k : Int) + 1)
              have h4 : k * s.toNat ≤ 3 * 40 := Nat.mul_le_mul (by omega) (by omega)
              rw [← HY.out] at h1
              simp at h1
              omega
            by_cases hlt3 : m < nF
            · obtain ⟨a, b', ha, hb', hab⟩ := addL_at F1.out hk0 (i := m) (by rw [HNF.out]; exact hlt3)
              obtain ⟨BF, oF, f, rfl, hBF, hf, cF0⟩ := (owns_rv HT3.out.f).at (k := m) (by rw [HNF.out]; exact hlt3)
              obtain ⟨BT, oT, t, rfl, hBT, ht, cT0⟩ := (owns_rv HT3.out.t).at (k := m) (by rw [HNT.out]; omega)
              rw [ha] at hf
              rw [hb'] at ht
              injection hf with hf
              injection ht with ht
              subst hf ht
              have HAB := Lib.hid hab
              have hmn : (m : Int) < (nF : Int) := by omega
              have hmt : (m : Int) < (nT : Int) := by omega
              have hm0' : (0 : Int) ≤ (m : Int) := by omega
              have HA1 := Lib.hid ha
              have HA2 := Lib.hid hb'
              clear ha hb' hab
              have hbase : w2.heap.size ≤ wr.heap.size := by have := V3.1; omega
              go_wp2_with fail
              have hmd := Mid.drew1 wr
              have U0 := V0.mid hmd (Or.inr (Nat.zero_le _))
              have U2 := V2.mid hmd (Or.inr (Nat.zero_le _))
              have U3 := V3.mid hmd (Or.inr (Nat.zero_le _))
              have hownU := hown3.mid hmd (Or.inl (Nat.zero_le _))
              have HT4 := HT3.out.mid hmd (Nat.zero_le _)
              have hmu := hmv.trans hmd
              have f0 := HT4.cellF HA1.out
              have f1 := HT4.swap.cellF HA2.out
              have g2 := U3.cell 2 rfl
              clear V0 V2 V3 hown3 hmv hmd HT3 cF0 cT0
              refine wp_region_T (S := (fun w' => w'.cell? ⟨G, 2, none⟩ = some (.slice A3 ys.length c3) ∧ w'.cell? ⟨BF, oF + m, none⟩ = some (.int .i64 a) ∧ w'.cell? ⟨BT, oT + m, none⟩ = some (.int .i64 b'))) 14 (by kernel_rfl) ⟨g2, f0, f1⟩ ?_
              generalize World.drew wr = wz at U0 U2 U3 hownU HT4 hmu f0 f1 g2 ⊢
              have hS : wz.cell? ⟨G, 2, none⟩ = some (.slice A3 ys.length c3) ∧ wz.cell? ⟨BF, oF + m, none⟩ = some (.int .i64 a) ∧ wz.cell? ⟨BT, oT + m, none⟩ = some (.int .i64 b') := ⟨g2, f0, f1⟩
              refine wpAnyT_take (i := 0) (v := ?_) rfl (by kernel_rfl) (by kernel_rfl) (by kernel_rfl) (by kernel_rfl) (fun _ _ _ h => h) (Or.inl ⟨by rfl, ?_⟩) hS ?_
              rotate_left
              focus (intro w hSw; (try dsimp only at hSw); go_simp; try with_reducible rfl)
              try simp only [Act.put, List.setIfInBounds_toArray, List.set_cons_zero, List.set_cons_succ, List.getElem_toArray, List.getElem_cons_zero, List.getElem_cons_succ]
              refine wpAnyT_take (i := 1) (v := ?_) rfl (by kernel_rfl) (by kernel_rfl) (by kernel_rfl) (by kernel_rfl) (fun _ _ _ h => h) (Or.inl ⟨by rfl, ?_⟩) hS ?_
              rotate_left
              focus (intro w hSw; (try dsimp only at hSw); go_simp; try with_reducible rfl)
              try simp only [Act.put, List.setIfInBounds_toArray, List.set_cons_zero, List.set_cons_succ, List.getElem_toArray, List.getElem_cons_zero, List.getElem_cons_succ]
              refine wpAnyT_take (i := 2) (v := ?_) rfl (by kernel_rfl) (by kernel_rfl) (by kernel_rfl) (by kernel_rfl) (fun _ _ _ h => h) (Or.inl ⟨by rfl, ?_⟩) hS ?_
              rotate_left
              focus (intro w hSw; (try dsimp only at hSw); go_simp; try with_reducible rfl)
              try simp only [Act.put, List.setIfInBounds_toArray, List.set_cons_zero, List.set_cons_succ, List.getElem_toArray, List.getElem_cons_zero, List.getElem_cons_succ]
              refine wpAnyT_take (i := 3) (v := ?_) rfl (by kernel_rfl) (by kernel_rfl) (by kernel_rfl) (by kernel_rfl) (fun _ _ _ h => h) (Or.inl ⟨by rfl, ?_⟩) hS ?_
              rotate_left
              focus (intro w hSw; (try dsimp only at hSw); go_simp; try with_reducible rfl)
              try simp only [Act.put, List.setIfInBounds_toArray, List.set_cons_zero, List.set_cons_succ, List.getElem_toArray, List.getElem_cons_zero, List.getElem_cons_succ]
              refine wpAnyT_take (i := 4) (v := ?_) rfl (by kernel_rfl) (by kernel_rfl) (by kernel_rfl) (by kernel_rfl) (fun _ _ _ h => h) (Or.inl ⟨by rfl, ?_⟩) hS ?_
              rotate_left
              focus (intro w hSw; (try dsimp only at hSw); go_simp; try with_reducible rfl)
              try simp only [Act.put, List.setIfInBounds_toArray, List.set_cons_zero, List.set_cons_succ, List.getElem_toArray, List.getElem_cons_zero, List.getElem_cons_succ]
              refine wpAnyT_take (i := 5) (v := ?_) rfl (by kernel_rfl) (by kernel_rfl) (by kernel_rfl) (by kernel_rfl) (fun _ _ _ h => h) (Or.inl ⟨by rfl, ?_⟩) hS ?_
              rotate_left
              focus (intro w hSw; (try dsimp only at hSw); go_simp; try with_reducible rfl)
              try simp only [Act.put, List.setIfInBounds_toArray, List.set_cons_zero, List.set_cons_succ, List.getElem_toArray, List.getElem_cons_zero, List.getElem_cons_succ]
              refine wpAnyT_take (i := 6) (v := ?_) rfl (by kernel_rfl) (by kernel_rfl) (by kernel_rfl) (by kernel_rfl) (fun _ _ _ h => h) (Or.inl ⟨by rfl, ?_⟩) hS ?_
              rotate_left
              focus (intro w hSw; (try dsimp only at hSw); go_simp; try with_reducible rfl)
              try simp only [Act.put, List.setIfInBounds_toArray, List.set_cons_zero, List.set_cons_succ, List.getElem_toArray, List.getElem_cons_zero, List.getElem_cons_succ]
              refine wpAnyT_take (i := 7) (v := ?_) rfl (by kernel_rfl) (by kernel_rfl) (by kernel_rfl) (by kernel_rfl) (fun _ _ _ h => h) (Or.inl ⟨by rfl, ?_⟩) hS ?_
              rotate_left
              focus (intro w hSw; (try dsimp only at hSw); go_simp; try with_reducible rfl)
              try simp only [Act.put, List.setIfInBounds_toArray, List.set_cons_zero, List.set_cons_succ, List.getElem_toArray, List.getElem_cons_zero, List.getElem_cons_succ]
              refine wpAnyT_take (i := 8) (v := ?_) rfl (by kernel_rfl) (by kernel_rfl) (by kernel_rfl) (by kernel_rfl) (fun _ _ _ h => h) (Or.inl ⟨by rfl, ?_⟩) hS ?_
              rotate_left
              focus (intro w hSw; (try dsimp only at hSw); go_simp; try with_reducible rfl)
              try simp only [Act.put, List.setIfInBounds_toArray, List.set_cons_zero, List.set_cons_succ, List.getElem_toArray, List.getElem_cons_zero, List.getElem_cons_succ]
              refine wpAnyT_take (i := 9) (v := ?_) rfl (by kernel_rfl) (by kernel_rfl) (by kernel_rfl) (by kernel_rfl) (fun _ _ _ h => h) (Or.inl ⟨by rfl, ?_⟩) hS ?_
              rotate_left
              focus (intro w hSw; (try dsimp only at hSw); go_simp; try with_reducible rfl)
              try simp only [Act.put, List.setIfInBounds_toArray, List.set_cons_zero, List.set_cons_succ, List.getElem_toArray, List.getElem_cons_zero, List.getElem_cons_succ]
              refine wpAnyT_take (i := 10) (v := ?_) rfl (by kernel_rfl) (by kernel_rfl) (by kernel_rfl) (by kernel_rfl) (fun _ _ _ h => h) (Or.inl ⟨by rfl, ?_⟩) hS ?_
              rotate_left
              focus (intro w hSw; (try dsimp only at hSw); go_simp; try with_reducible rfl)
              try simp only [Act.put, List.setIfInBounds_toArray, List.set_cons_zero, List.set_cons_succ, List.getElem_toArray, List.getElem_cons_zero, List.getElem_cons_succ]
              refine wpAnyT_take (i := 11) (v := ?_) rfl (by kernel_rfl) (by kernel_rfl) (by kernel_rfl) (by kernel_rfl) (fun _ _ _ h => h) (Or.inl ⟨by rfl, ?_⟩) hS ?_
              rotate_left
              focus (intro w hSw; (try dsimp only at hSw); go_simp; try with_reducible rfl)
              try simp only [Act.put, List.setIfInBounds_toArray, List.set_cons_zero, List.set_cons_succ, List.getElem_toArray, List.getElem_cons_zero, List.getElem_cons_succ]
              have hP := spec_l4Put A3 ys c3 ⟨a, (k : Int) + 1, b'⟩ wz _ _ hownU.rg (by omega)
              refine wpAnyT_ready (rs := [12]) (by kernel_rfl) (by simp) (AllReadyT.cons rfl (fun K hK => ?_) AllReadyT.nil)
              (go_simp; refine hP.mono ?_; rintro en w9 ⟨A9, c9, rfl, ho9, hm9⟩; have T0' := U0.mid hm9 (Or.inr (Nat.zero_le _)); have T2' := U2.mid hm9 (Or.inr (Nat.zero_le _)); have T3' := U3.mid hm9 (Or.inr (Nat.zero_le _)); have HT5 := HT4.mid hm9 (Nat.zero_le _); go_wp2_with fail)
              refine hK.out _ _ (Or.inr ⟨T3'.cell 2 rfl, HT5.cellF HA1.out, HT5.swap.cellF HA2.out⟩) (fun _ => ?_)
              clear hK K
              try simp only [Act.put, List.setIfInBounds_toArray, List.set_cons_zero, List.set_cons_succ, List.getElem_toArray, List.getElem_cons_zero, List.getElem_cons_succ]
              have hmr9 := hmu.trans hm9
              have hGz : G < wz.heap.size := U3.1
              have hw2z : w2.heap.size ≤ wz.heap.size := by omega
              have hS3 := And.intro (T3'.cell 2 rfl) (And.intro (HT5.cellF HA1.out) (HT5.swap.cellF HA2.out))
              have hr2 := T3'.cell 2 rfl
              have hrf := T3'.2.2
              clear hS U0 U2 U3 hmu HT4
              refine wpAnyT_take (i := 13) (v := ?_) rfl (by kernel_rfl) (by kernel_rfl) (by kernel_rfl) (by kernel_rfl) (fun _ _ _ h => h) (Or.inl ⟨by rfl, ?_⟩) hS3 ?_
              rotate_left
              focus (intro w hSw; (try dsimp only at hSw); go_simp; try with_reducible rfl)
              try simp only [Act.put, List.setIfInBounds_toArray, List.set_cons_zero, List.set_cons_succ, List.getElem_toArray, List.getElem_cons_zero, List.getElem_cons_succ]
              refine wpAnyT_ready (rs := [14]) (by kernel_rfl) (by simp) (AllReadyT.cons rfl (fun K hK => ?_) AllReadyT.nil)
              (go_simp)
              refine hK.out _ _ (Or.inl rfl) (fun _ => ?_)
              clear hK K
              try simp only [Act.put, List.setIfInBounds_toArray, List.set_cons_zero, List.set_cons_succ, List.getElem_toArray, List.getElem_cons_zero, List.getElem_cons_succ]
              refine wpAnyT_done (by kernel_rfl) ?_ _
              go_wp2_with fail
              go_roundw
              case rel =>
                have hst := Mid.setCell w9 (lo := G) (hi := G + 1) (p := ⟨G, 2, none⟩) (.slice A9 (putE ⟨a, (k : Int) + 1, b'⟩ ys).length c9) (Nat.le_refl _) (Nat.lt_succ_self _)
                have htk : (addL s es ((k : Int) + 1)).take (m + 1) = (addL s es ((k : Int) + 1)).take m ++ [⟨a, (k : Int) + 1, b'⟩] := take_snoc HAB.out
                refine ⟨m + 1, A9, c9, _, _, _, by omega, by go_num, Lib.hid ?_, ho9.mid hst (Or.inl (by omega)), .inr (by omega), hw2z, T0'.mid hst (Or.inl (by omega)), T2'.mid hst (Or.inl (by omega)), T3'.set 2 _ (by simp) rfl, Lib.hid (HT5.mid hst (by omega)), hmr9.storeNew (by show w.heap.size ≤ G; omega) _⟩
                rw [htk, ← List.append_assoc, putAll_snoc, ← HY.out]
              case measure => simp [intOf]; omega
            · obtain rfl : m = nF := by omega
              have hta : (addL s es ((k : Int) + 1)).take m = addL s es ((k : Int) + 1) := List.take_of_length_le (by rw [hall, HNF.out]; exact Nat.le_refl _)
              rw [hta, ← addLs_succ] at HY
              go_wp2_with fail
              go_roundw
              case rel => exact ⟨k + 1, A3, c3, lo3, hi3, ys, by omega, by go_num, HY, hown3, hdis3, hlo3, V0, V2, V3, hmv⟩
              case measure => simp [intOf]; omega
    · obtain rfl : r = (k : Int) := by omega
      clear p0 p1 p2
      have p0 := Z0.cell 0 rfl
      have p1 := Z0.cell 1 rfl
      have p2 := Z0.cell 2 rfl
      have a0 := Z2.cell 0 rfl
      have a1 := Z2.cell 1 rfl
      have a2 := Z2.cell 2 rfl
      have b0 := Z3.cell 0 rfl
      have b1 := Z3.cell 1 rfl
      have b2 := Z3.cell 2 rfl
      have af := Z2.2.2
      have bf := Z3.2.2
      go_wp2_with fail
      have hcl : (w.heap.size + 1 == G) = false := by simp; omega
      have hxx := HX.out
      rw [putAll_canon F1.out.gr.asc] at hxx
      refine bodyPost_ret (v := .tuple #[.agg #[.int .i64 k, .int .i64 s, .slice A2 xs.length c2], .bool true]) (by simp [results, Tryz.results56, go_sem, a0, a1, a2, b0, b1, b2, af, bf]) rfl ⟨A2, c2, ?_, ?_, ?_⟩
      · rw [HRR.out, HRS.out, HRE.out, hxx]
        rfl
      · rw [HRE.out, Int.toNat_natCast, ← hxx]
        refine OG.wide (OG.mid hown (a := w.heap.size) (b := w.heap.size + 2) ?_ (Or.inl (by omega))) (by omega) (by have := hown.size; simpa using this) (Nat.le_refl _)
        repeat (first | exact Mid.refl _ _ _ | refine Mid.stored ?_ _ (by simp; try omega) (by simp; try omega))
      · repeat (first | exact hmr | refine Mid.storeNew ?_ (by simp; try omega) _)
end Go.Proofs.YtimmnnncgnnkgaaGreat

/- The law on CompleteGraph: its data. -/
namespace Go.Proofs.YtimmnnncgnnkgaaGreat
set_option linter.unusedVariables false
open Go.RowKit
def CompleteGraphIs (r0 s0 : Int) (d0 : List Ed) (rr0 rs0 : Int) (res0 : List Ed) (res1 : Bool) : Prop := CompleteIs r0 s0 d0 rr0 rs0 res0 res1
end Go.Proofs.YtimmnnncgnnkgaaGreat

/- CoverOf, both sides. -/
namespace Go.Proofs.YtimmnnncgnnkgaaGreat
set_option linter.unusedVariables false
set_option linter.unusedSimpArgs false
open Go.RowKit

def CoverIs (r s : Int) (es : List Ed) (rr rs : Int) (res : List Ed) (b : Bool) : Prop :=
  (b = true ∧ IsCor r s es ∧ rr = r ∧ rs = (coreA r (s, canon (es ++ addLs s es r.toNat))).1 ∧ res = (coreA r (s, canon (es ++ addLs s es r.toNat))).2) ∨ (b = false ∧ ¬ IsCor r s es ∧ rr = 0 ∧ rs = 0 ∧ res = [])
theorem CoverIs.no {r s : Int} {es : List Ed} {rr rs : Int} {res : List Ed} {b : Bool} (h : CoverIs r s es rr rs res b) (hn : ¬ IsCor r s es) : b = false ∧ rr = 0 ∧ rs = 0 ∧ res = [] := by
  rcases h with ⟨-, h, -⟩ | ⟨h1, -, h2⟩
  · exact absurd h hn
  · exact ⟨h1, h2⟩
theorem CoverIs.yes {r s : Int} {es : List Ed} {rr rs : Int} {res : List Ed} {b : Bool} (h : CoverIs r s es rr rs res b) (hn : IsCor r s es) : b = true ∧ r = rr ∧ rs = (coreA r (s, canon (es ++ addLs s es r.toNat))).1 ∧ res = (coreA r (s, canon (es ++ addLs s es r.toNat))).2 := by
  rcases h with ⟨h1, -, h2, h3⟩ | ⟨-, h, -⟩
  · exact ⟨h1, h2.symm, h3⟩
  · exact absurd hn h

end Go.Proofs.YtimmnnncgnnkgaaGreat

/- Lists of words with the rows' capacities. -/
namespace Go.Proofs.YtimmnnncgnnkgaaGreat
set_option linter.unusedVariables false
set_option linter.unusedSimpArgs false
open Go.RowKit
/-- The slice of slices at A reads xss, and each row has room for what it holds. -/
def RSC (w : World) (lo hi : Nat) (A : Option Addr) (xss : List (List Int)) : Prop :=
  ∃ rows, rowsD rows = xss ∧ RV w lo hi A (rowsV rows) ∧ ∀ r ∈ rows, RV w lo hi r.A (ints r.xs) ∧ r.xs.length ≤ r.c
section
variable {w w' : World} {lo hi a b : Nat} {A : Option Addr} {xss : List (List Int)}
theorem RSC.rss (h : RSC w lo hi A xss) : RSS w lo hi A xss := by
  obtain ⟨rows, h1, h2, h3⟩ := h
  exact ⟨rows, h1, h2, fun r hr => (h3 r hr).1⟩
theorem RSC.size (h : RSC w lo hi A xss) : hi ≤ w.heap.size := h.rss.size
theorem RSC.mid (h : RSC w lo hi A xss) (m : Mid a b w w') (hd : b ≤ lo ∨ hi ≤ a) : RSC w' lo hi A xss := by
  obtain ⟨rows, h1, h2, h3⟩ := h
  exact ⟨rows, h1, h2.mid m hd, fun r hr => ⟨(h3 r hr).1.mid m hd, (h3 r hr).2⟩⟩
theorem owns_cap {e : TypeId} {base size n c : Nat} {xs : List Value} (h : w.ownsRow base e size (.slice A n c) n xs) : n ≤ c := by
  obtain ⟨_, _, e, h1, _⟩ := owns_shape h
  injection e with _ _ e
  omega
theorem OSS.rsc {tSI tI : TypeId} {c : Nat} (h : OSS w lo hi tSI tI A c xss) : RSC w lo hi A xss := by
  obtain ⟨_, rows, h1, h2, h3⟩ := h
  exact ⟨rows, h1, h2.rv, fun r hr => ⟨(h3.1 r hr).rv, owns_cap (h3.1 r hr).2.1⟩⟩
theorem RSC.row (h : RSC w lo hi A xss) {k : Nat} (hk : k < xss.length) :
    ∃ b off A' c' xs, A = some ⟨b, off, none⟩ ∧ lo ≤ b ∧ b < hi ∧ xss[k]? = some xs ∧ w.cell? ⟨b, off + k, none⟩ = some (.slice A' xs.length c') ∧ RV w lo hi A' (ints xs) ∧ xs.length ≤ c' := by
  obtain ⟨rows, rfl, h2, h3⟩ := h
  rw [rowsD_len] at hk
  obtain ⟨b, off, e, hb, hb2, hc⟩ := h2.2 (by intro h0; have := congrArg List.length h0; rw [rowsV_len] at this; simp at this; subst this; simp at hk)
  obtain ⟨r, hr⟩ := get_of_lt rows hk
  refine ⟨b, off, r.A, r.c, r.xs, e, hb, hb2, by simp [rowsD, hr], hc k _ (by simp [rowsV, hr, Row.v]), (h3 r (List.mem_of_getElem? hr)).1, (h3 r (List.mem_of_getElem? hr)).2⟩
end
end Go.Proofs.YtimmnnncgnnkgaaGreat

/- SeparateWords and SeparateWord, both sides. -/
namespace Go.Proofs.YtimmnnncgnnkgaaGreat
set_option linter.unusedVariables false
set_option linter.unusedSimpArgs false
open Go.RowKit

theorem sep_more {r : Int} {es : List Ed} {l : List (List Int)} {k : Nat} {x : List Int} (h : ∀ w ∈ l.take k, IsW r w ∧ ¬ LoopP es w) (hx : l[k]? = some x) (h2 : IsW r x ∧ ¬ LoopP es x) : ∀ w ∈ l.take (k + 1), IsW r w ∧ ¬ LoopP es w := by
  intro w hw
  rw [take_snocL hx] at hw
  rcases List.mem_append.1 hw with h3 | h3
  · exact h w h3
  · simp at h3
    subst h3
    exact h2

set_option maxHeartbeats 6400000 in
set_option maxRecDepth 100000 in
theorem impl_SeparateWords (r s : Int) (A : Option Addr) (es : List Ed) (c : Nat) (Al : Option Addr) (l : List (List Int)) (cl : Nat) (w : World) (lo hi lo' hi' : Nat) (hr : RG w lo hi A es) (hll : RSC w lo' hi' Al l) (hl : es.length ≤ 1048576) (hcl : es.length ≤ c) (hok : OkSS l) (hsl : sumL l ≤ 1048576) (rr rs : Int) (res : List Ed) (b : Bool) (hres : SepIs r s es l rr rs res b) :
    Calls Tryz.prog 28 #[graV r s A es.length c, .slice Al l.length cl] w fun e w' => ∃ A1 c1, e = .returned (.tuple #[graV rr rs A1 res.length c1, .bool b]) ∧ OG w' w.heap.size w'.heap.size A1 c1 res ∧ Mid 0 0 w w' := by
  have hm0 : Mid 0 0 w ((w.alloc (.cells #[.int .i64 r, .int .i64 s, .slice A es.length c] 29)).alloc (.cells #[.int .i64 0, .int .i64 0, .slice none 0 0] 29)) := (Mid.alloc _ _).trans (Mid.alloc _ _)
  have B0 := (Box.new w #[.int .i64 r, .int .i64 s, .slice A es.length c] 29).mid (Mid.alloc _ (.cells #[.int .i64 0, .int .i64 0, .slice none 0 0] 29)) (Or.inr (Nat.zero_le _))
  have B2 := Box.new (w.alloc (.cells #[.int .i64 r, .int .i64 s, .slice A es.length c] 29)) #[.int .i64 0, .int .i64 0, .slice none 0 0] 29
  simp only [World.size_alloc] at B2
  have HR := Lib.hid hres
  have HOK := Lib.hid hok
  clear hres hok
  obtain ⟨b1, hb1⟩ := bool_of (IsCor r s es)
  have H1 := Lib.hid hb1
  clear hb1
  go_enter Tryz.func28, Tryz.ntmps28
  go_wp2_with fail
  generalize hw1 : (w.alloc (.cells #[.int .i64 r, .int .i64 s, .slice A es.length c] 29)).alloc (.cells #[.int .i64 0, .int .i64 0, .slice none 0 0] 29) = w1 at hm0 B0 B2 ⊢
  have hs1 : w.heap.size + 1 < w1.heap.size := B2.1
  clear hw1
  with_reducible refine (impl_IsCore r s A es c _ _ _ (hr.mid hm0 (Or.inl (Nat.zero_le _))) hl hcl b1 H1.out).mono ?_
  rintro en w2 ⟨rfl, hm2⟩
  replace B0 := B0.mid hm2 (Or.inr (Nat.zero_le _))
  replace B2 := B2.mid hm2 (Or.inr (Nat.zero_le _))
  replace hm0 := hm0.trans hm2
  have hs2 := hm2.size
  have p0 := B0.cell 0 rfl
  have p1 := B0.cell 1 rfl
  have p2 := B0.cell 2 rfl
  have z0 := B2.cell 0 rfl
  have z1 := B2.cell 1 rfl
  have z2 := B2.cell 2 rfl
  have zf := B2.2.2
  cases b1 with
  | false =>
    have hno : ¬ SepOk r s es l := fun h => by have := H1.out.2 h.1; cases this
    obtain ⟨rfl, rfl, rfl, rfl⟩ := HR.out.no hno
    clear p0 p1 p2
    go_wp2_with fail
    refine bodyPost_ret (v := .tuple #[.agg #[.int .i64 0, .int .i64 0, .slice none 0 0], .bool false]) (by simp [results, Tryz.results28, go_sem, z0, z1, z2, zf]) rfl ⟨none, 0, rfl, OG.nil, ?_⟩
    repeat (first | exact hm0 | refine Mid.trans ?_ (Mid.alloc _ _) | refine Mid.storeNew ?_ (by simp; try omega) _)
  | true =>
  have hcor := H1.out.1 rfl
  clear H1
  by_cases hl6 : l.length ≤ 6
  · have d6 : decide ((6 : Int) < (l.length : Int)) = false := by simp; omega
    obtain ⟨rn, n, rfl, rfl⟩ := hcor.gr.nat
    have g1 := hcor.gr.rank
    have g2 := hcor.gr.size
    have g3 := hcor.gr.len
    obtain ⟨bF, sF, eF, hE, hbad, hfin⟩ := HR.out.run
    have HC := Lib.hid hcor
    have HEX := Lib.hid hE
    have HBAD := Lib.hid hbad
    have HFIN := Lib.hid hfin
    have hHH := hm0.size
    clear hcor hE hbad hfin z0 z1 z2 zf hm2
    go_wp2_with fail
    clear p0 p1 p2
    go_loopw [26] (fun iv wr => ∃ (k : Nat), k ≤ l.length ∧ iv = .int .i64 k ∧ Hid (∀ x ∈ l.take k, IsW rn x ∧ ¬ LoopP es x) ∧ Box wr w.heap.size [.int .i64 rn, .int .i64 n, .slice A es.length c] ∧ Box wr (w.heap.size + 1) [.int .i64 0, .int .i64 0, .slice none 0 0] ∧ Mid 0 0 w wr) (fun iv _ => l.length - (intOf iv).toNat)
    case atStart => exact ⟨0, Nat.zero_le _, rfl, Lib.hid (fun x hx => by simp at hx), B0, B2, hm0⟩
    case round =>
      clear B0 B2 hm0 hHH
      obtain ⟨wo, hwo⟩ : ∃ wo, wo = wr := ⟨_, rfl⟩
      subst hwo
      obtain ⟨k, hk, rfl, HGD, B0, B2, hm⟩ := hrel
      by_cases hlt : k < l.length
      · obtain ⟨Bd, od, Ak, ck, xs, hAl, hb1, hb2, hxs, hcell, hrv, hcw⟩ := (hll.mid hm (Or.inl (Nat.zero_le _))).row hlt
        subst hAl
        have hxm := List.mem_of_getElem? hxs
        have hxl : xs.length ≤ 1048576 := by have := len_le_sumL hxm; omega
        have HOX := Lib.hid (HOK.out.2 xs hxm)
        have HXS := Lib.hid hxs
        have hk0 : (0 : Int) ≤ (k : Int) := by omega
        have hk1 : (k : Int) < (l.length : Int) := by omega
        have p0 := B0.cell 0 rfl
        have p1 := B0.cell 1 rfl
        have p2 := B0.cell 2 rfl
        obtain ⟨bw, hbw⟩ := bool_of (IsW rn xs)
        have HBW := Lib.hid hbw
        clear hbw
        go_wp2_with fail
        with_reducible refine (impl_IsWord rn Ak xs ck _ _ hrv.rs HOX.out (by omega) bw HBW.out).mono ?_
        rintro en w3 ⟨rfl, rfl⟩
        cases bw with
        | false =>
          have hno : ¬ SepOk rn n es l := fun h => by have := HBW.out.2 (h.2.2 xs hxm).1; cases this
          obtain ⟨rfl, rfl, rfl, rfl⟩ := HR.out.no hno
          have z0 := B2.cell 0 rfl
          have z1 := B2.cell 1 rfl
          have z2 := B2.cell 2 rfl
          have zf := B2.2.2
          clear p0 p1 p2 hxs hxm hcell hno
          go_wp2_with fail
          refine bodyPost_ret (v := .tuple #[.agg #[.int .i64 0, .int .i64 0, .slice none 0 0], .bool false]) (by simp [results, Tryz.results28, go_sem, z0, z1, z2, zf]) rfl ⟨none, 0, rfl, OG.nil, ?_⟩
          repeat (first | exact hm | refine Mid.trans ?_ (Mid.alloc _ _) | refine Mid.storeNew ?_ (by simp; try omega) _)
        | true =>
        have hwd := HBW.out.1 rfl
        obtain ⟨bl, hbl⟩ := bool_of (LoopP es xs)
        have HBL := Lib.hid hbl
        clear hbl HBW
        have HWD := Lib.hid hwd
        clear hwd
        go_wp2_with fail
        with_reducible refine (impl_loops rn n A es c Ak xs ck _ _ _ _ _ (hr.mid hm (Or.inl (Nat.zero_le _))) hrv HC.out.gr hxl HOX.out bl HBL.out).mono ?_
        rintro en w4 ⟨rfl, hm4⟩
        replace B0 := B0.mid hm4 (Or.inr (Nat.zero_le _))
        replace B2 := B2.mid hm4 (Or.inr (Nat.zero_le _))
        replace hm := hm.trans hm4
        clear p0 p1 p2 hcell
        cases bl with
        | true =>
          have hno : ¬ SepOk rn n es l := fun h => (h.2.2 xs hxm).2 (HBL.out.1 rfl)
          obtain ⟨rfl, rfl, rfl, rfl⟩ := HR.out.no hno
          have z0 := B2.cell 0 rfl
          have z1 := B2.cell 1 rfl
          have z2 := B2.cell 2 rfl
          have zf := B2.2.2
          clear hxs hxm hno
          go_wp2_with fail
          refine bodyPost_ret (v := .tuple #[.agg #[.int .i64 0, .int .i64 0, .slice none 0 0], .bool false]) (by simp [results, Tryz.results28, go_sem, z0, z1, z2, zf]) rfl ⟨none, 0, rfl, OG.nil, ?_⟩
          repeat (first | exact hm | refine Mid.trans ?_ (Mid.alloc _ _) | refine Mid.storeNew ?_ (by simp; try omega) _)
        | false =>
          have hnl : ¬ LoopP es xs := fun h => by have := HBL.out.2 h; cases this
          have HNL := Lib.hid hnl
          clear hnl hxs hxm
          go_wp2_with fail
          go_roundw
          case rel => exact ⟨k + 1, by omega, by go_num, Lib.hid (sep_more HGD.out HXS.out ⟨HWD.out, HNL.out⟩), B0, B2, hm⟩
          case measure => simp [intOf]; omega
      · obtain rfl : k = l.length := by omega
        have hok : SepOk rn n es l := ⟨HC.out, hl6, fun x hx => HGD.out x (by rw [List.take_length]; exact hx)⟩
        have HOKS := Lib.hid hok
        have HALL := Lib.hid (HFIN.out hok)
        clear hok HGD HFIN
        have p0 := B0.cell 0 rfl
        have p1 := B0.cell 1 rfl
        have p2 := B0.cell 2 rfl
        have hY := Box.new wo #[.int .i64 rn, .int .i64 n, .slice A es.length c] 29
        have hal := Mid.alloc wo (.cells #[.int .i64 rn, .int .i64 n, .slice A es.length c] 29)
        have hhi := hr.size
        have hr1 := hr.mid (hm.trans hal) (Or.inl (Nat.zero_le _))
        have hwo2 : w.heap.size + 1 < wo.heap.size := B2.1
        go_wp2_with fail
        replace B0 := B0.mid hal (Or.inr (Nat.zero_le _))
        replace B2 := B2.mid hal (Or.inr (Nat.zero_le _))
        replace hm := hm.trans hal
        generalize wo.alloc (.cells #[.int .i64 rn, .int .i64 n, .slice A es.length c] 29) = wp at hY hr1 B0 B2 hm ⊢
        generalize wo.heap.size = H at hY hwo2 ⊢
        clear p0 p1 p2 hal
        go_loopw [45] (fun iv wr => ∃ (k sk : Nat) (Ak : Option Addr) (ck lo4 hi4 : Nat) (ek : List Ed), k ≤ l.length ∧ iv = .int .i64 k ∧ Hid (ExtsIs rn sk ek (l.drop k) bF sF eF) ∧ Hid (IsFol rn sk ek) ∧ RG wr lo4 hi4 Ak ek ∧ (hi4 ≤ H ∨ H + 1 ≤ lo4) ∧ ek.length ≤ ck ∧ Box wr H [.int .i64 rn, .int .i64 sk, .slice Ak ek.length ck] ∧
          Box wr (w.heap.size + 1) [.int .i64 0, .int .i64 0, .slice none 0 0] ∧ Mid 0 0 w wr) (fun iv _ => l.length - (intOf iv).toNat)
        case atStart => exact ⟨0, n, A, c, _, _, es, Nat.zero_le _, rfl, HEX, Lib.hid HC.out.fol, hr1, .inl (by omega), hcl, hY, B2, hm⟩
        case round =>
          clear B0 B2 hm hY hr1
          obtain ⟨wq, hwq⟩ : ∃ wq, wq = wr := ⟨_, rfl⟩
          subst hwq
          obtain ⟨k, sk, Ak, ck, lo4, hi4, ek, hk, rfl, HX, HF, hrk, hdis, hck, Y, B2, hm⟩ := hrel
          have hH : H < wq.heap.size := Y.1
          have hel := HF.out.gr.len
          have hsk := HF.out.gr.size
          by_cases hlt : k < l.length
          · obtain ⟨Bd, od, Aw, cw, xs, hAl, hb1, hb2, hxs, hcell, hrv, hcw⟩ := (hll.mid hm (Or.inl (Nat.zero_le _))).row hlt
            subst hAl
            have hxm := List.mem_of_getElem? hxs
            have hx24 : xs.length ≤ 24 := (HOKS.out.2.2 xs hxm).1.2.2.1
            have HOX := Lib.hid (HOK.out.2 xs hxm)
            obtain ⟨b1, s1, es1, x, he, hf1, hf2⟩ := HX.out.step hxs
            have HE := Lib.hid he
            have hk0 : (0 : Int) ≤ (k : Int) := by omega
            have hk1 : (k : Int) < (l.length : Int) := by omega
            clear hxs hxm
            have y0 := Y.cell 0 rfl
            have y1 := Y.cell 1 rfl
            have y2 := Y.cell 2 rfl
            go_wp2_with fail
            with_reducible refine (impl_extend2 rn sk Ak ek ck Aw xs cw _ _ _ _ _ hrk hrv hck hcw HF.out.gr (by omega) HOX.out b1 s1 es1 x HE.out).mono ?_
            rintro en w4 ⟨A4, c4, rr4, rfl, hrr4, hal4, hc4, hm4⟩
            have hs4 := hm4.size
            replace Y := Y.mid hm4 (Or.inr (Nat.zero_le _))
            replace B2 := B2.mid hm4 (Or.inr (Nat.zero_le _))
            replace hm := hm.trans hm4
            clear y0 y1 y2 hcell
            cases b1 with
            | false =>
              obtain ⟨rfl, rfl, rfl, rfl⟩ := HBAD.out (hf1 rfl)
              have hb23 : w.heap.size + 1 < w4.heap.size := B2.1
              have hb22 : w.heap.size < w4.heap.size := by omega
              have z0 := B2.cell 0 rfl
              have z1 := B2.cell 1 rfl
              have z2 := B2.cell 2 rfl
              have zf := B2.2.2
              clear hf1 hf2 hal4 hrr4
              go_wp2_with fail
              refine bodyPost_ret (v := .tuple #[.agg #[.int .i64 0, .int .i64 0, .slice none 0 0], .bool false]) (by simp [results, Tryz.results28, go_sem, z0, z1, z2, zf, hb22, hb23, World.cell?_alloc_lt]) rfl ⟨none, 0, rfl, OG.nil, ?_⟩
              repeat (first | exact hm | refine Mid.trans ?_ (Mid.alloc _ _) | refine Mid.storeNew ?_ (by simp; try omega) _)
            | true =>
            rw [if_pos rfl] at hrr4
            subst hrr4
            have HX1 := Lib.hid (hf2 rfl)
            have HF1 := Lib.hid (HE.out.fol HF.out)
            obtain ⟨s1, rfl⟩ : ∃ q : Nat, s1 = q := ⟨s1.toNat, by have := HF1.out.gr.size; omega⟩
            have hrg : ∃ lo5 hi5, RG w4 lo5 hi5 A4 es1 ∧ (hi5 ≤ H ∨ H + 1 ≤ lo5) := by
              rcases hal4 with ⟨rfl, rfl⟩ | h
              · exact ⟨lo4, hi4, hrk.mid hm4 (Or.inl (Nat.zero_le _)), hdis⟩
              · exact ⟨_, _, h, .inr hH⟩
            obtain ⟨lo5, hi5, hrg5, hdis5⟩ := hrg
            have HD5 := Lib.hid hdis5
            have hH4 : H < w4.heap.size := Y.1
            have hst := ((Mid.setCell w4 (lo := H) (hi := H + 1) (p := ⟨H, 0, none⟩) (.int .i64 rn) (Nat.le_refl _) (Nat.lt_succ_self _)).trans (Mid.setCell _ (lo := H) (hi := H + 1) (p := ⟨H, 1, none⟩) (.int .i64 s1) (Nat.le_refl _) (Nat.lt_succ_self _))).trans (Mid.setCell _ (lo := H) (hi := H + 1) (p := ⟨H, 2, none⟩) (.slice A4 es1.length c4) (Nat.le_refl _) (Nat.lt_succ_self _))
            have Y7 := ((Y.set 0 (.int .i64 rn) (by simp) rfl).set 1 (.int .i64 s1) (by simp) rfl).set 2 (.slice A4 es1.length c4) (by simp) rfl
            simp only [List.set_cons_succ, List.set_cons_zero] at Y7
            have V2 := B2.mid hst (Or.inl (by omega))
            have hrg7 := hrg5.mid hst (by have := HD5.out; omega)
            have hm7 := ((hm.storeNew (p := ⟨H, 0, none⟩) (by show w.heap.size ≤ H; omega) (.int .i64 rn)).storeNew (p := ⟨H, 1, none⟩) (by show w.heap.size ≤ H; omega) (.int .i64 s1)).storeNew (p := ⟨H, 2, none⟩) (by show w.heap.size ≤ H; omega) (.slice A4 es1.length c4)
            have hal := Mid.alloc (((w4.setCell ⟨H, 0, none⟩ (.int .i64 rn)).setCell ⟨H, 1, none⟩ (.int .i64 s1)).setCell ⟨H, 2, none⟩ (.slice A4 es1.length c4)) (.cells #[.int .i64 rn, .int .i64 s1, .slice A4 es1.length c4] 29)
            have y0 := Y.cell 0 rfl
            have y1 := Y.cell 1 rfl
            have y2 := Y.cell 2 rfl
            have yf := Y.2.2
            clear hf1 hf2 hal4 hdis5 hdis
            go_wp2_with fail
            go_roundw
            case rel => exact ⟨k + 1, s1, A4, c4, lo5, hi5, es1, by omega, by go_num, HX1, HF1, hrg7.mid hal (Or.inl (Nat.zero_le _)), HD5.out, hc4, Y7.mid hal (Or.inr (Nat.zero_le _)), V2.mid hal (Or.inr (Nat.zero_le _)), hm7.trans hal⟩
            case measure => simp [intOf]; omega
          · obtain rfl : k = l.length := by omega
            have hX := HX.out
            rw [List.drop_length] at hX
            obtain ⟨rfl, rfl, hXe⟩ := hX
            obtain rfl := hXe.symm
            obtain ⟨hb, hrr, hrs, hre⟩ := HALL.out rfl
            obtain ⟨ms, hms⟩ : ∃ ms, canon (ek ++ addLs sk ek (rn : Int).toNat) = ms := ⟨_, rfl⟩
            have hgm := complete_gr HF.out
            rw [hms] at hgm hrs hre
            have hCI : CompleteIs rn sk ek rn sk ms true := Or.inl ⟨rfl, HF.out, rfl, rfl, hms.symm⟩
            have HCI := Lib.hid hCI
            have HGM := Lib.hid hgm
            obtain ⟨q, qs, hQ, -⟩ := nat_gr (coreA_gr (g := ((sk : Int), ms)) hgm)
            have hP := fun W lo hi A c h => impl_CoreGraph rn sk A ms c W lo hi h HGM.out
            have hml := hgm.len
            rw [hQ] at hP hrs hre
            dsimp only at hP hrs hre
            have HP := Lib.hid hP
            have HQ := Lib.hid (And.intro hb (And.intro hrr (And.intro hrs hre)))
            clear hP hQ hb hrr hrs hre hms hCI hgm HX HALL
            have y0 := Y.cell 0 rfl
            have y1 := Y.cell 1 rfl
            have y2 := Y.cell 2 rfl
            go_wp2_with fail
            with_reducible refine (impl_CompleteGraph rn sk Ak ek ck _ _ _ hrk (by omega) hck rn sk ms true HCI.out).mono ?_
            rintro en w4 ⟨A4, c4, rfl, ho4, hm4⟩
            have hs4 := hm4.size
            replace Y := Y.mid hm4 (Or.inr (Nat.zero_le _))
            replace B2 := B2.mid hm4 (Or.inr (Nat.zero_le _))
            replace hm := hm.trans hm4
            clear y0 y1 y2 hrk
            have hH4 : H < w4.heap.size := Y.1
            have hst := ((Mid.setCell w4 (lo := H) (hi := H + 1) (p := ⟨H, 0, none⟩) (.int .i64 rn) (Nat.le_refl _) (Nat.lt_succ_self _)).trans (Mid.setCell _ (lo := H) (hi := H + 1) (p := ⟨H, 1, none⟩) (.int .i64 sk) (Nat.le_refl _) (Nat.lt_succ_self _))).trans (Mid.setCell _ (lo := H) (hi := H + 1) (p := ⟨H, 2, none⟩) (.slice A4 ms.length c4) (Nat.le_refl _) (Nat.lt_succ_self _))
            have Y7 := ((Y.set 0 (.int .i64 rn) (by simp) rfl).set 1 (.int .i64 sk) (by simp) rfl).set 2 (.slice A4 ms.length c4) (by simp) rfl
            simp only [List.set_cons_succ, List.set_cons_zero] at Y7
            have V2 := B2.mid hst (Or.inl (by omega))
            have ho7 := ho4.mid hst (Or.inl (by omega))
            have hm7 := ((hm.storeNew (p := ⟨H, 0, none⟩) (by show w.heap.size ≤ H; omega) (.int .i64 rn)).storeNew (p := ⟨H, 1, none⟩) (by show w.heap.size ≤ H; omega) (.int .i64 sk)).storeNew (p := ⟨H, 2, none⟩) (by show w.heap.size ≤ H; omega) (.slice A4 ms.length c4)
            have y0 := Y.cell 0 rfl
            have y1 := Y.cell 1 rfl
            have y2 := Y.cell 2 rfl
            have v0 := Y7.cell 0 rfl
            have v1 := Y7.cell 1 rfl
            have v2 := Y7.cell 2 rfl
            have yf := Y.2.2
            clear hst
            go_wp2_with fail
            generalize ((w4.setCell ⟨H, 0, none⟩ (.int .i64 rn)).setCell ⟨H, 1, none⟩ (.int .i64 sk)).setCell ⟨H, 2, none⟩ (.slice A4 ms.length c4) = w5 at V2 ho7 hm7 ⊢
            with_reducible refine (HP.out _ _ _ _ _ (OG.rg ho7)).mono ?_
            rintro en w6 ⟨A6, c6, rfl, ho6, hm6⟩
            have hs6 := hm6.size
            have hs5 := ho7.size
            replace V2 := V2.mid hm6 (Or.inr (Nat.zero_le _))
            replace hm7 := hm7.trans hm6
            have hb6 := V2.1
            have z0 := V2.cell 0 rfl
            have z1 := V2.cell 1 rfl
            have z2 := V2.cell 2 rfl
            have zf := V2.2.2
            clear y0 y1 y2 v0 v1 v2 yf HP
            go_wp2_with fail
            refine bodyPost_ret (v := .tuple #[.agg #[.int .i64 rn, .int .i64 q, .slice A6 qs.length c6], .bool true]) (by simp [results, Tryz.results28, go_sem, z0, z1, z2, zf]) rfl ⟨A6, c6, by rw [HQ.out.1, HQ.out.2.1, HQ.out.2.2.1, HQ.out.2.2.2], ?_, ?_⟩
            · rw [HQ.out.2.2.2]
              refine OG.wide (OG.mid ho6 (a := w.heap.size + 1) (b := w.heap.size + 2) ?_ (Or.inl (by omega))) (by omega) (by simp) (Nat.le_refl _)
              repeat (first | exact Mid.refl _ _ _ | refine Mid.stored ?_ _ (by simp; try omega) (by simp; try omega))
            · repeat (first | exact hm7 | refine Mid.storeNew ?_ (by simp; try omega) _)
  · have d6 : decide ((6 : Int) < (l.length : Int)) = true := by simp; omega
    have hno : ¬ SepOk r s es l := fun h => hl6 h.2.1
    obtain ⟨rfl, rfl, rfl, rfl⟩ := HR.out.no hno
    clear p0 p1 p2 hcor hl6 hno
    go_wp2_with fail
    refine bodyPost_ret (v := .tuple #[.agg #[.int .i64 0, .int .i64 0, .slice none 0 0], .bool false]) (by simp [results, Tryz.results28, go_sem, z0, z1, z2, zf]) rfl ⟨none, 0, rfl, OG.nil, ?_⟩
    repeat (first | exact hm0 | refine Mid.trans ?_ (Mid.alloc _ _) | refine Mid.storeNew ?_ (by simp; try omega) _)

set_option maxHeartbeats 6400000 in
set_option maxRecDepth 100000 in
theorem spec_SeparateWords (r s : Int) (A : Option Addr) (es : List Ed) (c : Nat) (Al : Option Addr) (l : List (List Int)) (cl : Nat) (w : World) (lo hi lo' hi' : Nat) (hr : RG w lo hi A es) (hll : RSC w lo' hi' Al l) (hl : es.length ≤ 1048576) (hcl : es.length ≤ c) (hok : OkSS l) (hsl : sumL l ≤ 1048576) (rr rs : Int) (res : List Ed) (b : Bool) (hres : SepIs r s es l rr rs res b) :
    Calls Tryz.prog 26 #[graV r s A es.length c, .slice Al l.length cl] w fun e w' => ∃ A1 c1, e = .returned (.tuple #[graV rr rs A1 res.length c1, .bool b]) ∧ OG w' w.heap.size w'.heap.size A1 c1 res ∧ Mid 0 0 w w' := by
  have hm0 : Mid 0 0 w ((w.alloc (.cells #[.int .i64 r, .int .i64 s, .slice A es.length c] 29)).alloc (.cells #[.int .i64 0, .int .i64 0, .slice none 0 0] 29)) := (Mid.alloc _ _).trans (Mid.alloc _ _)
  have B0 := (Box.new w #[.int .i64 r, .int .i64 s, .slice A es.length c] 29).mid (Mid.alloc _ (.cells #[.int .i64 0, .int .i64 0, .slice none 0 0] 29)) (Or.inr (Nat.zero_le _))
  have B2 := Box.new (w.alloc (.cells #[.int .i64 r, .int .i64 s, .slice A es.length c] 29)) #[.int .i64 0, .int .i64 0, .slice none 0 0] 29
  simp only [World.size_alloc] at B2
  have HR := Lib.hid hres
  have HOK := Lib.hid hok
  clear hres hok
  obtain ⟨b1, hb1⟩ := bool_of (IsCor r s es)
  have H1 := Lib.hid hb1
  clear hb1
  go_enter Tryz.func26, Tryz.ntmps26
  go_wp2_with fail
  generalize hw1 : (w.alloc (.cells #[.int .i64 r, .int .i64 s, .slice A es.length c] 29)).alloc (.cells #[.int .i64 0, .int .i64 0, .slice none 0 0] 29) = w1 at hm0 B0 B2 ⊢
  have hs1 : w.heap.size + 1 < w1.heap.size := B2.1
  clear hw1
  with_reducible refine (spec_l4Copy r s A es c _ _ _ (hr.mid hm0 (Or.inl (Nat.zero_le _))) hl).mono ?_
  rintro en w2 ⟨A2, c2, rfl, ho2, hm2⟩
  have hs2 := hm2.size
  have ha2 := Mid.alloc w2 (.cells #[.int .i64 r, .int .i64 s, .slice A2 es.length c2] 29)
  have Y := Box.new w2 #[.int .i64 r, .int .i64 s, .slice A2 es.length c2] 29
  replace B0 := B0.mid hm2 (Or.inr (Nat.zero_le _))
  replace B2 := B2.mid hm2 (Or.inr (Nat.zero_le _))
  replace hm0 := hm0.trans hm2
  have hH0 : w.heap.size + 1 < w2.heap.size := B2.1
  replace B0 := B0.mid ha2 (Or.inr (Nat.zero_le _))
  replace B2 := B2.mid ha2 (Or.inr (Nat.zero_le _))
  replace ho2 := ho2.mid ha2 (Or.inl (Nat.zero_le _))
  replace hm0 := hm0.trans ha2
  have p0 := B0.cell 0 rfl
  have p1 := B0.cell 1 rfl
  have p2 := B0.cell 2 rfl
  go_wp2_with fail
  generalize w2.alloc (.cells #[.int .i64 r, .int .i64 s, .slice A2 es.length c2] 29) = w3 at B0 B2 Y ho2 hm0 p0 p1 p2 ⊢
  generalize w2.heap.size = H at Y hH0 ho2 ⊢
  clear ha2 hm2 hs2
  with_reducible refine (spec_IsSubgroup r s A es c w3 _ _ (hr.mid hm0 (Or.inl (Nat.zero_le _))) hl b1 H1.out).mono ?_
  rintro en w4 ⟨rfl, hm4⟩
  replace B0 := B0.mid hm4 (Or.inr (Nat.zero_le _))
  replace B2 := B2.mid hm4 (Or.inr (Nat.zero_le _))
  replace Y := Y.mid hm4 (Or.inr (Nat.zero_le _))
  replace ho2 := ho2.mid hm4 (Or.inl (Nat.zero_le _))
  replace hm0 := hm0.trans hm4
  clear p0 p1 p2 hm4
  cases b1 with
  | false =>
    have hno : ¬ SepOk r s es l := fun h => by have := H1.out.2 h.1; cases this
    obtain ⟨rfl, rfl, rfl, rfl⟩ := HR.out.no hno
    have z0 := B2.cell 0 rfl
    have z1 := B2.cell 1 rfl
    have z2 := B2.cell 2 rfl
    have zf := B2.2.2
    go_wp2_with fail
    refine bodyPost_ret (v := .tuple #[.agg #[.int .i64 0, .int .i64 0, .slice none 0 0], .bool false]) (by simp [results, Tryz.results26, go_sem, z0, z1, z2, zf]) rfl ⟨none, 0, rfl, OG.nil, ?_⟩
    repeat (first | exact hm0 | refine Mid.trans ?_ (Mid.alloc _ _) | refine Mid.storeNew ?_ (by simp; try omega) _)
  | true =>
  have hcor := H1.out.1 rfl
  clear H1
  by_cases hl6 : l.length ≤ 6
  · have d6 : decide ((6 : Int) < (l.length : Int)) = false := by simp; omega
    obtain ⟨rn, n, rfl, rfl⟩ := hcor.gr.nat
    have g1 := hcor.gr.rank
    have g2 := hcor.gr.size
    have g3 := hcor.gr.len
    obtain ⟨bF, sF, eF, hE, hbad, hfin⟩ := HR.out.run
    have HC := Lib.hid hcor
    have HEX := Lib.hid hE
    have HBAD := Lib.hid hbad
    have HFIN := Lib.hid hfin
    clear hcor hE hbad hfin
    go_wp2_with fail
    go_loopw [7] (fun iv wr => ∃ (k sk : Nat) (Ak : Option Addr) (ck lo4 hi4 : Nat) (ek : List Ed), k ≤ l.length ∧ iv = .int .i64 k ∧ Hid (∀ x ∈ l.take k, IsW rn x ∧ ¬ LoopP es x) ∧ Hid (ExtsIs rn sk ek (l.drop k) bF sF eF) ∧ Hid (IsFol rn sk ek) ∧ RG wr lo4 hi4 Ak ek ∧ (hi4 ≤ H ∨ H + 1 ≤ lo4) ∧ Box wr H [.int .i64 rn, .int .i64 sk, .slice Ak ek.length ck] ∧ Box wr w.heap.size [.int .i64 rn, .int .i64 n, .slice A es.length c] ∧ Box wr (w.heap.size + 1) [.int .i64 0, .int .i64 0, .slice none 0 0] ∧ Mid 0 0 w wr) (fun iv _ => l.length - (intOf iv).toNat)
    case atStart => exact ⟨0, n, A2, c2, _, _, es, Nat.zero_le _, rfl, Lib.hid (fun x hx => by simp at hx), HEX, Lib.hid HC.out.fol, ho2.rg, .inl (Nat.le_refl _), Y, B0, B2, hm0⟩
    case round =>
      clear B0 B2 hm0 Y ho2 hs1
      obtain ⟨wo, hwo⟩ : ∃ wo, wo = wr := ⟨_, rfl⟩
      subst hwo
      obtain ⟨k, sk, Ak, ck, lo4, hi4, ek, hk, rfl, HGD, HX, HF, hrk, hdis, Y, B0, B2, hm⟩ := hrel
      have hH : H < wo.heap.size := Y.1
      have hel := HF.out.gr.len
      have hsk := HF.out.gr.size
      by_cases hlt : k < l.length
      · obtain ⟨Bd, od, Aw, cw, xs, hAl, hb1, hb2, hxs, hcell, hrv, hcw⟩ := (hll.mid hm (Or.inl (Nat.zero_le _))).row hlt
        subst hAl
        have hxm := List.mem_of_getElem? hxs
        have hxl : xs.length ≤ 1048576 := by have := len_le_sumL hxm; omega
        have HOX := Lib.hid (HOK.out.2 xs hxm)
        have HXS := Lib.hid hxs
        have hk0 : (0 : Int) ≤ (k : Int) := by omega
        have hk1 : (k : Int) < (l.length : Int) := by omega
        have hBd : Bd < wo.heap.size := by have := hll.size; have := hm.size; omega
        obtain ⟨bw, hbw⟩ := bool_of (IsW rn xs)
        have HBW := Lib.hid hbw
        clear hbw
        have v0 := wg_cell B0.1 (B0.cell 0 rfl)
        have v1 := wg_cell B0.1 (B0.cell 1 rfl)
        have v2 := wg_cell B0.1 (B0.cell 2 rfl)
        have v3 := wg_cell hBd hcell
        have hA : ∀ (m : Nat) (os : Array Obj), Calls Tryz.prog 53 #[.int .i64 rn, .slice Aw xs.length cw] (wg wo m os) fun e w'' => e = .returned (.bool bw) ∧ ∃ q : GB, w'' = wg wo q.n q.os := fun m os =>
          Calls.wg_of ((spec_IsWord rn Aw xs cw (wg wo m os) _ ((hrv.mid (Mid.ofWg wo m os) (Or.inl (Nat.zero_le _))).rs) HOX.out (by omega) bw HBW.out).mono (by rintro e w' ⟨rfl, nd, hw3⟩; exact ⟨rfl, by rw [hw3]; exact (Mid.refl 0 0 _).drewN nd⟩))
        cases bw with
        | false =>
          have hno : ¬ SepOk rn n es l := fun h => by have := HBW.out.2 (h.2.2 xs hxm).1; cases this
          obtain ⟨rfl, rfl, rfl, rfl⟩ := HR.out.no hno
          clear hno hxm hxs
          go_wp2_with fail
          refine wp_region_quiet_wg (by kernel_rfl) (by kernel_rfl) ?_
          repeat
            (with_reducible refine wpQuiet_step (fun K hK => ?_))
            go_simp
            first
              | ((with_reducible refine hK _ ?_); clear hK K)
              | (rw [if_neg (by decide)]; (with_reducible refine hK _ ?_); clear hK K)
              | (apply Exists.intro; refine ⟨fun _ => ?_, hK _ ?_⟩; ((go_at_call 53; with_reducible exact hA _ _)); clear hK K)
          with_reducible refine wpQuiet_nil ?_
          intro _ hw'
          obtain ⟨⟨nq, osq⟩, hw''⟩ := hw'
          subst hw''
          have hwg := Mid.ofWg wo nq osq
          generalize wg wo nq osq = w8 at hwg ⊢
          replace B2 := B2.mid hwg (Or.inr (Nat.zero_le _))
          replace hm := hm.trans hwg
          have z0 := B2.cell 0 rfl
          have z1 := B2.cell 1 rfl
          have z2 := B2.cell 2 rfl
          have zf := B2.2.2
          clear v0 v1 v2 v3 hA
          go_wp2_with fail
          refine bodyPost_ret (v := .tuple #[.agg #[.int .i64 0, .int .i64 0, .slice none 0 0], .bool false]) (by simp [results, Tryz.results26, go_sem, z0, z1, z2, zf]) rfl ⟨none, 0, rfl, OG.nil, ?_⟩
          repeat (first | exact hm | refine Mid.trans ?_ (Mid.alloc _ _) | refine Mid.storeNew ?_ (by simp; try omega) _)
        | true =>
        have hwd := HBW.out.1 rfl
        obtain ⟨bl, hbl⟩ := bool_of (LoopP es xs)
        have HBL := Lib.hid hbl
        clear hbl
        have HWD := Lib.hid hwd
        clear hwd
        have hB : ∀ (m : Nat) (os : Array Obj), Calls Tryz.prog 54 #[graV rn n A es.length c, .slice Aw xs.length cw] (wg wo m os) fun e w'' => e = .returned (.bool bl) ∧ ∃ q : GB, w'' = wg wo q.n q.os := fun m os =>
          Calls.wg_of (spec_Contains rn n A es c Aw xs cw (wg wo m os) _ _ _ _ (hr.mid (hm.trans (Mid.ofWg wo m os)) (Or.inl (Nat.zero_le _))) (hrv.mid (Mid.ofWg wo m os) (Or.inl (Nat.zero_le _))) HC.out HWD.out hxl HOX.out bl HBL.out)
        go_wp2_with fail
        refine wp_region_quiet_wg (by kernel_rfl) (by kernel_rfl) ?_
        repeat
          (with_reducible refine wpQuiet_step (fun K hK => ?_))
          go_simp
          first
            | ((with_reducible refine hK _ ?_); clear hK K)
            | (rw [if_neg (by decide)]; (with_reducible refine hK _ ?_); clear hK K)
            | (apply Exists.intro; refine ⟨fun _ => ?_, hK _ ?_⟩; ((first | (go_at_call 53; with_reducible exact hA _ _) | (go_at_call 54; with_reducible exact hB _ _))); clear hK K)
        with_reducible refine wpQuiet_nil ?_
        intro _ hw'
        obtain ⟨⟨nq, osq⟩, hw''⟩ := hw'
        subst hw''
        have hwg := Mid.ofWg wo nq osq
        generalize wg wo nq osq = w8 at hwg ⊢
        have hrv8 := hrv.mid hwg (Or.inl (Nat.zero_le _))
        have hcell8 := cell_keep hwg hBd (Or.inr (Nat.zero_le _)) hcell
        replace B0 := B0.mid hwg (Or.inr (Nat.zero_le _))
        replace B2 := B2.mid hwg (Or.inr (Nat.zero_le _))
        replace Y := Y.mid hwg (Or.inr (Nat.zero_le _))
        replace hrk := hrk.mid hwg (Or.inl (Nat.zero_le _))
        replace hm := hm.trans hwg
        have hBd8 : Bd < w8.heap.size := Nat.lt_of_lt_of_le hBd hwg.size
        have hH8 : H < w8.heap.size := Y.1
        clear v0 v1 v2 v3 hA hB hcell hrv hwg
        cases bl with
        | true =>
          have hno : ¬ SepOk rn n es l := fun h => (h.2.2 xs hxm).2 (HBL.out.1 rfl)
          obtain ⟨rfl, rfl, rfl, rfl⟩ := HR.out.no hno
          have z0 := B2.cell 0 rfl
          have z1 := B2.cell 1 rfl
          have z2 := B2.cell 2 rfl
          have zf := B2.2.2
          clear hxs hxm hno hcell8
          go_wp2_with fail
          refine bodyPost_ret (v := .tuple #[.agg #[.int .i64 0, .int .i64 0, .slice none 0 0], .bool false]) (by simp [results, Tryz.results26, go_sem, z0, z1, z2, zf]) rfl ⟨none, 0, rfl, OG.nil, ?_⟩
          repeat (first | exact hm | refine Mid.trans ?_ (Mid.alloc _ _) | refine Mid.storeNew ?_ (by simp; try omega) _)
        | false =>
        have hnl : ¬ LoopP es xs := fun h => by have := HBL.out.2 h; cases this
        have HNL := Lib.hid hnl
        obtain ⟨b1, s1, es1, x, he, hf1, hf2⟩ := HX.out.step hxs
        have HE := Lib.hid he
        have hP := fun W (h1 : RG W lo4 hi4 Ak ek) (h2 : RV W lo' hi' Aw (ints xs)) => spec_l16Hair rn sk Ak ek ck Aw xs cw W _ _ _ _ h1 h2 hcw HF.out hxl HOX.out b1 s1 es1 x he
        have HPP := Lib.hid hP
        clear hnl hxs hxm he hP
        go_wp2_with fail
        have hmd := Mid.drew1 w8
        have hsd := hmd.size
        replace B0 := B0.mid hmd (Or.inr (Nat.zero_le _))
        replace B2 := B2.mid hmd (Or.inr (Nat.zero_le _))
        replace Y := Y.mid hmd (Or.inr (Nat.zero_le _))
        replace hrk := hrk.mid hmd (Or.inl (Nat.zero_le _))
        replace hrv8 := hrv8.mid hmd (Or.inl (Nat.zero_le _))
        replace hm := hm.trans hmd
        replace hcell8 := cell_keep hmd hBd8 (Or.inr (Nat.zero_le _)) hcell8
        have q0 := Y.cell 0 rfl
        have q1 := Y.cell 1 rfl
        have q2 := Y.cell 2 rfl
        clear hmd
        refine wp_region_Z (S := (fun w' => (w'.cell? ⟨H, 0, none⟩ = some (.int .i64 rn) ∧ w'.cell? ⟨H, 1, none⟩ = some (.int .i64 sk) ∧ w'.cell? ⟨H, 2, none⟩ = some (.slice Ak ek.length ck)) ∧ w'.cell? ⟨Bd, od + k, none⟩ = some (.slice Aw xs.length cw))) [] (by kernel_rfl) ⟨⟨q0, q1, q2⟩, hcell8⟩ ?_
        generalize World.drew w8 = wz at B0 B2 Y hrk hm hrv8 hcell8 q0 q1 q2 hsd ⊢
        have hS : (wz.cell? ⟨H, 0, none⟩ = some (.int .i64 rn) ∧ wz.cell? ⟨H, 1, none⟩ = some (.int .i64 sk) ∧ wz.cell? ⟨H, 2, none⟩ = some (.slice Ak ek.length ck)) ∧ wz.cell? ⟨Bd, od + k, none⟩ = some (.slice Aw xs.length cw) := ⟨⟨q0, q1, q2⟩, hcell8⟩
        have hBz : Bd < wz.heap.size := by omega
        have hHz : H < wz.heap.size := by omega
        refine wpAnyZ_takeC [] (i := 0) (v := ?_) rfl (by kernel_rfl) (by kernel_rfl) (by kernel_rfl) (by kernel_rfl) (fun _ _ _ h => h) (Or.inl ⟨by rfl, ?_⟩) hS ?_
        rotate_left
        focus (intro w hSw; (try dsimp only at hSw); go_simp; try with_reducible rfl)
        try simp only [Act.put, List.setIfInBounds_toArray, List.set_cons_zero, List.set_cons_succ, List.getElem_toArray, List.getElem_cons_zero, List.getElem_cons_succ]
        refine wpAnyZ_takeC [] (i := 1) (v := ?_) rfl (by kernel_rfl) (by kernel_rfl) (by kernel_rfl) (by kernel_rfl) (fun _ _ _ h => h) (Or.inl ⟨by rfl, ?_⟩) hS ?_
        rotate_left
        focus (intro w hSw; (try dsimp only at hSw); go_simp; try with_reducible rfl)
        try simp only [Act.put, List.setIfInBounds_toArray, List.set_cons_zero, List.set_cons_succ, List.getElem_toArray, List.getElem_cons_zero, List.getElem_cons_succ]
        refine wpAnyZ_takeC [] (i := 2) (v := ?_) rfl (by kernel_rfl) (by kernel_rfl) (by kernel_rfl) (by kernel_rfl) (fun _ _ _ h => h) (Or.inl ⟨by rfl, ?_⟩) hS ?_
        rotate_left
        focus (intro w hSw; (try dsimp only at hSw); go_simp; try with_reducible rfl)
        try simp only [Act.put, List.setIfInBounds_toArray, List.set_cons_zero, List.set_cons_succ, List.getElem_toArray, List.getElem_cons_zero, List.getElem_cons_succ]
        refine wpAnyZ_takeC [] (i := 3) (v := ?_) rfl (by kernel_rfl) (by kernel_rfl) (by kernel_rfl) (by kernel_rfl) (fun _ _ _ h => h) (Or.inl ⟨by rfl, ?_⟩) hS ?_
        rotate_left
        focus (intro w hSw; (try dsimp only at hSw); go_simp; try with_reducible rfl)
        try simp only [Act.put, List.setIfInBounds_toArray, List.set_cons_zero, List.set_cons_succ, List.getElem_toArray, List.getElem_cons_zero, List.getElem_cons_succ]
        refine wpAnyZ_takeC [] (i := 4) (v := ?_) rfl (by kernel_rfl) (by kernel_rfl) (by kernel_rfl) (by kernel_rfl) (fun _ _ _ h => h) (Or.inl ⟨by rfl, ?_⟩) hS ?_
        rotate_left
        focus (intro w hSw; (try dsimp only at hSw); go_simp; try with_reducible rfl)
        try simp only [Act.put, List.setIfInBounds_toArray, List.set_cons_zero, List.set_cons_succ, List.getElem_toArray, List.getElem_cons_zero, List.getElem_cons_succ]
        refine wpAnyZ_ready (rs := [5,9]) (by kernel_rfl) (by simp) (AllReadyZ.cons rfl (fun K hK => ?_) (AllReadyZ.cons rfl (fun K hK => ?_) AllReadyZ.nil))
        · (go_simp; (with_reducible refine (HPP.out _ hrk hrv8).mono ?_); rintro en w10 ⟨A6, c6, rr6, rs6, es6, rfl, hyes, ho6, hm10⟩; have Y0 := Y.mid hm10 (Or.inr (Nat.zero_le _)); have hcp0 := cell_keep hm10 hBz (Or.inr (Nat.zero_le _)) hcell8; go_wp2_with fail)
          refine hK.out _ _ (Or.inr ⟨⟨Y0.cell 0 rfl, Y0.cell 1 rfl, Y0.cell 2 rfl⟩, hcp0⟩) (fun _ => ?_)
          clear hK K
          try simp only [Act.put, List.setIfInBounds_toArray, List.set_cons_zero, List.set_cons_succ, List.getElem_toArray, List.getElem_cons_zero, List.getElem_cons_succ]
          have HYES := Lib.hid hyes
          replace B0 := B0.mid hm10 (Or.inr (Nat.zero_le _))
          replace B2 := B2.mid hm10 (Or.inr (Nat.zero_le _))
          replace hm := hm.trans hm10
          have hs10 := hm10.size
          have hS10 := And.intro (And.intro (Y0.cell 0 rfl) (And.intro (Y0.cell 1 rfl) (Y0.cell 2 rfl))) hcp0
          clear Y hS q0 q1 q2 hrk HPP hyes
          refine wpAnyZ_takeC [] (i := 6) (v := ?_) rfl (by kernel_rfl) (by kernel_rfl) (by kernel_rfl) (by kernel_rfl) (fun _ _ _ h => h) (Or.inl ⟨by rfl, ?_⟩) hS10 ?_
          rotate_left
          focus (intro w hSw; (try dsimp only at hSw); go_simp; try with_reducible rfl)
          try simp only [Act.put, List.setIfInBounds_toArray, List.set_cons_zero, List.set_cons_succ, List.getElem_toArray, List.getElem_cons_zero, List.getElem_cons_succ]
          refine wpAnyZ_takeC [] (i := 7) (v := ?_) rfl (by kernel_rfl) (by kernel_rfl) (by kernel_rfl) (by kernel_rfl) (fun _ _ _ h => h) (Or.inl ⟨by rfl, ?_⟩) hS10 ?_
          rotate_left
          focus (intro w hSw; (try dsimp only at hSw); go_simp; try with_reducible rfl)
          try simp only [Act.put, List.setIfInBounds_toArray, List.set_cons_zero, List.set_cons_succ, List.getElem_toArray, List.getElem_cons_zero, List.getElem_cons_succ]
          refine wpAnyZ_takeC [] (i := 8) (v := ?_) rfl (by kernel_rfl) (by kernel_rfl) (by kernel_rfl) (by kernel_rfl) (fun _ _ _ h => h) (Or.inl ⟨by rfl, ?_⟩) hS10 ?_
          rotate_left
          focus (intro w hSw; (try dsimp only at hSw); go_simp; try with_reducible rfl)
          try simp only [Act.put, List.setIfInBounds_toArray, List.set_cons_zero, List.set_cons_succ, List.getElem_toArray, List.getElem_cons_zero, List.getElem_cons_succ]
          have hal := Mid.alloc w10 (.cells #[.int .i64 0, .int .i64 0, .slice none 0 0] 29)
          have Y1 := Y0.mid hal (Or.inr (Nat.zero_le _))
          have hcp1 := cell_keep hal (by omega) (Or.inr (Nat.zero_le _)) hcp0
          refine wpAnyZ_ready (rs := [9]) (by kernel_rfl) (by simp) (AllReadyZ.cons rfl (fun K hK => ?_) AllReadyZ.nil)
          go_simp
          refine hK.out _ _ (Or.inr ⟨⟨Y1.cell 0 rfl, Y1.cell 1 rfl, Y1.cell 2 rfl⟩, hcp1⟩) (fun _ => ?_)
          clear hK K
          try simp only [Act.put, List.setIfInBounds_toArray, List.set_cons_zero, List.set_cons_succ, List.getElem_toArray, List.getElem_cons_zero, List.getElem_cons_succ]
          clear hal Y1 hcp1
          have hal := Mid.alloc w10 (.cells #[.int .i64 rr6, .int .i64 rs6, .slice A6 es6.length c6] 29)
          have Y1 := Y0.mid hal (Or.inr (Nat.zero_le _))
          have hcp1 := cell_keep hal (by omega) (Or.inr (Nat.zero_le _)) hcp0
          refine wpAnyZ_ready (rs := [10]) (by kernel_rfl) (by simp) (AllReadyZ.cons rfl (fun K hK => ?_) AllReadyZ.nil)
          go_simp
          refine hK.out _ _ (Or.inr ⟨⟨Y1.cell 0 rfl, Y1.cell 1 rfl, Y1.cell 2 rfl⟩, hcp1⟩) (fun _ => ?_)
          clear hK K
          try simp only [Act.put, List.setIfInBounds_toArray, List.set_cons_zero, List.set_cons_succ, List.getElem_toArray, List.getElem_cons_zero, List.getElem_cons_succ]
          refine wpAnyZ_ready (rs := [11]) (by kernel_rfl) (by simp) (AllReadyZ.cons rfl (fun K hK => ?_) AllReadyZ.nil)
          go_simp
          refine hK.out _ _ (Or.inr ⟨⟨Y1.cell 0 rfl, Y1.cell 1 rfl, Y1.cell 2 rfl⟩, hcp1⟩) (fun _ => ?_)
          clear hK K
          try simp only [Act.put, List.setIfInBounds_toArray, List.set_cons_zero, List.set_cons_succ, List.getElem_toArray, List.getElem_cons_zero, List.getElem_cons_succ]
          refine wpAnyZ_done (by kernel_rfl) ?_ _
          have Zx := Box.new w10 #[.int .i64 rr6, .int .i64 rs6, .slice A6 es6.length c6] 29
          replace ho6 := ho6.mid hal (Or.inl (Nat.zero_le _))
          replace B0 := B0.mid hal (Or.inr (Nat.zero_le _))
          replace B2 := B2.mid hal (Or.inr (Nat.zero_le _))
          replace hm := hm.trans hal
          have hgz : H + 1 ≤ w10.heap.size := by omega
          have Y := Y1
          clear Y0 Y1 hS10 hal hcp0 hcp1 hm10
          generalize w10.alloc (.cells #[.int .i64 rr6, .int .i64 rs6, .slice A6 es6.length c6] 29) = w11 at B0 B2 Y Zx ho6 hm ⊢
          generalize w10.heap.size = Gz at Zx hgz ho6 ⊢
          cases b1 with
          | false =>
            obtain ⟨rfl, rfl, rfl, rfl⟩ := HBAD.out (hf1 rfl)
            have z0 := B2.cell 0 rfl
            have z1 := B2.cell 1 rfl
            have z2 := B2.cell 2 rfl
            have zf := B2.2.2
            clear HYES
            go_wp2_with fail
            refine bodyPost_ret (v := .tuple #[.agg #[.int .i64 0, .int .i64 0, .slice none 0 0], .bool false]) (by simp [results, Tryz.results26, go_sem, z0, z1, z2, zf]) rfl ⟨none, 0, rfl, OG.nil, ?_⟩
            repeat (first | exact hm | refine Mid.trans ?_ (Mid.alloc _ _) | refine Mid.storeNew ?_ (by simp; try omega) _)
          | true =>
          obtain ⟨rfl, rfl, rfl⟩ := HYES.out rfl
          have HX1 := Lib.hid (hf2 rfl)
          have HF1 := Lib.hid (HE.out.fol HF.out)
          obtain ⟨s1, rfl⟩ : ∃ q : Nat, rs6 = q := ⟨rs6.toNat, by have := HF1.out.gr.size; omega⟩
          have hst := ((Mid.setCell w11 (lo := H) (hi := H + 1) (p := ⟨H, 0, none⟩) (.int .i64 rn) (Nat.le_refl _) (Nat.lt_succ_self _)).trans (Mid.setCell _ (lo := H) (hi := H + 1) (p := ⟨H, 1, none⟩) (.int .i64 s1) (Nat.le_refl _) (Nat.lt_succ_self _))).trans (Mid.setCell _ (lo := H) (hi := H + 1) (p := ⟨H, 2, none⟩) (.slice A6 es6.length c6) (Nat.le_refl _) (Nat.lt_succ_self _))
          have Y7 := ((Y.set 0 (.int .i64 rn) (by simp) rfl).set 1 (.int .i64 s1) (by simp) rfl).set 2 (.slice A6 es6.length c6) (by simp) rfl
          simp only [List.set_cons_succ, List.set_cons_zero] at Y7
          have x0 := Zx.cell 0 rfl
          have x1 := Zx.cell 1 rfl
          have x2 := Zx.cell 2 rfl
          have q0 := Y.cell 0 rfl
          have q1 := Y.cell 1 rfl
          have q2 := Y.cell 2 rfl
          have qf := Y.2.2
          clear HYES hf1 hf2
          go_wp2_with fail
          go_roundw
          case rel => exact ⟨k + 1, s1, A6, c6, _, _, es6, by omega, by go_num, Lib.hid (sep_more HGD.out HXS.out ⟨HWD.out, HNL.out⟩), HX1, HF1, ho6.rg.mid hst (Or.inl (by omega)), .inr (by omega), Y7, B0.mid hst (Or.inl (by omega)), B2.mid hst (Or.inl (by omega)), ((hm.storeNew (p := ⟨H, 0, none⟩) (by show w.heap.size ≤ H; omega) (.int .i64 rn)).storeNew (p := ⟨H, 1, none⟩) (by show w.heap.size ≤ H; omega) (.int .i64 s1)).storeNew (p := ⟨H, 2, none⟩) (by show w.heap.size ≤ H; omega) (.slice A6 es6.length c6)⟩
          case measure => simp [intOf]; omega
        · have hal := Mid.alloc wz (.cells #[.int .i64 0, .int .i64 0, .slice none 0 0] 29)
          have Y1 := Y.mid hal (Or.inr (Nat.zero_le _))
          have hcp1 := cell_keep hal hBz (Or.inr (Nat.zero_le _)) hcell8
          have Zx := Box.new wz #[.int .i64 0, .int .i64 0, .slice none 0 0] 29
          have hrk1 := hrk.mid hal (Or.inl (Nat.zero_le _))
          have hrv1 := hrv8.mid hal (Or.inl (Nat.zero_le _))
          have hsl := hal.size
          go_simp
          refine hK.out _ _ (Or.inr ⟨⟨Y1.cell 0 rfl, Y1.cell 1 rfl, Y1.cell 2 rfl⟩, hcp1⟩) (fun _ => ?_)
          clear hK K
          try simp only [Act.put, List.setIfInBounds_toArray, List.set_cons_zero, List.set_cons_succ, List.getElem_toArray, List.getElem_cons_zero, List.getElem_cons_succ]
          replace B0 := B0.mid hal (Or.inr (Nat.zero_le _))
          replace B2 := B2.mid hal (Or.inr (Nat.zero_le _))
          replace hm := hm.trans hal
          clear Y hS q0 q1 q2 hrk hrv8 hcell8 hal
          have hzb : wz.heap.size < (wz.alloc (.cells #[.int .i64 0, .int .i64 0, .slice none 0 0] 29)).heap.size := Zx.1
          generalize wz.alloc (.cells #[.int .i64 0, .int .i64 0, .slice none 0 0] 29) = wy at Y1 Zx hrk1 hrv1 hcp1 B0 B2 hm hsl hzb ⊢
          have hBy : Bd < wy.heap.size := by omega
          refine wpAnyZ_ready (rs := [5]) (by kernel_rfl) (by simp) (AllReadyZ.cons rfl (fun K hK => ?_) AllReadyZ.nil)
          (go_simp; (with_reducible refine (HPP.out _ hrk1 hrv1).mono ?_); rintro en w10 ⟨A6, c6, rr6, rs6, es6, rfl, hyes, ho6, hm10⟩; have Y0 := Y1.mid hm10 (Or.inr (Nat.zero_le _)); have hcp0 := cell_keep hm10 hBy (Or.inr (Nat.zero_le _)) hcp1; go_wp2_with fail)
          refine hK.out _ _ (Or.inr ⟨⟨Y0.cell 0 rfl, Y0.cell 1 rfl, Y0.cell 2 rfl⟩, hcp0⟩) (fun _ => ?_)
          clear hK K
          try simp only [Act.put, List.setIfInBounds_toArray, List.set_cons_zero, List.set_cons_succ, List.getElem_toArray, List.getElem_cons_zero, List.getElem_cons_succ]
          have HYES := Lib.hid hyes
          replace B0 := B0.mid hm10 (Or.inr (Nat.zero_le _))
          replace B2 := B2.mid hm10 (Or.inr (Nat.zero_le _))
          replace Zx := Zx.mid hm10 (Or.inr (Nat.zero_le _))
          replace hm := hm.trans hm10
          have hs10 := hm10.size
          have hS10 := And.intro (And.intro (Y0.cell 0 rfl) (And.intro (Y0.cell 1 rfl) (Y0.cell 2 rfl))) hcp0
          clear Y1 hrk1 HPP hrv1 hcp1 hyes
          refine wpAnyZ_takeC [] (i := 6) (v := ?_) rfl (by kernel_rfl) (by kernel_rfl) (by kernel_rfl) (by kernel_rfl) (fun _ _ _ h => h) (Or.inl ⟨by rfl, ?_⟩) hS10 ?_
          rotate_left
          focus (intro w hSw; (try dsimp only at hSw); go_simp; try with_reducible rfl)
          try simp only [Act.put, List.setIfInBounds_toArray, List.set_cons_zero, List.set_cons_succ, List.getElem_toArray, List.getElem_cons_zero, List.getElem_cons_succ]
          refine wpAnyZ_takeC [] (i := 7) (v := ?_) rfl (by kernel_rfl) (by kernel_rfl) (by kernel_rfl) (by kernel_rfl) (fun _ _ _ h => h) (Or.inl ⟨by rfl, ?_⟩) hS10 ?_
          rotate_left
          focus (intro w hSw; (try dsimp only at hSw); go_simp; try with_reducible rfl)
          try simp only [Act.put, List.setIfInBounds_toArray, List.set_cons_zero, List.set_cons_succ, List.getElem_toArray, List.getElem_cons_zero, List.getElem_cons_succ]
          refine wpAnyZ_takeC [] (i := 8) (v := ?_) rfl (by kernel_rfl) (by kernel_rfl) (by kernel_rfl) (by kernel_rfl) (fun _ _ _ h => h) (Or.inl ⟨by rfl, ?_⟩) hS10 ?_
          rotate_left
          focus (intro w hSw; (try dsimp only at hSw); go_simp; try with_reducible rfl)
          try simp only [Act.put, List.setIfInBounds_toArray, List.set_cons_zero, List.set_cons_succ, List.getElem_toArray, List.getElem_cons_zero, List.getElem_cons_succ]
          have zzf := Zx.2.2
          have zz0 := Zx.cell 0 rfl
          have zz1 := Zx.cell 1 rfl
          have zz2 := Zx.cell 2 rfl
          have hst := ((Mid.setCell w10 (lo := wz.heap.size) (hi := wz.heap.size + 1) (p := ⟨wz.heap.size, 0, none⟩) (.int .i64 rr6) (Nat.le_refl _) (Nat.lt_succ_self _)).trans (Mid.setCell _ (lo := wz.heap.size) (hi := wz.heap.size + 1) (p := ⟨wz.heap.size, 1, none⟩) (.int .i64 rs6) (Nat.le_refl _) (Nat.lt_succ_self _))).trans (Mid.setCell _ (lo := wz.heap.size) (hi := wz.heap.size + 1) (p := ⟨wz.heap.size, 2, none⟩) (.slice A6 es6.length c6) (Nat.le_refl _) (Nat.lt_succ_self _))
          have Y2 := Y0.mid hst (Or.inl (by omega))
          have hcp2 := cell_keep hst (by omega) (Or.inl hBz) hcp0
          refine wpAnyZ_ready (rs := [10]) (by kernel_rfl) (by simp) (AllReadyZ.cons rfl (fun K hK => ?_) AllReadyZ.nil)
          go_simp
          refine hK.out _ _ (Or.inr ⟨⟨Y2.cell 0 rfl, Y2.cell 1 rfl, Y2.cell 2 rfl⟩, hcp2⟩) (fun _ => ?_)
          clear hK K
          try simp only [Act.put, List.setIfInBounds_toArray, List.set_cons_zero, List.set_cons_succ, List.getElem_toArray, List.getElem_cons_zero, List.getElem_cons_succ]
          refine wpAnyZ_ready (rs := [11]) (by kernel_rfl) (by simp) (AllReadyZ.cons rfl (fun K hK => ?_) AllReadyZ.nil)
          go_simp
          refine hK.out _ _ (Or.inr ⟨⟨Y2.cell 0 rfl, Y2.cell 1 rfl, Y2.cell 2 rfl⟩, hcp2⟩) (fun _ => ?_)
          clear hK K
          try simp only [Act.put, List.setIfInBounds_toArray, List.set_cons_zero, List.set_cons_succ, List.getElem_toArray, List.getElem_cons_zero, List.getElem_cons_succ]
          refine wpAnyZ_done (by kernel_rfl) ?_ _
          replace ho6 := ho6.mid hst (Or.inl (by omega))
          replace B0 := B0.mid hst (Or.inl (by omega))
          replace B2 := B2.mid hst (Or.inl (by omega))
          replace Zx := ((Zx.set 0 (.int .i64 rr6) (by simp) rfl).set 1 (.int .i64 rs6) (by simp) rfl).set 2 (.slice A6 es6.length c6) (by simp) rfl
          simp only [List.set_cons_succ, List.set_cons_zero] at Zx
          replace hm := ((hm.storeNew (p := ⟨wz.heap.size, 0, none⟩) (by show w.heap.size ≤ wz.heap.size; omega) (.int .i64 rr6)).storeNew (p := ⟨wz.heap.size, 1, none⟩) (by show w.heap.size ≤ wz.heap.size; omega) (.int .i64 rs6)).storeNew (p := ⟨wz.heap.size, 2, none⟩) (by show w.heap.size ≤ wz.heap.size; omega) (.slice A6 es6.length c6)
          have hgz : H + 1 ≤ wz.heap.size := by omega
          have Y := Y2
          clear Y0 Y2 hS10 hst hcp0 hcp2 hm10 zz0 zz1 zz2 zzf
          generalize ((w10.setCell ⟨wz.heap.size, 0, none⟩ (.int .i64 rr6)).setCell ⟨wz.heap.size, 1, none⟩ (.int .i64 rs6)).setCell ⟨wz.heap.size, 2, none⟩ (.slice A6 es6.length c6) = w11 at B0 B2 Y Zx ho6 hm ⊢
          generalize wz.heap.size = Gz at Zx hgz hzb ⊢
          cases b1 with
          | false =>
            obtain ⟨rfl, rfl, rfl, rfl⟩ := HBAD.out (hf1 rfl)
            have z0 := B2.cell 0 rfl
            have z1 := B2.cell 1 rfl
            have z2 := B2.cell 2 rfl
            have zf := B2.2.2
            clear HYES
            go_wp2_with fail
            refine bodyPost_ret (v := .tuple #[.agg #[.int .i64 0, .int .i64 0, .slice none 0 0], .bool false]) (by simp [results, Tryz.results26, go_sem, z0, z1, z2, zf]) rfl ⟨none, 0, rfl, OG.nil, ?_⟩
            repeat (first | exact hm | refine Mid.trans ?_ (Mid.alloc _ _) | refine Mid.storeNew ?_ (by simp; try omega) _)
          | true =>
          obtain ⟨rfl, rfl, rfl⟩ := HYES.out rfl
          have HX1 := Lib.hid (hf2 rfl)
          have HF1 := Lib.hid (HE.out.fol HF.out)
          obtain ⟨s1, rfl⟩ : ∃ q : Nat, rs6 = q := ⟨rs6.toNat, by have := HF1.out.gr.size; omega⟩
          have hst := ((Mid.setCell w11 (lo := H) (hi := H + 1) (p := ⟨H, 0, none⟩) (.int .i64 rn) (Nat.le_refl _) (Nat.lt_succ_self _)).trans (Mid.setCell _ (lo := H) (hi := H + 1) (p := ⟨H, 1, none⟩) (.int .i64 s1) (Nat.le_refl _) (Nat.lt_succ_self _))).trans (Mid.setCell _ (lo := H) (hi := H + 1) (p := ⟨H, 2, none⟩) (.slice A6 es6.length c6) (Nat.le_refl _) (Nat.lt_succ_self _))
          have Y7 := ((Y.set 0 (.int .i64 rn) (by simp) rfl).set 1 (.int .i64 s1) (by simp) rfl).set 2 (.slice A6 es6.length c6) (by simp) rfl
          simp only [List.set_cons_succ, List.set_cons_zero] at Y7
          have x0 := Zx.cell 0 rfl
          have x1 := Zx.cell 1 rfl
          have x2 := Zx.cell 2 rfl
          have q0 := Y.cell 0 rfl
          have q1 := Y.cell 1 rfl
          have q2 := Y.cell 2 rfl
          have qf := Y.2.2
          clear HYES hf1 hf2
          go_wp2_with fail
          go_roundw
          case rel => exact ⟨k + 1, s1, A6, c6, _, _, es6, by omega, by go_num, Lib.hid (sep_more HGD.out HXS.out ⟨HWD.out, HNL.out⟩), HX1, HF1, ho6.rg.mid hst (Or.inl (by omega)), .inr (by omega), Y7, B0.mid hst (Or.inl (by omega)), B2.mid hst (Or.inl (by omega)), ((hm.storeNew (p := ⟨H, 0, none⟩) (by show w.heap.size ≤ H; omega) (.int .i64 rn)).storeNew (p := ⟨H, 1, none⟩) (by show w.heap.size ≤ H; omega) (.int .i64 s1)).storeNew (p := ⟨H, 2, none⟩) (by show w.heap.size ≤ H; omega) (.slice A6 es6.length c6)⟩
          case measure => simp [intOf]; omega
      · obtain rfl : k = l.length := by omega
        have hok : SepOk rn n es l := ⟨HC.out, hl6, fun x hx => HGD.out x (by rw [List.take_length]; exact hx)⟩
        have hX := HX.out
        rw [List.drop_length] at hX
        obtain ⟨rfl, rfl, hXe⟩ := hX
        obtain rfl := hXe.symm
        obtain ⟨hb, hrr, hrs, hre⟩ := HFIN.out hok rfl
        obtain ⟨ms, hms⟩ : ∃ ms, canon (ek ++ addLs sk ek (rn : Int).toNat) = ms := ⟨_, rfl⟩
        have hgm := complete_gr HF.out
        rw [hms] at hgm hrs hre
        have hCI : CompleteIs rn sk ek rn sk ms true := Or.inl ⟨rfl, HF.out, rfl, rfl, hms.symm⟩
        have HCI := Lib.hid hCI
        have HGM := Lib.hid hgm
        obtain ⟨q, qs, hQ, -⟩ := nat_gr (coreA_gr (g := ((sk : Int), ms)) hgm)
        have hP := fun W lo hi A c h => spec_CoreGraph rn sk A ms c W lo hi h HGM.out
        have hml := hgm.len
        rw [hQ] at hP hrs hre
        dsimp only at hP hrs hre
        have HP := Lib.hid hP
        have HQ := Lib.hid (And.intro hb (And.intro hrr (And.intro hrs hre)))
        clear hP hQ hb hrr hrs hre hms hCI hgm HX HFIN hok HGD
        have y0 := Y.cell 0 rfl
        have y1 := Y.cell 1 rfl
        have y2 := Y.cell 2 rfl
        go_wp2_with fail
        with_reducible refine (spec_CompleteGraph rn sk Ak ek ck _ _ _ hrk (by omega) rn sk ms true HCI.out).mono ?_
        rintro en w4 ⟨A4, c4, rfl, ho4, hm4⟩
        have hs4 := hm4.size
        have ha4 := Mid.alloc w4 (.cells #[.int .i64 rn, .int .i64 sk, .slice A4 ms.length c4] 29)
        have Y4 := Box.new w4 #[.int .i64 rn, .int .i64 sk, .slice A4 ms.length c4] 29
        replace B2 := B2.mid hm4 (Or.inr (Nat.zero_le _))
        replace hm := hm.trans hm4
        replace B2 := B2.mid ha4 (Or.inr (Nat.zero_le _))
        replace ho4 := ho4.mid ha4 (Or.inl (Nat.zero_le _))
        replace hm := hm.trans ha4
        clear y0 y1 y2 hrk
        have y0 := Y4.cell 0 rfl
        have y1 := Y4.cell 1 rfl
        have y2 := Y4.cell 2 rfl
        go_wp2_with fail
        with_reducible refine (HP.out _ _ _ _ _ (OG.rg ho4)).mono ?_
        rintro en w6 ⟨A6, c6, rfl, ho6, hm6⟩
        have hs6 := hm6.size
        have hs5 := ho4.size
        replace B2 := B2.mid hm6 (Or.inr (Nat.zero_le _))
        replace hm := hm.trans hm6
        have hb6 := B2.1
        have z0 := B2.cell 0 rfl
        have z1 := B2.cell 1 rfl
        have z2 := B2.cell 2 rfl
        have zf := B2.2.2
        clear y0 y1 y2 HP
        go_wp2_with fail
        refine bodyPost_ret (v := .tuple #[.agg #[.int .i64 rn, .int .i64 q, .slice A6 qs.length c6], .bool true]) (by simp [results, Tryz.results26, go_sem, z0, z1, z2, zf]) rfl ⟨A6, c6, by rw [HQ.out.1, HQ.out.2.1, HQ.out.2.2.1, HQ.out.2.2.2], ?_, ?_⟩
        · rw [HQ.out.2.2.2]
          refine OG.wide (OG.mid ho6 (a := w.heap.size + 1) (b := w.heap.size + 2) ?_ (Or.inl (by simp; omega))) (by simp; omega) (by simp) (Nat.le_refl _)
          repeat (first | exact Mid.refl _ _ _ | refine Mid.stored ?_ _ (by simp; try omega) (by simp; try omega))
        · repeat (first | exact hm | refine Mid.storeNew ?_ (by simp; try omega) _)
  · have d6 : decide ((6 : Int) < (l.length : Int)) = true := by simp; omega
    have hno : ¬ SepOk r s es l := fun h => hl6 h.2.1
    obtain ⟨rfl, rfl, rfl, rfl⟩ := HR.out.no hno
    have z0 := B2.cell 0 rfl
    have z1 := B2.cell 1 rfl
    have z2 := B2.cell 2 rfl
    have zf := B2.2.2
    clear hcor hl6 hno
    go_wp2_with fail
    refine bodyPost_ret (v := .tuple #[.agg #[.int .i64 0, .int .i64 0, .slice none 0 0], .bool false]) (by simp [results, Tryz.results26, go_sem, z0, z1, z2, zf]) rfl ⟨none, 0, rfl, OG.nil, ?_⟩
    repeat (first | exact hm0 | refine Mid.trans ?_ (Mid.alloc _ _) | refine Mid.storeNew ?_ (by simp; try omega) _)
end Go.Proofs.YtimmnnncgnnkgaaGreat

/- The law on SeparateWords: its data. -/
namespace Go.Proofs.YtimmnnncgnnkgaaGreat
set_option linter.unusedVariables false
open Go.RowKit
def SeparateWordsIs (r0 s0 : Int) (d0 : List Ed) (d1 : List (List Int)) (rr0 rs0 : Int) (res0 : List Ed) (res1 : Bool) : Prop := SepIs r0 s0 d0 d1 rr0 rs0 res0 res1
theorem SeparateWordsIs_ex (r0 s0 : Int) (d0 : List Ed) (d1 : List (List Int)) (hl0 : d0.length ≤ 1048576) (o1 : OkSS d1) (hl1 : d1.length + sumL d1 ≤ 1048576) : ∃ rr0 rs0 res0 res1, SeparateWordsIs r0 s0 d0 d1 rr0 rs0 res0 res1 := SepIs_ex r0 s0 d0 d1
theorem SeparateWordsIs_len {r0 s0 : Int} {d0 : List Ed} {d1 : List (List Int)} {rr0 rs0 : Int} {res0 : List Ed} {res1 : Bool} (h : SeparateWordsIs r0 s0 d0 d1 rr0 rs0 res0 res1) (hl0 : d0.length ≤ 1048576) (o1 : OkSS d1) (hl1 : d1.length + sumL d1 ≤ 1048576) : res0.length ≤ 1048576 := by
  have := SepIs.lens h
  omega
theorem sspec_SeparateWords (r0 s0 : Int) (A0 : Option Addr) (d0 : List Ed) (c0 : Nat) (A1 : Option Addr) (d1 : List (List Int)) (c1 : Nat) (w : World) (lo0 hi0 : Nat) (h0 : OG w lo0 hi0 A0 c0 d0) (hl0 : d0.length ≤ 1048576) (lo1 hi1 : Nat) (h1 : OSS w lo1 hi1 25 3 A1 c1 d1) (o1 : OkSS d1) (hl1 : d1.length + sumL d1 ≤ 1048576) (rr0 rs0 : Int) (res0 : List Ed) (res1 : Bool) (h : SeparateWordsIs r0 s0 d0 d1 rr0 rs0 res0 res1) :
    Calls Tryz.prog 26 #[.agg #[.int .i64 r0, .int .i64 s0, .slice A0 d0.length c0], .slice A1 d1.length c1] w fun e w' => ∃ (A : Option Addr) (c : Nat), e = .returned (.tuple #[.agg #[.int .i64 rr0, .int .i64 rs0, .slice A res0.length c], .bool res1]) ∧ OG w' w.heap.size w'.heap.size A c res0 ∧ Mid 0 0 w w' :=
  spec_SeparateWords r0 s0 A0 d0 c0 A1 d1 c1 w lo0 hi0 lo1 hi1 h0.rg h1.rsc hl0 h0.cnt.1 o1 (by omega) rr0 rs0 res0 res1 h
theorem simpl_SeparateWords (r0 s0 : Int) (A0 : Option Addr) (d0 : List Ed) (c0 : Nat) (A1 : Option Addr) (d1 : List (List Int)) (c1 : Nat) (w : World) (lo0 hi0 : Nat) (h0 : OG w lo0 hi0 A0 c0 d0) (hl0 : d0.length ≤ 1048576) (lo1 hi1 : Nat) (h1 : OSS w lo1 hi1 25 3 A1 c1 d1) (o1 : OkSS d1) (hl1 : d1.length + sumL d1 ≤ 1048576) (rr0 rs0 : Int) (res0 : List Ed) (res1 : Bool) (h : SeparateWordsIs r0 s0 d0 d1 rr0 rs0 res0 res1) :
    Calls Tryz.prog 28 #[.agg #[.int .i64 r0, .int .i64 s0, .slice A0 d0.length c0], .slice A1 d1.length c1] w fun e w' => ∃ (A : Option Addr) (c : Nat), e = .returned (.tuple #[.agg #[.int .i64 rr0, .int .i64 rs0, .slice A res0.length c], .bool res1]) ∧ OG w' w.heap.size w'.heap.size A c res0 ∧ Mid 0 0 w w' :=
  impl_SeparateWords r0 s0 A0 d0 c0 A1 d1 c1 w lo0 hi0 lo1 hi1 h0.rg h1.rsc hl0 h0.cnt.1 o1 (by omega) rr0 rs0 res0 res1 h
end Go.Proofs.YtimmnnncgnnkgaaGreat

/- Opening of a morphism that came in. -/
namespace Go.Proofs.YtimmnnncgnnkgaaGreat
set_option linter.unusedVariables false
open Go.ChangeShapes Go.WideShapes Go.ChangeAt Go.RowKit
open Go.Joins
theorem cellsSI : Tryz.prog.cellsOf 25 = 1 := by kernel_rfl
end Go.Proofs.YtimmnnncgnnkgaaGreat

/- Opening of a graph that came in: its edges read as a list. -/
namespace Go.Proofs.YtimmnnncgnnkgaaGreat
set_option linter.unusedVariables false
set_option linter.unusedSimpArgs false
open Go.ChangeShapes Go.WideShapes Go.ChangeAt Go.RowKit
open Go.Joins Go.Deep

abbrev tEL : TypeId := 80
theorem cellsEL : Tryz.prog.cellsOf 80 = 3 := by kernel_rfl
theorem undSEL : Tryz.prog.underlying 22 = some (.slice 80) := by kernel_rfl
theorem fields3 {H : Type} {enc : TypeId × Value → H} {P : Program} {w : World} {base : Nat} {spare : Nat → Bool} {held : Bool} {t : TypeId} {fs : Array Field} {fuel : Nat} {cs : List Value} {x : DataW H × List MemPlace}
    (ht : P.underlying t = some (.struct fs)) (hone : oneCellFields P fs = true) (h : DataW.trod enc P w base spare held fuel t cs = some x) (hl : cs.length = fs.size) :
    ∃ n, ∀ (j : Nat) (f : Field), fs[j]? = some f → ∃ v y, cs[j]? = some v ∧ DataW.trod enc P w base spare held n f.type [v] = some y := by
  obtain ⟨ys, n', hn', hy, hlen, hyl, hf⟩ := DataW.trod_struct ht h
  refine ⟨n', fun j f hj => ?_⟩
  obtain ⟨ho, hk⟩ := hone_of hone j f hj
  have hjl : j < fs.size := (Array.getElem?_eq_some_iff.1 hj).1
  have h1 := hf j f hj
  rw [ho, hk] at h1
  have h2 : (cs.drop j).take 1 = [cs[j]] := by
    rw [List.drop_eq_getElem_cons (by omega)]
    rfl
  rw [h2] at h1
  exact ⟨cs[j], ys[j], List.getElem?_eq_getElem (by omega), h1.trans (List.getElem?_eq_getElem (by omega))⟩
set_option maxRecDepth 100000 in
theorem edge_cells {H : Type} {enc : TypeId × Value → H} {W : World} {a : Addr} {n : Nat} {cs : List Value} {x : DataW H × List MemPlace}
    (hc : W.cells? 0 a 3 = some cs) (h : DataW.trod enc Tryz.prog W 0 (fun _ => true) true n 80 cs = some x) :
    ∃ e : Ed, W.cell? a = some (.int .i64 e.a) ∧ W.cell? (a.add 1) = some (.int .i64 e.l) ∧ W.cell? (a.add 2) = some (.int .i64 e.b) ∧ OkI (edI [e]) := by
  obtain ⟨_, hcl, hat⟩ := World.cells?_some hc
  obtain ⟨n', hf⟩ := fields3 Tryz.underlying80 (by kernel_rfl) h (by rw [hcl]; rfl)
  have h0 := hf 0 _ rfl
  have h1 := hf 1 _ rfl
  have h2 := hf 2 _ rfl
  obtain ⟨v0, y0, g0, t0⟩ := h0
  obtain ⟨v1, y1, g1, t1⟩ := h1
  obtain ⟨v2, y2, g2, t2⟩ := h2
  obtain ⟨m0, hm0, -, w0⟩ := DataW.trod_int undI t0
  obtain ⟨m1, hm1, -, w1⟩ := DataW.trod_int undI t1
  obtain ⟨m2, hm2, -, w2⟩ := DataW.trod_int undI t2
  simp at hm0 hm1 hm2
  subst hm0 hm1 hm2
  refine ⟨⟨m0, m1, m2⟩, ?_, ?_, ?_, ?_⟩
  · have := hat 0 (by omega)
    rw [show a.add 0 = a by simp [Addr.add]] at this
    rw [this, g0]
  · rw [hat 1 (by omega), g1]
  · rw [hat 2 (by omega), g2]
  · rw [edI_one]
    intro x hx
    simp at hx
    rcases hx with rfl | rfl | rfl
    · exact wf_bounds w0
    · exact wf_bounds w1
    · exact wf_bounds w2
theorem okI_edI {es : List Ed} (h : ∀ e ∈ es, OkI (edI [e])) : OkI (edI es) := by
  induction es with
  | nil => intro x hx; simp [edI] at hx
  | cons e t ih =>
    intro x hx
    rw [show e :: t = [e] ++ t from rfl, edI_append] at hx
    rcases List.mem_append.1 hx with hx | hx
    · exact h e (by simp) x hx
    · exact ih (fun f hf => h f (by simp [hf])) x hx
theorem edges_of_cells {H : Type} {enc : TypeId × Value → H} {W : World} {fuel : Nat} {A : Option Addr} {len c : Nat} {x : DataW H × List MemPlace}
    (h : DataW.trod enc Tryz.prog W 0 (fun _ => true) true fuel 22 [.slice A len c] = some x) : ∃ es : List Ed, len = es.length ∧ RG W 0 W.heap.size A es ∧ OkI (edI es) ∧ es.length ≤ 9223372036854775807 := by
  rcases open_slice undSEL h with ⟨hcs, _⟩ | ⟨a, len', cap, m, n, D, Pl, hcs, _, hl, hm, hmm, -, hi⟩
  · simp at hcs
    obtain ⟨rfl, rfl, rfl⟩ := hcs
    exact ⟨[], rfl, ⟨Nat.le_refl _, fun hn => absurd rfl hn⟩, fun x hx => by simp [edI] at hx, by simp⟩
  · simp at hcs
    obtain ⟨rfl, rfl, rfl⟩ := hcs
    simp at hmm
    subst hmm
    have hx : ∀ i, ∃ e : Ed, i < len → (W.cell? (a.add (i * 3)) = some (.int .i64 e.a) ∧ W.cell? ((a.add (i * 3)).add 1) = some (.int .i64 e.l) ∧ W.cell? ((a.add (i * 3)).add 2) = some (.int .i64 e.b) ∧ OkI (edI [e])) := by
      intro i
      by_cases hil : i < len
      · obtain ⟨cs', hc, ht'⟩ := hi i (by omega)
        rw [cellsEL] at hc
        obtain ⟨e, he⟩ := edge_cells hc ht'
        exact ⟨e, fun _ => he⟩
      · exact ⟨⟨0, 0, 0⟩, fun h => absurd h hil⟩
    obtain ⟨f, hf⟩ := Classical.axiomOfChoice hx
    refine ⟨(List.range len).map f, by simp, ⟨Nat.le_refl _, fun hne => ?_⟩, ?_, by unfold maxLen at hm; simp; omega⟩
    · have hp : 0 < len := by
        rcases Nat.eq_zero_or_pos len with h0 | h0
        · subst h0
          simp [ints, edI] at hne
        · exact h0
      have h0 := (hf 0 hp).1
      obtain ⟨b, off, spot⟩ := a
      have hspot : spot = none := by simpa [Addr.add] using World.cell?_spot h0
      subst hspot
      refine ⟨b, off, rfl, Nat.zero_le _, ?_, fun j u hu => ?_⟩
      · have := World.block_lt_of_cell? _ _ h0
        simpa [Addr.add] using this
      · have hj : j < len * 3 := by
          have := (List.getElem?_eq_some_iff.1 hu).1
          rw [ints_len, edI_len] at this
          simpa using this
        obtain ⟨k, r, hr, rfl⟩ : ∃ k r, r < 3 ∧ j = k * 3 + r := ⟨j / 3, j % 3, by omega, by omega⟩
        obtain ⟨c0, c1, c2, -⟩ := hf k (by omega)
        have hg : ((List.range len).map f)[k]? = some (f k) := by
          rw [List.getElem?_map, List.getElem?_range (by omega)]
          rfl
        obtain ⟨g0, g1, g2⟩ := edI_at hg
        rw [Addr.add_lit] at c0
        rw [Addr.add_lit, Addr.add_lit] at c1 c2
        rw [ints_get] at hu
        rcases r with _ | _ | _ | r
        · rw [Nat.add_zero, g0] at hu
          rw [Nat.add_zero, c0]
          simpa using hu
        · rw [g1] at hu
          rw [← Nat.add_assoc, c1]
          simpa using hu
        · rw [g2] at hu
          rw [← Nat.add_assoc, c2]
          simpa using hu
        · omega
    · refine okI_edI fun e he => ?_
      obtain ⟨i, hi', rfl⟩ := List.mem_map.1 he
      exact (hf i (by simpa using hi')).2.2.2
set_option maxRecDepth 100000 in
theorem open_graph {H : Type} {enc : TypeId × Value → H} {W : World} {r : Reach} {base : Nat} {v : Value} {d : DataW H} {ps : List MemPlace}
    (hok : Value.okWide Tryz.prog W r base 24 v) (h : DataW.Trod enc Tryz.prog W 0 (fun _ => true) true 24 v d ps) :
    ∃ m s A es c, v = .agg #[.int .i64 m, .int .i64 s, .slice A (List.length es) c] ∧ (Lit.int .i64 m).wf = true ∧ (Lit.int .i64 s).wf = true ∧ RG W 0 W.heap.size A es ∧ OkI (edI es) ∧ es.length ≤ 9223372036854775807 := by
  obtain ⟨v0, v1, v2, y0, y1, y2, n, rfl, -, -, h0, h1, h2⟩ := open_agg3 Tryz.underlying24 (by kernel_rfl) (by kernel_rfl) hok h
  have h0' : DataW.trod enc Tryz.prog W 0 (fun _ => true) true n 3 [v0] = some y0 := h0
  have h1' : DataW.trod enc Tryz.prog W 0 (fun _ => true) true n 3 [v1] = some y1 := h1
  have h2' : DataW.trod enc Tryz.prog W 0 (fun _ => true) true n 22 [v2] = some y2 := h2
  clear h0 h1 h2
  obtain ⟨m, hm, -, hw⟩ := DataW.trod_int undI h0'
  obtain ⟨s, hs, -, hw'⟩ := DataW.trod_int undI h1'
  obtain ⟨A, l, c, hsl⟩ := slice_form undSEL h2'
  simp at hm hs hsl
  subst hm hs hsl
  obtain ⟨es, rfl, ha, hb, hc⟩ := edges_of_cells h2'
  exact ⟨m, s, A, es, c, rfl, hw, hw', ha, hb, hc⟩
end Go.Proofs.YtimmnnncgnnkgaaGreat

/- SeparateWord, both sides. -/
namespace Go.Proofs.YtimmnnncgnnkgaaGreat
set_option linter.unusedVariables false
set_option linter.unusedSimpArgs false
open Go.RowKit

theorem rsc_one {w : World} {lo hi : Nat} {Aw : Option Addr} {wd : List Int} {cw : Nat} (h : RV w lo hi Aw (ints wd)) (hc : wd.length ≤ cw) : RSC (w.alloc (.cells #[.slice Aw wd.length cw] 25)) 0 (w.heap.size + 1) (some ⟨w.heap.size, 0, none⟩) [wd] := by
  have hal := Mid.alloc w (.cells #[.slice Aw wd.length cw] 25)
  have hs := h.1
  refine ⟨[⟨Aw, cw, wd⟩], rfl, ⟨by simp, fun _ => ⟨w.heap.size, 0, rfl, Nat.zero_le _, Nat.lt_succ_self _, fun j u hu => ?_⟩⟩, fun r hr => ?_⟩
  · refine (World.cell?_alloc_at _ _ _ _ rfl).trans ?_
    simpa [rowsV, Row.v] using hu
  · rw [List.mem_singleton] at hr
    subst hr
    exact ⟨(h.mid hal (Or.inl (Nat.zero_le _))).wide (Nat.zero_le _) (by omega) (by simp), hc⟩
theorem okss_one {wd : List Int} (h : OkI wd) (hl : wd.length ≤ 1048576) : OkSS [wd] := by
  refine ⟨⟨by simp, fun xs hx => ?_⟩, fun xs hx => ?_⟩
  · rw [List.mem_singleton] at hx
    subst hx
    omega
  · rw [List.mem_singleton] at hx
    subst hx
    exact h

set_option maxHeartbeats 1600000 in
set_option maxRecDepth 20000 in
theorem impl_SeparateWord (r s : Int) (A : Option Addr) (es : List Ed) (c : Nat) (Aw : Option Addr) (wd : List Int) (cw : Nat) (w : World) (lo hi lo' hi' : Nat) (hr : RG w lo hi A es) (hw : RV w lo' hi' Aw (ints wd)) (hl : es.length ≤ 1048576) (hcl : es.length ≤ c) (hcw : wd.length ≤ cw) (hok : OkI wd) (hwl : wd.length ≤ 1048576) (rr rs : Int) (res : List Ed) (b : Bool) (hres : SepIs r s es [wd] rr rs res b) :
    Calls Tryz.prog 13 #[graV r s A es.length c, .slice Aw wd.length cw] w fun e w' => ∃ A1 c1, e = .returned (.tuple #[graV rr rs A1 res.length c1, .bool b]) ∧ OG w' w.heap.size w'.heap.size A1 c1 res ∧ Mid 0 0 w w' := by
  have hm0 : Mid 0 0 w ((w.alloc (.cells #[.int .i64 r, .int .i64 s, .slice A es.length c] 29)).alloc (.cells #[.int .i64 0, .int .i64 0, .slice none 0 0] 29)) := (Mid.alloc _ _).trans (Mid.alloc _ _)
  have B0 := (Box.new w #[.int .i64 r, .int .i64 s, .slice A es.length c] 29).mid (Mid.alloc _ (.cells #[.int .i64 0, .int .i64 0, .slice none 0 0] 29)) (Or.inr (Nat.zero_le _))
  have B2 := Box.new (w.alloc (.cells #[.int .i64 r, .int .i64 s, .slice A es.length c] 29)) #[.int .i64 0, .int .i64 0, .slice none 0 0] 29
  simp only [World.size_alloc] at B2
  have HR := Lib.hid hres
  have HOK := Lib.hid (okss_one hok hwl)
  clear hres hok
  have hsl : sumL [wd] ≤ 1048576 := by simpa [sumL] using hwl
  go_enter Tryz.func13, Tryz.ntmps13
  have p0 := B0.cell 0 rfl
  have p1 := B0.cell 1 rfl
  have p2 := B0.cell 2 rfl
  go_wp2_with fail
  generalize hw1 : (w.alloc (.cells #[.int .i64 r, .int .i64 s, .slice A es.length c] 29)).alloc (.cells #[.int .i64 0, .int .i64 0, .slice none 0 0] 29) = w1 at hm0 B0 B2 p0 p1 p2 ⊢
  have hsz : w1.heap.size = w.heap.size + 1 + 1 := by rw [← hw1]; simp
  have hs1 : w.heap.size + 1 < w1.heap.size := B2.1
  have hsc := rsc_one (hw.mid hm0 (Or.inl (Nat.zero_le _))) hcw
  rw [hsz] at hsc
  have hal := Mid.alloc w1 (.cells #[.slice Aw wd.length cw] 25)
  replace B0 := B0.mid hal (Or.inr (Nat.zero_le _))
  replace B2 := B2.mid hal (Or.inr (Nat.zero_le _))
  replace hm0 := hm0.trans hal
  generalize hw2 : w1.alloc (.cells #[.slice Aw wd.length cw] 25) = w2 at hm0 B0 B2 hsc hal ⊢
  have hs2 := hal.size
  clear p0 p1 p2 hw1 hw2
  have hcall := impl_SeparateWords r s A es c (some ⟨w.heap.size + 1 + 1, 0, none⟩) [wd] 1 w2 _ _ _ _ (hr.mid hm0 (Or.inl (Nat.zero_le _))) hsc hl hcl HOK.out hsl rr rs res b HR.out
  rw [List.length_singleton] at hcall
  with_reducible refine hcall.mono ?_
  clear hcall
  rintro en w5 ⟨A5, c5, rfl, ho5, hm5⟩
  have hs5 := hm5.size
  replace B2 := B2.mid hm5 (Or.inr (Nat.zero_le _))
  replace hm0 := hm0.trans hm5
  have hb5 : w.heap.size + 1 < w5.heap.size := B2.1
  have z0 := B2.cell 0 rfl
  have z1 := B2.cell 1 rfl
  have z2 := B2.cell 2 rfl
  have zf := B2.2.2
  go_wp2_with fail
  refine bodyPost_ret (v := .tuple #[.agg #[.int .i64 rr, .int .i64 rs, .slice A5 res.length c5], .bool b]) (by simp [results, Tryz.results13, go_sem, z0, z1, z2, zf]) rfl ⟨A5, c5, rfl, ?_, ?_⟩
  · refine OG.wide (OG.mid ho5 (a := w.heap.size + 1) (b := w.heap.size + 2) ?_ (Or.inl (by omega))) (by omega) (by simp) (Nat.le_refl _)
    repeat (first | exact Mid.refl _ _ _ | refine Mid.trans ?_ (Mid.zero (Mid.alloc _ _)) | refine Mid.stored ?_ _ (by simp; try omega) (by simp; try omega))
  · repeat (first | exact hm0 | refine Mid.trans ?_ (Mid.alloc _ _) | refine Mid.storeNew ?_ (by simp; try omega) _)

set_option maxHeartbeats 1600000 in
set_option maxRecDepth 20000 in
theorem spec_SeparateWord (r s : Int) (A : Option Addr) (es : List Ed) (c : Nat) (Aw : Option Addr) (wd : List Int) (cw : Nat) (w : World) (lo hi lo' hi' : Nat) (hr : RG w lo hi A es) (hw : RV w lo' hi' Aw (ints wd)) (hl : es.length ≤ 1048576) (hcl : es.length ≤ c) (hcw : wd.length ≤ cw) (hok : OkI wd) (hwl : wd.length ≤ 1048576) (rr rs : Int) (res : List Ed) (b : Bool) (hres : SepIs r s es [wd] rr rs res b) :
    Calls Tryz.prog 10 #[graV r s A es.length c, .slice Aw wd.length cw] w fun e w' => ∃ A1 c1, e = .returned (.tuple #[graV rr rs A1 res.length c1, .bool b]) ∧ OG w' w.heap.size w'.heap.size A1 c1 res ∧ Mid 0 0 w w' := by
  have hm0 : Mid 0 0 w ((w.alloc (.cells #[.int .i64 r, .int .i64 s, .slice A es.length c] 29)).alloc (.cells #[.int .i64 0, .int .i64 0, .slice none 0 0] 29)) := (Mid.alloc _ _).trans (Mid.alloc _ _)
  have B0 := (Box.new w #[.int .i64 r, .int .i64 s, .slice A es.length c] 29).mid (Mid.alloc _ (.cells #[.int .i64 0, .int .i64 0, .slice none 0 0] 29)) (Or.inr (Nat.zero_le _))
  have B2 := Box.new (w.alloc (.cells #[.int .i64 r, .int .i64 s, .slice A es.length c] 29)) #[.int .i64 0, .int .i64 0, .slice none 0 0] 29
  simp only [World.size_alloc] at B2
  have HR := Lib.hid hres
  have HOK := Lib.hid (okss_one hok hwl)
  clear hres hok
  have hsl : sumL [wd] ≤ 1048576 := by simpa [sumL] using hwl
  go_enter Tryz.func10, Tryz.ntmps10
  have p0 := B0.cell 0 rfl
  have p1 := B0.cell 1 rfl
  have p2 := B0.cell 2 rfl
  go_wp2_with fail
  generalize hw1 : (w.alloc (.cells #[.int .i64 r, .int .i64 s, .slice A es.length c] 29)).alloc (.cells #[.int .i64 0, .int .i64 0, .slice none 0 0] 29) = w1 at hm0 B0 B2 p0 p1 p2 ⊢
  have hsz : w1.heap.size = w.heap.size + 1 + 1 := by rw [← hw1]; simp
  have hs1 : w.heap.size + 1 < w1.heap.size := B2.1
  have hsc := rsc_one (hw.mid hm0 (Or.inl (Nat.zero_le _))) hcw
  rw [hsz] at hsc
  have hal := Mid.alloc w1 (.cells #[.slice Aw wd.length cw] 25)
  replace B0 := B0.mid hal (Or.inr (Nat.zero_le _))
  replace B2 := B2.mid hal (Or.inr (Nat.zero_le _))
  replace hm0 := hm0.trans hal
  generalize hw2 : w1.alloc (.cells #[.slice Aw wd.length cw] 25) = w2 at hm0 B0 B2 hsc hal ⊢
  have hs2 := hal.size
  clear p0 p1 p2 hw1 hw2
  have hcall := spec_SeparateWords r s A es c (some ⟨w.heap.size + 1 + 1, 0, none⟩) [wd] 1 w2 _ _ _ _ (hr.mid hm0 (Or.inl (Nat.zero_le _))) hsc hl hcl HOK.out hsl rr rs res b HR.out
  rw [List.length_singleton] at hcall
  with_reducible refine hcall.mono ?_
  clear hcall
  rintro en w5 ⟨A5, c5, rfl, ho5, hm5⟩
  have hs5 := hm5.size
  replace B2 := B2.mid hm5 (Or.inr (Nat.zero_le _))
  replace hm0 := hm0.trans hm5
  have hb5 : w.heap.size + 1 < w5.heap.size := B2.1
  have z0 := B2.cell 0 rfl
  have z1 := B2.cell 1 rfl
  have z2 := B2.cell 2 rfl
  have zf := B2.2.2
  have Y5 := Box.new w5 #[.int .i64 rr, .int .i64 rs, .slice A5 res.length c5] 29
  have q0 := Y5.cell 0 rfl
  have q1 := Y5.cell 1 rfl
  have q2 := Y5.cell 2 rfl
  go_wp2_with fail
  refine bodyPost_ret (v := .tuple #[.agg #[.int .i64 rr, .int .i64 rs, .slice A5 res.length c5], .bool b]) (by simp [results, Tryz.results10, go_sem, z0, z1, z2, zf, q0, q1, q2, hb5, World.cell?_alloc_lt]) rfl ⟨A5, c5, rfl, ?_, ?_⟩
  · refine OG.wide (OG.mid ho5 (a := w.heap.size + 1) (b := w.heap.size + 2) ?_ (Or.inl (by omega))) (by omega) (by simp) (Nat.le_refl _)
    repeat (first | exact Mid.refl _ _ _ | refine Mid.trans ?_ (Mid.zero (Mid.alloc _ _)) | refine Mid.stored ?_ _ (by simp; try omega) (by simp; try omega))
  · repeat (first | exact hm0 | refine Mid.trans ?_ (Mid.alloc _ _) | refine Mid.storeNew ?_ (by simp; try omega) _)
end Go.Proofs.YtimmnnncgnnkgaaGreat

/- The law on ConjugateSubgroup: its data. -/
namespace Go.Proofs.YtimmnnncgnnkgaaGreat
set_option linter.unusedVariables false
open Go.RowKit
theorem OI.capC {w : World} {lo hi : Nat} {A : Option Addr} {c : Nat} {xs : List Int} (h : OI w lo hi A c xs) : xs.length ≤ c := by
  obtain ⟨A', c', he, hn, -⟩ := owns_shape h.2.1
  injection he with _ _ hc
  omega
def ConjugateSubgroupIs (r0 s0 : Int) (d0 : List Ed) (d1 : List Int) (rr0 rs0 : Int) (res0 : List Ed) (res1 : Bool) : Prop := CjIs r0 s0 d0 d1 rr0 rs0 res0 res1
end Go.Proofs.YtimmnnncgnnkgaaGreat

/- The law on SeparateWord: its data. -/
namespace Go.Proofs.YtimmnnncgnnkgaaGreat
set_option linter.unusedVariables false
open Go.RowKit
def SeparateWordIs (r0 s0 : Int) (d0 : List Ed) (d1 : List Int) (rr0 rs0 : Int) (res0 : List Ed) (res1 : Bool) : Prop := SepIs r0 s0 d0 [d1] rr0 rs0 res0 res1
theorem SeparateWordIs_ex (r0 s0 : Int) (d0 : List Ed) (d1 : List Int) (hl0 : d0.length ≤ 1048576) (o1 : OkI d1) (hl1 : d1.length ≤ 1048576) : ∃ rr0 rs0 res0 res1, SeparateWordIs r0 s0 d0 d1 rr0 rs0 res0 res1 := SepIs_ex r0 s0 d0 [d1]
theorem SeparateWordIs_len {r0 s0 : Int} {d0 : List Ed} {d1 : List Int} {rr0 rs0 : Int} {res0 : List Ed} {res1 : Bool} (h : SeparateWordIs r0 s0 d0 d1 rr0 rs0 res0 res1) (hl0 : d0.length ≤ 1048576) (o1 : OkI d1) (hl1 : d1.length ≤ 1048576) : res0.length ≤ 1048576 := by
  have := SepIs.lens h
  omega
theorem sspec_SeparateWord (r0 s0 : Int) (A0 : Option Addr) (d0 : List Ed) (c0 : Nat) (A1 : Option Addr) (d1 : List Int) (c1 : Nat) (w : World) (lo0 hi0 : Nat) (h0 : OG w lo0 hi0 A0 c0 d0) (hl0 : d0.length ≤ 1048576) (lo1 hi1 : Nat) (h1 : OI w lo1 hi1 A1 c1 d1) (o1 : OkI d1) (hl1 : d1.length ≤ 1048576) (rr0 rs0 : Int) (res0 : List Ed) (res1 : Bool) (h : SeparateWordIs r0 s0 d0 d1 rr0 rs0 res0 res1) :
    Calls Tryz.prog 10 #[.agg #[.int .i64 r0, .int .i64 s0, .slice A0 d0.length c0], .slice A1 d1.length c1] w fun e w' => ∃ (A : Option Addr) (c : Nat), e = .returned (.tuple #[.agg #[.int .i64 rr0, .int .i64 rs0, .slice A res0.length c], .bool res1]) ∧ OG w' w.heap.size w'.heap.size A c res0 ∧ Mid 0 0 w w' :=
  spec_SeparateWord r0 s0 A0 d0 c0 A1 d1 c1 w lo0 hi0 lo1 hi1 h0.rg h1.ri hl0 h0.cnt.1 h1.capC o1 hl1 rr0 rs0 res0 res1 h
theorem simpl_SeparateWord (r0 s0 : Int) (A0 : Option Addr) (d0 : List Ed) (c0 : Nat) (A1 : Option Addr) (d1 : List Int) (c1 : Nat) (w : World) (lo0 hi0 : Nat) (h0 : OG w lo0 hi0 A0 c0 d0) (hl0 : d0.length ≤ 1048576) (lo1 hi1 : Nat) (h1 : OI w lo1 hi1 A1 c1 d1) (o1 : OkI d1) (hl1 : d1.length ≤ 1048576) (rr0 rs0 : Int) (res0 : List Ed) (res1 : Bool) (h : SeparateWordIs r0 s0 d0 d1 rr0 rs0 res0 res1) :
    Calls Tryz.prog 13 #[.agg #[.int .i64 r0, .int .i64 s0, .slice A0 d0.length c0], .slice A1 d1.length c1] w fun e w' => ∃ (A : Option Addr) (c : Nat), e = .returned (.tuple #[.agg #[.int .i64 rr0, .int .i64 rs0, .slice A res0.length c], .bool res1]) ∧ OG w' w.heap.size w'.heap.size A c res0 ∧ Mid 0 0 w w' :=
  impl_SeparateWord r0 s0 A0 d0 c0 A1 d1 c1 w lo0 hi0 lo1 hi1 h0.rg h1.ri hl0 h0.cnt.1 h1.capC o1 hl1 rr0 rs0 res0 res1 h
end Go.Proofs.YtimmnnncgnnkgaaGreat
