/- Contracts and lemmas of this seat, many texts in one: see the words ahead of each. No condition beyond those typed in each lemma. -/
import Derived.Test.YtkaofcakelpnpaaGreatIm3
import Derived.Test.YtkaofcakelpnpaaGreatIm1
import Derived.Test.YtkaofcakelpnpaaGreatIm2
import Derived.Deep.RegionHeld3

namespace Go.Proofs.YtkaofcakelpnpaaGreat
set_option linter.unusedVariables false
set_option linter.unusedSimpArgs false
open Classical in
noncomputable def cmpX (p q : List Int) : List Int := if IsPerm p ∧ IsPerm q ∧ p.length = q.length then composeP p q else []
open Classical in
noncomputable def grpRow (q : List Int) : List (List Int) → List (List Int) → Option (List (List Int))
  | [], st => some st
  | p :: t, st => if cmpX q p ∈ st then grpRow q t st else if st.length = 200 then none else grpRow q t (st ++ [cmpX q p])
noncomputable def grpRun (act : List (List Int)) : Nat → Nat → List (List Int) → List (List Int)
  | 0, _, st => st
  | f + 1, i, st => match st[i]? with
    | none => st
    | some q => match grpRow q act st with
      | none => []
      | some st' => grpRun act f (i + 1) st'
end Go.Proofs.YtkaofcakelpnpaaGreat

namespace Go.Proofs.YtkaofcakelpnpaaGreat
set_option linter.unusedVariables false
set_option linter.unusedSimpArgs false
open Go.RowKit
theorem fill_neg {n k : Nat} (h : k < n) : (ints (List.replicate k (-1)) ++ (List.replicate n (Value.int .i64 0)).drop k).set k (.int .i64 (-1)) = ints (List.replicate (k + 1) (-1)) ++ (List.replicate n (Value.int .i64 0)).drop (k + 1) := by
  rw [set_over _ _ _ (by rw [ints_len, List.length_replicate]) (by simpa using h), List.replicate_succ', ints_append]
  rfl
set_option maxHeartbeats 6400000 in
set_option maxRecDepth 100000 in
theorem impl_part (r : Int) (n : Nat) (A : Option Addr) (es : List Ed) (c : Nat) (Ao : Option Addr) (ord : List Int) (co : Nat) (w : World) (lo hi lo' hi' : Nat) (hr : RG w lo hi A es) (hro : RV w lo' hi' Ao (ints ord)) (hg : IsGr r n es)
    (hnd : ord.Nodup) (hin : ∀ x ∈ ord, 0 ≤ x ∧ x < (n : Int)) :
    Calls Tryz.prog 79 #[graV r n A es.length c, .slice Ao ord.length co] w fun e w' => ∃ A1 c1, e = .returned (graV r ord.length A1 (partE ord es).length c1) ∧ OG w' w.heap.size w'.heap.size A1 c1 (partE ord es) ∧ Mid 0 0 w w' := by
  have hn40 : n ≤ 40 := by have := hg.size; omega
  have hl := hg.len
  have hol : ord.length ≤ n := nodup_le n ord hnd hin
  have hmx : n ≤ maxLen := by unfold maxLen; omega
  have HG := Lib.hid hg
  have HND := Lib.hid hnd
  have HIN := Lib.hid hin
  have hm0 : Mid 0 0 w ((w.alloc (.cells #[.int .i64 r, .int .i64 n, .slice A es.length c] 32)).alloc (.cells #[.int .i64 0, .int .i64 0, .slice none 0 0] 32)) := (Mid.alloc _ _).trans (Mid.alloc _ _)
  have B0 := (Box.new w #[.int .i64 r, .int .i64 n, .slice A es.length c] 32).mid (Mid.alloc _ (.cells #[.int .i64 0, .int .i64 0, .slice none 0 0] 32)) oZr
  have B2 := Box.new (w.alloc (.cells #[.int .i64 r, .int .i64 n, .slice A es.length c] 32)) #[.int .i64 0, .int .i64 0, .slice none 0 0] 32
  simp only [World.size_alloc] at B2
  clear hg hnd hin
  go_enter Tryz.func79, Tryz.ntmps79
  go_wp2_with (at_make; refine wpList_mk rfl _ _ 48 rfl 3 (.int .i64 0) 8 undSI infoI rfl .i64 .i64 _ _ n rfl rfl rfl rfl (by omega) hmx ?_; intro w2 hown2 hgr2 hsz2)
  simp only [World.size_alloc, Nat.add_assoc, Nat.reduceAdd] at hown2 hsz2
  have hm2 := Mid.of_grown (lo := 0) (hi := 0) hgr2 (by intro g h; cases h)
  replace B0 := B0.mid hm2 oZr
  replace B2 := B2.mid hm2 oZr
  replace hm0 := hm0.trans hm2
  clear hgr2 hm2
  go_loopw [17] (fun i wr => ∃ k : Nat, k ≤ n ∧ i = .int .i64 k ∧ wr.ownsRow (w.heap.size + 2) 3 1 (.slice (some ⟨w.heap.size + 2, 0, none⟩) n n) n (ints (List.replicate k (-1)) ++ (List.replicate n (Value.int .i64 0)).drop k) ∧
      Box wr w.heap.size [.int .i64 r, .int .i64 n, .slice A es.length c] ∧ Box wr (w.heap.size + 1) [.int .i64 0, .int .i64 0, .slice none 0 0] ∧ Mid 0 0 w wr) (fun i _ => n - (intOf i).toNat)
  case atStart => exact ⟨0, Nat.zero_le _, rfl, by simpa [ints] using hown2, B0, B2, hm0⟩
  case round =>
    clear hown2 B0 B2 hm0 hsz2
    obtain ⟨wo, hwo⟩ : ∃ wo, wo = wr := ⟨_, rfl⟩
    subst hwo
    obtain ⟨k, hk, rfl, hown, b0, b2, hm⟩ := hrel
    by_cases hlt : k < n
    · obtain ⟨u, -, hcs⟩ := owns_cell hown hlt
      have hfz := hown.frozenAt k
      have hset := owns_set hown k (.int .i64 (-1)) (fill_neg hlt)
      have hst := Mid.setAt wo (w.heap.size + 2) k (.int .i64 (-1))
      have hms := hm.storeNew (p := ⟨w.heap.size + 2, k, none⟩) (by show w.heap.size ≤ w.heap.size + 2; omega) (.int .i64 (-1))
      have c0 := b0.mid hst (Or.inl (by omega))
      have c2 := b2.mid hst (Or.inl (by omega))
      have hk1 : (k : Int) < (n : Int) := by omega
      have hk0 : (0 : Int) ≤ (k : Int) := by omega
      clear hown b0 b2 hm hst
      go_wp2_with fail
      go_roundw
      case rel => exact ⟨k + 1, by omega, by go_num, hset, c0, c2, hms⟩
      case measure => simp [intOf]; omega
    · obtain rfl : k = n := by omega
      rw [List.drop_of_length_le (by simp), List.append_nil, ← placeL_nil] at hown
      go_wp2_with fail
      go_loopw [26] (fun i wr => ∃ j : Nat, j ≤ ord.length ∧ i = .int .i64 j ∧ wr.ownsRow (w.heap.size + 2) 3 1 (.slice (some ⟨w.heap.size + 2, 0, none⟩) k k) k (ints (placeL k (ord.take j))) ∧
          Box wr w.heap.size [.int .i64 r, .int .i64 k, .slice A es.length c] ∧ Box wr (w.heap.size + 1) [.int .i64 0, .int .i64 0, .slice none 0 0] ∧ Mid 0 0 w wr) (fun i _ => ord.length - (intOf i).toNat)
      case atStart => exact ⟨0, Nat.zero_le _, rfl, by rw [List.take_zero]; exact hown, b0, b2, hm⟩
      case round =>
        clear hown b0 b2 hm
        obtain ⟨wi, hwi⟩ : ∃ wi, wi = wr := ⟨_, rfl⟩
        subst hwi
        obtain ⟨j, hj, rfl, hown, b0, b2, hm⟩ := hrel
        by_cases hlt2 : j < ord.length
        · obtain ⟨B, off, x, rfl, hbh, hx, hcx⟩ := (hro.mid hm oZl).at hlt2
          have hxr := HIN.out x (List.mem_of_getElem? hx)
          obtain ⟨m, rfl⟩ : ∃ m : Nat, x = m := ⟨x.toNat, by omega⟩
          have hmk : m < k := by omega
          obtain ⟨u, -, hcs⟩ := owns_cell hown hmk
          have hfz := hown.frozenAt m
          have hset := owns_set (ys := ints (placeL k (ord.take (j + 1)))) hown m (.int .i64 j) (by rw [← placeL_set HND.out hx hmk]; simp [ints])
          have hst := Mid.setAt wi (w.heap.size + 2) m (.int .i64 j)
          have hms := hm.storeNew (p := ⟨w.heap.size + 2, m, none⟩) (by show w.heap.size ≤ w.heap.size + 2; omega) (.int .i64 j)
          have c0 := b0.mid hst (Or.inl (by omega))
          have c2 := b2.mid hst (Or.inl (by omega))
          have hm1 : (m : Int) < (k : Int) := by omega
          have hm0 : (0 : Int) ≤ (m : Int) := by omega
          have hj1 : (j : Int) < (ord.length : Int) := by omega
          have hj0 : (0 : Int) ≤ (j : Int) := by omega
          clear hown b0 b2 hm hst hx
          go_wp2_with fail
          go_roundw
          case rel => exact ⟨j + 1, by omega, by go_num, hset, c0, c2, hms⟩
          case measure => simp [intOf]; omega
        · obtain rfl : j = ord.length := by omega
          rw [List.take_length] at hown
          have p0 := b0.cell 0 rfl
          have p1 := b0.cell 1 rfl
          have p2 := b0.cell 2 rfl
          have hws := b2.1
          have hws0 := b0.1
          have hal := Mid.alloc wi (.cells #[.int .i64 r, .int .i64 ord.length, .slice none 0 0] 32)
          have Y3 := Box.new wi #[.int .i64 r, .int .i64 ord.length, .slice none 0 0] 32
          go_wp2_with fail
          have hpl : w.heap.size + 2 < wi.heap.size := (hown.lt _ rfl).2
          obtain ⟨G, hG⟩ : ∃ G, wi.heap.size = G := ⟨_, rfl⟩
          have O0 : (wi.alloc (.cells #[.int .i64 r, .int .i64 ord.length, .slice none 0 0] 32)).ownsRow (G + 1) 64 3 (.slice none 0 0) 0 [] := ⟨rfl, .inl ⟨rfl, rfl⟩⟩
          have hownP := hown.alloc (.cells #[.int .i64 r, .int .i64 ord.length, .slice none 0 0] 32)
          replace b0 := b0.mid hal oZr
          replace b2 := b2.mid hal oZr
          replace hm := hm.trans hal
          have hw5s : (wi.alloc (.cells #[.int .i64 r, .int .i64 ord.length, .slice none 0 0] 32)).heap.size = G + 1 := by rw [World.size_alloc, hG]
          generalize wi.alloc (.cells #[.int .i64 r, .int .i64 ord.length, .slice none 0 0] 32) = w5 at O0 hownP Y3 b0 b2 hm hw5s ⊢
          rw [hG] at Y3 hpl hws hws0 ⊢
          clear hown hG hal p0 p1 p2
          go_loopw [44] (fun i wr => ∃ (q : Nat) (A2 : Option Addr) (n2 c2 : Nat), q ≤ es.length ∧ i = .int .i64 q ∧ Hid (((es.take q).filterMap (partOf ord)).length = n2) ∧
              wr.ownsRow (G + 1) 64 3 (.slice A2 n2 c2) n2 (ints (edI ((es.take q).filterMap (partOf ord)))) ∧ wr.ownsRow (w.heap.size + 2) 3 1 (.slice (some ⟨w.heap.size + 2, 0, none⟩) k k) k (ints (placeL k ord)) ∧
              Box wr w.heap.size [.int .i64 r, .int .i64 k, .slice A es.length c] ∧ Box wr (w.heap.size + 1) [.int .i64 0, .int .i64 0, .slice none 0 0] ∧ Box wr G [.int .i64 r, .int .i64 ord.length, .slice A2 n2 c2] ∧ Mid 0 0 w wr) (fun i _ => es.length - (intOf i).toNat)
          case atStart => exact ⟨0, none, 0, 0, Nat.zero_le _, rfl, Lib.hid rfl, by simpa [edI, ints] using O0, hownP, b0, b2, Y3, hm⟩
          case round =>
            clear O0 hownP b0 b2 Y3 hm hw5s
            obtain ⟨q, A2, n2, c2, hq, rfl, HN, hown, hownP, b0, b2, Y3, hm⟩ := hrel
            have hn2 : n2 ≤ 120 := by have h1 := List.length_filterMap_le (partOf ord) (es.take q); have h2 := HN.out; simp at h1; omega
            by_cases hlt3 : q < es.length
            · obtain ⟨B, off, e, rfl, -, hbh, he, e0, e1, e2⟩ := (hr.mid hm oZl).ed hlt3
              have hin := HG.out.all e (List.mem_of_getElem? he)
              have htk : (es.take (q + 1)).filterMap (partOf ord) = (es.take q).filterMap (partOf ord) ++ (partOf ord e).toList := by
                rw [take_snoc he, List.filterMap_append]
                cases hd : partOf ord e <;> simp [hd]
              obtain ⟨i1, i2, i3, i4, i5, i6⟩ := hin
              obtain ⟨x, l, y⟩ := e
              simp only at i1 i2 i3 i4 i5 i6 e0 e1 e2 htk
              obtain ⟨ia, rfl⟩ : ∃ ia : Nat, x = ia := ⟨x.toNat, by omega⟩
              obtain ⟨ib, rfl⟩ : ∃ ib : Nat, y = ib := ⟨y.toNat, by omega⟩
              have hia : ia < k := by omega
              have hib : ib < k := by omega
              have hq0 : (0 : Int) ≤ (q : Int) := by omega
              have hq1 : (q : Int) < (es.length : Int) := by omega
              have hal := Mid.alloc wr (.cells #[.int .i64 ia, .int .i64 l, .int .i64 ib] 64)
              have ZE := Box.new wr #[.int .i64 ia, .int .i64 l, .int .i64 ib] 64
              have hgs : w.heap.size + 2 < wr.heap.size := (hownP.lt _ rfl).2
              have hGr : G < wr.heap.size := Y3.1
              have hbE : Value.ownBlock (.slice A2 n2 c2) ≠ some wr.heap.size := fun h => by have := (hown.lt _ h).2; omega
              have hbk : Value.ownBlock (.slice A2 n2 c2) ≠ some G := fun h => by have := (hown.lt _ h).1; omega
              have hownV := hown.alloc (.cells #[.int .i64 ia, .int .i64 l, .int .i64 ib] 64)
              replace b0 := b0.mid hal oZr
              replace b2 := b2.mid hal oZr
              replace Y3 := Y3.mid hal oZr
              replace hownP := owns_mid hownP hal oZl
              replace hm := hm.trans hal
              obtain ⟨pa, hpa⟩ : ∃ pa, idxI ord ia = pa := ⟨_, rfl⟩
              obtain ⟨pb, hpb⟩ : ∃ pb, idxI ord ib = pb := ⟨_, rfl⟩
              have hga : (ints (placeL k ord))[ia]? = some (.int .i64 pa) := by rw [ints_get, placeL_get ord hia, hpa]; rfl
              have hgb : (ints (placeL k ord))[ib]? = some (.int .i64 pb) := by rw [ints_get, placeL_get ord hib, hpb]; rfl
              have hca := (hownP.cellAt ia (by omega)).trans hga
              have hcb := (hownP.cellAt ib (by omega)).trans hgb
              have HTK := Lib.hid htk
              have HPA := Lib.hid hpa
              have HPB := Lib.hid hpb
              have HGA := Lib.hid hga
              have HGB := Lib.hid hgb
              clear he htk hpa hpb hown hga hgb
              by_cases hok : 0 ≤ pa ∧ 0 ≤ pb
              · have hpo : partOf ord ⟨(ia : Int), l, (ib : Int)⟩ = some ⟨pa, l, pb⟩ := by
                  unfold partOf
                  simp only [HPA.out, HPB.out]
                  rw [if_pos hok]
                have HT : Hid ((es.take (q + 1)).filterMap (partOf ord) = (es.take q).filterMap (partOf ord) ++ [⟨pa, l, pb⟩]) := Lib.hid (by rw [HTK.out, hpo]; rfl)
                have d1 : decide (0 ≤ pa) = true := by simpa using hok.1
                have d2 : decide (0 ≤ pb) = true := by simpa using hok.2
                clear hpo hok
                go_wp2_with fail
                clear e0 e1 e2 hca hcb d1 d2
                generalize hwx : wr.alloc (.cells #[.int .i64 ia, .int .i64 l, .int .i64 ib] 64) = wx at ZE b0 b2 Y3 hownV hownP hm ⊢
                generalize hgE : wr.heap.size = E at ZE hgs hGr hbE ⊢
                clear hgE hwx hal
                have hmd := Mid.drew1 wx
                replace b0 := b0.mid hmd oZr
                replace b2 := b2.mid hmd oZr
                replace Y3 := Y3.mid hmd oZr
                replace ZE := ZE.mid hmd oZr
                replace hownV := owns_mid hownV hmd oZl
                replace hownP := owns_mid hownP hmd oZl
                replace hm := hm.trans hmd
                have hca := (hownP.cellAt ia (by omega)).trans HGA.out
                have hcb := (hownP.cellAt ib (by omega)).trans HGB.out
                have f0 := ZE.cell 0 rfl
                have f1 := ZE.cell 1 rfl
                have f2 := ZE.cell 2 rfl
                have g2 := Y3.cell 2 rfl
                clear hmd
                refine wp_region_T (S := (fun w' => w'.cell? ⟨E, 0, none⟩ = some (.int .i64 ia) ∧ w'.cell? ⟨E, 1, none⟩ = some (.int .i64 l) ∧ w'.cell? ⟨E, 2, none⟩ = some (.int .i64 ib) ∧ w'.cell? ⟨G, 2, none⟩ = some (.slice A2 n2 c2) ∧ w'.cell? ⟨w.heap.size + 2, ia, none⟩ = some (.int .i64 pa) ∧ w'.cell? ⟨w.heap.size + 2, ib, none⟩ = some (.int .i64 pb))) 18 (by kernel_rfl) ⟨f0, f1, f2, g2, hca, hcb⟩ ?_
                generalize World.drew wx = wz at b0 b2 Y3 ZE hownV hownP hm f0 f1 f2 g2 hca hcb ⊢
                have hS : wz.cell? ⟨E, 0, none⟩ = some (.int .i64 ia) ∧ wz.cell? ⟨E, 1, none⟩ = some (.int .i64 l) ∧ wz.cell? ⟨E, 2, none⟩ = some (.int .i64 ib) ∧ wz.cell? ⟨G, 2, none⟩ = some (.slice A2 n2 c2) ∧ wz.cell? ⟨w.heap.size + 2, ia, none⟩ = some (.int .i64 pa) ∧ wz.cell? ⟨w.heap.size + 2, ib, none⟩ = some (.int .i64 pb) := ⟨f0, f1, f2, g2, hca, hcb⟩
                refine wpAnyT_take (i := 0) (v := ?_) rfl (by kernel_rfl) (by kernel_rfl) (by kernel_rfl) (by kernel_rfl) (fun _ _ _ h => h) (Or.inl ⟨by rfl, ?_⟩) hS ?_
                rotate_left
                focus (intro w hSw; (try dsimp only at hSw); go_simp; try with_reducible rfl)
                try simp only [Act.put, List.setIfInBounds_toArray, List.set_cons_zero, List.set_cons_succ, List.getElem_toArray, List.getElem_cons_zero, List.getElem_cons_succ]
                refine wpAnyT_take (i := 1) (v := ?_) rfl (by kernel_rfl) (by kernel_rfl) (by kernel_rfl) (by kernel_rfl) (fun _ _ _ h => h) (Or.inl ⟨by rfl, ?_⟩) hS ?_
                rotate_left
                focus (intro w hSw; (try dsimp only at hSw); go_simp; try with_reducible rfl)
                try simp only [Act.put, List.setIfInBounds_toArray, List.set_cons_zero, List.set_cons_succ, List.getElem_toArray, List.getElem_cons_zero, List.getElem_cons_succ]
                refine wpAnyT_take (i := 2) (v := ?_) rfl (by kernel_rfl) (by kernel_rfl) (by kernel_rfl) (by kernel_rfl) (fun _ _ _ h => h) (Or.inl ⟨by rfl, ?_⟩) hS ?_
                rotate_left
                focus (intro w hSw; (try dsimp only at hSw); go_simp; try with_reducible rfl)
                try simp only [Act.put, List.setIfInBounds_toArray, List.set_cons_zero, List.set_cons_succ, List.getElem_toArray, List.getElem_cons_zero, List.getElem_cons_succ]
                refine wpAnyT_take (i := 3) (v := ?_) rfl (by kernel_rfl) (by kernel_rfl) (by kernel_rfl) (by kernel_rfl) (fun _ _ _ h => h) (Or.inl ⟨by rfl, ?_⟩) hS ?_
                rotate_left
                focus (intro w hSw; (try dsimp only at hSw); go_simp; try with_reducible rfl)
                try simp only [Act.put, List.setIfInBounds_toArray, List.set_cons_zero, List.set_cons_succ, List.getElem_toArray, List.getElem_cons_zero, List.getElem_cons_succ]
                refine wpAnyT_take (i := 4) (v := ?_) rfl (by kernel_rfl) (by kernel_rfl) (by kernel_rfl) (by kernel_rfl) (fun _ _ _ h => h) (Or.inl ⟨by rfl, ?_⟩) hS ?_
                rotate_left
                focus (intro w hSw; (try dsimp only at hSw); go_simp; try with_reducible rfl)
                try simp only [Act.put, List.setIfInBounds_toArray, List.set_cons_zero, List.set_cons_succ, List.getElem_toArray, List.getElem_cons_zero, List.getElem_cons_succ]
                refine wpAnyT_take (i := 5) (v := ?_) rfl (by kernel_rfl) (by kernel_rfl) (by kernel_rfl) (by kernel_rfl) (fun _ _ _ h => h) (Or.inl ⟨by rfl, ?_⟩) hS ?_
                rotate_left
                focus (intro w hSw; (try dsimp only at hSw); go_simp; try with_reducible rfl)
                try simp only [Act.put, List.setIfInBounds_toArray, List.set_cons_zero, List.set_cons_succ, List.getElem_toArray, List.getElem_cons_zero, List.getElem_cons_succ]
                refine wpAnyT_take (i := 6) (v := ?_) rfl (by kernel_rfl) (by kernel_rfl) (by kernel_rfl) (by kernel_rfl) (fun _ _ _ h => h) (Or.inl ⟨by rfl, ?_⟩) hS ?_
                rotate_left
                focus (intro w hSw; (try dsimp only at hSw); go_simp; try with_reducible rfl)
                try simp only [Act.put, List.setIfInBounds_toArray, List.set_cons_zero, List.set_cons_succ, List.getElem_toArray, List.getElem_cons_zero, List.getElem_cons_succ]
                refine wpAnyT_take (i := 7) (v := ?_) rfl (by kernel_rfl) (by kernel_rfl) (by kernel_rfl) (by kernel_rfl) (fun _ _ _ h => h) (Or.inl ⟨by rfl, ?_⟩) hS ?_
                rotate_left
                focus (intro w hSw; (try dsimp only at hSw); go_simp; try with_reducible rfl)
                try simp only [Act.put, List.setIfInBounds_toArray, List.set_cons_zero, List.set_cons_succ, List.getElem_toArray, List.getElem_cons_zero, List.getElem_cons_succ]
                refine wpAnyT_take (i := 8) (v := ?_) rfl (by kernel_rfl) (by kernel_rfl) (by kernel_rfl) (by kernel_rfl) (fun _ _ _ h => h) (Or.inl ⟨by rfl, ?_⟩) hS ?_
                rotate_left
                focus (intro w hSw; (try dsimp only at hSw); go_simp; try with_reducible rfl)
                try simp only [Act.put, List.setIfInBounds_toArray, List.set_cons_zero, List.set_cons_succ, List.getElem_toArray, List.getElem_cons_zero, List.getElem_cons_succ]
                refine wpAnyT_take (i := 9) (v := ?_) rfl (by kernel_rfl) (by kernel_rfl) (by kernel_rfl) (by kernel_rfl) (fun _ _ _ h => h) (Or.inl ⟨by rfl, ?_⟩) hS ?_
                rotate_left
                focus (intro w hSw; (try dsimp only at hSw); go_simp; try with_reducible rfl)
                try simp only [Act.put, List.setIfInBounds_toArray, List.set_cons_zero, List.set_cons_succ, List.getElem_toArray, List.getElem_cons_zero, List.getElem_cons_succ]
                refine wpAnyT_take (i := 10) (v := ?_) rfl (by kernel_rfl) (by kernel_rfl) (by kernel_rfl) (by kernel_rfl) (fun _ _ _ h => h) (Or.inl ⟨by rfl, ?_⟩) hS ?_
                rotate_left
                focus (intro w hSw; (try dsimp only at hSw); go_simp; try with_reducible rfl)
                try simp only [Act.put, List.setIfInBounds_toArray, List.set_cons_zero, List.set_cons_succ, List.getElem_toArray, List.getElem_cons_zero, List.getElem_cons_succ]
                refine wpAnyT_take (i := 11) (v := ?_) rfl (by kernel_rfl) (by kernel_rfl) (by kernel_rfl) (by kernel_rfl) (fun _ _ _ h => h) (Or.inl ⟨by rfl, ?_⟩) hS ?_
                rotate_left
                focus (intro w hSw; (try dsimp only at hSw); go_simp; try with_reducible rfl)
                try simp only [Act.put, List.setIfInBounds_toArray, List.set_cons_zero, List.set_cons_succ, List.getElem_toArray, List.getElem_cons_zero, List.getElem_cons_succ]
                refine wpAnyT_take (i := 12) (v := ?_) rfl (by kernel_rfl) (by kernel_rfl) (by kernel_rfl) (by kernel_rfl) (fun _ _ _ h => h) (Or.inl ⟨by rfl, ?_⟩) hS ?_
                rotate_left
                focus (intro w hSw; (try dsimp only at hSw); go_simp; try with_reducible rfl)
                try simp only [Act.put, List.setIfInBounds_toArray, List.set_cons_zero, List.set_cons_succ, List.getElem_toArray, List.getElem_cons_zero, List.getElem_cons_succ]
                refine wpAnyT_take (i := 13) (v := ?_) rfl (by kernel_rfl) (by kernel_rfl) (by kernel_rfl) (by kernel_rfl) (fun _ _ _ h => h) (Or.inl ⟨by rfl, ?_⟩) hS ?_
                rotate_left
                focus (intro w hSw; (try dsimp only at hSw); go_simp; try with_reducible rfl)
                try simp only [Act.put, List.setIfInBounds_toArray, List.set_cons_zero, List.set_cons_succ, List.getElem_toArray, List.getElem_cons_zero, List.getElem_cons_succ]
                refine wpAnyT_take (i := 14) (v := ?_) rfl (by kernel_rfl) (by kernel_rfl) (by kernel_rfl) (by kernel_rfl) (fun _ _ _ h => h) (Or.inl ⟨by rfl, ?_⟩) hS ?_
                rotate_left
                focus (intro w hSw; (try dsimp only at hSw); go_simp; try with_reducible rfl)
                try simp only [Act.put, List.setIfInBounds_toArray, List.set_cons_zero, List.set_cons_succ, List.getElem_toArray, List.getElem_cons_zero, List.getElem_cons_succ]
                have haz := Mid.alloc wz (.cells #[.int .i64 pa, .int .i64 l, .int .i64 pb] 64)
                have hGz : G < wz.heap.size := Y3.1
                have hownT := hownV.alloc (.cells #[.int .i64 pa, .int .i64 l, .int .i64 pb] 64)
                replace b0 := b0.mid haz oZr
                replace b2 := b2.mid haz oZr
                replace Y3 := Y3.mid haz oZr
                replace ZE := ZE.mid haz oZr
                replace hownP := owns_mid hownP haz oZl
                replace hm := hm.trans haz
                have hS2 := And.intro (ZE.cell 0 rfl) (And.intro (ZE.cell 1 rfl) (And.intro (ZE.cell 2 rfl) (And.intro (Y3.cell 2 rfl) (And.intro ((hownP.cellAt ia (by omega)).trans HGA.out) ((hownP.cellAt ib (by omega)).trans HGB.out)))))
                have hrs : Rs (wz.alloc (.cells #[.int .i64 pa, .int .i64 l, .int .i64 pb] 64)) (wz.heap.size + 1) (some ⟨wz.heap.size, 0, none⟩) [.int .i64 pa, .int .i64 l, .int .i64 pb] := fun _ => ⟨wz.heap.size, 0, rfl, Nat.lt_succ_self _, fun j u hu => (World.cell?_alloc_at _ _ _ _ rfl).trans (by simpa using hu)⟩
                have hone : ∀ u ∈ [Value.int .i64 pa, .int .i64 l, .int .i64 pb], u.oneCell' = true := by
                  intro u hu
                  simp at hu
                  rcases hu with rfl | rfl | rfl <;> rfl
                have hmxl : n2 + 1 ≤ maxLen := by unfold maxLen; omega
                have hbyt : (n2 + 1) * 24 ≤ 140737488355328 := by omega
                have hbas : G + 1 ≤ (wz.alloc (.cells #[.int .i64 pa, .int .i64 l, .int .i64 pb] 64)).heap.size := by have h1 := Y3.1; omega
                have HO := Lib.hid hone
                have HB0 := Lib.hid (fun (g : Nat) (h : Value.ownBlock (.slice A2 n2 c2) = some g) => (hownT.lt g h).1)
                have HBk := Lib.hid hbk
                have HBe := Lib.hid hbE
                clear hone hbk hbE hownV f0 f1 f2 g2 hca hcb hS haz
                refine wpAnyT_ready (rs := [15]) (by kernel_rfl) (by simp) (AllReadyT.cons rfl (fun K hK => ?_) AllReadyT.nil)
                go_simp
                refine hK.out _ _ (Or.inr hS2) (fun _ => ?_)
                clear hK K
                try simp only [Act.put, List.setIfInBounds_toArray, List.set_cons_zero, List.set_cons_succ, List.getElem_toArray, List.getElem_cons_zero, List.getElem_cons_succ]
                generalize hwt : wz.alloc (.cells #[.int .i64 pa, .int .i64 l, .int .i64 pb] 64) = wt at b0 b2 Y3 ZE hownT hownP hm hS2 hrs hbas ⊢
                have hszt : wt.heap.size = wz.heap.size + 1 := by rw [← hwt]; simp
                have HZT := Lib.hid hszt
                have HP := Lib.hid hownP
                clear hwt hszt hownP
                refine wpAnyT_ready (rs := [16]) (by kernel_rfl) (by simp) (AllReadyT.cons rfl (fun K hK => ?_) AllReadyT.nil)
                (refine step_cat (by rfl) (.tmp 63) (.tmp 77) 30 (by rfl) (G + 1) 64 (.agg #[.int .i64 0, .int .i64 0, .int .i64 0]) 3 24 undSE infoE rfl (by decide) (.slice A2 n2 c2) n2 _ (by rfl) hownT (some ⟨wz.heap.size, 0, none⟩) 1 1 _ [.int .i64 pa, .int .i64 l, .int .i64 pb] (by rfl) hrs rfl HO.out hmxl hbyt hbas ?_; intro v9 w9 ho9 hgr9 hat9; obtain ⟨A9, c9, rfl, -, -⟩ := owns_shape ho9; have hP9 := HP.out.kept hgr9 (owns_ne HP.out hownT (by decide)))
                refine hK.out _ _ (Or.inr ⟨(ZE.grown hgr9 HBe.out).cell 0 rfl, (ZE.grown hgr9 HBe.out).cell 1 rfl, (ZE.grown hgr9 HBe.out).cell 2 rfl, (Y3.grown hgr9 HBk.out).cell 2 rfl, (hP9.cellAt ia (by omega)).trans HGA.out, (hP9.cellAt ib (by omega)).trans HGB.out⟩) (fun _ => ?_)
                clear hK K
                try simp only [Act.put, List.setIfInBounds_toArray, List.set_cons_zero, List.set_cons_succ, List.getElem_toArray, List.getElem_cons_zero, List.getElem_cons_succ]
                replace Y3 := Y3.grown hgr9 HBk.out
                replace ZE := ZE.grown hgr9 HBe.out
                replace b0 := b0.grown hgr9 (fun h => by have := HB0.out _ h; omega)
                replace b2 := b2.grown hgr9 (fun h => by have := HB0.out _ h; omega)
                replace hm : Mid 0 0 w w9 := hm.transNew (Mid.of_grownRow hownT hgr9) (Or.inl (by omega))
                have hS3 := And.intro (ZE.cell 0 rfl) (And.intro (ZE.cell 1 rfl) (And.intro (ZE.cell 2 rfl) (And.intro (Y3.cell 2 rfl) (And.intro ((hP9.cellAt ia (by omega)).trans HGA.out) ((hP9.cellAt ib (by omega)).trans HGB.out)))))
                have hne : Value.ownBlock (.slice A9 (n2 + 1) c9) ≠ some G := by
                  rcases hat9 with h | h
                  · rw [h]; exact HBk.out
                  · rw [h]
                    intro he
                    injection he with he
                    have := HZT.out
                    omega
                have HNE := Lib.hid hne
                have hr2 := Y3.cell 2 rfl
                have hrf := Y3.2.2
                clear hne hat9 hS2 hrs hownT
                refine wpAnyT_take (i := 17) (v := ?_) rfl (by kernel_rfl) (by kernel_rfl) (by kernel_rfl) (by kernel_rfl) (fun _ _ _ h => h) (Or.inl ⟨by rfl, ?_⟩) hS3 ?_
                rotate_left
                focus (intro w hSw; (try dsimp only at hSw); go_simp; try with_reducible rfl)
                try simp only [Act.put, List.setIfInBounds_toArray, List.set_cons_zero, List.set_cons_succ, List.getElem_toArray, List.getElem_cons_zero, List.getElem_cons_succ]
                refine wpAnyT_ready (rs := [18]) (by kernel_rfl) (by simp) (AllReadyT.cons rfl (fun K hK => ?_) AllReadyT.nil)
                (go_simp)
                refine hK.out _ _ (Or.inl rfl) (fun _ => ?_)
                clear hK K
                try simp only [Act.put, List.setIfInBounds_toArray, List.set_cons_zero, List.set_cons_succ, List.getElem_toArray, List.getElem_cons_zero, List.getElem_cons_succ]
                refine wpAnyT_done (by kernel_rfl) ?_ _
                go_wp2_with fail
                go_roundw
                case rel =>
                  have hst := Mid.setAt w9 G 2 (.slice A9 (n2 + 1) c9)
                  refine ⟨q + 1, A9, n2 + 1, c9, by omega, by go_num, Lib.hid (by rw [HT.out, List.length_append, HN.out]; rfl), ?_, hP9.kept (grown_of_setCell w9 G 2 (.slice A9 (n2 + 1) c9)) (.inr ?_), b0.mid hst (Or.inl (by omega)), b2.mid hst (Or.inl (by omega)), Y3.set 2 _ (by simp) rfl, hm.storeNew (by show w.heap.size ≤ G; omega) _⟩
                  · have h1 := owns_other ho9 (k := G) (grown_setCell (World.grownBy.refl _ (some G)) 2 (.slice A9 (n2 + 1) c9)) HNE.out
                    rw [HT.out, edI_append, ints_append, edI_one]
                    exact h1
                  · intro h
                    injection h with h
                    simp at h
                    omega
                case measure => simp [intOf]; omega
              · have hpo : partOf ord ⟨(ia : Int), l, (ib : Int)⟩ = none := by
                  unfold partOf
                  simp only [HPA.out, HPB.out]
                  rw [if_neg hok]
                have HT : Hid ((es.take (q + 1)).filterMap (partOf ord) = (es.take q).filterMap (partOf ord)) := Lib.hid (by rw [HTK.out, hpo]; simp)
                by_cases h1 : 0 ≤ pa
                · have d1 : decide (0 ≤ pa) = true := by simpa using h1
                  have d2 : decide (0 ≤ pb) = false := by simp; omega
                  clear hpo hok h1
                  go_wp2_with fail
                  go_roundw
                  case rel => exact ⟨q + 1, A2, n2, c2, by omega, by go_num, by rw [HT.out]; exact HN, by rw [HT.out]; exact hownV, hownP, b0, b2, Y3, hm⟩
                  case measure => simp [intOf]; omega
                · have d1 : decide (0 ≤ pa) = false := by simp; omega
                  clear hpo hok h1
                  go_wp2_with fail
                  go_roundw
                  case rel => exact ⟨q + 1, A2, n2, c2, by omega, by go_num, by rw [HT.out]; exact HN, by rw [HT.out]; exact hownV, hownP, b0, b2, Y3, hm⟩
                  case measure => simp [intOf]; omega
            · obtain rfl : q = es.length := by omega
              rw [List.take_length] at hown HN
              have hGr : G < wr.heap.size := Y3.1
              have hrg : RG wr (G + 1) wr.heap.size A2 (es.filterMap (partOf ord)) := OV.rv (e := 64) (size := 3) (c := c2) (n := n2) ⟨Nat.le_refl _, hown, fun g hg => (hown.lt g hg).2⟩
              have z2 := Y3.cell 2 rfl
              go_wp2_with fail
              with_reducible refine (impl_sortedN A2 (es.filterMap (partOf ord)) n2 c2 _ _ _ HN.out hrg (by omega)).mono ?_
              rintro en w6 ⟨A4, c4, rfl, ho6, hm6⟩
              replace b2 := b2.mid hm6 oZr
              replace Y3 := Y3.mid hm6 oZr
              replace hm := hm.trans hm6
              have hsz6 := hm6.size
              clear z2
              have a0 := b2.cell 0 rfl
              have a1 := b2.cell 1 rfl
              have a2 := b2.cell 2 rfl
              have x0 := Y3.cell 0 rfl
              have x1 := Y3.cell 1 rfl
              have x2 := Y3.cell 2 rfl
              have af := b2.2.2
              have bf := Y3.2.2
              go_wp2_with fail
              have hcl : (w.heap.size + 1 == G) = false := by simp; omega
              refine bodyPost_ret (v := .agg #[.int .i64 r, .int .i64 ord.length, .slice A4 (canon (es.filterMap (partOf ord))).length c4]) (by simp [results, Tryz.results79, go_sem, a0, a1, a2, x0, x1, x2, af, bf]) rfl ⟨A4, c4, rfl, ?_, ?_⟩
              · refine OG.wide (OG.mid ho6 (a := w.heap.size) (b := G + 1) ?_ (Or.inl hGr)) (by omega) (by simp) (Nat.le_refl _)
                repeat (first | exact Mid.refl _ _ _ | refine Mid.stored ?_ _ (by simp; try omega) (by simp; try omega))
              · repeat (first | exact hm | refine Mid.storeNew ?_ (by simp; try omega) _)
end Go.Proofs.YtkaofcakelpnpaaGreat

namespace Go.Proofs.YtkaofcakelpnpaaGreat
set_option linter.unusedVariables false
set_option linter.unusedSimpArgs false
open Go.RowKit
set_option maxHeartbeats 6400000 in
set_option maxRecDepth 100000 in
theorem spec_RenumberGraph (r : Int) (n : Nat) (A : Option Addr) (es : List Ed) (c : Nat) (Ao : Option Addr) (ord : List Int) (co : Nat) (w : World) (lo hi lo' hi' : Nat) (hr : RG w lo hi A es) (hro : RV w lo' hi' Ao (ints ord)) (hg : IsGr r n es)
    (hnd : ord.Nodup) (hin : ∀ x ∈ ord, 0 ≤ x ∧ x < (n : Int)) (hne : 0 < ord.length) :
    Calls Tryz.prog 94 #[graV r n A es.length c, .slice Ao ord.length co] w fun e w' => ∃ A1 c1, e = .returned (.tuple #[graV r ord.length A1 (partE ord es).length c1, .bool true]) ∧ OG w' w.heap.size w'.heap.size A1 c1 (partE ord es) ∧ Mid 0 0 w w' := by
  have hn40 : n ≤ 40 := by have := hg.size; omega
  have hl := hg.len
  have hol : ord.length ≤ n := nodup_le n ord hnd hin
  have hmx : n ≤ maxLen := by unfold maxLen; omega
  have HG := Lib.hid hg
  have HND := Lib.hid hnd
  have HIN := Lib.hid hin
  have hm0 : Mid 0 0 w (((w.alloc (.cells #[.int .i64 r, .int .i64 n, .slice A es.length c] 32)).alloc (.cells #[.int .i64 0, .int .i64 0, .slice none 0 0] 32)).alloc (.cells #[.int .i64 r, .int .i64 ord.length, .slice none 0 0] 32)) := ((Mid.alloc _ _).trans (Mid.alloc _ _)).trans (Mid.alloc _ _)
  have b0 := ((Box.new w #[.int .i64 r, .int .i64 n, .slice A es.length c] 32).mid (Mid.alloc _ (.cells #[.int .i64 0, .int .i64 0, .slice none 0 0] 32)) oZr).mid (Mid.alloc _ (.cells #[.int .i64 r, .int .i64 ord.length, .slice none 0 0] 32)) oZr
  have b2 := (Box.new (w.alloc (.cells #[.int .i64 r, .int .i64 n, .slice A es.length c] 32)) #[.int .i64 0, .int .i64 0, .slice none 0 0] 32).mid (Mid.alloc _ (.cells #[.int .i64 r, .int .i64 ord.length, .slice none 0 0] 32)) oZr
  have Y3 := Box.new ((w.alloc (.cells #[.int .i64 r, .int .i64 n, .slice A es.length c] 32)).alloc (.cells #[.int .i64 0, .int .i64 0, .slice none 0 0] 32)) #[.int .i64 r, .int .i64 ord.length, .slice none 0 0] 32
  simp only [World.size_alloc, Nat.add_assoc, Nat.reduceAdd] at b2 Y3
  have e1 : ((ord.length : Int) == 0) = false := by simp only [beq_eq_false_iff_ne]; omega
  have e2 : decide ((n : Int) < (ord.length : Int)) = false := by simp; omega
  clear hg hnd hin
  go_enter Tryz.func94, Tryz.ntmps94
  go_wp2_with fail
  generalize hw1 : (((w.alloc (.cells #[.int .i64 r, .int .i64 n, .slice A es.length c] 32)).alloc (.cells #[.int .i64 0, .int .i64 0, .slice none 0 0] 32)).alloc (.cells #[.int .i64 r, .int .i64 ord.length, .slice none 0 0] 32)) = w1 at hm0 b0 b2 Y3 ⊢
  clear hw1
  with_reducible refine (spec_IsGraph r n A es c _ _ _ (hr.mid hm0 oZl).rv (by omega) true (iff_of_true rfl HG.out)).mono ?_
  rintro en w2 ⟨rfl, hm2⟩
  replace b0 := b0.mid hm2 oZr
  replace b2 := b2.mid hm2 oZr
  replace Y3 := Y3.mid hm2 oZr
  replace hm0 := hm0.trans hm2
  have p0 := b0.cell 0 rfl
  have p1 := b0.cell 1 rfl
  have p2 := b0.cell 2 rfl
  clear hm2
  go_wp2_with (at_make; refine wpList_mk rfl _ _ 48 rfl 3 (.int .i64 0) 8 undSI infoI rfl .i64 .i64 _ _ n rfl rfl rfl rfl (by omega) hmx ?_; intro w3 hown3 hgr3 hsz3)
  have hm3 := Mid.of_grown (lo := 0) (hi := 0) hgr3 (by intro g h; cases h)
  have hP3 : w.heap.size + 3 ≤ w2.heap.size := Y3.1
  replace b0 := b0.mid hm3 oZr
  replace b2 := b2.mid hm3 oZr
  replace Y3 := Y3.mid hm3 oZr
  replace hm0 := hm0.trans hm3
  obtain ⟨P, hP⟩ : ∃ P, w2.heap.size = P := ⟨_, rfl⟩
  rw [hP] at hown3 hsz3 hP3 ⊢
  clear hgr3 hm3 p0 p1 p2 hP
  go_loopw [8] (fun i wr => ∃ j : Nat, j ≤ ord.length ∧ i = .int .i64 j ∧ wr.ownsRow P 3 1 (.slice (some ⟨P, 0, none⟩) n n) n (ints (placeM n (ord.take j))) ∧
      Box wr w.heap.size [.int .i64 r, .int .i64 n, .slice A es.length c] ∧ Box wr (w.heap.size + 1) [.int .i64 0, .int .i64 0, .slice none 0 0] ∧ Box wr (w.heap.size + 2) [.int .i64 r, .int .i64 ord.length, .slice none 0 0] ∧ Mid 0 0 w wr) (fun i _ => ord.length - (intOf i).toNat)
  case atStart => exact ⟨0, Nat.zero_le _, rfl, by rw [List.take_zero, placeM_nil]; simpa [ints] using hown3, b0, b2, Y3, hm0⟩
  case round =>
    clear hown3 b0 b2 Y3 hm0 hsz3
    obtain ⟨wi, hwi⟩ : ∃ wi, wi = wr := ⟨_, rfl⟩
    subst hwi
    obtain ⟨j, hj, rfl, hown, b0, b2, Y3, hm⟩ := hrel
    by_cases hlt2 : j < ord.length
    · obtain ⟨B, off, x, rfl, hbh, hx, hcx⟩ := (hro.mid hm oZl).at hlt2
      have hxr := HIN.out x (List.mem_of_getElem? hx)
      obtain ⟨m, rfl⟩ : ∃ m : Nat, x = m := ⟨x.toNat, by omega⟩
      have hmk : m < n := by omega
      have hxn := not_in_take HND.out hx
      have hcs : wi.cell? ⟨P, m, none⟩ = some (.int .i64 0) := (hown.cellAt m (by omega)).trans (by rw [ints_get, placeM_get _ hmk, idxI_neg hxn]; rfl)
      have hfz := hown.frozenAt m
      have HX := Lib.hid hx
      have hPs : P < wi.heap.size := (hown.lt _ rfl).2
      have hBs : B < wi.heap.size := by have := hro.1; have := hm.size; omega
      have hib : inB (m : Int) 0 ((n : Int) - 1) = true := by unfold inB; simp; omega
      have hwr : IntKind.i64.wrap ((n : Int) - 1) = (n : Int) - 1 := IntWalk.i64_in _ (by omega)
      have u0 := wg_cell b0.1 (b0.cell 0 rfl)
      have u1 := wg_cell b0.1 (b0.cell 1 rfl)
      have u2 := wg_cell b0.1 (b0.cell 2 rfl)
      have u3 := wg_cell hBs hcx
      have u4 := wg_cell hPs hcs
      have hm1 : (m : Int) < (n : Int) := by omega
      have hm0 : (0 : Int) ≤ (m : Int) := by omega
      have hj1 : (j : Int) < (ord.length : Int) := by omega
      have hj0 : (0 : Int) ≤ (j : Int) := by omega
      clear hx hxn
      go_wp2_with fail
      refine wp_region_quiet_wg (by kernel_rfl) (by kernel_rfl) ?_
      repeat
        (with_reducible refine wpQuiet_step (fun K hK => ?_))
        go_simp
        first
          | ((with_reducible refine hK _ ?_); clear hK K)
          | (rw [if_neg (by decide)]; (with_reducible refine hK _ ?_); clear hK K)
          | (apply Exists.intro; refine ⟨fun _ => ?_, hK _ ?_⟩; ((go_at_call 37; exact Calls.wg_same (l1In_at hib _))); clear hK K)
      with_reducible refine wpQuiet_nil ?_
      intro _ hw'
      obtain ⟨⟨nq, osq⟩, hw''⟩ := hw'
      subst hw''
      have hwg := Mid.ofWg wi nq osq
      have hown2 := owns_mid hown hwg oZl
      have v4 := u4 nq osq
      have v3 := u3 nq osq
      have hfz2 := hown2.frozenAt m
      have hsv : (ints (placeM n (ord.take j))).set m (.int .i64 ((j : Int) + 1)) = ints (placeM n (ord.take (j + 1))) := by rw [← placeM_set HND.out HX.out hmk]; simp [ints]
      have hset2 := owns_set hown2 m (.int .i64 ((j : Int) + 1)) hsv
      have hst := Mid.setAt (wg wi nq osq) P m (.int .i64 ((j : Int) + 1))
      have hms := (hm.trans hwg).storeNew (p := ⟨P, m, none⟩) (by show w.heap.size ≤ P; omega) (.int .i64 ((j : Int) + 1))
      replace b0 := b0.mid hwg oZr
      replace b2 := b2.mid hwg oZr
      replace Y3 := Y3.mid hwg oZr
      replace b0 := b0.mid hst (Or.inl (by omega))
      replace b2 := b2.mid hst (Or.inl (by omega))
      replace Y3 := Y3.mid hst (Or.inl (by omega))
      clear hown hown2 hm u0 u1 u2 u3 u4 hwg hst hsv
      go_wp2_with fail
      go_roundw
      case rel => exact ⟨j + 1, by omega, by go_num, hset2, b0, b2, Y3, hms⟩
      case measure => simp [intOf]; omega
    · obtain rfl : j = ord.length := by omega
      rw [List.take_length] at hown
      have p0 := b0.cell 0 rfl
      have p1 := b0.cell 1 rfl
      have p2 := b0.cell 2 rfl
      go_wp2_with fail
      clear p0 p1 p2
      go_loopw [9] (fun i wr => ∃ (q : Nat) (A2 : Option Addr) (c2 lo2 hi2 : Nat) (xs : List Ed), q ≤ es.length ∧ i = .int .i64 q ∧ Hid (xs = putAll [] ((es.take q).filterMap (partOf ord))) ∧
          OG wr lo2 hi2 A2 c2 xs ∧ P ≤ lo2 ∧ wr.ownsRow P 3 1 (.slice (some ⟨P, 0, none⟩) n n) n (ints (placeM n ord)) ∧
          Box wr w.heap.size [.int .i64 r, .int .i64 n, .slice A es.length c] ∧ Box wr (w.heap.size + 1) [.int .i64 0, .int .i64 0, .slice none 0 0] ∧ Box wr (w.heap.size + 2) [.int .i64 r, .int .i64 ord.length, .slice A2 xs.length c2] ∧ Mid 0 0 w wr) (fun i _ => es.length - (intOf i).toNat)
      case atStart => exact ⟨0, none, 0, P, _, [], Nat.zero_le _, rfl, Lib.hid rfl, ⟨Nat.le_of_lt (show P < wi.heap.size from (hown.lt _ rfl).2), ⟨rfl, .inl ⟨rfl, rfl⟩⟩, fun g hg => by simp [Value.ownBlock] at hg⟩, Nat.le_refl _, hown, b0, b2, Y3, hm⟩
      case round =>
        clear hown b0 b2 Y3 hm
        obtain ⟨q, A2, c2, lo2, hi2, xs, hq, rfl, HX, hown, hlo2, hownP, b0, b2, Y3, hm⟩ := hrel
        have hxl : xs.length ≤ 120 := by
          have h1 := putAll_len [] ((es.take q).filterMap (partOf ord))
          have h2 := List.length_filterMap_le (partOf ord) (es.take q)
          rw [← HX.out] at h1
          simp at h1 h2
          omega
        by_cases hlt3 : q < es.length
        · obtain ⟨B, off, e, rfl, -, hbh, he, e0, e1, e2⟩ := (hr.mid hm oZl).ed hlt3
          have hin := HG.out.all e (List.mem_of_getElem? he)
          have htk : (es.take (q + 1)).filterMap (partOf ord) = (es.take q).filterMap (partOf ord) ++ (partOf ord e).toList := by
            rw [take_snoc he, List.filterMap_append]
            cases hd : partOf ord e <;> simp [hd]
          obtain ⟨i1, i2, i3, i4, i5, i6⟩ := hin
          obtain ⟨x, l, y⟩ := e
          simp only at i1 i2 i3 i4 i5 i6 e0 e1 e2 htk
          obtain ⟨ia, rfl⟩ : ∃ ia : Nat, x = ia := ⟨x.toNat, by omega⟩
          obtain ⟨ib, rfl⟩ : ∃ ib : Nat, y = ib := ⟨y.toNat, by omega⟩
          have hia : ia < n := by omega
          have hib : ib < n := by omega
          have hq0 : (0 : Int) ≤ (q : Int) := by omega
          have hq1 : (q : Int) < (es.length : Int) := by omega
          have hal := Mid.alloc wr (.cells #[.int .i64 ia, .int .i64 l, .int .i64 ib] 64)
          have ZE := Box.new wr #[.int .i64 ia, .int .i64 l, .int .i64 ib] 64
          have hgs : P < wr.heap.size := (hownP.lt _ rfl).2
          have p0 := b0.cell 0 rfl
          have p1 := b0.cell 1 rfl
          have p2 := b0.cell 2 rfl
          replace b0 := b0.mid hal oZr
          replace b2 := b2.mid hal oZr
          replace Y3 := Y3.mid hal oZr
          replace hownP := owns_mid hownP hal oZl
          replace hown := hown.mid hal oZl
          replace hm := hm.trans hal
          obtain ⟨pa, hpa⟩ : ∃ pa, idxI ord ia + 1 = pa := ⟨_, rfl⟩
          obtain ⟨pb, hpb⟩ : ∃ pb, idxI ord ib + 1 = pb := ⟨_, rfl⟩
          have hpa0 : pa ≤ 41 := by
            by_cases h : 0 ≤ idxI ord ia
            · have := idxI_lt h; omega
            · omega
          have hpb0 : pb ≤ 41 := by
            by_cases h : 0 ≤ idxI ord ib
            · have := idxI_lt h; omega
            · omega
          have hga : (ints (placeM n ord))[ia]? = some (.int .i64 pa) := by rw [ints_get, placeM_get ord hia, hpa]; rfl
          have hgb : (ints (placeM n ord))[ib]? = some (.int .i64 pb) := by rw [ints_get, placeM_get ord hib, hpb]; rfl
          have hca := (hownP.cellAt ia (by omega)).trans hga
          have hcb := (hownP.cellAt ib (by omega)).trans hgb
          have HTK := Lib.hid htk
          have HPA := Lib.hid hpa
          have HPB := Lib.hid hpb
          have HGA := Lib.hid hga
          have HGB := Lib.hid hgb
          clear he htk hpa hpb hga hgb
          by_cases hok : 0 < pa ∧ 0 < pb
          · have hpo : partOf ord ⟨(ia : Int), l, (ib : Int)⟩ = some ⟨pa - 1, l, pb - 1⟩ := by
              have h1 := HPA.out
              have h2 := HPB.out
              unfold partOf
              simp only
              rw [if_pos ⟨by omega, by omega⟩, ← h1, ← h2, Int.add_sub_cancel, Int.add_sub_cancel]
            have HT : Hid ((es.take (q + 1)).filterMap (partOf ord) = (es.take q).filterMap (partOf ord) ++ [⟨pa - 1, l, pb - 1⟩]) := Lib.hid (by rw [HTK.out, hpo]; rfl)
            have d1 : decide (0 < pa) = true := by simpa using hok.1
            have d2 : decide (0 < pb) = true := by simpa using hok.2
            have hpa1 := hok.1
            have hpb1 := hok.2
            clear hpo hok
            go_wp2_with fail
            clear e0 e1 e2 hca hcb d1 d2 p0 p1 p2
            generalize hwx : wr.alloc (.cells #[.int .i64 ia, .int .i64 l, .int .i64 ib] 64) = wx at ZE b0 b2 Y3 hown hownP hm ⊢
            generalize hgE : wr.heap.size = E at ZE hgs ⊢
            clear hgE hwx hal
            have hmd := Mid.drew1 wx
            replace b0 := b0.mid hmd oZr
            replace b2 := b2.mid hmd oZr
            replace Y3 := Y3.mid hmd oZr
            replace ZE := ZE.mid hmd oZr
            replace hownP := owns_mid hownP hmd oZl
            replace hown := hown.mid hmd oZl
            replace hm := hm.trans hmd
            have hca := (hownP.cellAt ia (by omega)).trans HGA.out
            have hcb := (hownP.cellAt ib (by omega)).trans HGB.out
            have f0 := ZE.cell 0 rfl
            have f1 := ZE.cell 1 rfl
            have f2 := ZE.cell 2 rfl
            have g2 := Y3.cell 2 rfl
            have hw1 : IntKind.i64.wrap (pa - 1) = pa - 1 := IntWalk.i64_in _ (by omega)
            have hw2 : IntKind.i64.wrap (pb - 1) = pb - 1 := IntWalk.i64_in _ (by omega)
            clear hmd
            refine wp_region_T (S := (fun w' => w'.cell? ⟨E, 0, none⟩ = some (.int .i64 ia) ∧ w'.cell? ⟨E, 1, none⟩ = some (.int .i64 l) ∧ w'.cell? ⟨E, 2, none⟩ = some (.int .i64 ib) ∧ w'.cell? ⟨w.heap.size + 2, 2, none⟩ = some (.slice A2 xs.length c2) ∧ w'.cell? ⟨P, ia, none⟩ = some (.int .i64 pa) ∧ w'.cell? ⟨P, ib, none⟩ = some (.int .i64 pb))) 19 (by kernel_rfl) ⟨f0, f1, f2, g2, hca, hcb⟩ ?_
            generalize World.drew wx = wz at b0 b2 Y3 ZE hown hownP hm f0 f1 f2 g2 hca hcb ⊢
            have hS : wz.cell? ⟨E, 0, none⟩ = some (.int .i64 ia) ∧ wz.cell? ⟨E, 1, none⟩ = some (.int .i64 l) ∧ wz.cell? ⟨E, 2, none⟩ = some (.int .i64 ib) ∧ wz.cell? ⟨w.heap.size + 2, 2, none⟩ = some (.slice A2 xs.length c2) ∧ wz.cell? ⟨P, ia, none⟩ = some (.int .i64 pa) ∧ wz.cell? ⟨P, ib, none⟩ = some (.int .i64 pb) := ⟨f0, f1, f2, g2, hca, hcb⟩
            refine wpAnyT_take (i := 0) (v := ?_) rfl (by kernel_rfl) (by kernel_rfl) (by kernel_rfl) (by kernel_rfl) (fun _ _ _ h => h) (Or.inl ⟨by rfl, ?_⟩) hS ?_
            rotate_left
            focus (intro w hSw; (try dsimp only at hSw); go_simp; try with_reducible rfl)
            try simp only [Act.put, List.setIfInBounds_toArray, List.set_cons_zero, List.set_cons_succ, List.getElem_toArray, List.getElem_cons_zero, List.getElem_cons_succ]
            refine wpAnyT_take (i := 1) (v := ?_) rfl (by kernel_rfl) (by kernel_rfl) (by kernel_rfl) (by kernel_rfl) (fun _ _ _ h => h) (Or.inl ⟨by rfl, ?_⟩) hS ?_
            rotate_left
            focus (intro w hSw; (try dsimp only at hSw); go_simp; try with_reducible rfl)
            try simp only [Act.put, List.setIfInBounds_toArray, List.set_cons_zero, List.set_cons_succ, List.getElem_toArray, List.getElem_cons_zero, List.getElem_cons_succ]
            refine wpAnyT_take (i := 2) (v := ?_) rfl (by kernel_rfl) (by kernel_rfl) (by kernel_rfl) (by kernel_rfl) (fun _ _ _ h => h) (Or.inl ⟨by rfl, ?_⟩) hS ?_
            rotate_left
            focus (intro w hSw; (try dsimp only at hSw); go_simp; try with_reducible rfl)
            try simp only [Act.put, List.setIfInBounds_toArray, List.set_cons_zero, List.set_cons_succ, List.getElem_toArray, List.getElem_cons_zero, List.getElem_cons_succ]
            refine wpAnyT_take (i := 3) (v := ?_) rfl (by kernel_rfl) (by kernel_rfl) (by kernel_rfl) (by kernel_rfl) (fun _ _ _ h => h) (Or.inl ⟨by rfl, ?_⟩) hS ?_
            rotate_left
            focus (intro w hSw; (try dsimp only at hSw); go_simp; try with_reducible rfl)
            try simp only [Act.put, List.setIfInBounds_toArray, List.set_cons_zero, List.set_cons_succ, List.getElem_toArray, List.getElem_cons_zero, List.getElem_cons_succ]
            refine wpAnyT_take (i := 4) (v := ?_) rfl (by kernel_rfl) (by kernel_rfl) (by kernel_rfl) (by kernel_rfl) (fun _ _ _ h => h) (Or.inl ⟨by rfl, ?_⟩) hS ?_
            rotate_left
            focus (intro w hSw; (try dsimp only at hSw); go_simp; try with_reducible rfl)
            try simp only [Act.put, List.setIfInBounds_toArray, List.set_cons_zero, List.set_cons_succ, List.getElem_toArray, List.getElem_cons_zero, List.getElem_cons_succ]
            refine wpAnyT_take (i := 5) (v := ?_) rfl (by kernel_rfl) (by kernel_rfl) (by kernel_rfl) (by kernel_rfl) (fun _ _ _ h => h) (Or.inl ⟨by rfl, ?_⟩) hS ?_
            rotate_left
            focus (intro w hSw; (try dsimp only at hSw); go_simp; try with_reducible rfl)
            try simp only [Act.put, List.setIfInBounds_toArray, List.set_cons_zero, List.set_cons_succ, List.getElem_toArray, List.getElem_cons_zero, List.getElem_cons_succ]
            refine wpAnyT_take (i := 6) (v := ?_) rfl (by kernel_rfl) (by kernel_rfl) (by kernel_rfl) (by kernel_rfl) (fun _ _ _ h => h) (Or.inl ⟨by rfl, ?_⟩) hS ?_
            rotate_left
            focus (intro w hSw; (try dsimp only at hSw); go_simp; try with_reducible rfl)
            try simp only [Act.put, List.setIfInBounds_toArray, List.set_cons_zero, List.set_cons_succ, List.getElem_toArray, List.getElem_cons_zero, List.getElem_cons_succ]
            refine wpAnyT_take (i := 7) (v := ?_) rfl (by kernel_rfl) (by kernel_rfl) (by kernel_rfl) (by kernel_rfl) (fun _ _ _ h => h) (Or.inl ⟨by rfl, ?_⟩) hS ?_
            rotate_left
            focus (intro w hSw; (try dsimp only at hSw); go_simp; try with_reducible rfl)
            try simp only [Act.put, List.setIfInBounds_toArray, List.set_cons_zero, List.set_cons_succ, List.getElem_toArray, List.getElem_cons_zero, List.getElem_cons_succ]
            refine wpAnyT_take (i := 8) (v := ?_) rfl (by kernel_rfl) (by kernel_rfl) (by kernel_rfl) (by kernel_rfl) (fun _ _ _ h => h) (Or.inl ⟨by rfl, ?_⟩) hS ?_
            rotate_left
            focus (intro w hSw; (try dsimp only at hSw); go_simp; try with_reducible rfl)
            try simp only [Act.put, List.setIfInBounds_toArray, List.set_cons_zero, List.set_cons_succ, List.getElem_toArray, List.getElem_cons_zero, List.getElem_cons_succ]
            refine wpAnyT_take (i := 9) (v := ?_) rfl (by kernel_rfl) (by kernel_rfl) (by kernel_rfl) (by kernel_rfl) (fun _ _ _ h => h) (Or.inl ⟨by rfl, ?_⟩) hS ?_
            rotate_left
            focus (intro w hSw; (try dsimp only at hSw); go_simp; try with_reducible rfl)
            try simp only [Act.put, List.setIfInBounds_toArray, List.set_cons_zero, List.set_cons_succ, List.getElem_toArray, List.getElem_cons_zero, List.getElem_cons_succ]
            refine wpAnyT_take (i := 10) (v := ?_) rfl (by kernel_rfl) (by kernel_rfl) (by kernel_rfl) (by kernel_rfl) (fun _ _ _ h => h) (Or.inl ⟨by rfl, ?_⟩) hS ?_
            rotate_left
            focus (intro w hSw; (try dsimp only at hSw); go_simp; try with_reducible rfl)
            try simp only [Act.put, List.setIfInBounds_toArray, List.set_cons_zero, List.set_cons_succ, List.getElem_toArray, List.getElem_cons_zero, List.getElem_cons_succ]
            refine wpAnyT_take (i := 11) (v := ?_) rfl (by kernel_rfl) (by kernel_rfl) (by kernel_rfl) (by kernel_rfl) (fun _ _ _ h => h) (Or.inl ⟨by rfl, ?_⟩) hS ?_
            rotate_left
            focus (intro w hSw; (try dsimp only at hSw); go_simp; try with_reducible rfl)
            try simp only [Act.put, List.setIfInBounds_toArray, List.set_cons_zero, List.set_cons_succ, List.getElem_toArray, List.getElem_cons_zero, List.getElem_cons_succ]
            refine wpAnyT_take (i := 12) (v := ?_) rfl (by kernel_rfl) (by kernel_rfl) (by kernel_rfl) (by kernel_rfl) (fun _ _ _ h => h) (Or.inl ⟨by rfl, ?_⟩) hS ?_
            rotate_left
            focus (intro w hSw; (try dsimp only at hSw); go_simp; try with_reducible rfl)
            try simp only [Act.put, List.setIfInBounds_toArray, List.set_cons_zero, List.set_cons_succ, List.getElem_toArray, List.getElem_cons_zero, List.getElem_cons_succ]
            refine wpAnyT_take (i := 13) (v := ?_) rfl (by kernel_rfl) (by kernel_rfl) (by kernel_rfl) (by kernel_rfl) (fun _ _ _ h => h) (Or.inl ⟨by rfl, ?_⟩) hS ?_
            rotate_left
            focus (intro w hSw; (try dsimp only at hSw); go_simp; try with_reducible rfl)
            try simp only [Act.put, List.setIfInBounds_toArray, List.set_cons_zero, List.set_cons_succ, List.getElem_toArray, List.getElem_cons_zero, List.getElem_cons_succ]
            refine wpAnyT_take (i := 14) (v := ?_) rfl (by kernel_rfl) (by kernel_rfl) (by kernel_rfl) (by kernel_rfl) (fun _ _ _ h => h) (Or.inl ⟨by rfl, ?_⟩) hS ?_
            rotate_left
            focus (intro w hSw; (try dsimp only at hSw); go_simp; try with_reducible rfl)
            try simp only [Act.put, List.setIfInBounds_toArray, List.set_cons_zero, List.set_cons_succ, List.getElem_toArray, List.getElem_cons_zero, List.getElem_cons_succ]
            refine wpAnyT_take (i := 15) (v := ?_) rfl (by kernel_rfl) (by kernel_rfl) (by kernel_rfl) (by kernel_rfl) (fun _ _ _ h => h) (Or.inl ⟨by rfl, ?_⟩) hS ?_
            rotate_left
            focus (intro w hSw; (try dsimp only at hSw); go_simp; try with_reducible rfl)
            try simp only [Act.put, List.setIfInBounds_toArray, List.set_cons_zero, List.set_cons_succ, List.getElem_toArray, List.getElem_cons_zero, List.getElem_cons_succ]
            refine wpAnyT_take (i := 16) (v := ?_) rfl (by kernel_rfl) (by kernel_rfl) (by kernel_rfl) (by kernel_rfl) (fun _ _ _ h => h) (Or.inl ⟨by rfl, ?_⟩) hS ?_
            rotate_left
            focus (intro w hSw; (try dsimp only at hSw); go_simp; try with_reducible rfl)
            try simp only [Act.put, List.setIfInBounds_toArray, List.set_cons_zero, List.set_cons_succ, List.getElem_toArray, List.getElem_cons_zero, List.getElem_cons_succ]
            have hQ := spec_l4Put A2 xs c2 ⟨pa - 1, l, pb - 1⟩ wz _ _ hown.rg (by omega)
            refine wpAnyT_ready (rs := [17]) (by kernel_rfl) (by simp) (AllReadyT.cons rfl (fun K hK => ?_) AllReadyT.nil)
            (go_simp; refine hQ.mono ?_; rintro en w9 ⟨A9, c9, rfl, ho9, hm9⟩; have b0' := b0.mid hm9 oZr; have b2' := b2.mid hm9 oZr; have Y3' := Y3.mid hm9 oZr; have ZE' := ZE.mid hm9 oZr; have hP9 := owns_mid hownP hm9 oZl; go_wp2_with fail)
            refine hK.out _ _ (Or.inr ⟨ZE'.cell 0 rfl, ZE'.cell 1 rfl, ZE'.cell 2 rfl, Y3'.cell 2 rfl, (hP9.cellAt ia (by omega)).trans HGA.out, (hP9.cellAt ib (by omega)).trans HGB.out⟩) (fun _ => ?_)
            clear hK K
            try simp only [Act.put, List.setIfInBounds_toArray, List.set_cons_zero, List.set_cons_succ, List.getElem_toArray, List.getElem_cons_zero, List.getElem_cons_succ]
            have hmr9 := hm.trans hm9
            have hPz : P ≤ wz.heap.size := Nat.le_of_lt (show P < wz.heap.size from (hownP.lt _ rfl).2)
            have hS3 := And.intro (ZE'.cell 0 rfl) (And.intro (ZE'.cell 1 rfl) (And.intro (ZE'.cell 2 rfl) (And.intro (Y3'.cell 2 rfl) (And.intro ((hP9.cellAt ia (by omega)).trans HGA.out) ((hP9.cellAt ib (by omega)).trans HGB.out)))))
            have hr2 := Y3'.cell 2 rfl
            have hrf := Y3'.2.2
            clear hS b0 b2 Y3 ZE hm hown hownP f0 f1 f2 g2 hca hcb hQ
            refine wpAnyT_take (i := 18) (v := ?_) rfl (by kernel_rfl) (by kernel_rfl) (by kernel_rfl) (by kernel_rfl) (fun _ _ _ h => h) (Or.inl ⟨by rfl, ?_⟩) hS3 ?_
            rotate_left
            focus (intro w hSw; (try dsimp only at hSw); go_simp; try with_reducible rfl)
            try simp only [Act.put, List.setIfInBounds_toArray, List.set_cons_zero, List.set_cons_succ, List.getElem_toArray, List.getElem_cons_zero, List.getElem_cons_succ]
            refine wpAnyT_ready (rs := [19]) (by kernel_rfl) (by simp) (AllReadyT.cons rfl (fun K hK => ?_) AllReadyT.nil)
            (go_simp)
            refine hK.out _ _ (Or.inl rfl) (fun _ => ?_)
            clear hK K
            try simp only [Act.put, List.setIfInBounds_toArray, List.set_cons_zero, List.set_cons_succ, List.getElem_toArray, List.getElem_cons_zero, List.getElem_cons_succ]
            refine wpAnyT_done (by kernel_rfl) ?_ _
            go_wp2_with fail
            go_roundw
            case rel =>
              have hst := Mid.setAt w9 (w.heap.size + 2) 2 (.slice A9 (putE ⟨pa - 1, l, pb - 1⟩ xs).length c9)
              refine ⟨q + 1, A9, c9, _, _, _, by omega, by go_num, Lib.hid ?_, ho9.mid hst (Or.inl (by omega)), hPz, owns_mid hP9 hst (Or.inl (by omega)), b0'.mid hst (Or.inl (by omega)), b2'.mid hst (Or.inl (by omega)), Y3'.set 2 _ (by simp) rfl, hmr9.storeNew (by show w.heap.size ≤ w.heap.size + 2; omega) _⟩
              rw [HT.out, putAll_snoc, ← HX.out]
            case measure => simp [intOf]; omega
          · have hpo : partOf ord ⟨(ia : Int), l, (ib : Int)⟩ = none := by
              have h1 := HPA.out
              have h2 := HPB.out
              unfold partOf
              simp only
              rw [if_neg (fun h => hok ⟨by omega, by omega⟩)]
            have HT : Hid ((es.take (q + 1)).filterMap (partOf ord) = (es.take q).filterMap (partOf ord)) := Lib.hid (by rw [HTK.out, hpo]; simp)
            by_cases h1 : 0 < pa
            · have d1 : decide (0 < pa) = true := by simpa using h1
              have d2 : decide (0 < pb) = false := by simp; omega
              clear hpo hok h1
              go_wp2_with fail
              go_roundw
              case rel => exact ⟨q + 1, A2, c2, lo2, hi2, xs, by omega, by go_num, by rw [HT.out]; exact HX, hown, hlo2, hownP, b0, b2, Y3, hm⟩
              case measure => simp [intOf]; omega
            · have d1 : decide (0 < pa) = false := by simp; omega
              clear hpo hok h1
              go_wp2_with fail
              go_roundw
              case rel => exact ⟨q + 1, A2, c2, lo2, hi2, xs, by omega, by go_num, by rw [HT.out]; exact HX, hown, hlo2, hownP, b0, b2, Y3, hm⟩
              case measure => simp [intOf]; omega
        · obtain rfl : q = es.length := by omega
          have hxx := HX.out
          rw [List.take_length] at hxx
          have HXX := Lib.hid (show xs = partE ord es from hxx)
          clear hxx
          have p0 := b0.cell 0 rfl
          have p1 := b0.cell 1 rfl
          have p2 := b0.cell 2 rfl
          have a0 := b2.cell 0 rfl
          have a1 := b2.cell 1 rfl
          have a2 := b2.cell 2 rfl
          have x0 := Y3.cell 0 rfl
          have x1 := Y3.cell 1 rfl
          have x2 := Y3.cell 2 rfl
          have af := b2.2.2
          have bf := Y3.2.2
          go_wp2_with fail
          refine bodyPost_ret (v := .tuple #[.agg #[.int .i64 r, .int .i64 ord.length, .slice A2 xs.length c2], .bool true]) (by simp [results, Tryz.results94, go_sem, a0, a1, a2, x0, x1, x2, af, bf]) rfl ⟨A2, c2, by rw [HXX.out], ?_, ?_⟩
          · rw [← HXX.out]
            refine OG.wide (OG.mid hown (a := w.heap.size) (b := w.heap.size + 3) ?_ (Or.inl (by omega))) (by omega) (by have := hown.size; simpa using this) (Nat.le_refl _)
            repeat (first | exact Mid.refl _ _ _ | refine Mid.stored ?_ _ (by simp; try omega) (by simp; try omega))
          · repeat (first | exact hm | refine Mid.storeNew ?_ (by simp; try omega) _)
end Go.Proofs.YtkaofcakelpnpaaGreat

namespace Go.Proofs.YtkaofcakelpnpaaGreat
set_option linter.unusedVariables false
set_option linter.unusedSimpArgs false
open Go.RowKit
set_option maxHeartbeats 3200000 in
theorem impl_EqualGraphs (r s : Int) (A : Option Addr) (es : List Ed) (c : Nat) (r' s' : Int) (A' : Option Addr) (es' : List Ed) (c' : Nat) (w : World) (lo hi lo' hi' : Nat) (hr : RG w lo hi A es) (hr' : RG w lo' hi' A' es') (hl : es.length ≤ 1048576) (hl' : es'.length ≤ 1048576) (b : Bool) (hb : b = true ↔ r = r' ∧ s = s' ∧ es = es') :
    Calls Tryz.prog 51 #[graV r s A es.length c, graV r' s' A' es'.length c'] w fun e w' => e = .returned (.bool b) ∧ Mid 0 0 w w' := by
  have HB := Lib.hid hb
  clear hb
  have hm0 : Mid 0 0 w ((w.alloc (.cells #[.int .i64 r, .int .i64 s, .slice A es.length c] 32)).alloc (.cells #[.int .i64 r', .int .i64 s', .slice A' es'.length c'] 32)) := (Mid.alloc _ _).trans (Mid.alloc _ _)
  by_cases h1 : r = r'
  · by_cases h2 : s = s'
    · subst h1 h2
      have hbd : decide (es = es') = b := by rw [Bool.eq_iff_iff, HB.out]; simp
      have HBD := Lib.hid hbd
      clear hbd
      clear HB
      go_enter Tryz.func51, Tryz.ntmps51
      go_wp2_with fail
      with_reducible refine (equalE A A' es es' c c' _ _ _ _ _ (hr.mid hm0 oZl) (hr'.mid hm0 oZl) hl hl').mono ?_
      rintro en w1 ⟨rfl, hm1⟩
      have hmm := hm0.trans hm1
      rw [HBD.out]
      clear HBD
      cases b with
      | false =>
        go_wp2_with fail
        go_ret
        exact ⟨rfl, hmm⟩
      | true =>
        go_wp2_with fail
        go_ret
        exact ⟨rfl, hmm⟩
    · have b2 : (s == s') = false := by simpa only [beq_eq_false_iff_ne] using h2
      obtain rfl : b = false := bool_no HB.out fun h => h2 h.2.1
      subst h1
      clear HB h2
      go_enter Tryz.func51, Tryz.ntmps51
      go_wp2_with fail
      go_ret
      exact ⟨rfl, hm0⟩
  · have b2 : (r == r') = false := by simpa only [beq_eq_false_iff_ne] using h1
    obtain rfl : b = false := bool_no HB.out fun h => h1 h.1
    clear HB h1
    go_enter Tryz.func51, Tryz.ntmps51
    go_wp2_with fail
    go_ret
    exact ⟨rfl, hm0⟩
set_option maxHeartbeats 3200000 in
set_option maxRecDepth 20000 in
theorem spec_EqualGraphs (r s : Int) (A : Option Addr) (es : List Ed) (c : Nat) (r' s' : Int) (A' : Option Addr) (es' : List Ed) (c' : Nat) (w : World) (lo hi lo' hi' : Nat) (hr : RG w lo hi A es) (hr' : RG w lo' hi' A' es') (hl : es.length ≤ 1048576) (hl' : es'.length ≤ 1048576) (b : Bool) (hb : b = true ↔ r = r' ∧ s = s' ∧ es = es') :
    Calls Tryz.prog 66 #[graV r s A es.length c, graV r' s' A' es'.length c'] w fun e w' => e = .returned (.bool b) ∧ Mid 0 0 w w' := by
  have HB := Lib.hid hb
  clear hb
  have hm0 : Mid 0 0 w ((w.alloc (.cells #[.int .i64 r, .int .i64 s, .slice A es.length c] 32)).alloc (.cells #[.int .i64 r', .int .i64 s', .slice A' es'.length c'] 32)) := (Mid.alloc _ _).trans (Mid.alloc _ _)
  by_cases h1 : r = r'
  · by_cases h2 : s = s'
    · by_cases h3 : es.length = es'.length
      · subst h1 h2
        have HL := Lib.hid h3
        have b0 : (r != r) = false := by simp
        have b1 : (s != s) = false := by simp
        have b2 : ((es.length : Int) != (es'.length : Int)) = false := by simp; omega
        have B0 := (Box.new w #[.int .i64 r, .int .i64 s, .slice A es.length c] 32).mid (Mid.alloc _ (.cells #[.int .i64 r, .int .i64 s, .slice A' es'.length c'] 32)) oZr
        have B1 := Box.new (w.alloc (.cells #[.int .i64 r, .int .i64 s, .slice A es.length c] 32)) #[.int .i64 r, .int .i64 s, .slice A' es'.length c'] 32
        rw [World.size_alloc] at B1
        have hle1 : es.length ≤ es'.length := by omega
        have hle2 : es'.length ≤ es.length := by omega
        clear h3
        go_enter Tryz.func66, Tryz.ntmps66
        go_wp2_with fail
        go_loopw [5] (fun i wr => ∃ (k : Nat), k ≤ es.length ∧ i = .int .i64 k ∧ Hid (∀ j, j < k → es[j]? = es'[j]?) ∧ Box wr w.heap.size [.int .i64 r, .int .i64 s, .slice A es.length c] ∧ Box wr (w.heap.size + 1) [.int .i64 r, .int .i64 s, .slice A' es'.length c'] ∧ Mid 0 0 w wr) (fun i _ => es.length - (intOf i).toNat)
        case atStart => exact ⟨0, Nat.zero_le _, rfl, Lib.hid (fun j h => absurd h (Nat.not_lt_zero _)), B0, B1, hm0⟩
        case round =>
          clear B0 B1 hm0
          obtain ⟨k, hk, rfl, HE, bx, by1, hm⟩ := hrel
          have p0 := bx.cell 0 rfl
          have p1 := bx.cell 1 rfl
          have p2 := bx.cell 2 rfl
          have q0 := by1.cell 0 rfl
          have q1 := by1.cell 1 rfl
          have q2 := by1.cell 2 rfl
          by_cases hlt : k < es.length
          · obtain ⟨B, off, e, rfl, -, hbh, he, e0, e1, e2⟩ := (hr.mid hm oZl).ed hlt
            obtain ⟨B', off', f, rfl, -, hbh', hf, f0, f1, f2⟩ := (hr'.mid hm oZl).ed (k := k) (by omega)
            have hs1 : B < wr.heap.size := Nat.lt_of_lt_of_le hbh (Nat.le_trans hr.1 hm.size)
            have hs2 : B' < wr.heap.size := Nat.lt_of_lt_of_le hbh' (Nat.le_trans hr'.1 hm.size)
            have x0 := wg_cell hs1 e0
            have x1 := wg_cell hs1 e1
            have x2 := wg_cell hs1 e2
            have y0 := wg_cell hs2 f0
            have y1 := wg_cell hs2 f1
            have y2 := wg_cell hs2 f2
            have u2 := wg_cell bx.1 p2
            have v2 := wg_cell by1.1 q2
            have hk0 : (0 : Int) ≤ (k : Int) := by omega
            have hkn : (k : Int) < (es.length : Int) := by omega
            have hkm : (k : Int) < (es'.length : Int) := by omega
            have hgd := guardEd e f
            have HE1 := Lib.hid he
            have HF1 := Lib.hid hf
            clear he hf
            by_cases hef : e = f
            · have hq := neqEd_run e f (show decide (e ≠ f) = false by simp [hef])
              have HEF := Lib.hid hef
              clear hef
              go_wp2_with fail
              refine wp_region_quiet_wg (by kernel_rfl) (by kernel_rfl) ?_
              repeat
                (with_reducible refine wpQuiet_step (fun K hK => ?_))
                go_simp
                first
                  | ((with_reducible refine hK _ ?_); clear hK K)
                  | (rw [if_neg (by decide)]; (with_reducible refine hK _ ?_); clear hK K)
                  | (apply Exists.intro; refine ⟨fun _ => ?_, hK _ ?_⟩; (fail); clear hK K)
              with_reducible refine wpQuiet_nil ?_
              intro _ hw'
              obtain ⟨⟨nq, osq⟩, hw''⟩ := hw'
              subst hw''
              go_wp2_with fail
              go_roundw
              case rel =>
                have hwg := Mid.ofWg wr nq osq
                refine ⟨k + 1, by omega, by go_num, Lib.hid fun j hj => ?_, bx.mid hwg oZr, by1.mid hwg oZr, hm.trans hwg⟩
                by_cases h : j < k
                · exact HE.out j h
                · obtain rfl : j = k := by omega
                  rw [HE1.out, HF1.out, HEF.out]
              case measure => simp [intOf]; omega
            · have hq := neqEd_run e f (show decide (e ≠ f) = true by simp [hef])
              obtain rfl : b = false := bool_no HB.out fun h => hef (by
                have h1 := HE1.out
                rw [h.2.2, HF1.out] at h1
                injection h1 with h1
                exact h1.symm)
              clear hef
              go_wp2_with fail
              refine wp_region_quiet_wg (by kernel_rfl) (by kernel_rfl) ?_
              repeat
                (with_reducible refine wpQuiet_step (fun K hK => ?_))
                go_simp
                first
                  | ((with_reducible refine hK _ ?_); clear hK K)
                  | (rw [if_neg (by decide)]; (with_reducible refine hK _ ?_); clear hK K)
                  | (apply Exists.intro; refine ⟨fun _ => ?_, hK _ ?_⟩; (fail); clear hK K)
              with_reducible refine wpQuiet_nil ?_
              intro _ hw'
              obtain ⟨⟨nq, osq⟩, hw''⟩ := hw'
              subst hw''
              go_wp2_with fail
              go_ret
              exact ⟨rfl, hm.trans (Mid.ofWg wr nq osq)⟩
          · obtain rfl : k = es.length := by omega
            obtain rfl : b = true := HB.out.2 ⟨by trivial, by trivial, List.ext_getElem? fun j => by
              by_cases h : j < es.length
              · exact HE.out j h
              · rw [List.getElem?_eq_none (by omega), List.getElem?_eq_none (by omega)]⟩
            go_wp2_with fail
            go_ret
            exact ⟨rfl, hm⟩
      · subst h1 h2
        have b0 : (r != r) = false := by simp
        have b1 : (s != s) = false := by simp
        have b2 : ((es.length : Int) != (es'.length : Int)) = true := by simp; omega
        obtain rfl : b = false := bool_no HB.out fun h => h3 (by rw [h.2.2])
        clear HB h3
        go_enter Tryz.func66, Tryz.ntmps66
        go_wp2_with fail
        go_ret
        exact ⟨rfl, hm0⟩
    · have b2 : (s != s') = true := by simpa using h2
      have b0 : (r != r') = false := by simpa using h1
      obtain rfl : b = false := bool_no HB.out fun h => h2 h.2.1
      clear HB h2 h1
      go_enter Tryz.func66, Tryz.ntmps66
      go_wp2_with fail
      go_ret
      exact ⟨rfl, hm0⟩
  · have b2 : (r != r') = true := by simpa using h1
    obtain rfl : b = false := bool_no HB.out fun h => h1 h.1
    clear HB h1
    go_enter Tryz.func66, Tryz.ntmps66
    go_wp2_with fail
    go_ret
    exact ⟨rfl, hm0⟩
end Go.Proofs.YtkaofcakelpnpaaGreat

namespace Go.Proofs.YtkaofcakelpnpaaGreat
set_option linter.unusedVariables false
set_option linter.unusedSimpArgs false
open Go.RowKit
set_option maxHeartbeats 1600000 in
theorem impl_CanonicalOrder (r n : Nat) (A : Option Addr) (es : List Ed) (c : Nat) (w : World) (lo hi : Nat) (hr : RG w lo hi A es) (hcl : es.length ≤ c) (hf : IsFol r n es) :
    Calls Tryz.prog 81 #[graV r n A es.length c] w fun e w' => ∃ A1 c1, e = .returned (.slice A1 (ordE r es 0).length c1) ∧ RV w' 0 w'.heap.size A1 (ints (ordE r es 0)) ∧ Mid 0 0 w w' := by
  have hl := hf.gr.len
  have hn1 : 0 < n := by have := hf.gr.size; omega
  have hm0 : Mid 0 0 w (w.alloc (.cells #[.int .i64 r, .int .i64 n, .slice A es.length c] 32)) := Mid.alloc _ _
  have B0 := Box.new w #[.int .i64 r, .int .i64 n, .slice A es.length c] 32
  have HF := Lib.hid hf
  clear hf
  go_enter Tryz.func81, Tryz.ntmps81
  go_wp2_with fail
  with_reducible refine (impl_IsFolded r n A es c _ _ _ (hr.mid hm0 oZl) (by omega) hcl true (iff_of_true rfl HF.out)).mono ?_
  rintro en w1 ⟨rfl, hm1⟩
  replace B0 := B0.mid hm1 oZr
  replace hm0 := hm0.trans hm1
  have p0 := B0.cell 0 rfl
  have p1 := B0.cell 1 rfl
  have p2 := B0.cell 2 rfl
  have hT := impl_tree r n 0 A es c w1 lo hi (hr.mid hm0 oZl) HF.out.gr hn1
  have h00 : ((0 : Nat) : Int) = 0 := rfl
  rw [h00] at hT
  go_wp2_with fail
  with_reducible refine (hT).mono ?_
  rintro en w2 ⟨A1, c1, rfl, hm2, hord, -⟩
  have hx := (owns_rv hord).wide (Nat.zero_le _) (Nat.le_refl _) (Nat.le_refl _)
  go_wp2_with fail
  go_ret
  exact ⟨A1, c1, rfl, hx, hm0.trans hm2⟩
theorem canonG_fol {r n : Nat} {es : List Ed} (h : IsFol r n es) : canonG r ((n : Int), es) = (((ordE r es 0).length : Int), partE (ordE r es 0) es) := if_pos h
theorem canonG_no {r s : Int} {es : List Ed} (h : ¬ IsFol r s es) : canonG r (s, es) = (s, es) := if_neg h
theorem ordE_ok {r n : Nat} {es : List Ed} (h : IsFol r n es) : 0 < (ordE r es 0).length ∧ (ordE r es 0).Nodup ∧ ∀ x ∈ ordE r es 0, 0 ≤ x ∧ x < (n : Int) := by
  have hs := h.gr.size
  obtain ⟨h1, -, h2, h3⟩ := ordE_len h.gr (v := 0) (Int.le_refl _) (by omega)
  exact ⟨h1, h2, h3⟩
set_option maxHeartbeats 1000000 in
set_option maxRecDepth 20000 in
theorem impl_CanonicalGraph (r n : Nat) (A : Option Addr) (es : List Ed) (c : Nat) (w : World) (lo hi : Nat) (hr : RG w lo hi A es) (hcl : es.length ≤ c) (hg : IsGr r n es) :
    Calls Tryz.prog 52 #[graV r n A es.length c] w fun e w' => ∃ A1 c1, e = .returned (graV r (canonG r ((n : Int), es)).1 A1 (canonG r ((n : Int), es)).2.length c1) ∧ OG w' w.heap.size w'.heap.size A1 c1 (canonG r ((n : Int), es)).2 ∧ Mid 0 0 w w' := by
  have hl := hg.len
  have hm0 : Mid 0 0 w ((w.alloc (.cells #[.int .i64 r, .int .i64 n, .slice A es.length c] 32)).alloc (.cells #[.int .i64 0, .int .i64 0, .slice none 0 0] 32)) := (Mid.alloc _ _).trans (Mid.alloc _ _)
  have b0 := (Box.new w #[.int .i64 r, .int .i64 n, .slice A es.length c] 32).mid (Mid.alloc _ (.cells #[.int .i64 0, .int .i64 0, .slice none 0 0] 32)) oZr
  have b2 := Box.new (w.alloc (.cells #[.int .i64 r, .int .i64 n, .slice A es.length c] 32)) #[.int .i64 0, .int .i64 0, .slice none 0 0] 32
  simp only [World.size_alloc] at b2
  have HG := Lib.hid hg
  clear hg
  by_cases hf : IsFol r n es
  · rw [canonG_fol hf]
    have HF := Lib.hid hf
    clear hf
    go_enter Tryz.func52, Tryz.ntmps52
    go_wp2_with fail
    with_reducible refine (impl_IsFolded r n A es c _ _ _ (hr.mid hm0 oZl) (by omega) hcl true (iff_of_true rfl HF.out)).mono ?_
    rintro en w1 ⟨rfl, hm1⟩
    replace b0 := b0.mid hm1 oZr
    replace b2 := b2.mid hm1 oZr
    replace hm0 := hm0.trans hm1
    go_wp2_with fail
    have hmd := Mid.drew1 w1
    replace b0 := b0.mid hmd oZr
    replace b2 := b2.mid hmd oZr
    replace hm0 := hm0.trans hmd
    have p0 := b0.cell 0 rfl
    have p1 := b0.cell 1 rfl
    have p2 := b0.cell 2 rfl
    refine wp_region_T (S := (fun w' => w'.cell? ⟨w.heap.size, 0, none⟩ = some (.int .i64 r) ∧ w'.cell? ⟨w.heap.size, 1, none⟩ = some (.int .i64 n) ∧ w'.cell? ⟨w.heap.size, 2, none⟩ = some (.slice A es.length c))) 4 (by kernel_rfl) ⟨p0, p1, p2⟩ ?_
    generalize World.drew w1 = wz at b0 b2 hm0 p0 p1 p2 ⊢
    have hS : wz.cell? ⟨w.heap.size, 0, none⟩ = some (.int .i64 r) ∧ wz.cell? ⟨w.heap.size, 1, none⟩ = some (.int .i64 n) ∧ wz.cell? ⟨w.heap.size, 2, none⟩ = some (.slice A es.length c) := ⟨p0, p1, p2⟩
    refine wpAnyT_take (i := 0) (v := ?_) rfl (by kernel_rfl) (by kernel_rfl) (by kernel_rfl) (by kernel_rfl) (fun _ _ _ h => h) (Or.inl ⟨by rfl, ?_⟩) hS ?_
    rotate_left
    focus (intro w hSw; (try dsimp only at hSw); go_simp; try with_reducible rfl)
    try simp only [Act.put, List.setIfInBounds_toArray, List.set_cons_zero, List.set_cons_succ, List.getElem_toArray, List.getElem_cons_zero, List.getElem_cons_succ]
    refine wpAnyT_take (i := 1) (v := ?_) rfl (by kernel_rfl) (by kernel_rfl) (by kernel_rfl) (by kernel_rfl) (fun _ _ _ h => h) (Or.inl ⟨by rfl, ?_⟩) hS ?_
    rotate_left
    focus (intro w hSw; (try dsimp only at hSw); go_simp; try with_reducible rfl)
    try simp only [Act.put, List.setIfInBounds_toArray, List.set_cons_zero, List.set_cons_succ, List.getElem_toArray, List.getElem_cons_zero, List.getElem_cons_succ]
    have hQ := impl_CanonicalOrder r n A es c wz lo hi (hr.mid hm0 oZl) hcl HF.out
    refine wpAnyT_ready (rs := [2]) (by kernel_rfl) (by simp) (AllReadyT.cons rfl (fun K hK => ?_) AllReadyT.nil)
    (go_simp; refine hQ.mono ?_; rintro en w2 ⟨A2, c2, rfl, hord, hm2⟩; have b0' := b0.mid hm2 oZr; have b2' := b2.mid hm2 oZr; go_wp2_with fail)
    refine hK.out _ _ (Or.inr ⟨b0'.cell 0 rfl, b0'.cell 1 rfl, b0'.cell 2 rfl⟩) (fun _ => ?_)
    clear hK K
    try simp only [Act.put, List.setIfInBounds_toArray, List.set_cons_zero, List.set_cons_succ, List.getElem_toArray, List.getElem_cons_zero, List.getElem_cons_succ]
    replace hm0 := hm0.trans hm2
    obtain ⟨ho1, ho2, ho3⟩ := ordE_ok HF.out
    have hR := impl_part r n A es c A2 (ordE r es 0) c2 w2 lo hi _ _ (hr.mid hm0 oZl) hord HG.out ho2 ho3
    have HR := Lib.hid hR
    clear hS hQ b0 b2 hm2 p0 p1 p2 hR ho1 ho2 ho3
    refine wpAnyT_ready (rs := [3]) (by kernel_rfl) (by simp) (AllReadyT.cons rfl (fun K hK => ?_) AllReadyT.nil)
    (go_simp; refine HR.out.mono ?_; rintro en w3 ⟨A3, c3, rfl, hog, hm3⟩; have b0 := b0'.mid hm3 oZr; have b2 := b2'.mid hm3 oZr; go_wp2_with fail)
    refine hK.out _ _ (Or.inr ⟨b0.cell 0 rfl, b0.cell 1 rfl, b0.cell 2 rfl⟩) (fun _ => ?_)
    clear hK K
    try simp only [Act.put, List.setIfInBounds_toArray, List.set_cons_zero, List.set_cons_succ, List.getElem_toArray, List.getElem_cons_zero, List.getElem_cons_succ]
    have hsz2 := hm0.size
    have hb2s := b2'.1
    replace hm0 := hm0.trans hm3
    have z0 := b2.cell 0 rfl
    have z1 := b2.cell 1 rfl
    have z2 := b2.cell 2 rfl
    have zf := b2.2.2
    clear b0' b2' hm3 HR hord
    refine wpAnyT_ready (rs := [4]) (by kernel_rfl) (by simp) (AllReadyT.cons rfl (fun K hK => ?_) AllReadyT.nil)
    (go_simp)
    refine hK.out _ _ (Or.inl rfl) (fun _ => ?_)
    clear hK K
    try simp only [Act.put, List.setIfInBounds_toArray, List.set_cons_zero, List.set_cons_succ, List.getElem_toArray, List.getElem_cons_zero, List.getElem_cons_succ]
    refine wpAnyT_done (by kernel_rfl) ?_ _
    go_wp2_with fail
    refine bodyPost_ret (v := .agg #[.int .i64 r, .int .i64 (ordE r es 0).length, .slice A3 (partE (ordE r es 0) es).length c3]) (by simp [results, Tryz.results52, go_sem, z0, z1, z2, zf]) rfl ⟨A3, c3, rfl, ?_, ?_⟩
    · refine OG.wide (OG.mid hog (a := w.heap.size + 1) (b := w.heap.size + 2) ?_ (Or.inl (by omega))) (by omega) (by simp) (Nat.le_refl _)
      repeat (first | exact Mid.refl _ _ _ | refine Mid.stored ?_ _ (by simp; try omega) (by simp; try omega))
    · repeat (first | exact hm0 | refine Mid.storeNew ?_ (by simp; try omega) _)
  · rw [canonG_no hf]
    have HF := Lib.hid hf
    clear hf
    go_enter Tryz.func52, Tryz.ntmps52
    go_wp2_with fail
    with_reducible refine (impl_IsFolded r n A es c _ _ _ (hr.mid hm0 oZl) (by omega) hcl false (iff_of_false Bool.false_ne_true HF.out)).mono ?_
    rintro en w1 ⟨rfl, hm1⟩
    have hsz1 : w.heap.size + 2 ≤ w1.heap.size := by have := hm1.size; simpa using this
    replace b0 := b0.mid hm1 oZr
    replace b2 := b2.mid hm1 oZr
    replace hm0 := hm0.trans hm1
    have p0 := b0.cell 0 rfl
    have p1 := b0.cell 1 rfl
    have p2 := b0.cell 2 rfl
    go_wp2_with fail
    with_reducible refine (impl_copyGraph r n A es c _ _ _ (hr.mid hm0 oZl) (by omega)).mono ?_
    rintro en w2 ⟨A2, c2, rfl, hog, hm2⟩
    have hsz2 := hm0.size
    replace b2 := b2.mid hm2 oZr
    replace hm0 := hm0.trans hm2
    have z0 := b2.cell 0 rfl
    have z1 := b2.cell 1 rfl
    have z2 := b2.cell 2 rfl
    have zf := b2.2.2
    clear p0 p1 p2
    go_wp2_with fail
    refine bodyPost_ret (v := .agg #[.int .i64 r, .int .i64 n, .slice A2 es.length c2]) (by simp [results, Tryz.results52, go_sem, z0, z1, z2, zf]) rfl ⟨A2, c2, rfl, ?_, ?_⟩
    · refine OG.wide (OG.mid hog (a := w.heap.size + 1) (b := w.heap.size + 2) ?_ (Or.inl (by omega))) (by omega) (by simp) (Nat.le_refl _)
      repeat (first | exact Mid.refl _ _ _ | refine Mid.stored ?_ _ (by simp; try omega) (by simp; try omega))
    · repeat (first | exact hm0 | refine Mid.storeNew ?_ (by simp; try omega) _)
set_option maxHeartbeats 1000000 in
set_option maxRecDepth 20000 in
theorem spec_CanonicalGraph (r n : Nat) (A : Option Addr) (es : List Ed) (c : Nat) (w : World) (lo hi : Nat) (hr : RG w lo hi A es) (hg : IsGr r n es) :
    Calls Tryz.prog 67 #[graV r n A es.length c] w fun e w' => ∃ A1 c1, e = .returned (graV r (canonG r ((n : Int), es)).1 A1 (canonG r ((n : Int), es)).2.length c1) ∧ OG w' w.heap.size w'.heap.size A1 c1 (canonG r ((n : Int), es)).2 ∧ Mid 0 0 w w' := by
  have hl := hg.len
  have hm0 : Mid 0 0 w ((w.alloc (.cells #[.int .i64 r, .int .i64 n, .slice A es.length c] 32)).alloc (.cells #[.int .i64 0, .int .i64 0, .slice none 0 0] 32)) := (Mid.alloc _ _).trans (Mid.alloc _ _)
  have b0 := (Box.new w #[.int .i64 r, .int .i64 n, .slice A es.length c] 32).mid (Mid.alloc _ (.cells #[.int .i64 0, .int .i64 0, .slice none 0 0] 32)) oZr
  have b2 := Box.new (w.alloc (.cells #[.int .i64 r, .int .i64 n, .slice A es.length c] 32)) #[.int .i64 0, .int .i64 0, .slice none 0 0] 32
  simp only [World.size_alloc] at b2
  have HG := Lib.hid hg
  clear hg
  by_cases hf : IsFol r n es
  · rw [canonG_fol hf]
    have HF := Lib.hid hf
    clear hf
    go_enter Tryz.func67, Tryz.ntmps67
    go_wp2_with fail
    with_reducible refine (spec_CanonicalOrder r n A es c _ _ _ (hr.mid hm0 oZl) HF.out).mono ?_
    rintro en w1 ⟨A1, c1, rfl, hord, hm1⟩
    replace b0 := b0.mid hm1 oZr
    replace b2 := b2.mid hm1 oZr
    replace hm0 := hm0.trans hm1
    have p0 := b0.cell 0 rfl
    have p1 := b0.cell 1 rfl
    have p2 := b0.cell 2 rfl
    obtain ⟨ho1, ho2, ho3⟩ := ordE_ok HF.out
    have e1 : (((ordE r es 0).length : Int) == 0) = false := by simp only [beq_eq_false_iff_ne]; omega
    have HR0 := Lib.hid (spec_RenumberGraph r n A es c A1 (ordE r es 0) c1 w1 lo hi _ _ (hr.mid hm0 oZl) hord HG.out ho2 ho3 ho1)
    have hsz1 : w.heap.size + 2 ≤ w1.heap.size := by have := hm1.size; simpa using this
    obtain ⟨os, hos⟩ : ∃ os, ordE r es 0 = os := ⟨_, rfl⟩
    obtain ⟨ps, hps⟩ : ∃ ps, partE os es = ps := ⟨_, rfl⟩
    rw [hos] at HR0 e1 ⊢
    rw [hps] at HR0
    have HOS := Lib.hid hos
    have HPS := Lib.hid hps
    have HR := HR0
    clear ho1 ho2 ho3 hord hm1 hos hps HR0
    go_wp2_with fail
    with_reducible refine (HR.out).mono ?_
    rintro en w2 ⟨A2, c2, rfl, hog, hm2⟩
    clear HR
    have hsz2 := hm2.size
    have hal := Mid.alloc w2 (.cells #[.int .i64 r, .int .i64 os.length, .slice A2 ps.length c2] 32)
    have Y3 := Box.new w2 #[.int .i64 r, .int .i64 os.length, .slice A2 ps.length c2] 32
    replace b2 := b2.mid hm2 oZr
    replace hm0 := hm0.trans hm2
    clear p0 p1 p2
    have z0 := b2.cell 0 rfl
    have z1 := b2.cell 1 rfl
    have z2 := b2.cell 2 rfl
    have zf := b2.2.2
    have hb22 : w.heap.size + 1 < w2.heap.size := b2.1
    go_wp2_with fail
    refine bodyPost_ret (v := .agg #[.int .i64 r, .int .i64 os.length, .slice A2 ps.length c2]) (by simp [results, Tryz.results67, go_sem, z0, z1, z2, zf, hb22, World.cell?_alloc_lt]) rfl ⟨A2, c2, by rw [HOS.out, HPS.out], ?_, ?_⟩
    · rw [HOS.out, HPS.out]
      refine OG.wide (OG.mid (OG.mid hog (a := w.heap.size + 1) (b := w.heap.size + 2) ?_ (Or.inl (by omega))) (Mid.alloc _ _) oZl) (by omega) (by simp) (Nat.le_refl _)
      repeat (first | exact Mid.refl _ _ _ | refine Mid.stored ?_ _ (by simp; try omega) (by simp; try omega))
    · refine Mid.trans ?_ (Mid.alloc _ _)
      repeat (first | exact hm0 | refine Mid.storeNew ?_ (by simp; try omega) _)
  · rw [canonG_no hf]
    have HF := Lib.hid hf
    clear hf
    go_enter Tryz.func67, Tryz.ntmps67
    go_wp2_with fail
    with_reducible refine (spec_CanonicalOrder_no r n A es c _ _ _ (hr.mid hm0 oZl) (by omega) HF.out).mono ?_
    rintro en w1 ⟨A1, c1, rfl, hm1⟩
    have hsz1 : w.heap.size + 2 ≤ w1.heap.size := by have := hm1.size; simpa using this
    replace b0 := b0.mid hm1 oZr
    replace b2 := b2.mid hm1 oZr
    replace hm0 := hm0.trans hm1
    have p0 := b0.cell 0 rfl
    have p1 := b0.cell 1 rfl
    have p2 := b0.cell 2 rfl
    go_wp2_with fail
    with_reducible refine (spec_l4Copy r n A es c _ _ _ (hr.mid hm0 oZl) (by omega)).mono ?_
    rintro en w2 ⟨A2, c2, rfl, hog, hm2⟩
    have hsz2 := hm0.size
    replace b2 := b2.mid hm2 oZr
    replace hm0 := hm0.trans hm2
    have z0 := b2.cell 0 rfl
    have z1 := b2.cell 1 rfl
    have z2 := b2.cell 2 rfl
    have zf := b2.2.2
    clear p0 p1 p2
    go_wp2_with fail
    refine bodyPost_ret (v := .agg #[.int .i64 r, .int .i64 n, .slice A2 es.length c2]) (by simp [results, Tryz.results67, go_sem, z0, z1, z2, zf]) rfl ⟨A2, c2, rfl, ?_, ?_⟩
    · refine OG.wide (OG.mid hog (a := w.heap.size + 1) (b := w.heap.size + 2) ?_ (Or.inl (by omega))) (by omega) (by simp) (Nat.le_refl _)
      repeat (first | exact Mid.refl _ _ _ | refine Mid.stored ?_ _ (by simp; try omega) (by simp; try omega))
    · repeat (first | exact hm0 | refine Mid.storeNew ?_ (by simp; try omega) _)
end Go.Proofs.YtkaofcakelpnpaaGreat

namespace Go.Proofs.YtkaofcakelpnpaaGreat
set_option linter.unusedVariables false
set_option linter.unusedSimpArgs false
open Go.RowKit
def sizeAt (w : World) (G : Nat) : Nat := match w.cell? ⟨G, 1, none⟩ with | some (.int _ s) => s.toNat | _ => 0
theorem sizeAt_box {w : World} {G : Nat} {r : Value} {n : Nat} {v : Value} (h : Box w G [r, .int .i64 n, v]) : sizeAt w G = n := by
  unfold sizeAt
  rw [h.cell 1 rfl]
  simp
set_option maxHeartbeats 6400000 in
set_option maxRecDepth 100000 in
theorem impl_TrimGraph (r : Int) (n : Nat) (A : Option Addr) (es : List Ed) (c : Nat) (w : World) (lo hi : Nat) (hr : RG w lo hi A es) (hg : IsGr r n es) :
    Calls Tryz.prog 50 #[graV r n A es.length c] w fun e w' => ∃ A1 c1 Al nl cl, e = .returned (.tuple #[graV r (trimA 40 ((n : Int), es)).1 A1 (trimA 40 ((n : Int), es)).2.length c1, .slice Al nl cl]) ∧ OG w' w.heap.size w'.heap.size A1 c1 (trimA 40 ((n : Int), es)).2 ∧ Mid 0 0 w w' := by
  have hn40 : n ≤ 40 := by have := hg.size; omega
  have hl := hg.len
  have hm0 : Mid 0 0 w ((w.alloc (.cells #[.int .i64 r, .int .i64 n, .slice A es.length c] 32)).alloc (.cells #[.int .i64 0, .int .i64 0, .slice none 0 0] 32)) := (Mid.alloc _ _).trans (Mid.alloc _ _)
  have b0 := (Box.new w #[.int .i64 r, .int .i64 n, .slice A es.length c] 32).mid (Mid.alloc _ (.cells #[.int .i64 0, .int .i64 0, .slice none 0 0] 32)) oZr
  have b2 := Box.new (w.alloc (.cells #[.int .i64 r, .int .i64 n, .slice A es.length c] 32)) #[.int .i64 0, .int .i64 0, .slice none 0 0] 32
  simp only [World.size_alloc] at b2
  have HG := Lib.hid hg
  obtain ⟨T, hT⟩ : ∃ T, trimA 40 ((n : Int), es) = T := ⟨_, rfl⟩
  rw [hT]
  have HT := Lib.hid hT
  clear hg hT
  go_enter Tryz.func50, Tryz.ntmps50
  go_wp2_with fail
  generalize hw1 : ((w.alloc (.cells #[.int .i64 r, .int .i64 n, .slice A es.length c] 32)).alloc (.cells #[.int .i64 0, .int .i64 0, .slice none 0 0] 32)) = w1 at hm0 b0 b2 ⊢
  clear hw1
  with_reducible refine (impl_copyGraph r n A es c _ _ _ (hr.mid hm0 oZl) (by omega)).mono ?_
  rintro en w2 ⟨A1, c1, rfl, ho, hm2⟩
  have hsz12 := hm0.size
  have hs2 : w.heap.size + 1 < w1.heap.size := b2.1
  replace b0 := b0.mid hm2 oZr
  replace b2 := b2.mid hm2 oZr
  replace hm0 := hm0.trans hm2
  have hsz2 := hm2.size
  have hown0 := owns_base (base' := w.heap.size + 2) ho.ov.2.1 hs2
  have hbk0 : Value.ownBlock (.slice A1 es.length c1) ≠ some w2.heap.size := fun h => by have := ho.ov.2.2 _ h; omega
  have hal := (Mid.alloc w2 (.cells #[.int .i64 r, .int .i64 n, .slice A1 es.length c1] 32)).trans (Mid.alloc (w2.alloc (.cells #[.int .i64 r, .int .i64 n, .slice A1 es.length c1] 32)) (.cells #[] 3))
  have Y3 := (Box.new w2 #[.int .i64 r, .int .i64 n, .slice A1 es.length c1] 32).mid (Mid.alloc (w2.alloc (.cells #[.int .i64 r, .int .i64 n, .slice A1 es.length c1] 32)) (.cells #[] 3)) oZr
  have O0 := owns_empty (w2.alloc (.cells #[.int .i64 r, .int .i64 n, .slice A1 es.length c1] 32)) 3 1
  rw [World.size_alloc] at O0
  have hbs0 := b0.1
  have p0 := b0.cell 0 rfl
  have p1 := b0.cell 1 rfl
  have p2 := b0.cell 2 rfl
  replace b0 := b0.mid hal oZr
  replace b2 := b2.mid hal oZr
  replace hown0 := owns_mid hown0 hal oZl
  replace hm0 := hm0.trans hal
  go_wp2_with fail
  clear p0 p1 p2
  have hsA : ((w2.alloc (.cells #[.int .i64 r, .int .i64 n, .slice A1 es.length c1] 32)).alloc (.cells #[] 3)).heap.size = w2.heap.size + 2 := by simp
  generalize hw3 : (w2.alloc (.cells #[.int .i64 r, .int .i64 n, .slice A1 es.length c1] 32)).alloc (.cells #[] 3) = w3 at Y3 O0 b0 b2 hown0 hm0 hsA ⊢
  obtain ⟨G, hG⟩ : ∃ G, w2.heap.size = G := ⟨_, rfl⟩
  rw [hG] at Y3 O0 hbk0 hsA hsz2 hbs0 ⊢
  clear hw3 hal hm2 ho hG
  with_reducible refine (impl_IsGraph r n A es c _ _ _ (hr.mid hm0 oZl).rv (by omega) true (iff_of_true rfl HG.out)).mono ?_
  rintro en w4 ⟨rfl, hm4⟩
  have hs4 := hm4.size
  replace b0 := b0.mid hm4 oZr
  replace b2 := b2.mid hm4 oZr
  replace Y3 := Y3.mid hm4 oZr
  replace hown0 := owns_mid hown0 hm4 oZl
  replace O0 := owns_mid O0 hm4 oZl
  replace hm0 := hm0.trans hm4
  have hGw : w.heap.size + 2 ≤ G := by omega
  have hG4 : G + 1 ≤ w4.heap.size := by omega
  clear hm4 hs4 hsA hsz2 hs2 hsz12 hbs0
  go_wp2_with fail
  go_loopw [5, 6] (fun l i wr => ∃ (k : Nat) (Al : Option Addr) (nl cl : Nat), k ≤ n ∧ i = .int .i64 k ∧ l = .slice Al nl cl ∧ Hid ((upto k).length = nl) ∧ wr.ownsRow (G + 1) 3 1 (.slice Al nl cl) nl (ints (upto k)) ∧
      Hid (wr.ownsRow (w.heap.size + 2) 64 3 (.slice A1 es.length c1) es.length (ints (edI es))) ∧ Box wr w.heap.size [.int .i64 r, .int .i64 n, .slice A es.length c] ∧ Box wr (w.heap.size + 1) [.int .i64 0, .int .i64 0, .slice none 0 0] ∧ Box wr G [.int .i64 r, .int .i64 n, .slice A1 es.length c1] ∧ Mid 0 0 w wr) (fun _ i _ => n - (intOf i).toNat)
  case atStart => exact ⟨0, _, 0, 0, Nat.zero_le _, rfl, rfl, Lib.hid rfl, O0, Lib.hid hown0, b0, b2, Y3, hm0⟩
  case round =>
    clear O0 hown0 b0 b2 Y3 hm0
    obtain ⟨wo, hwo⟩ : ∃ wo, wo = wr := ⟨_, rfl⟩
    subst hwo
    obtain ⟨k, Al, nl, cl, hk, rfl, rfl, HN, hleft, HE, b0, b2, Y3, hm⟩ := hrel
    obtain rfl : k = nl := by rw [← HN.out, upto_len]
    have p0 := b0.cell 0 rfl
    have p1 := b0.cell 1 rfl
    have p2 := b0.cell 2 rfl
    by_cases hlt : k < n
    · have hk1 : (k : Int) < (n : Int) := by omega
      have hGo : G + 1 ≤ wo.heap.size := Y3.1
      have HL := Lib.hid hleft
      clear hleft
      go_wp2_with (at_builtin; refine wpList_pushI2 rfl _ _ rfl (G + 1) Al k cl (upto k) rfl HL.out k rfl (by omega) hGo ?_; intro A9 c9 w9 hl9 hgr9 hat9)
      clear hat9
      have hm9 := Mid.of_grownRow HL.out hgr9
      have hE9 := HE.out.kept hgr9 (owns_ne HE.out HL.out (by decide))
      go_roundw
      case rel => exact ⟨k + 1, A9, k + 1, c9, by omega, by go_num, rfl, Lib.hid (by rw [upto_len]), by rw [upto_succ]; exact hl9, Lib.hid hE9, b0.mid hm9 (Or.inl (by omega)), b2.mid hm9 (Or.inl (by omega)), Y3.mid hm9 (Or.inl (by omega)), hm.transNew hm9 (Or.inl (by omega))⟩
      case measure => simp [intOf]; omega
    · obtain rfl : k = n := by omega
      go_wp2_with fail
      clear p0 p1 p2
      have hGo := Y3.1
      go_loopw [5] (fun l wr => ∃ (m s : Nat) (es1 : List Ed) (A2 : Option Addr) (c2 : Nat) (Al : Option Addr) (cl : Nat) (xs : List Int), l = .slice Al s cl ∧ Hid (trimA m ((s : Int), es1) = T) ∧ s ≤ m ∧ Hid (IsGr r s es1) ∧ wr.ownsRow (G + 1) 3 1 (.slice Al s cl) s (ints xs) ∧
          Hid (wr.ownsRow (w.heap.size + 2) 64 3 (.slice A2 es1.length c2) es1.length (ints (edI es1))) ∧ Hid (Value.ownBlock (.slice A2 es1.length c2) ≠ some G) ∧ Box wr (w.heap.size + 1) [.int .i64 0, .int .i64 0, .slice none 0 0] ∧ Box wr G [.int .i64 r, .int .i64 s, .slice A2 es1.length c2] ∧ Mid 0 0 w wr) (fun _ wr => sizeAt wr G)
      case atStart => exact ⟨40, k, es, A1, c1, Al, cl, upto k, rfl, HT, hn40, HG, hleft, HE, Lib.hid hbk0, b2, Y3, hm⟩
      case round =>
        clear hleft HE b0 b2 Y3 hm HN hGo
        obtain ⟨wj, hwj⟩ : ∃ wj, wj = wr := ⟨_, rfl⟩
        subst hwj
        obtain ⟨m, s, es1, A2, c2, Al, cl, xs, rfl, HTm, hsm, HGs, hleft, HE, HBK, b2, Y3, hm⟩ := hrel
        have hs1 : 1 ≤ s := by have := HGs.out.size; omega
        have hs40 : s ≤ 40 := by have := HGs.out.size; omega
        have hl1 := HGs.out.len
        have hlsz := Lib.hid (sizeAt_box Y3)
        have y0 := Y3.cell 0 rfl
        have y1 := Y3.cell 1 rfl
        have y2 := Y3.cell 2 rfl
        have hJ := impl_joined r s 0 A2 es1 c2 wj _ _ (owns_rv HE.out) HGs.out hs1
        rw [show ((0 : Nat) : Int) = 0 from rfl] at hJ
        have HJ := Lib.hid hJ
        clear hJ
        go_wp2_with fail
        with_reducible refine (HJ.out).mono ?_
        rintro en w5 ⟨rfl, vis, hvis, hmem, hm5⟩
        clear HJ
        have hGj : G < wj.heap.size := Y3.1
        have HM := Lib.hid hmem
        obtain ⟨jb, hjb⟩ : ∃ jb, wj.heap.size + 1 = jb := ⟨_, rfl⟩
        rw [hjb] at hvis ⊢
        have hE5 := owns_mid HE.out hm5 oZl
        replace HE := Lib.hid hE5
        replace b2 := b2.mid hm5 oZr
        replace Y3 := Y3.mid hm5 oZr
        replace hleft := owns_mid hleft hm5 oZl
        replace hm := hm.trans hm5
        clear y0 y1 y2 hmem hjb hm5 hE5
        have y0 := Y3.cell 0 rfl
        have y1 := Y3.cell 1 rfl
        have y2 := Y3.cell 2 rfl
        go_wp2_with fail
        clear y0 y1 y2
        go_loopw [8, 9] (fun gv kv wr => ∃ (q g : Nat), 1 ≤ q ∧ q ≤ s ∧ kv = .int .i64 q ∧ gv = .int .i64 g ∧ Hid ((g = 0 ∧ ∀ u : Nat, 1 ≤ u → u < q → ¬ Bad es1 u) ∨ (leaf s es1 = some g ∧ 0 < g ∧ g < s)) ∧ Mid 0 0 w5 wr) (fun _ q _ => s - (intOf q).toNat)
        case atStart => exact ⟨1, 0, Nat.le_refl _, hs1, rfl, rfl, Lib.hid (.inl ⟨rfl, fun u h1 h2 => absurd h2 (by omega)⟩), Mid.refl _ _ _⟩
        case round =>
          obtain ⟨q, g, hq1, hq, rfl, rfl, HQ, hmx⟩ := hrel
          replace b2 := b2.mid hmx oZr
          replace Y3 := Y3.mid hmx oZr
          replace hleft := owns_mid hleft hmx oZl
          replace hvis := owns_mid hvis hmx oZl
          replace hm := hm.trans hmx
          have hE5 := owns_mid HE.out hmx oZl
          replace HE := Lib.hid hE5
          clear hE5
          have y0 := Y3.cell 0 rfl
          have y1 := Y3.cell 1 rfl
          have y2 := Y3.cell 2 rfl
          by_cases hgo : q < s ∧ g = 0
          · obtain ⟨hqs, rfl⟩ := hgo
            have hq3 : (q : Int) < (s : Int) := by omega
            have hq0 : (0 : Int) ≤ (q : Int) := by omega
            have hno : ∀ u : Nat, 1 ≤ u → u < q → ¬ Bad es1 u := by
              rcases HQ.out with h | h
              · exact h.2
              · omega
            have HNO := Lib.hid hno
            have hdl := deg_le es1 q
            clear hno
            go_wp2_with fail
            with_reducible refine (impl_DegreeOf r s A2 es1 c2 q _ _ _ (owns_rv HE.out).rg (by omega)).mono ?_
            rintro en w7 ⟨rfl, hm7⟩
            have hv7 := owns_mid hvis hm7 oZl
            have hcv := (hv7.cellAt q (by omega)).trans (seenOf_get hqs)
            by_cases hd : deg es1 q < 2
            · have d1 : decide ((deg es1 q : Int) < 2) = true := by simp; omega
              have HLF := Lib.hid (leaf_some (s := (s : Int)) hq1 hq3 (.inl hd) HNO.out)
              clear hd hcv
              go_wp2_with fail
              go_roundw
              case rel => exact ⟨q + 1, q, by omega, by omega, by go_num, rfl, Lib.hid (.inr ⟨HLF.out, by omega, hqs⟩), hmx.trans hm7⟩
              case measure => simp [intOf]; omega
            · have d1 : decide ((deg es1 q : Int) < 2) = false := by simp; omega
              by_cases hv : (q : Int) ∈ vis
              · rw [decide_eq_true hv] at hcv
                have HNB : Hid (¬ Bad es1 q) := Lib.hid (by
                  rintro (h | h)
                  · exact hd h
                  · exact h ((HM.out _).1 hv))
                clear hd hv
                go_wp2_with fail
                go_roundw
                case rel =>
                  refine ⟨q + 1, 0, by omega, by omega, by go_num, rfl, Lib.hid (.inl ⟨rfl, fun u h1 h2 => ?_⟩), hmx.trans hm7⟩
                  by_cases h : u = q
                  · subst h; exact HNB.out
                  · exact HNO.out u h1 (by omega)
                case measure => simp [intOf]; omega
              · rw [decide_eq_false hv] at hcv
                have HLF := Lib.hid (leaf_some (s := (s : Int)) hq1 hq3 (.inr fun h => hv ((HM.out _).2 h)) HNO.out)
                clear hd hv
                go_wp2_with fail
                go_roundw
                case rel => exact ⟨q + 1, q, by omega, by omega, by go_num, rfl, Lib.hid (.inr ⟨HLF.out, by omega, hqs⟩), hmx.trans hm7⟩
                case measure => simp [intOf]; omega
          · clear hvis
            obtain ⟨wk, hwk⟩ : ∃ wk, wk = wr := ⟨_, rfl⟩
            subst hwk
            have hqg : decide ((q : Int) < (s : Int)) = true ∧ ((g : Int) == 0) = false ∨ decide ((q : Int) < (s : Int)) = false := by
              by_cases h : q < s
              · left
                refine ⟨by simp; omega, ?_⟩
                simp only [beq_eq_false_iff_ne]
                intro h2
                exact hgo ⟨h, by omega⟩
              · right
                simp
                omega
            by_cases hg0 : g = 0
            · subst hg0
              have hqs : q = s := by
                refine Classical.byContradiction fun h => hgo ⟨by omega, rfl⟩
              subst hqs
              have hln : leaf q es1 = none := leaf_none fun u h1 h2 => by
                rcases HQ.out with h | h
                · exact h.2 u h1 (by omega)
                · omega
              have hTT := HTm.out
              rw [trimA_none hln] at hTT
              have HTT := Lib.hid hTT
              have d0 : decide ((q : Int) < (q : Int)) = false := by simp
              have z0 := b2.cell 0 rfl
              have z1 := b2.cell 1 rfl
              have z2 := b2.cell 2 rfl
              have zf := b2.2.2
              have hbs := b2.1
              clear hqg hln hTT hgo
              go_wp2_with fail
              have hcl : (w.heap.size + 1 == G) = false := by simp; omega
              refine bodyPost_ret (v := .tuple #[.agg #[.int .i64 r, .int .i64 q, .slice A2 es1.length c2], .slice Al q cl]) (by simp [results, Tryz.results50, go_sem, z0, z1, z2, zf, y0, y1, y2]) rfl ⟨A2, c2, ⟨Al, q, cl, by rw [← HTT.out]⟩, ?_, ?_⟩
              · rw [← HTT.out]
                have h0 : OG wk (w.heap.size + 2) wk.heap.size A2 c2 es1 := ⟨Nat.le_refl _, HE.out, fun g hg => (HE.out.lt g hg).2⟩
                refine OG.wide (OG.mid h0 (a := w.heap.size + 1) (b := w.heap.size + 2) ?_ (Or.inl (Nat.le_refl _))) (by omega) (by simp) (Nat.le_refl _)
                repeat (first | exact Mid.refl _ _ _ | refine Mid.stored ?_ _ (by simp; try omega) (by simp; try omega))
              · repeat (first | exact hm | refine Mid.storeNew ?_ (by simp; try omega) _)
            · obtain ⟨hlf, hg1, hgs⟩ : leaf s es1 = some g ∧ 0 < g ∧ g < s := by
                rcases HQ.out with h | h
                · exact absurd h.1 hg0
                · exact h
              obtain ⟨m', rfl⟩ : ∃ m', m = m' + 1 := ⟨m - 1, by omega⟩
              have hTT := HTm.out
              rw [trimA_some hlf] at hTT
              have HTT := Lib.hid hTT
              have HCG := Lib.hid (cutV_gr (g := ((s : Int), es1)) HGs.out hg1 (by simpa using hgs))
              have dg : ((g : Int) == 0) = false := by simp only [beq_eq_false_iff_ne]; omega
              have HGO := Lib.hid hgo
              clear hTT hlf hgo hqg
              rcases Nat.lt_or_ge q s with hqn | hqn
              · go_wp2_with fail
                have O10 := owns_empty wk 3 1
                have hal := Mid.alloc wk (.cells #[] 3)
                clear y0 y1 y2
                go_loopw [10, 11] (fun o kv wr => ∃ (kk : Nat) (Ao : Option Addr) (no co : Nat), kk ≤ s ∧ kv = .int .i64 kk ∧ o = .slice Ao no co ∧ Hid ((but g kk).length = no) ∧ wr.ownsRow wk.heap.size 3 1 (.slice Ao no co) no (ints (but g kk)) ∧ Mid 0 0 wk wr) (fun _ kv _ => s - (intOf kv).toNat)
                case atStart => exact ⟨0, _, 0, 0, Nat.zero_le _, rfl, rfl, Lib.hid rfl, O10, hal⟩
                case round =>
                  clear O10 hal
                  obtain ⟨kk, Ao, no, co, hkk, rfl, rfl, HNo, hord, hmy⟩ := hrel
                  have hno : no ≤ 40 := by
                    have h1 : (but g kk).length ≤ kk := by unfold but; rw [List.length_map]; exact Nat.le_trans (List.length_filter_le _ _) (by simp)
                    have h2 := HNo.out
                    omega
                  have Y4 := Y3.mid hmy oZr
                  have y0 := Y4.cell 0 rfl
                  have y1 := Y4.cell 1 rfl
                  have y2 := Y4.cell 2 rfl
                  by_cases hlt : kk < s
                  · have hbs := but_succ g kk
                    have hk3 : (kk : Int) < (s : Int) := by omega
                    by_cases hkg : kk = g
                    · have d3 : ((kk : Int) != (g : Int)) = false := by simp; omega
                      rw [if_pos hkg] at hbs
                      have HBS := Lib.hid hbs
                      clear hbs hkg
                      go_wp2_with fail
                      go_roundw
                      case rel => exact ⟨kk + 1, Ao, no, co, by omega, by go_num, rfl, by rw [HBS.out]; exact HNo, by rw [HBS.out]; exact hord, hmy⟩
                      case measure => simp [intOf]; omega
                    · have d3 : ((kk : Int) != (g : Int)) = true := by simp; omega
                      rw [if_neg hkg] at hbs
                      have HBS := Lib.hid hbs
                      have HO := Lib.hid hord
                      have hsz := hmy.size
                      clear hbs hkg hord
                      go_wp2_with (at_builtin; refine wpList_pushI rfl _ _ rfl wk.heap.size Ao no co (but g kk) rfl HO.out kk rfl (by omega) hsz ?_; intro A9 c9 w9 ho9 hm9)
                      go_roundw
                      case rel => exact ⟨kk + 1, A9, no + 1, c9, by omega, by go_num, rfl, Lib.hid (by rw [HBS.out, List.length_append, HNo.out]; rfl), by rw [HBS.out]; exact ho9, hmy.transNew hm9 (Or.inl (Nat.le_refl _))⟩
                      case measure => simp [intOf]; omega
                  · obtain rfl : kk = s := by omega
                    have hln : (but g kk).length = no := HNo.out
                    have HL0 : Hid (no = kk - 1) := Lib.hid (by rw [← hln, but_len g hgs])
                    obtain ⟨es2, hes2⟩ : ∃ es2, partE (but g kk) es1 = es2 := ⟨_, rfl⟩
                    have hcv : cutV ((kk : Int), es1) g = ((no : Int), es2) := by unfold cutV; simp only [Int.toNat_natCast]; rw [hln, hes2]
                    have hE6 := owns_mid HE.out hmy oZl
                    have hP := impl_part r kk A2 es1 c2 Ao (but g kk) co wr _ _ _ _ (owns_rv hE6).rg (owns_rv hord) HGs.out (but_nodup g kk) (fun x hx => but_range hx)
                    rw [hln, hes2] at hP
                    have HP := Lib.hid hP
                    have hTT2 := HTT.out
                    rw [hcv] at hTT2
                    have hgr2 := HCG.out
                    rw [hcv] at hgr2
                    have HTT2 := Lib.hid hTT2
                    have HG2 := Lib.hid hgr2
                    have hwks : G + 1 ≤ wk.heap.size := Y3.1
                    clear hP hTT2 hgr2 hcv hes2 hln hord HTT HCG HE hE6
                    go_wp2_with fail
                    with_reducible refine HP.out.mono ?_
                    rintro en w8 ⟨A3, c3, rfl, hog, hm8⟩
                    clear HP
                    replace hog := hog.wide (lo' := wk.heap.size) hmy.size (Nat.le_refl _) (Nat.le_refl _)
                    have hm28 := hmy.trans hm8
                    clear Y4 y0 y1 y2
                    replace b2 := b2.mid hm28 oZr
                    replace Y3 := Y3.mid hm28 oZr
                    replace hleft := owns_mid hleft hm28 oZl
                    replace hm := hm.trans hm28
                    clear hmy hm8 hm28
                    have y0 := Y3.cell 0 rfl
                    have y1 := Y3.cell 1 rfl
                    have y2 := Y3.cell 2 rfl
                    have yf := Y3.2.2
                    go_wp2_with fail
                    have hst := (Mid.setAt w8 G 0 (.int .i64 r)).trans ((Mid.setAt (w8.setCell ⟨G, 0, none⟩ (.int .i64 r)) G 1 (.int .i64 no)).trans (Mid.setAt ((w8.setCell ⟨G, 0, none⟩ (.int .i64 r)).setCell ⟨G, 1, none⟩ (.int .i64 no)) G 2 (.slice A3 es2.length c3)))
                    have Y5 := ((Y3.set 0 (.int .i64 r) (by simp) rfl).set 1 (.int .i64 no) (by simp) rfl).set 2 (.slice A3 es2.length c3) (by simp) rfl
                    have hm5 := ((hm.storeNew (p := ⟨G, 0, none⟩) (by show w.heap.size ≤ G; omega) (.int .i64 r)).storeNew (p := ⟨G, 1, none⟩) (by show w.heap.size ≤ G; omega) (.int .i64 no)).storeNew (p := ⟨G, 2, none⟩) (by show w.heap.size ≤ G; omega) (.slice A3 es2.length c3)
                    replace b2 := b2.mid hst (Or.inl (by omega))
                    replace hleft := owns_mid hleft hst (Or.inl (Nat.le_refl _))
                    replace hog := hog.mid hst (Or.inl hwks)
                    clear Y3 hm y0 y1 y2 yf hst
                    generalize ((w8.setCell ⟨G, 0, none⟩ (.int .i64 r)).setCell ⟨G, 1, none⟩ (.int .i64 no)).setCell ⟨G, 2, none⟩ (.slice A3 es2.length c3) = ws at Y5 hm5 b2 hleft hog ⊢
                    have hmd := Mid.drew1 ws
                    replace b2 := b2.mid hmd oZr
                    replace Y5 := Y5.mid hmd oZr
                    replace hleft := owns_mid hleft hmd oZl
                    replace hog := hog.mid hmd oZl
                    replace hm5 := hm5.trans hmd
                    clear hmd
                    obtain ⟨gl, rfl, hgl1, hgl2⟩ := owns_addr hleft (show 0 < kk by omega)
                    have hsc : kk ≤ cl := by
                      obtain ⟨A', c', hv0, hsc, hcm⟩ := owns_shape hleft
                      injection hv0 with _ _ hv0
                      omega
                    have hcut2 := owns_cut hleft (m := g) (by omega)
                    have hxl : (ints xs).length = kk * 1 := hleft.1
                    have hsrc := (Rs.of_own hleft).drop (k := g + 1) (n := kk) (cap := cl) 1 hxl hsc
                    have hdl : ((ints xs).drop ((g + 1) * 1)).length = (kk - (g + 1)) * 1 := by rw [List.length_drop, hxl]; omega
                    have hone : ∀ u ∈ (ints xs).drop ((g + 1) * 1), u.oneCell' = true := fun u hu => one_of_ints xs u (List.mem_of_mem_drop hu)
                    have hml : g + (kk - (g + 1)) ≤ maxLen := by unfold maxLen; omega
                    have hby : (g + (kk - (g + 1))) * 8 ≤ 140737488355328 := by omega
                    have hGs : G + 1 ≤ ws.drew.heap.size := Y5.1
                    have HCU := Lib.hid hcut2
                    have HSR := Lib.hid hsrc
                    have HDL := Lib.hid hdl
                    have HON := Lib.hid hone
                    have HXL := Lib.hid hxl
                    have hgi : (0 : Int) ≤ (g : Int) := by omega
                    have hgi1 : (0 : Int) ≤ (g : Int) + 1 := by omega
                    have hgk : (g : Int) < (kk : Int) := by omega
                    have hgk2 : (g : Int) + 1 ≤ (kk : Int) := by omega
                    have hgn : g ≤ cl := by omega
                    have hgn1 : g + 1 ≤ kk := by omega
                    have hgn2 : g + 1 ≤ cl := by omega
                    have hgc : (g : Int) ≤ (cl : Int) := by omega
                    have hgc2 : (g : Int) + 1 ≤ (cl : Int) := by omega
                    have hwrp : IntKind.i64.wrap ((g : Int) + 1) = (g : Int) + 1 := IntWalk.i64_in _ (by omega)
                    clear hcut2 hsrc hdl hone hxl
                    by_cases hcg : cl = g + 1
                    · rw [if_pos hcg] at HSR
                      have hcgF : (cl = g + 1) = True := eq_true hcg
                      clear hcg
                      refine wp_region_T (S := (fun _ => True)) 8 (by kernel_rfl) trivial ?_
                      generalize World.drew ws = wz at b2 Y5 hleft hog hm5 HCU HSR hGs ⊢
                      refine wpAnyT_take (i := 0) (v := ?_) rfl (by kernel_rfl) (by kernel_rfl) (by kernel_rfl) (by kernel_rfl) (fun _ _ _ h => h) (Or.inl ⟨by rfl, ?_⟩) trivial ?_
                      rotate_left
                      focus (intro w hSw; (try dsimp only at hSw); go_simp; try with_reducible rfl)
                      try simp only [Act.put, List.setIfInBounds_toArray, List.set_cons_zero, List.set_cons_succ, List.getElem_toArray, List.getElem_cons_zero, List.getElem_cons_succ]
                      refine wpAnyT_take (i := 1) (v := ?_) rfl (by kernel_rfl) (by kernel_rfl) (by kernel_rfl) (by kernel_rfl) (fun _ _ _ h => h) (Or.inl ⟨by rfl, ?_⟩) trivial ?_
                      rotate_left
                      focus (intro w hSw; (try dsimp only at hSw); go_simp; try with_reducible rfl)
                      try simp only [Act.put, List.setIfInBounds_toArray, List.set_cons_zero, List.set_cons_succ, List.getElem_toArray, List.getElem_cons_zero, List.getElem_cons_succ]
                      refine wpAnyT_take (i := 2) (v := ?_) rfl (by kernel_rfl) (by kernel_rfl) (by kernel_rfl) (by kernel_rfl) (fun _ _ _ h => h) (Or.inl ⟨by rfl, ?_⟩) trivial ?_
                      rotate_left
                      focus (intro w hSw; (try dsimp only at hSw); go_simp; try with_reducible rfl)
                      try simp only [Act.put, List.setIfInBounds_toArray, List.set_cons_zero, List.set_cons_succ, List.getElem_toArray, List.getElem_cons_zero, List.getElem_cons_succ]
                      refine wpAnyT_take (i := 3) (v := ?_) rfl (by kernel_rfl) (by kernel_rfl) (by kernel_rfl) (by kernel_rfl) (fun _ _ _ h => h) (Or.inl ⟨by rfl, ?_⟩) trivial ?_
                      rotate_left
                      focus (intro w hSw; (try dsimp only at hSw); go_simp; try with_reducible rfl)
                      try simp only [Act.put, List.setIfInBounds_toArray, List.set_cons_zero, List.set_cons_succ, List.getElem_toArray, List.getElem_cons_zero, List.getElem_cons_succ]
                      refine wpAnyT_take (i := 4) (v := ?_) rfl (by kernel_rfl) (by kernel_rfl) (by kernel_rfl) (by kernel_rfl) (fun _ _ _ h => h) (Or.inl ⟨by rfl, ?_⟩) trivial ?_
                      rotate_left
                      focus (intro w hSw; (try dsimp only at hSw); go_simp; try with_reducible rfl)
                      try simp only [Act.put, List.setIfInBounds_toArray, List.set_cons_zero, List.set_cons_succ, List.getElem_toArray, List.getElem_cons_zero, List.getElem_cons_succ]
                      refine wpAnyT_take (i := 5) (v := ?_) rfl (by kernel_rfl) (by kernel_rfl) (by kernel_rfl) (by kernel_rfl) (fun _ _ _ h => h) (Or.inl ⟨by rfl, ?_⟩) trivial ?_
                      rotate_left
                      focus (intro w hSw; (try dsimp only at hSw); go_simp; try with_reducible rfl)
                      try simp only [Act.put, List.setIfInBounds_toArray, List.set_cons_zero, List.set_cons_succ, List.getElem_toArray, List.getElem_cons_zero, List.getElem_cons_succ]
                      refine wpAnyT_take (i := 6) (v := ?_) rfl (by kernel_rfl) (by kernel_rfl) (by kernel_rfl) (by kernel_rfl) (fun _ _ _ h => h) (Or.inl ⟨by rfl, ?_⟩) trivial ?_
                      rotate_left
                      focus (intro w hSw; (try dsimp only at hSw); go_simp; try with_reducible rfl)
                      try simp only [Act.put, List.setIfInBounds_toArray, List.set_cons_zero, List.set_cons_succ, List.getElem_toArray, List.getElem_cons_zero, List.getElem_cons_succ]
                      refine wpAnyT_ready (rs := [7]) (by kernel_rfl) (by simp) (AllReadyT.cons rfl (fun K hK => ?_) AllReadyT.nil)
                      (refine step_cat (by rfl) (.tmp 77) (.tmp 81) 48 (by rfl) (G + 1) 3 (.int .i64 0) 1 8 undSI infoI rfl (by decide) (.slice (some ⟨gl, 0, none⟩) g cl) g _ (by rfl) HCU.out _ (kk - (g + 1)) _ _ ((ints xs).drop ((g + 1) * 1)) (by rfl) HSR.out HDL.out HON.out hml hby hGs ?_; intro v9 w9 ho9 hgr9 hat9; obtain ⟨A9, c9, rfl, -, -⟩ := owns_shape ho9)
                      refine hK.out _ _ (Or.inr trivial) (fun _ => ?_)
                      clear hK K
                      try simp only [Act.put, List.setIfInBounds_toArray, List.set_cons_zero, List.set_cons_succ, List.getElem_toArray, List.getElem_cons_zero, List.getElem_cons_succ]
                      refine wpAnyT_ready (rs := [8]) (by kernel_rfl) (by simp) (AllReadyT.cons rfl (fun K hK => ?_) AllReadyT.nil)
                      (go_simp)
                      refine hK.out _ _ (Or.inl rfl) (fun _ => ?_)
                      clear hK K
                      try simp only [Act.put, List.setIfInBounds_toArray, List.set_cons_zero, List.set_cons_succ, List.getElem_toArray, List.getElem_cons_zero, List.getElem_cons_succ]
                      refine wpAnyT_done (by kernel_rfl) ?_ _
                      go_wp2_with fail
                      go_roundw
                      case rel =>
                        have hm9 := Mid.of_grownRow HCU.out hgr9
                        have h0 := hog.ov.2.1.kept hgr9 (owns_ne hog.ov.2.1 HCU.out (by decide))
                        have hnl2 : g + (kk - (g + 1)) = no := by have := HL0.out; omega
                        have hb9 : Value.ownBlock (.slice A3 es2.length c3) ≠ some G := fun h => by have := (hog.ov.2.1.lt _ h).1; omega
                        have hxe : (ints xs).take (g * 1) ++ (ints xs).drop ((g + 1) * 1) = ints (xs.take g ++ xs.drop (g + 1)) := by simp [ints]
                        rw [hxe, hnl2] at ho9
                        exact ⟨m', no, es2, A3, c3, A9, c9, xs.take g ++ xs.drop (g + 1), by rw [hnl2], HTT2, by have := HL0.out; omega, HG2, ho9, Lib.hid (owns_base h0 (by omega)), Lib.hid hb9, b2.mid hm9 (Or.inl (by omega)), Y5.mid hm9 (Or.inl (by omega)), hm5.transNew hm9 (Or.inl (by omega))⟩
                      case measure =>
                        have h1 := sizeAt_box (Y5.mid (Mid.of_grownRow HCU.out hgr9) (Or.inl (by omega)))
                        have h2 := hlsz.out
                        have h3 := HL0.out
                        simp only [h1, h2]
                        omega
                    · rw [if_neg hcg] at HSR
                      have hcgF : (cl = g + 1) = False := eq_false hcg
                      clear hcg
                      replace HSR : Hid (Rs ws.drew ws.drew.heap.size (some ⟨gl, g + 1, none⟩) ((ints xs).drop ((g + 1) * 1))) := Lib.hid (by
                        have h := HSR.out
                        rw [show Option.map (fun x => x.add ((g + 1) * 1)) (some (⟨gl, 0, none⟩ : Addr)) = some ⟨gl, g + 1, none⟩ by simp [Addr.add]] at h
                        exact h)
                      refine wp_region_T (S := (fun _ => True)) 8 (by kernel_rfl) trivial ?_
                      generalize World.drew ws = wz at b2 Y5 hleft hog hm5 HCU HSR hGs ⊢
                      refine wpAnyT_take (i := 0) (v := ?_) rfl (by kernel_rfl) (by kernel_rfl) (by kernel_rfl) (by kernel_rfl) (fun _ _ _ h => h) (Or.inl ⟨by rfl, ?_⟩) trivial ?_
                      rotate_left
                      focus (intro w hSw; (try dsimp only at hSw); go_simp; try with_reducible rfl)
                      try simp only [Act.put, List.setIfInBounds_toArray, List.set_cons_zero, List.set_cons_succ, List.getElem_toArray, List.getElem_cons_zero, List.getElem_cons_succ]
                      refine wpAnyT_take (i := 1) (v := ?_) rfl (by kernel_rfl) (by kernel_rfl) (by kernel_rfl) (by kernel_rfl) (fun _ _ _ h => h) (Or.inl ⟨by rfl, ?_⟩) trivial ?_
                      rotate_left
                      focus (intro w hSw; (try dsimp only at hSw); go_simp; try with_reducible rfl)
                      try simp only [Act.put, List.setIfInBounds_toArray, List.set_cons_zero, List.set_cons_succ, List.getElem_toArray, List.getElem_cons_zero, List.getElem_cons_succ]
                      refine wpAnyT_take (i := 2) (v := ?_) rfl (by kernel_rfl) (by kernel_rfl) (by kernel_rfl) (by kernel_rfl) (fun _ _ _ h => h) (Or.inl ⟨by rfl, ?_⟩) trivial ?_
                      rotate_left
                      focus (intro w hSw; (try dsimp only at hSw); go_simp; try with_reducible rfl)
                      try simp only [Act.put, List.setIfInBounds_toArray, List.set_cons_zero, List.set_cons_succ, List.getElem_toArray, List.getElem_cons_zero, List.getElem_cons_succ]
                      refine wpAnyT_take (i := 3) (v := ?_) rfl (by kernel_rfl) (by kernel_rfl) (by kernel_rfl) (by kernel_rfl) (fun _ _ _ h => h) (Or.inl ⟨by rfl, ?_⟩) trivial ?_
                      rotate_left
                      focus (intro w hSw; (try dsimp only at hSw); go_simp; try with_reducible rfl)
                      try simp only [Act.put, List.setIfInBounds_toArray, List.set_cons_zero, List.set_cons_succ, List.getElem_toArray, List.getElem_cons_zero, List.getElem_cons_succ]
                      refine wpAnyT_take (i := 4) (v := ?_) rfl (by kernel_rfl) (by kernel_rfl) (by kernel_rfl) (by kernel_rfl) (fun _ _ _ h => h) (Or.inl ⟨by rfl, ?_⟩) trivial ?_
                      rotate_left
                      focus (intro w hSw; (try dsimp only at hSw); go_simp; try with_reducible rfl)
                      try simp only [Act.put, List.setIfInBounds_toArray, List.set_cons_zero, List.set_cons_succ, List.getElem_toArray, List.getElem_cons_zero, List.getElem_cons_succ]
                      refine wpAnyT_take (i := 5) (v := ?_) rfl (by kernel_rfl) (by kernel_rfl) (by kernel_rfl) (by kernel_rfl) (fun _ _ _ h => h) (Or.inl ⟨by rfl, ?_⟩) trivial ?_
                      rotate_left
                      focus (intro w hSw; (try dsimp only at hSw); go_simp; try with_reducible rfl)
                      try simp only [Act.put, List.setIfInBounds_toArray, List.set_cons_zero, List.set_cons_succ, List.getElem_toArray, List.getElem_cons_zero, List.getElem_cons_succ]
                      refine wpAnyT_take (i := 6) (v := ?_) rfl (by kernel_rfl) (by kernel_rfl) (by kernel_rfl) (by kernel_rfl) (fun _ _ _ h => h) (Or.inl ⟨by rfl, ?_⟩) trivial ?_
                      rotate_left
                      focus (intro w hSw; (try dsimp only at hSw); go_simp; try with_reducible rfl)
                      try simp only [Act.put, List.setIfInBounds_toArray, List.set_cons_zero, List.set_cons_succ, List.getElem_toArray, List.getElem_cons_zero, List.getElem_cons_succ]
                      refine wpAnyT_ready (rs := [7]) (by kernel_rfl) (by simp) (AllReadyT.cons rfl (fun K hK => ?_) AllReadyT.nil)
                      (refine step_cat (by rfl) (.tmp 77) (.tmp 81) 48 (by rfl) (G + 1) 3 (.int .i64 0) 1 8 undSI infoI rfl (by decide) (.slice (some ⟨gl, 0, none⟩) g cl) g _ (by rfl) HCU.out _ (kk - (g + 1)) _ _ ((ints xs).drop ((g + 1) * 1)) (by rfl) HSR.out HDL.out HON.out hml hby hGs ?_; intro v9 w9 ho9 hgr9 hat9; obtain ⟨A9, c9, rfl, -, -⟩ := owns_shape ho9)
                      refine hK.out _ _ (Or.inr trivial) (fun _ => ?_)
                      clear hK K
                      try simp only [Act.put, List.setIfInBounds_toArray, List.set_cons_zero, List.set_cons_succ, List.getElem_toArray, List.getElem_cons_zero, List.getElem_cons_succ]
                      refine wpAnyT_ready (rs := [8]) (by kernel_rfl) (by simp) (AllReadyT.cons rfl (fun K hK => ?_) AllReadyT.nil)
                      (go_simp)
                      refine hK.out _ _ (Or.inl rfl) (fun _ => ?_)
                      clear hK K
                      try simp only [Act.put, List.setIfInBounds_toArray, List.set_cons_zero, List.set_cons_succ, List.getElem_toArray, List.getElem_cons_zero, List.getElem_cons_succ]
                      refine wpAnyT_done (by kernel_rfl) ?_ _
                      go_wp2_with fail
                      go_roundw
                      case rel =>
                        have hm9 := Mid.of_grownRow HCU.out hgr9
                        have h0 := hog.ov.2.1.kept hgr9 (owns_ne hog.ov.2.1 HCU.out (by decide))
                        have hnl2 : g + (kk - (g + 1)) = no := by have := HL0.out; omega
                        have hb9 : Value.ownBlock (.slice A3 es2.length c3) ≠ some G := fun h => by have := (hog.ov.2.1.lt _ h).1; omega
                        have hxe : (ints xs).take (g * 1) ++ (ints xs).drop ((g + 1) * 1) = ints (xs.take g ++ xs.drop (g + 1)) := by simp [ints]
                        rw [hxe, hnl2] at ho9
                        exact ⟨m', no, es2, A3, c3, A9, c9, xs.take g ++ xs.drop (g + 1), by rw [hnl2], HTT2, by have := HL0.out; omega, HG2, ho9, Lib.hid (owns_base h0 (by omega)), Lib.hid hb9, b2.mid hm9 (Or.inl (by omega)), Y5.mid hm9 (Or.inl (by omega)), hm5.transNew hm9 (Or.inl (by omega))⟩
                      case measure =>
                        have h1 := sizeAt_box (Y5.mid (Mid.of_grownRow HCU.out hgr9) (Or.inl (by omega)))
                        have h2 := hlsz.out
                        have h3 := HL0.out
                        simp only [h1, h2]
                        omega
              · obtain rfl : q = s := by omega
                go_wp2_with fail
                have O10 := owns_empty wk 3 1
                have hal := Mid.alloc wk (.cells #[] 3)
                clear y0 y1 y2
                go_loopw [10, 11] (fun o kv wr => ∃ (kk : Nat) (Ao : Option Addr) (no co : Nat), kk ≤ q ∧ kv = .int .i64 kk ∧ o = .slice Ao no co ∧ Hid ((but g kk).length = no) ∧ wr.ownsRow wk.heap.size 3 1 (.slice Ao no co) no (ints (but g kk)) ∧ Mid 0 0 wk wr) (fun _ kv _ => q - (intOf kv).toNat)
                case atStart => exact ⟨0, _, 0, 0, Nat.zero_le _, rfl, rfl, Lib.hid rfl, O10, hal⟩
                case round =>
                  clear O10 hal
                  obtain ⟨kk, Ao, no, co, hkk, rfl, rfl, HNo, hord, hmy⟩ := hrel
                  have hno : no ≤ 40 := by
                    have h1 : (but g kk).length ≤ kk := by unfold but; rw [List.length_map]; exact Nat.le_trans (List.length_filter_le _ _) (by simp)
                    have h2 := HNo.out
                    omega
                  have Y4 := Y3.mid hmy oZr
                  have y0 := Y4.cell 0 rfl
                  have y1 := Y4.cell 1 rfl
                  have y2 := Y4.cell 2 rfl
                  by_cases hlt : kk < q
                  · have hbs := but_succ g kk
                    have hk3 : (kk : Int) < (q : Int) := by omega
                    by_cases hkg : kk = g
                    · have d3 : ((kk : Int) != (g : Int)) = false := by simp; omega
                      rw [if_pos hkg] at hbs
                      have HBS := Lib.hid hbs
                      clear hbs hkg
                      go_wp2_with fail
                      go_roundw
                      case rel => exact ⟨kk + 1, Ao, no, co, by omega, by go_num, rfl, by rw [HBS.out]; exact HNo, by rw [HBS.out]; exact hord, hmy⟩
                      case measure => simp [intOf]; omega
                    · have d3 : ((kk : Int) != (g : Int)) = true := by simp; omega
                      rw [if_neg hkg] at hbs
                      have HBS := Lib.hid hbs
                      have HO := Lib.hid hord
                      have hsz := hmy.size
                      clear hbs hkg hord
                      go_wp2_with (at_builtin; refine wpList_pushI rfl _ _ rfl wk.heap.size Ao no co (but g kk) rfl HO.out kk rfl (by omega) hsz ?_; intro A9 c9 w9 ho9 hm9)
                      go_roundw
                      case rel => exact ⟨kk + 1, A9, no + 1, c9, by omega, by go_num, rfl, Lib.hid (by rw [HBS.out, List.length_append, HNo.out]; rfl), by rw [HBS.out]; exact ho9, hmy.transNew hm9 (Or.inl (Nat.le_refl _))⟩
                      case measure => simp [intOf]; omega
                  · obtain rfl : kk = q := by omega
                    have hln : (but g kk).length = no := HNo.out
                    have HL0 : Hid (no = kk - 1) := Lib.hid (by rw [← hln, but_len g hgs])
                    obtain ⟨es2, hes2⟩ : ∃ es2, partE (but g kk) es1 = es2 := ⟨_, rfl⟩
                    have hcv : cutV ((kk : Int), es1) g = ((no : Int), es2) := by unfold cutV; simp only [Int.toNat_natCast]; rw [hln, hes2]
                    have hE6 := owns_mid HE.out hmy oZl
                    have hP := impl_part r kk A2 es1 c2 Ao (but g kk) co wr _ _ _ _ (owns_rv hE6).rg (owns_rv hord) HGs.out (but_nodup g kk) (fun x hx => but_range hx)
                    rw [hln, hes2] at hP
                    have HP := Lib.hid hP
                    have hTT2 := HTT.out
                    rw [hcv] at hTT2
                    have hgr2 := HCG.out
                    rw [hcv] at hgr2
                    have HTT2 := Lib.hid hTT2
                    have HG2 := Lib.hid hgr2
                    have hwks : G + 1 ≤ wk.heap.size := Y3.1
                    clear hP hTT2 hgr2 hcv hes2 hln hord HTT HCG HE hE6
                    go_wp2_with fail
                    with_reducible refine HP.out.mono ?_
                    rintro en w8 ⟨A3, c3, rfl, hog, hm8⟩
                    clear HP
                    replace hog := hog.wide (lo' := wk.heap.size) hmy.size (Nat.le_refl _) (Nat.le_refl _)
                    have hm28 := hmy.trans hm8
                    clear Y4 y0 y1 y2
                    replace b2 := b2.mid hm28 oZr
                    replace Y3 := Y3.mid hm28 oZr
                    replace hleft := owns_mid hleft hm28 oZl
                    replace hm := hm.trans hm28
                    clear hmy hm8 hm28
                    have y0 := Y3.cell 0 rfl
                    have y1 := Y3.cell 1 rfl
                    have y2 := Y3.cell 2 rfl
                    have yf := Y3.2.2
                    go_wp2_with fail
                    have hst := (Mid.setAt w8 G 0 (.int .i64 r)).trans ((Mid.setAt (w8.setCell ⟨G, 0, none⟩ (.int .i64 r)) G 1 (.int .i64 no)).trans (Mid.setAt ((w8.setCell ⟨G, 0, none⟩ (.int .i64 r)).setCell ⟨G, 1, none⟩ (.int .i64 no)) G 2 (.slice A3 es2.length c3)))
                    have Y5 := ((Y3.set 0 (.int .i64 r) (by simp) rfl).set 1 (.int .i64 no) (by simp) rfl).set 2 (.slice A3 es2.length c3) (by simp) rfl
                    have hm5 := ((hm.storeNew (p := ⟨G, 0, none⟩) (by show w.heap.size ≤ G; omega) (.int .i64 r)).storeNew (p := ⟨G, 1, none⟩) (by show w.heap.size ≤ G; omega) (.int .i64 no)).storeNew (p := ⟨G, 2, none⟩) (by show w.heap.size ≤ G; omega) (.slice A3 es2.length c3)
                    replace b2 := b2.mid hst (Or.inl (by omega))
                    replace hleft := owns_mid hleft hst (Or.inl (Nat.le_refl _))
                    replace hog := hog.mid hst (Or.inl hwks)
                    clear Y3 hm y0 y1 y2 yf hst
                    generalize ((w8.setCell ⟨G, 0, none⟩ (.int .i64 r)).setCell ⟨G, 1, none⟩ (.int .i64 no)).setCell ⟨G, 2, none⟩ (.slice A3 es2.length c3) = ws at Y5 hm5 b2 hleft hog ⊢
                    have hmd := Mid.drew1 ws
                    replace b2 := b2.mid hmd oZr
                    replace Y5 := Y5.mid hmd oZr
                    replace hleft := owns_mid hleft hmd oZl
                    replace hog := hog.mid hmd oZl
                    replace hm5 := hm5.trans hmd
                    clear hmd
                    obtain ⟨gl, rfl, hgl1, hgl2⟩ := owns_addr hleft (show 0 < kk by omega)
                    have hsc : kk ≤ cl := by
                      obtain ⟨A', c', hv0, hsc, hcm⟩ := owns_shape hleft
                      injection hv0 with _ _ hv0
                      omega
                    have hcut2 := owns_cut hleft (m := g) (by omega)
                    have hxl : (ints xs).length = kk * 1 := hleft.1
                    have hsrc := (Rs.of_own hleft).drop (k := g + 1) (n := kk) (cap := cl) 1 hxl hsc
                    have hdl : ((ints xs).drop ((g + 1) * 1)).length = (kk - (g + 1)) * 1 := by rw [List.length_drop, hxl]; omega
                    have hone : ∀ u ∈ (ints xs).drop ((g + 1) * 1), u.oneCell' = true := fun u hu => one_of_ints xs u (List.mem_of_mem_drop hu)
                    have hml : g + (kk - (g + 1)) ≤ maxLen := by unfold maxLen; omega
                    have hby : (g + (kk - (g + 1))) * 8 ≤ 140737488355328 := by omega
                    have hGs : G + 1 ≤ ws.drew.heap.size := Y5.1
                    have HCU := Lib.hid hcut2
                    have HSR := Lib.hid hsrc
                    have HDL := Lib.hid hdl
                    have HON := Lib.hid hone
                    have HXL := Lib.hid hxl
                    have hgi : (0 : Int) ≤ (g : Int) := by omega
                    have hgi1 : (0 : Int) ≤ (g : Int) + 1 := by omega
                    have hgk : (g : Int) < (kk : Int) := by omega
                    have hgk2 : (g : Int) + 1 ≤ (kk : Int) := by omega
                    have hgn : g ≤ cl := by omega
                    have hgn1 : g + 1 ≤ kk := by omega
                    have hgn2 : g + 1 ≤ cl := by omega
                    have hgc : (g : Int) ≤ (cl : Int) := by omega
                    have hgc2 : (g : Int) + 1 ≤ (cl : Int) := by omega
                    have hwrp : IntKind.i64.wrap ((g : Int) + 1) = (g : Int) + 1 := IntWalk.i64_in _ (by omega)
                    clear hcut2 hsrc hdl hone hxl
                    by_cases hcg : cl = g + 1
                    · rw [if_pos hcg] at HSR
                      have hcgF : (cl = g + 1) = True := eq_true hcg
                      clear hcg
                      refine wp_region_T (S := (fun _ => True)) 8 (by kernel_rfl) trivial ?_
                      generalize World.drew ws = wz at b2 Y5 hleft hog hm5 HCU HSR hGs ⊢
                      refine wpAnyT_take (i := 0) (v := ?_) rfl (by kernel_rfl) (by kernel_rfl) (by kernel_rfl) (by kernel_rfl) (fun _ _ _ h => h) (Or.inl ⟨by rfl, ?_⟩) trivial ?_
                      rotate_left
                      focus (intro w hSw; (try dsimp only at hSw); go_simp; try with_reducible rfl)
                      try simp only [Act.put, List.setIfInBounds_toArray, List.set_cons_zero, List.set_cons_succ, List.getElem_toArray, List.getElem_cons_zero, List.getElem_cons_succ]
                      refine wpAnyT_take (i := 1) (v := ?_) rfl (by kernel_rfl) (by kernel_rfl) (by kernel_rfl) (by kernel_rfl) (fun _ _ _ h => h) (Or.inl ⟨by rfl, ?_⟩) trivial ?_
                      rotate_left
                      focus (intro w hSw; (try dsimp only at hSw); go_simp; try with_reducible rfl)
                      try simp only [Act.put, List.setIfInBounds_toArray, List.set_cons_zero, List.set_cons_succ, List.getElem_toArray, List.getElem_cons_zero, List.getElem_cons_succ]
                      refine wpAnyT_take (i := 2) (v := ?_) rfl (by kernel_rfl) (by kernel_rfl) (by kernel_rfl) (by kernel_rfl) (fun _ _ _ h => h) (Or.inl ⟨by rfl, ?_⟩) trivial ?_
                      rotate_left
                      focus (intro w hSw; (try dsimp only at hSw); go_simp; try with_reducible rfl)
                      try simp only [Act.put, List.setIfInBounds_toArray, List.set_cons_zero, List.set_cons_succ, List.getElem_toArray, List.getElem_cons_zero, List.getElem_cons_succ]
                      refine wpAnyT_take (i := 3) (v := ?_) rfl (by kernel_rfl) (by kernel_rfl) (by kernel_rfl) (by kernel_rfl) (fun _ _ _ h => h) (Or.inl ⟨by rfl, ?_⟩) trivial ?_
                      rotate_left
                      focus (intro w hSw; (try dsimp only at hSw); go_simp; try with_reducible rfl)
                      try simp only [Act.put, List.setIfInBounds_toArray, List.set_cons_zero, List.set_cons_succ, List.getElem_toArray, List.getElem_cons_zero, List.getElem_cons_succ]
                      refine wpAnyT_take (i := 4) (v := ?_) rfl (by kernel_rfl) (by kernel_rfl) (by kernel_rfl) (by kernel_rfl) (fun _ _ _ h => h) (Or.inl ⟨by rfl, ?_⟩) trivial ?_
                      rotate_left
                      focus (intro w hSw; (try dsimp only at hSw); go_simp; try with_reducible rfl)
                      try simp only [Act.put, List.setIfInBounds_toArray, List.set_cons_zero, List.set_cons_succ, List.getElem_toArray, List.getElem_cons_zero, List.getElem_cons_succ]
                      refine wpAnyT_take (i := 5) (v := ?_) rfl (by kernel_rfl) (by kernel_rfl) (by kernel_rfl) (by kernel_rfl) (fun _ _ _ h => h) (Or.inl ⟨by rfl, ?_⟩) trivial ?_
                      rotate_left
                      focus (intro w hSw; (try dsimp only at hSw); go_simp; try with_reducible rfl)
                      try simp only [Act.put, List.setIfInBounds_toArray, List.set_cons_zero, List.set_cons_succ, List.getElem_toArray, List.getElem_cons_zero, List.getElem_cons_succ]
                      refine wpAnyT_take (i := 6) (v := ?_) rfl (by kernel_rfl) (by kernel_rfl) (by kernel_rfl) (by kernel_rfl) (fun _ _ _ h => h) (Or.inl ⟨by rfl, ?_⟩) trivial ?_
                      rotate_left
                      focus (intro w hSw; (try dsimp only at hSw); go_simp; try with_reducible rfl)
                      try simp only [Act.put, List.setIfInBounds_toArray, List.set_cons_zero, List.set_cons_succ, List.getElem_toArray, List.getElem_cons_zero, List.getElem_cons_succ]
                      refine wpAnyT_ready (rs := [7]) (by kernel_rfl) (by simp) (AllReadyT.cons rfl (fun K hK => ?_) AllReadyT.nil)
                      (refine step_cat (by rfl) (.tmp 77) (.tmp 81) 48 (by rfl) (G + 1) 3 (.int .i64 0) 1 8 undSI infoI rfl (by decide) (.slice (some ⟨gl, 0, none⟩) g cl) g _ (by rfl) HCU.out _ (kk - (g + 1)) _ _ ((ints xs).drop ((g + 1) * 1)) (by rfl) HSR.out HDL.out HON.out hml hby hGs ?_; intro v9 w9 ho9 hgr9 hat9; obtain ⟨A9, c9, rfl, -, -⟩ := owns_shape ho9)
                      refine hK.out _ _ (Or.inr trivial) (fun _ => ?_)
                      clear hK K
                      try simp only [Act.put, List.setIfInBounds_toArray, List.set_cons_zero, List.set_cons_succ, List.getElem_toArray, List.getElem_cons_zero, List.getElem_cons_succ]
                      refine wpAnyT_ready (rs := [8]) (by kernel_rfl) (by simp) (AllReadyT.cons rfl (fun K hK => ?_) AllReadyT.nil)
                      (go_simp)
                      refine hK.out _ _ (Or.inl rfl) (fun _ => ?_)
                      clear hK K
                      try simp only [Act.put, List.setIfInBounds_toArray, List.set_cons_zero, List.set_cons_succ, List.getElem_toArray, List.getElem_cons_zero, List.getElem_cons_succ]
                      refine wpAnyT_done (by kernel_rfl) ?_ _
                      go_wp2_with fail
                      go_roundw
                      case rel =>
                        have hm9 := Mid.of_grownRow HCU.out hgr9
                        have h0 := hog.ov.2.1.kept hgr9 (owns_ne hog.ov.2.1 HCU.out (by decide))
                        have hnl2 : g + (kk - (g + 1)) = no := by have := HL0.out; omega
                        have hb9 : Value.ownBlock (.slice A3 es2.length c3) ≠ some G := fun h => by have := (hog.ov.2.1.lt _ h).1; omega
                        have hxe : (ints xs).take (g * 1) ++ (ints xs).drop ((g + 1) * 1) = ints (xs.take g ++ xs.drop (g + 1)) := by simp [ints]
                        rw [hxe, hnl2] at ho9
                        exact ⟨m', no, es2, A3, c3, A9, c9, xs.take g ++ xs.drop (g + 1), by rw [hnl2], HTT2, by have := HL0.out; omega, HG2, ho9, Lib.hid (owns_base h0 (by omega)), Lib.hid hb9, b2.mid hm9 (Or.inl (by omega)), Y5.mid hm9 (Or.inl (by omega)), hm5.transNew hm9 (Or.inl (by omega))⟩
                      case measure =>
                        have h1 := sizeAt_box (Y5.mid (Mid.of_grownRow HCU.out hgr9) (Or.inl (by omega)))
                        have h2 := hlsz.out
                        have h3 := HL0.out
                        simp only [h1, h2]
                        omega
                    · rw [if_neg hcg] at HSR
                      have hcgF : (cl = g + 1) = False := eq_false hcg
                      clear hcg
                      replace HSR : Hid (Rs ws.drew ws.drew.heap.size (some ⟨gl, g + 1, none⟩) ((ints xs).drop ((g + 1) * 1))) := Lib.hid (by
                        have h := HSR.out
                        rw [show Option.map (fun x => x.add ((g + 1) * 1)) (some (⟨gl, 0, none⟩ : Addr)) = some ⟨gl, g + 1, none⟩ by simp [Addr.add]] at h
                        exact h)
                      refine wp_region_T (S := (fun _ => True)) 8 (by kernel_rfl) trivial ?_
                      generalize World.drew ws = wz at b2 Y5 hleft hog hm5 HCU HSR hGs ⊢
                      refine wpAnyT_take (i := 0) (v := ?_) rfl (by kernel_rfl) (by kernel_rfl) (by kernel_rfl) (by kernel_rfl) (fun _ _ _ h => h) (Or.inl ⟨by rfl, ?_⟩) trivial ?_
                      rotate_left
                      focus (intro w hSw; (try dsimp only at hSw); go_simp; try with_reducible rfl)
                      try simp only [Act.put, List.setIfInBounds_toArray, List.set_cons_zero, List.set_cons_succ, List.getElem_toArray, List.getElem_cons_zero, List.getElem_cons_succ]
                      refine wpAnyT_take (i := 1) (v := ?_) rfl (by kernel_rfl) (by kernel_rfl) (by kernel_rfl) (by kernel_rfl) (fun _ _ _ h => h) (Or.inl ⟨by rfl, ?_⟩) trivial ?_
                      rotate_left
                      focus (intro w hSw; (try dsimp only at hSw); go_simp; try with_reducible rfl)
                      try simp only [Act.put, List.setIfInBounds_toArray, List.set_cons_zero, List.set_cons_succ, List.getElem_toArray, List.getElem_cons_zero, List.getElem_cons_succ]
                      refine wpAnyT_take (i := 2) (v := ?_) rfl (by kernel_rfl) (by kernel_rfl) (by kernel_rfl) (by kernel_rfl) (fun _ _ _ h => h) (Or.inl ⟨by rfl, ?_⟩) trivial ?_
                      rotate_left
                      focus (intro w hSw; (try dsimp only at hSw); go_simp; try with_reducible rfl)
                      try simp only [Act.put, List.setIfInBounds_toArray, List.set_cons_zero, List.set_cons_succ, List.getElem_toArray, List.getElem_cons_zero, List.getElem_cons_succ]
                      refine wpAnyT_take (i := 3) (v := ?_) rfl (by kernel_rfl) (by kernel_rfl) (by kernel_rfl) (by kernel_rfl) (fun _ _ _ h => h) (Or.inl ⟨by rfl, ?_⟩) trivial ?_
                      rotate_left
                      focus (intro w hSw; (try dsimp only at hSw); go_simp; try with_reducible rfl)
                      try simp only [Act.put, List.setIfInBounds_toArray, List.set_cons_zero, List.set_cons_succ, List.getElem_toArray, List.getElem_cons_zero, List.getElem_cons_succ]
                      refine wpAnyT_take (i := 4) (v := ?_) rfl (by kernel_rfl) (by kernel_rfl) (by kernel_rfl) (by kernel_rfl) (fun _ _ _ h => h) (Or.inl ⟨by rfl, ?_⟩) trivial ?_
                      rotate_left
                      focus (intro w hSw; (try dsimp only at hSw); go_simp; try with_reducible rfl)
                      try simp only [Act.put, List.setIfInBounds_toArray, List.set_cons_zero, List.set_cons_succ, List.getElem_toArray, List.getElem_cons_zero, List.getElem_cons_succ]
                      refine wpAnyT_take (i := 5) (v := ?_) rfl (by kernel_rfl) (by kernel_rfl) (by kernel_rfl) (by kernel_rfl) (fun _ _ _ h => h) (Or.inl ⟨by rfl, ?_⟩) trivial ?_
                      rotate_left
                      focus (intro w hSw; (try dsimp only at hSw); go_simp; try with_reducible rfl)
                      try simp only [Act.put, List.setIfInBounds_toArray, List.set_cons_zero, List.set_cons_succ, List.getElem_toArray, List.getElem_cons_zero, List.getElem_cons_succ]
                      refine wpAnyT_take (i := 6) (v := ?_) rfl (by kernel_rfl) (by kernel_rfl) (by kernel_rfl) (by kernel_rfl) (fun _ _ _ h => h) (Or.inl ⟨by rfl, ?_⟩) trivial ?_
                      rotate_left
                      focus (intro w hSw; (try dsimp only at hSw); go_simp; try with_reducible rfl)
                      try simp only [Act.put, List.setIfInBounds_toArray, List.set_cons_zero, List.set_cons_succ, List.getElem_toArray, List.getElem_cons_zero, List.getElem_cons_succ]
                      refine wpAnyT_ready (rs := [7]) (by kernel_rfl) (by simp) (AllReadyT.cons rfl (fun K hK => ?_) AllReadyT.nil)
                      (refine step_cat (by rfl) (.tmp 77) (.tmp 81) 48 (by rfl) (G + 1) 3 (.int .i64 0) 1 8 undSI infoI rfl (by decide) (.slice (some ⟨gl, 0, none⟩) g cl) g _ (by rfl) HCU.out _ (kk - (g + 1)) _ _ ((ints xs).drop ((g + 1) * 1)) (by rfl) HSR.out HDL.out HON.out hml hby hGs ?_; intro v9 w9 ho9 hgr9 hat9; obtain ⟨A9, c9, rfl, -, -⟩ := owns_shape ho9)
                      refine hK.out _ _ (Or.inr trivial) (fun _ => ?_)
                      clear hK K
                      try simp only [Act.put, List.setIfInBounds_toArray, List.set_cons_zero, List.set_cons_succ, List.getElem_toArray, List.getElem_cons_zero, List.getElem_cons_succ]
                      refine wpAnyT_ready (rs := [8]) (by kernel_rfl) (by simp) (AllReadyT.cons rfl (fun K hK => ?_) AllReadyT.nil)
                      (go_simp)
                      refine hK.out _ _ (Or.inl rfl) (fun _ => ?_)
                      clear hK K
                      try simp only [Act.put, List.setIfInBounds_toArray, List.set_cons_zero, List.set_cons_succ, List.getElem_toArray, List.getElem_cons_zero, List.getElem_cons_succ]
                      refine wpAnyT_done (by kernel_rfl) ?_ _
                      go_wp2_with fail
                      go_roundw
                      case rel =>
                        have hm9 := Mid.of_grownRow HCU.out hgr9
                        have h0 := hog.ov.2.1.kept hgr9 (owns_ne hog.ov.2.1 HCU.out (by decide))
                        have hnl2 : g + (kk - (g + 1)) = no := by have := HL0.out; omega
                        have hb9 : Value.ownBlock (.slice A3 es2.length c3) ≠ some G := fun h => by have := (hog.ov.2.1.lt _ h).1; omega
                        have hxe : (ints xs).take (g * 1) ++ (ints xs).drop ((g + 1) * 1) = ints (xs.take g ++ xs.drop (g + 1)) := by simp [ints]
                        rw [hxe, hnl2] at ho9
                        exact ⟨m', no, es2, A3, c3, A9, c9, xs.take g ++ xs.drop (g + 1), by rw [hnl2], HTT2, by have := HL0.out; omega, HG2, ho9, Lib.hid (owns_base h0 (by omega)), Lib.hid hb9, b2.mid hm9 (Or.inl (by omega)), Y5.mid hm9 (Or.inl (by omega)), hm5.transNew hm9 (Or.inl (by omega))⟩
                      case measure =>
                        have h1 := sizeAt_box (Y5.mid (Mid.of_grownRow HCU.out hgr9) (Or.inl (by omega)))
                        have h2 := hlsz.out
                        have h3 := HL0.out
                        simp only [h1, h2]
                        omega
end Go.Proofs.YtkaofcakelpnpaaGreat

namespace Go.Proofs.YtkaofcakelpnpaaGreat
set_option linter.unusedVariables false
set_option linter.unusedSimpArgs false
open Go.RowKit
theorem IsGr.nat {r s : Int} {es : List Ed} (h : IsGr r s es) : ∃ k n : Nat, r = k ∧ s = n := by
  have h1 := h.rank
  have h2 := h.size
  exact ⟨r.toNat, s.toNat, by omega, by omega⟩
set_option maxHeartbeats 3200000 in
set_option maxRecDepth 20000 in
theorem impl_IsCore (r s : Int) (A : Option Addr) (es : List Ed) (c : Nat) (w : World) (lo hi : Nat) (hr : RG w lo hi A es) (hl : es.length ≤ 1048576) (hcl : es.length ≤ c) (b : Bool) (hb : b = true ↔ IsCor r s es) :
    Calls Tryz.prog 25 #[graV r s A es.length c] w fun e w' => e = .returned (.bool b) ∧ Mid 0 0 w w' := by
  have HB := Lib.hid hb
  clear hb
  have hm0 : Mid 0 0 w (w.alloc (.cells #[.int .i64 r, .int .i64 s, .slice A es.length c] 32)) := Mid.alloc _ _
  have b0 := Box.new w #[.int .i64 r, .int .i64 s, .slice A es.length c] 32
  by_cases hf : IsFol r s es
  · obtain ⟨r, n, rfl, rfl⟩ := hf.gr.nat
    have hn1 : 0 < n := by have := hf.gr.size; omega
    have HF := Lib.hid hf
    obtain ⟨T, hT⟩ : ∃ T, trimA 40 ((n : Int), es) = T := ⟨_, rfl⟩
    have HTS : Hid (T.1 = n ↔ leaf n es = none) := Lib.hid (by rw [← hT]; exact trimA_same (g := ((n : Int), es)) (by omega))
    have hTg : IsGr r T.1 T.2 := by rw [← hT]; exact trimA_gr 40 (g := ((n : Int), es)) hf.gr
    obtain ⟨tr, tn, -, htn⟩ := hTg.nat
    obtain ⟨ts, te⟩ := T
    simp only at htn HTS
    subst htn
    have htl := hTg.len
    have HTR := Lib.hid hT
    clear hf hT hTg
    have hTRIM := fun W h => impl_TrimGraph r n A es c W lo hi h HF.out.gr
    simp only [HTR.out] at hTRIM
    have HTRIM := Lib.hid hTRIM
    clear hTRIM HTR
    go_enter Tryz.func25, Tryz.ntmps25
    go_wp2_with fail
    with_reducible refine (impl_IsFolded r n A es c _ _ _ (hr.mid hm0 oZl) hl hcl true (iff_of_true rfl HF.out)).mono ?_
    rintro en w1 ⟨rfl, hm1⟩
    replace b0 := b0.mid hm1 oZr
    replace hm0 := hm0.trans hm1
    have p0 := b0.cell 0 rfl
    have p1 := b0.cell 1 rfl
    have p2 := b0.cell 2 rfl
    go_wp2_with fail
    with_reducible refine (HTRIM.out _ (hr.mid hm0 oZl)).mono ?_
    rintro en w2 ⟨A1, c1, Al, nl, cl, rfl, hog, hm2⟩
    replace b0 := b0.mid hm2 oZr
    replace hm0 := hm0.trans hm2
    have hal := Mid.alloc w2 (.cells #[.int .i64 r, .int .i64 tn, .slice A1 te.length c1] 32)
    have bt := Box.new w2 #[.int .i64 r, .int .i64 tn, .slice A1 te.length c1] 32
    replace b0 := b0.mid hal oZr
    replace hm0 := hm0.trans hal
    clear p0 p1 p2 HTRIM
    go_wp2_with fail
    generalize w2.alloc (.cells #[.int .i64 r, .int .i64 tn, .slice A1 te.length c1] 32) = w3 at b0 bt hm0 ⊢
    by_cases hts : (tn : Int) = n
    · have hlf := HTS.out.1 hts
      obtain rfl : tn = n := by omega
      obtain ⟨C, hC⟩ : ∃ C, canonG r ((tn : Int), es) = C := ⟨_, rfl⟩
      have hCg : IsGr r C.1 C.2 := by rw [← hC]; exact canonG_gr (g := ((tn : Int), es)) HF.out.gr
      have HB2 : Hid (b = true ↔ (r : Int) = r ∧ C.1 = tn ∧ C.2 = es) := Lib.hid (by
        rw [HB.out]
        constructor
        · intro h
          have h1 := h.canon
          rw [hC] at h1
          exact ⟨rfl, by rw [h1], by rw [h1]⟩
        · rintro ⟨-, h1, h2⟩
          exact ⟨HF.out, hlf, by rw [hC]; exact Prod.ext h1 h2⟩)
      have hcl2 := hCg.len
      have hmd := Mid.drew1 w3
      replace b0 := b0.mid hmd oZr
      replace bt := bt.mid hmd oZr
      replace hm0 := hm0.trans hmd
      have p0 := b0.cell 0 rfl
      have p1 := b0.cell 1 rfl
      have p2 := b0.cell 2 rfl
      have q1 := bt.cell 1 rfl
      have hCAN := fun W h => impl_CanonicalGraph r tn A es c W lo hi h hcl HF.out.gr
      simp only [hC] at hCAN
      have HCAN := Lib.hid hCAN
      clear hCAN hC hCg HB hlf HTS hts hmd
      refine wp_region_T (S := (fun w' => w'.cell? ⟨w.heap.size, 0, none⟩ = some (.int .i64 r) ∧ w'.cell? ⟨w.heap.size, 1, none⟩ = some (.int .i64 tn) ∧ w'.cell? ⟨w.heap.size, 2, none⟩ = some (.slice A es.length c) ∧ w'.cell? ⟨w2.heap.size, 1, none⟩ = some (.int .i64 tn))) 11 (by kernel_rfl) ⟨p0, p1, p2, q1⟩ ?_
      generalize World.drew w3 = wz at b0 bt hm0 p0 p1 p2 q1 ⊢
      have hS : wz.cell? ⟨w.heap.size, 0, none⟩ = some (.int .i64 r) ∧ wz.cell? ⟨w.heap.size, 1, none⟩ = some (.int .i64 tn) ∧ wz.cell? ⟨w.heap.size, 2, none⟩ = some (.slice A es.length c) ∧ wz.cell? ⟨w2.heap.size, 1, none⟩ = some (.int .i64 tn) := ⟨p0, p1, p2, q1⟩
      refine wpAnyT_take (i := 0) (v := ?_) rfl (by kernel_rfl) (by kernel_rfl) (by kernel_rfl) (by kernel_rfl) (fun _ _ _ h => h) (Or.inl ⟨by rfl, ?_⟩) hS ?_
      rotate_left
      focus (intro w hSw; (try dsimp only at hSw); go_simp; try with_reducible rfl)
      try simp only [Act.put, List.setIfInBounds_toArray, List.set_cons_zero, List.set_cons_succ, List.getElem_toArray, List.getElem_cons_zero, List.getElem_cons_succ]
      refine wpAnyT_take (i := 1) (v := ?_) rfl (by kernel_rfl) (by kernel_rfl) (by kernel_rfl) (by kernel_rfl) (fun _ _ _ h => h) (Or.inl ⟨by rfl, ?_⟩) hS ?_
      rotate_left
      focus (intro w hSw; (try dsimp only at hSw); go_simp; try with_reducible rfl)
      try simp only [Act.put, List.setIfInBounds_toArray, List.set_cons_zero, List.set_cons_succ, List.getElem_toArray, List.getElem_cons_zero, List.getElem_cons_succ]
      refine wpAnyT_take (i := 2) (v := ?_) rfl (by kernel_rfl) (by kernel_rfl) (by kernel_rfl) (by kernel_rfl) (fun _ _ _ h => h) (Or.inl ⟨by rfl, ?_⟩) hS ?_
      rotate_left
      focus (intro w hSw; (try dsimp only at hSw); go_simp; try with_reducible rfl)
      try simp only [Act.put, List.setIfInBounds_toArray, List.set_cons_zero, List.set_cons_succ, List.getElem_toArray, List.getElem_cons_zero, List.getElem_cons_succ]
      refine wpAnyT_take (i := 3) (v := ?_) rfl (by kernel_rfl) (by kernel_rfl) (by kernel_rfl) (by kernel_rfl) (fun _ _ _ h => h) (Or.inl ⟨by rfl, ?_⟩) hS ?_
      rotate_left
      focus (intro w hSw; (try dsimp only at hSw); go_simp; try with_reducible rfl)
      try simp only [Act.put, List.setIfInBounds_toArray, List.set_cons_zero, List.set_cons_succ, List.getElem_toArray, List.getElem_cons_zero, List.getElem_cons_succ]
      refine wpAnyT_take (i := 4) (v := ?_) rfl (by kernel_rfl) (by kernel_rfl) (by kernel_rfl) (by kernel_rfl) (fun _ _ _ h => h) (Or.inl ⟨by rfl, ?_⟩) hS ?_
      rotate_left
      focus (intro w hSw; (try dsimp only at hSw); go_simp; try with_reducible rfl)
      try simp only [Act.put, List.setIfInBounds_toArray, List.set_cons_zero, List.set_cons_succ, List.getElem_toArray, List.getElem_cons_zero, List.getElem_cons_succ]
      refine wpAnyT_take (i := 5) (v := ?_) rfl (by kernel_rfl) (by kernel_rfl) (by kernel_rfl) (by kernel_rfl) (fun _ _ _ h => h) (Or.inl ⟨by rfl, ?_⟩) hS ?_
      rotate_left
      focus (intro w hSw; (try dsimp only at hSw); go_simp; try with_reducible rfl)
      try simp only [Act.put, List.setIfInBounds_toArray, List.set_cons_zero, List.set_cons_succ, List.getElem_toArray, List.getElem_cons_zero, List.getElem_cons_succ]
      refine wpAnyT_take (i := 6) (v := ?_) rfl (by kernel_rfl) (by kernel_rfl) (by kernel_rfl) (by kernel_rfl) (fun _ _ _ h => h) (Or.inl ⟨by rfl, ?_⟩) hS ?_
      rotate_left
      focus (intro w hSw; (try dsimp only at hSw); go_simp; try with_reducible rfl)
      try simp only [Act.put, List.setIfInBounds_toArray, List.set_cons_zero, List.set_cons_succ, List.getElem_toArray, List.getElem_cons_zero, List.getElem_cons_succ]
      refine wpAnyT_take (i := 8) (v := ?_) rfl (by kernel_rfl) (by kernel_rfl) (by kernel_rfl) (by kernel_rfl) (fun _ _ _ h => h) (Or.inl ⟨by rfl, ?_⟩) hS ?_
      rotate_left
      focus (intro w hSw; (try dsimp only at hSw); go_simp; try with_reducible rfl)
      try simp only [Act.put, List.setIfInBounds_toArray, List.set_cons_zero, List.set_cons_succ, List.getElem_toArray, List.getElem_cons_zero, List.getElem_cons_succ]
      refine wpAnyT_ready (rs := [7]) (by kernel_rfl) (by simp) (AllReadyT.cons rfl (fun K hK => ?_) AllReadyT.nil)
      (go_simp; refine (HCAN.out _ (hr.mid hm0 oZl)).mono ?_; rintro en w4 ⟨A4, c4, rfl, hog4, hm4⟩; have b0' := b0.mid hm4 oZr; have bt' := bt.mid hm4 oZr; go_wp2_with fail)
      refine hK.out _ _ (Or.inr ⟨b0'.cell 0 rfl, b0'.cell 1 rfl, b0'.cell 2 rfl, bt'.cell 1 rfl⟩) (fun _ => ?_)
      clear hK K
      try simp only [Act.put, List.setIfInBounds_toArray, List.set_cons_zero, List.set_cons_succ, List.getElem_toArray, List.getElem_cons_zero, List.getElem_cons_succ]
      replace hm0 := hm0.trans hm4
      have hE := impl_EqualGraphs r C.1 A4 C.2 c4 r tn A es c w4 _ _ _ _ hog4.rg (hr.mid hm0 oZl) (by omega) hl b (by have h := HB2.out; simpa using h)
      have HE := Lib.hid hE
      clear hS p0 p1 p2 q1 b0 bt HCAN HB2 hE hm4
      refine wpAnyT_ready (rs := [9]) (by kernel_rfl) (by simp) (AllReadyT.cons rfl (fun K hK => ?_) AllReadyT.nil)
      (go_simp; refine HE.out.mono ?_; rintro en w5 ⟨rfl, hm5⟩; have b0 := b0'.mid hm5 oZr; have bt := bt'.mid hm5 oZr; go_wp2_with fail)
      refine hK.out _ _ (Or.inr ⟨b0.cell 0 rfl, b0.cell 1 rfl, b0.cell 2 rfl, bt.cell 1 rfl⟩) (fun _ => ?_)
      clear hK K
      try simp only [Act.put, List.setIfInBounds_toArray, List.set_cons_zero, List.set_cons_succ, List.getElem_toArray, List.getElem_cons_zero, List.getElem_cons_succ]
      have hS2 : w5.cell? ⟨w.heap.size, 0, none⟩ = some (.int .i64 r) ∧ w5.cell? ⟨w.heap.size, 1, none⟩ = some (.int .i64 tn) ∧ w5.cell? ⟨w.heap.size, 2, none⟩ = some (.slice A es.length c) ∧ w5.cell? ⟨w2.heap.size, 1, none⟩ = some (.int .i64 tn) := ⟨b0.cell 0 rfl, b0.cell 1 rfl, b0.cell 2 rfl, bt.cell 1 rfl⟩
      have hmm := hm0.trans hm5
      clear HE b0' bt'
      refine wpAnyT_take (i := 10) (v := ?_) rfl (by kernel_rfl) (by kernel_rfl) (by kernel_rfl) (by kernel_rfl) (fun _ _ _ h => h) (Or.inl ⟨by rfl, ?_⟩) hS2 ?_
      rotate_left
      focus (intro w hSw; (try dsimp only at hSw); go_simp; try with_reducible rfl)
      try simp only [Act.put, List.setIfInBounds_toArray, List.set_cons_zero, List.set_cons_succ, List.getElem_toArray, List.getElem_cons_zero, List.getElem_cons_succ]
      refine wpAnyT_ready (rs := [11]) (by kernel_rfl) (by simp) (AllReadyT.cons rfl (fun K hK => ?_) AllReadyT.nil)
      (go_simp)
      refine hK.out _ _ (Or.inl rfl) (fun _ => ?_)
      clear hK K
      try simp only [Act.put, List.setIfInBounds_toArray, List.set_cons_zero, List.set_cons_succ, List.getElem_toArray, List.getElem_cons_zero, List.getElem_cons_succ]
      refine wpAnyT_done (by kernel_rfl) ?_ _
      go_wp2_with fail
      go_ret
      exact ⟨rfl, hmm⟩
    · obtain rfl : b = false := bool_no HB.out fun h => hts (HTS.out.2 h.leaf)
      have d1 : ((tn : Int) == (n : Int)) = false := by simpa only [beq_eq_false_iff_ne] using hts
      have d2 : ¬ tn = n := fun h => hts (by rw [h])
      have u0 := wg_cell b0.1 (b0.cell 0 rfl)
      have u1 := wg_cell b0.1 (b0.cell 1 rfl)
      have u2 := wg_cell b0.1 (b0.cell 2 rfl)
      have v1 := wg_cell bt.1 (bt.cell 1 rfl)
      clear HB HTS hts
      refine wp_region_quiet_wg (by kernel_rfl) (by kernel_rfl) ?_
      repeat
        (with_reducible refine wpQuiet_step (fun K hK => ?_))
        go_simp
        first
          | ((with_reducible refine hK _ ?_); clear hK K)
          | (rw [if_neg (by decide)]; (with_reducible refine hK _ ?_); clear hK K)
          | (apply Exists.intro; refine ⟨fun _ => ?_, hK _ ?_⟩; (fail); clear hK K)
      with_reducible refine wpQuiet_nil ?_
      intro _ hw'
      obtain ⟨⟨nq, osq⟩, hw''⟩ := hw'
      subst hw''
      go_wp2_with fail
      go_ret
      exact ⟨rfl, hm0.trans (Mid.ofWg w3 nq osq)⟩
  · obtain rfl : b = false := bool_no HB.out fun h => hf h.fol
    have HF := Lib.hid hf
    clear hf HB
    go_enter Tryz.func25, Tryz.ntmps25
    go_wp2_with fail
    with_reducible refine (impl_IsFolded r s A es c _ _ _ (hr.mid hm0 oZl) hl hcl false (iff_of_false Bool.false_ne_true HF.out)).mono ?_
    rintro en w1 ⟨rfl, hm1⟩
    go_wp2_with fail
    go_ret
    exact ⟨rfl, hm0.trans hm1⟩
set_option maxHeartbeats 3200000 in
set_option maxRecDepth 20000 in
theorem spec_IsCore (r s : Int) (A : Option Addr) (es : List Ed) (c : Nat) (w : World) (lo hi : Nat) (hr : RG w lo hi A es) (hl : es.length ≤ 1048576) (b : Bool) (hb : b = true ↔ IsCor r s es) :
    Calls Tryz.prog 38 #[graV r s A es.length c] w fun e w' => e = .returned (.bool b) ∧ Mid 0 0 w w' := by
  have HB := Lib.hid hb
  clear hb
  have hm0 : Mid 0 0 w (w.alloc (.cells #[.int .i64 r, .int .i64 s, .slice A es.length c] 32)) := Mid.alloc _ _
  have b0 := Box.new w #[.int .i64 r, .int .i64 s, .slice A es.length c] 32
  by_cases hf : IsFol r s es
  · obtain ⟨r, n, rfl, rfl⟩ := hf.gr.nat
    have HF := Lib.hid hf
    clear hf
    have hFol := fun W h => spec_IsFolded r n A es c W lo hi h hl true (iff_of_true rfl HF.out)
    have hLeaf := fun W h => spec_l8Leaf r n A es c W lo hi h HF.out.gr
    obtain ⟨lf, hlf⟩ : ∃ lf, leafI n es = lf := ⟨_, rfl⟩
    have HLF := Lib.hid hlf
    simp only [hlf] at hLeaf
    clear hlf
    have HFol := Lib.hid hFol
    have HLeaf := Lib.hid hLeaf
    clear hFol hLeaf
    by_cases hln : leaf n es = none
    · have hlf0 : lf = -1 := by rw [← HLF.out, leafI_none hln]
      subst hlf0
      obtain ⟨C, hC⟩ : ∃ C, canonG r ((n : Int), es) = C := ⟨_, rfl⟩
      have hCg : IsGr r C.1 C.2 := by rw [← hC]; exact canonG_gr (g := ((n : Int), es)) HF.out.gr
      have HB2 : Hid (b = true ↔ (r : Int) = r ∧ C.1 = n ∧ C.2 = es) := Lib.hid (by
        rw [HB.out]
        constructor
        · intro h
          have h1 := h.canon
          rw [hC] at h1
          exact ⟨rfl, by rw [h1], by rw [h1]⟩
        · rintro ⟨-, h1, h2⟩
          exact ⟨HF.out, hln, by rw [hC]; exact Prod.ext h1 h2⟩)
      have hcl2 := hCg.len
      have hCAN := fun W h => spec_CanonicalGraph r n A es c W lo hi h HF.out.gr
      simp only [hC] at hCAN
      have HCAN := Lib.hid hCAN
      clear hCAN hC hCg HB hln HLF
      go_enter Tryz.func38, Tryz.ntmps38
      go_wp2_with fail
      generalize w.alloc (.cells #[.int .i64 r, .int .i64 n, .slice A es.length c] 32) = w3 at b0 hm0 ⊢
      have hmd := Mid.drew1 w3
      replace b0 := b0.mid hmd oZr
      replace hm0 := hm0.trans hmd
      have p0 := b0.cell 0 rfl
      have p1 := b0.cell 1 rfl
      have p2 := b0.cell 2 rfl
      clear hmd
      refine wp_region_T (S := (fun w' => w'.cell? ⟨w.heap.size, 0, none⟩ = some (.int .i64 r) ∧ w'.cell? ⟨w.heap.size, 1, none⟩ = some (.int .i64 n) ∧ w'.cell? ⟨w.heap.size, 2, none⟩ = some (.slice A es.length c))) 13 (by kernel_rfl) ⟨p0, p1, p2⟩ ?_
      generalize World.drew w3 = wz at b0 hm0 p0 p1 p2 ⊢
      have hS : wz.cell? ⟨w.heap.size, 0, none⟩ = some (.int .i64 r) ∧ wz.cell? ⟨w.heap.size, 1, none⟩ = some (.int .i64 n) ∧ wz.cell? ⟨w.heap.size, 2, none⟩ = some (.slice A es.length c) := ⟨p0, p1, p2⟩
      refine wpAnyT_take (i := 0) (v := ?_) rfl (by kernel_rfl) (by kernel_rfl) (by kernel_rfl) (by kernel_rfl) (fun _ _ _ h => h) (Or.inl ⟨by rfl, ?_⟩) hS ?_
      rotate_left
      focus (intro w hSw; (try dsimp only at hSw); go_simp; try with_reducible rfl)
      try simp only [Act.put, List.setIfInBounds_toArray, List.set_cons_zero, List.set_cons_succ, List.getElem_toArray, List.getElem_cons_zero, List.getElem_cons_succ]
      refine wpAnyT_ready (rs := [1]) (by kernel_rfl) (by simp) (AllReadyT.cons rfl (fun K hK => ?_) AllReadyT.nil)
      (go_simp; refine (HFol.out _ (hr.mid hm0 oZl)).mono ?_; rintro en w4 ⟨rfl, hm4⟩; have b1 := b0.mid hm4 oZr; go_wp2_with fail)
      refine hK.out _ _ (Or.inr ⟨b1.cell 0 rfl, b1.cell 1 rfl, b1.cell 2 rfl⟩) (fun _ => ?_)
      clear hK K
      try simp only [Act.put, List.setIfInBounds_toArray, List.set_cons_zero, List.set_cons_succ, List.getElem_toArray, List.getElem_cons_zero, List.getElem_cons_succ]
      replace hm0 := hm0.trans hm4
      have hS4 : w4.cell? ⟨w.heap.size, 0, none⟩ = some (.int .i64 r) ∧ w4.cell? ⟨w.heap.size, 1, none⟩ = some (.int .i64 n) ∧ w4.cell? ⟨w.heap.size, 2, none⟩ = some (.slice A es.length c) := ⟨b1.cell 0 rfl, b1.cell 1 rfl, b1.cell 2 rfl⟩
      clear b0 hS p0 p1 p2 hm4 HFol
      refine wpAnyT_take (i := 2) (v := ?_) rfl (by kernel_rfl) (by kernel_rfl) (by kernel_rfl) (by kernel_rfl) (fun _ _ _ h => h) (Or.inl ⟨by rfl, ?_⟩) hS4 ?_
      rotate_left
      focus (intro w hSw; (try dsimp only at hSw); go_simp; try with_reducible rfl)
      try simp only [Act.put, List.setIfInBounds_toArray, List.set_cons_zero, List.set_cons_succ, List.getElem_toArray, List.getElem_cons_zero, List.getElem_cons_succ]
      refine wpAnyT_take (i := 3) (v := ?_) rfl (by kernel_rfl) (by kernel_rfl) (by kernel_rfl) (by kernel_rfl) (fun _ _ _ h => h) (Or.inl ⟨by rfl, ?_⟩) hS4 ?_
      rotate_left
      focus (intro w hSw; (try dsimp only at hSw); go_simp; try with_reducible rfl)
      try simp only [Act.put, List.setIfInBounds_toArray, List.set_cons_zero, List.set_cons_succ, List.getElem_toArray, List.getElem_cons_zero, List.getElem_cons_succ]
      refine wpAnyT_ready (rs := [4]) (by kernel_rfl) (by simp) (AllReadyT.cons rfl (fun K hK => ?_) AllReadyT.nil)
      (go_simp; refine (HLeaf.out _ (hr.mid hm0 oZl)).mono ?_; rintro en w5 ⟨rfl, hm5⟩; have b2 := b1.mid hm5 oZr; go_wp2_with fail)
      refine hK.out _ _ (Or.inr ⟨b2.cell 0 rfl, b2.cell 1 rfl, b2.cell 2 rfl⟩) (fun _ => ?_)
      clear hK K
      try simp only [Act.put, List.setIfInBounds_toArray, List.set_cons_zero, List.set_cons_succ, List.getElem_toArray, List.getElem_cons_zero, List.getElem_cons_succ]
      replace hm0 := hm0.trans hm5
      have hS5 : w5.cell? ⟨w.heap.size, 0, none⟩ = some (.int .i64 r) ∧ w5.cell? ⟨w.heap.size, 1, none⟩ = some (.int .i64 n) ∧ w5.cell? ⟨w.heap.size, 2, none⟩ = some (.slice A es.length c) := ⟨b2.cell 0 rfl, b2.cell 1 rfl, b2.cell 2 rfl⟩
      clear b1 hS4 hm5 HLeaf
      refine wpAnyT_take (i := 5) (v := ?_) rfl (by kernel_rfl) (by kernel_rfl) (by kernel_rfl) (by kernel_rfl) (fun _ _ _ h => h) (Or.inl ⟨by rfl, ?_⟩) hS5 ?_
      rotate_left
      focus (intro w hSw; (try dsimp only at hSw); go_simp; try with_reducible rfl)
      try simp only [Act.put, List.setIfInBounds_toArray, List.set_cons_zero, List.set_cons_succ, List.getElem_toArray, List.getElem_cons_zero, List.getElem_cons_succ]
      refine wpAnyT_take (i := 6) (v := ?_) rfl (by kernel_rfl) (by kernel_rfl) (by kernel_rfl) (by kernel_rfl) (fun _ _ _ h => h) (Or.inl ⟨by rfl, ?_⟩) hS5 ?_
      rotate_left
      focus (intro w hSw; (try dsimp only at hSw); go_simp; try with_reducible rfl)
      try simp only [Act.put, List.setIfInBounds_toArray, List.set_cons_zero, List.set_cons_succ, List.getElem_toArray, List.getElem_cons_zero, List.getElem_cons_succ]
      refine wpAnyT_take (i := 7) (v := ?_) rfl (by kernel_rfl) (by kernel_rfl) (by kernel_rfl) (by kernel_rfl) (fun _ _ _ h => h) (Or.inl ⟨by rfl, ?_⟩) hS5 ?_
      rotate_left
      focus (intro w hSw; (try dsimp only at hSw); go_simp; try with_reducible rfl)
      try simp only [Act.put, List.setIfInBounds_toArray, List.set_cons_zero, List.set_cons_succ, List.getElem_toArray, List.getElem_cons_zero, List.getElem_cons_succ]
      refine wpAnyT_take (i := 8) (v := ?_) rfl (by kernel_rfl) (by kernel_rfl) (by kernel_rfl) (by kernel_rfl) (fun _ _ _ h => h) (Or.inl ⟨by rfl, ?_⟩) hS5 ?_
      rotate_left
      focus (intro w hSw; (try dsimp only at hSw); go_simp; try with_reducible rfl)
      try simp only [Act.put, List.setIfInBounds_toArray, List.set_cons_zero, List.set_cons_succ, List.getElem_toArray, List.getElem_cons_zero, List.getElem_cons_succ]
      refine wpAnyT_take (i := 10) (v := ?_) rfl (by kernel_rfl) (by kernel_rfl) (by kernel_rfl) (by kernel_rfl) (fun _ _ _ h => h) (Or.inl ⟨by rfl, ?_⟩) hS5 ?_
      rotate_left
      focus (intro w hSw; (try dsimp only at hSw); go_simp; try with_reducible rfl)
      try simp only [Act.put, List.setIfInBounds_toArray, List.set_cons_zero, List.set_cons_succ, List.getElem_toArray, List.getElem_cons_zero, List.getElem_cons_succ]
      refine wpAnyT_ready (rs := [9]) (by kernel_rfl) (by simp) (AllReadyT.cons rfl (fun K hK => ?_) AllReadyT.nil)
      (go_simp; refine (HCAN.out _ (hr.mid hm0 oZl)).mono ?_; rintro en w6 ⟨A6, c6, rfl, hog6, hm6⟩; have b3 := b2.mid hm6 oZr; go_wp2_with fail)
      refine hK.out _ _ (Or.inr ⟨b3.cell 0 rfl, b3.cell 1 rfl, b3.cell 2 rfl⟩) (fun _ => ?_)
      clear hK K
      try simp only [Act.put, List.setIfInBounds_toArray, List.set_cons_zero, List.set_cons_succ, List.getElem_toArray, List.getElem_cons_zero, List.getElem_cons_succ]
      replace hm0 := hm0.trans hm6
      have hE := spec_EqualGraphs r C.1 A6 C.2 c6 r n A es c w6 _ _ _ _ hog6.rg (hr.mid hm0 oZl) (by omega) hl b (by have h := HB2.out; simpa using h)
      have HE := Lib.hid hE
      clear hS5 b2 HCAN HB2 hE hm6
      refine wpAnyT_ready (rs := [11]) (by kernel_rfl) (by simp) (AllReadyT.cons rfl (fun K hK => ?_) AllReadyT.nil)
      (go_simp; refine HE.out.mono ?_; rintro en w7 ⟨rfl, hm7⟩; have b4 := b3.mid hm7 oZr; go_wp2_with fail)
      refine hK.out _ _ (Or.inr ⟨b4.cell 0 rfl, b4.cell 1 rfl, b4.cell 2 rfl⟩) (fun _ => ?_)
      clear hK K
      try simp only [Act.put, List.setIfInBounds_toArray, List.set_cons_zero, List.set_cons_succ, List.getElem_toArray, List.getElem_cons_zero, List.getElem_cons_succ]
      have hS7 : w7.cell? ⟨w.heap.size, 0, none⟩ = some (.int .i64 r) ∧ w7.cell? ⟨w.heap.size, 1, none⟩ = some (.int .i64 n) ∧ w7.cell? ⟨w.heap.size, 2, none⟩ = some (.slice A es.length c) := ⟨b4.cell 0 rfl, b4.cell 1 rfl, b4.cell 2 rfl⟩
      have hmm := hm0.trans hm7
      clear HE b3
      refine wpAnyT_take (i := 12) (v := ?_) rfl (by kernel_rfl) (by kernel_rfl) (by kernel_rfl) (by kernel_rfl) (fun _ _ _ h => h) (Or.inl ⟨by rfl, ?_⟩) hS7 ?_
      rotate_left
      focus (intro w hSw; (try dsimp only at hSw); go_simp; try with_reducible rfl)
      try simp only [Act.put, List.setIfInBounds_toArray, List.set_cons_zero, List.set_cons_succ, List.getElem_toArray, List.getElem_cons_zero, List.getElem_cons_succ]
      refine wpAnyT_ready (rs := [13]) (by kernel_rfl) (by simp) (AllReadyT.cons rfl (fun K hK => ?_) AllReadyT.nil)
      (go_simp)
      refine hK.out _ _ (Or.inl rfl) (fun _ => ?_)
      clear hK K
      try simp only [Act.put, List.setIfInBounds_toArray, List.set_cons_zero, List.set_cons_succ, List.getElem_toArray, List.getElem_cons_zero, List.getElem_cons_succ]
      refine wpAnyT_done (by kernel_rfl) ?_ _
      go_wp2_with fail
      go_ret
      exact ⟨rfl, hmm⟩
    · obtain rfl : b = false := bool_no HB.out fun h => hln h.leaf
      obtain ⟨v, hv⟩ : ∃ v : Nat, leaf n es = some v := by
        cases h : leaf n es with
        | none => exact absurd h hln
        | some v => exact ⟨v, rfl⟩
      have hlf0 : lf = v := by rw [← HLF.out, leafI_some hv]
      subst hlf0
      have d1 : decide ((v : Int) < 0) = false := by simp
      clear HB hln hv HLF
      go_enter Tryz.func38, Tryz.ntmps38
      go_wp2_with fail
      generalize w.alloc (.cells #[.int .i64 r, .int .i64 n, .slice A es.length c] 32) = w3 at b0 hm0 ⊢
      have u0 := wg_cell b0.1 (b0.cell 0 rfl)
      have u1 := wg_cell b0.1 (b0.cell 1 rfl)
      have u2 := wg_cell b0.1 (b0.cell 2 rfl)
      have hA1 := fun m os => HFol.out (wg w3 m os) (hr.mid (hm0.trans (Mid.ofWg w3 m os)) oZl)
      have hA2 := fun m os => HLeaf.out (wg w3 m os) (hr.mid (hm0.trans (Mid.ofWg w3 m os)) oZl)
      refine wp_region_quiet_wg (by kernel_rfl) (by kernel_rfl) ?_
      repeat
        (with_reducible refine wpQuiet_step (fun K hK => ?_))
        go_simp
        first
          | ((with_reducible refine hK _ ?_); clear hK K)
          | (rw [if_neg (by decide)]; (with_reducible refine hK _ ?_); clear hK K)
          | (apply Exists.intro; refine ⟨fun _ => ?_, hK _ ?_⟩; ((first | (go_at_call 64; exact Calls.wg_of (hA1 _ _)) | (go_at_call 65; exact Calls.wg_of (hA2 _ _)))); clear hK K)
      with_reducible refine wpQuiet_nil ?_
      intro _ hw'
      obtain ⟨⟨nq, osq⟩, hw''⟩ := hw'
      subst hw''
      go_wp2_with fail
      go_ret
      exact ⟨rfl, hm0.trans (Mid.ofWg w3 nq osq)⟩
  · obtain rfl : b = false := bool_no HB.out fun h => hf h.fol
    have hFol := fun W h => spec_IsFolded r s A es c W lo hi h hl false (iff_of_false Bool.false_ne_true hf)
    have HFol := Lib.hid hFol
    clear hf HB hFol
    go_enter Tryz.func38, Tryz.ntmps38
    go_wp2_with fail
    generalize w.alloc (.cells #[.int .i64 r, .int .i64 s, .slice A es.length c] 32) = w3 at b0 hm0 ⊢
    have u0 := wg_cell b0.1 (b0.cell 0 rfl)
    have u1 := wg_cell b0.1 (b0.cell 1 rfl)
    have u2 := wg_cell b0.1 (b0.cell 2 rfl)
    have hA1 := fun m os => HFol.out (wg w3 m os) (hr.mid (hm0.trans (Mid.ofWg w3 m os)) oZl)
    refine wp_region_quiet_wg (by kernel_rfl) (by kernel_rfl) ?_
    repeat
      (with_reducible refine wpQuiet_step (fun K hK => ?_))
      go_simp
      first
        | ((with_reducible refine hK _ ?_); clear hK K)
        | (rw [if_neg (by decide)]; (with_reducible refine hK _ ?_); clear hK K)
        | (apply Exists.intro; refine ⟨fun _ => ?_, hK _ ?_⟩; ((go_at_call 64; exact Calls.wg_of (hA1 _ _))); clear hK K)
    with_reducible refine wpQuiet_nil ?_
    intro _ hw'
    obtain ⟨⟨nq, osq⟩, hw''⟩ := hw'
    subst hw''
    go_wp2_with fail
    go_ret
    exact ⟨rfl, hm0.trans (Mid.ofWg w3 nq osq)⟩
set_option maxHeartbeats 1600000 in
theorem spec_IsSubgroup (r s : Int) (A : Option Addr) (es : List Ed) (c : Nat) (w : World) (lo hi : Nat) (hr : RG w lo hi A es) (hl : es.length ≤ 1048576) (b : Bool) (hb : b = true ↔ IsCor r s es) :
    Calls Tryz.prog 18 #[graV r s A es.length c] w fun e w' => e = .returned (.bool b) ∧ Mid 0 0 w w' := by
  have hm0 : Mid 0 0 w (w.alloc (.cells #[.int .i64 r, .int .i64 s, .slice A es.length c] 32)) := Mid.alloc _ _
  have HB := Lib.hid hb
  clear hb
  go_enter Tryz.func18, Tryz.ntmps18
  go_wp2_with fail
  with_reducible refine (spec_IsCore r s A es c _ _ _ (hr.mid hm0 oZl) hl b HB.out).mono ?_
  rintro en w1 ⟨rfl, hm1⟩
  go_wp2_with fail
  go_ret
  exact ⟨rfl, hm0.trans hm1⟩
open Classical in
noncomputable def rankI (r s : Int) (es : List Ed) : Int := if IsCor r s es then (es.length : Int) - s + 1 else -1
end Go.Proofs.YtkaofcakelpnpaaGreat

namespace Go.Proofs.YtkaofcakelpnpaaGreat
set_option linter.unusedVariables false
set_option linter.unusedSimpArgs false
open Go.RowKit
def Full (r n : Nat) (es : List Ed) : Prop := ∀ v : Nat, v < n → ∀ x ∈ lets r, 0 ≤ nextV es v x
def FullTo (r : Nat) (es : List Ed) (v j : Nat) : Prop := (∀ u : Nat, u < v → ∀ x ∈ lets r, 0 ≤ nextV es u x) ∧ ∀ x ∈ (lets r).take j, 0 ≤ nextV es v x
theorem FullTo.zero (r : Nat) (es : List Ed) : FullTo r es 0 0 := ⟨fun u h => absurd h (Nat.not_lt_zero _), by simp⟩
theorem FullTo.step {r : Nat} {es : List Ed} {v j : Nat} {x : Int} (hx : (lets r)[j]? = some x) : FullTo r es v (j + 1) ↔ FullTo r es v j ∧ 0 ≤ nextV es v x := by
  unfold FullTo
  rw [take_snocI hx]
  constructor
  · rintro ⟨h1, h2⟩
    exact ⟨⟨h1, fun y hy => h2 y (List.mem_append.2 (.inl hy))⟩, h2 x (by simp)⟩
  · rintro ⟨⟨h1, h2⟩, h3⟩
    refine ⟨h1, fun y hy => ?_⟩
    rcases List.mem_append.1 hy with hy | hy
    · exact h2 y hy
    · simp at hy; subst hy; exact h3
theorem FullTo.row {r : Nat} {es : List Ed} {v : Nat} : FullTo r es v (lets r).length ↔ FullTo r es (v + 1) 0 := by
  unfold FullTo
  rw [List.take_length]
  constructor
  · rintro ⟨h1, h2⟩
    refine ⟨fun u hu x hx => ?_, by simp⟩
    by_cases h : u < v
    · exact h1 u h x hx
    · obtain rfl : u = v := by omega
      exact h2 x hx
  · rintro ⟨h1, -⟩
    exact ⟨fun u hu x hx => h1 u (by omega) x hx, fun x hx => h1 v (by omega) x hx⟩
theorem FullTo.all {r n : Nat} {es : List Ed} : FullTo r es n 0 ↔ Full r n es := ⟨fun h => h.1, fun h => ⟨h, by simp⟩⟩
structure IsFin (r s : Int) (es : List Ed) : Prop where
  cor : IsCor r s es
  full : Full r.toNat s.toNat es
end Go.Proofs.YtkaofcakelpnpaaGreat

namespace Go.Proofs.YtkaofcakelpnpaaGreat
set_option linter.unusedVariables false
set_option linter.unusedSimpArgs false
open Go.RowKit
def rowL (n : Nat) (es : List Ed) (x : Int) : List Int := (List.range n).map fun (v : Nat) => nextV es (v : Int) x
def actL (n : Nat) (es : List Ed) (k : Nat) : List (List Int) := (List.range k).map fun (i : Nat) => rowL n es ((i : Int) + 1)
open Classical in
noncomputable def actI (r s : Int) (es : List Ed) : List (List Int) := if IsFin r s es then actL s.toNat es r.toNat else []
def ActionOfIs (r0 s0 : Int) (d0 : List Ed) (res0 : List (List Int)) : Prop := res0 = actI r0 s0 d0
end Go.Proofs.YtkaofcakelpnpaaGreat

namespace Go.Proofs.YtkaofcakelpnpaaGreat
set_option linter.unusedVariables false
set_option linter.unusedSimpArgs false
open Go.RowKit
structure Grp (w : World) (lo a b : Nat) (A : Option Addr) (n c : Nat) (rows : List Row) (Aa : Option Addr) (act : List (List Int)) : Prop where
  out : w.ownsRow lo 48 1 (.slice A n c) n (rowsV rows)
  rows : OwnRows w b w.heap.size 3 rows
  act : RSS w a b Aa act
  off : ∀ g, Value.ownBlock (.slice A n c) = some g → g < a ∨ b ≤ g
  lob : lo ≤ b
section
variable {w w' : World} {lo a b : Nat} {A : Option Addr} {n c : Nat} {rows : List Row} {Aa : Option Addr} {act : List (List Int)}
theorem Grp.len (h : Grp w lo a b A n c rows Aa act) : rows.length = n := by
  have := h.out.1
  rw [rowsV_len] at this
  omega
theorem Grp.mid (h : Grp w lo a b A n c rows Aa act) (m : Mid 0 0 w w') : Grp w' lo a b A n c rows Aa act :=
  ⟨owns_mid h.out m oZl, (h.rows.mid m oZl).wide (Nat.le_refl _) m.size (Nat.le_refl _), h.act.mid m oZl, h.off, h.lob⟩
theorem Grp.rss (h : Grp w lo a b A n c rows Aa act) : RSS w lo w.heap.size A (rowsD rows) :=
  (OSS.mk' h.out (h.rows.wide h.lob (Nat.le_refl _) (Nat.le_refl _)) rfl).rss
theorem Grp.row (h : Grp w lo a b A n c rows Aa act) {k : Nat} (hk : k < n) :
    ∃ b off A' c' xs, A = some ⟨b, off, none⟩ ∧ lo ≤ b ∧ b < w.heap.size ∧ (rowsD rows)[k]? = some xs ∧ w.cell? ⟨b, off + k, none⟩ = some (.slice A' xs.length c') ∧ RV w lo w.heap.size A' (ints xs) :=
  h.rss.row (by rw [rowsD_len, h.len]; exact hk)
theorem Grp.push {W : World} {W' : World} {A' : Option Addr} {c' : Nat} {r : Row} (h : Grp w lo a b A n c rows Aa act) (m : Mid 0 0 w W) (hrow : W.ownsRow w.heap.size 3 1 r.v r.xs.length (ints r.xs))
    (h1 : W'.ownsRow lo 48 1 (.slice A' (n + 1) c') (n + 1) (rowsV rows ++ [r.v])) (h2 : W.grownBy W' (Value.ownBlock (.slice A n c))) (h3 : Value.ownBlock (.slice A' (n + 1) c') = Value.ownBlock (.slice A n c) ∨ Value.ownBlock (.slice A' (n + 1) c') = some (W.heap.size + 1)) :
    Grp W' lo a b A' (n + 1) c' (rows ++ [r]) Aa act := by
  have hbs := h.act.size
  have hms := m.size
  have hG := h.mid m
  refine ⟨by rw [rowsV_append]; exact h1, ?_, ?_, ?_, h.lob⟩
  · have k1 := (h.rows.mid m oZl).push (r := r) (base := w.heap.size) (hi' := W.heap.size) hrow (Nat.le_refl _) hbs hms (Nat.le_refl _) (fun g hg => (hrow.lt g hg).2)
    exact (k1.grown hG.out (by decide) h2).wide (Nat.le_refl _) h2.size (Nat.le_refl _)
  · cases hob : Value.ownBlock (.slice A n c) with
    | none =>
      rw [hob] at h2
      exact hG.act.mid (Mid.of_grown (lo := 0) (hi := 0) h2 (by intro g hg; cases hg)) oZl
    | some g =>
      rw [hob] at h2
      have := h.off g hob
      exact hG.act.mid (Mid.of_grown (lo := g) (hi := g + 1) h2 (by intro g' hg; injection hg with hg; omega)) (by omega)
  · intro g hg
    rcases h3 with h3 | h3
    · exact h.off g (by rw [← h3]; exact hg)
    · rw [h3] at hg
      injection hg with hg
      omega
end
section
variable {W : World} {ops : Array Oper} {rest : List Oper} {o : Oper} {ac : Act} {Q : Exit → Act → World → Prop}
theorem wpList_pushG {w : World} {lo a b : Nat} {A : Option Addr} {n c : Nat} {rows : List Row} {Aa : Option Addr} {act : List (List Int)} (hgd : o.guard = none) (s x : Operand)
    (ho : o.op = .call { callee := .builtin .append, args := #[s, x], argTypes := #[22, 22] }) (hs : ac.eval s = .slice A n c)
    (h : Grp w lo a b A n c rows Aa act) (m : Mid 0 0 w W) (r : Row) (hrow : W.ownsRow w.heap.size 3 1 r.v r.xs.length (ints r.xs)) (hx : ac.eval x = .slice (some ⟨W.heap.size, 0, none⟩) 1 1) (hn : n ≤ 1048576)
    (hk : ∀ A' c' w', Grp w' lo a b A' (n + 1) c' (rows ++ [r]) Aa act → Mid lo W.heap.size W w' → wpList Tryz.prog ops Q rest (ac.put o.dst (.slice A' (n + 1) c')) w') :
    wpList Tryz.prog ops Q (o :: rest) ac (W.alloc (.cells #[r.v] 48)) := by
  have hbs := h.act.size
  have hms := m.size
  have hlo := h.lob
  refine wpList_push (news := [r.v]) hgd s x 22 ho lo 48 (.slice none 0 0) 1 24 undSSI infoSI rfl (by decide) (.slice A n c) n (rowsV rows) hs (h.mid m).out 1 hx rfl ?_ (by unfold maxLen; omega) (by omega) (by omega) ?_
  · intro u hu
    simp at hu
    subst hu
    rfl
  · intro v' w' h1 h2 h3
    obtain ⟨A', c', rfl, -, -⟩ := owns_shape h1
    exact hk A' c' w' (h.push m hrow h1 h2 h3) (Mid.of_grownRow (h.mid m).out h2)
end
open Classical in
noncomputable def grpI (r s : Int) (es : List Ed) : List (List Int) := if IsFin r s es then grpRun (actL s.toNat es r.toNat) 201 0 [upto s.toNat] else []
theorem sumL_le {m : Nat} : ∀ (l : List (List Int)), (∀ x ∈ l, x.length ≤ m) → sumL l ≤ l.length * m
  | [], _ => by simp [sumL]
  | x :: t, h => by
    have h1 := sumL_le t fun y hy => h y (by simp [hy])
    have h2 := h x (by simp)
    have h3 : sumL (x :: t) = x.length + sumL t := by simp [sumL]
    rw [h3, List.length_cons, Nat.succ_mul]
    omega
end Go.Proofs.YtkaofcakelpnpaaGreat

namespace Go.Proofs.YtkaofcakelpnpaaGreat
set_option linter.unusedVariables false
set_option linter.unusedSimpArgs false
open Go.RowKit
section
variable {P : Program} (w : World)
end
section
variable {W : World} {ops : Array Oper} {rest : List Oper} {o : Oper} {a : Act} {Q : Exit → Act → World → Prop}
end
def OldRows (w : World) (g : Nat) (rows0 : List Row) : Prop := g < w.heap.size ∧ ∀ k u, (rowsV rows0)[k]? = some u → w.cell? ⟨g, k, none⟩ = some u
theorem OldRows.mid {w w' : World} {g lo hi : Nat} {rows0 : List Row} (h : OldRows w g rows0) (m : Mid lo hi w w') (hd : g < lo ∨ hi ≤ g) : OldRows w' g rows0 :=
  ⟨Nat.lt_of_lt_of_le h.1 m.size, fun k u hu => (World.cell?_of_block (m.block g h.1 (by omega))).trans (h.2 k u hu)⟩
theorem OldRows.push {W W' : World} {lo g : Nat} {A A' : Option Addr} {n c c' : Nat} {rows0 rows : List Row} {r : Row} (h : OldRows W g rows0) (hp : rows0 <+: rows)
    (h1 : W'.ownsRow lo 48 1 (.slice A' (n + 1) c') (n + 1) (rowsV rows ++ [r.v])) (h2 : W.grownBy W' (Value.ownBlock (.slice A n c)))
    (h6 : Value.ownBlock (.slice A' (n + 1) c') = Value.ownBlock (.slice A n c) ∨ W.grownBy W' none) : OldRows W' g rows0 := by
  refine ⟨Nat.lt_of_lt_of_le h.1 h2.size, fun k u hu => ?_⟩
  by_cases hb : Value.ownBlock (.slice A n c) = some g
  · rcases h6 with h6 | h6
    · have hg' : Value.ownBlock (.slice A' (n + 1) c') = some g := h6.trans hb
      have hk : (rowsV rows ++ [r.v])[k]? = some u := by
        obtain ⟨t, rfl⟩ := hp
        rw [rowsV_append, List.append_assoc, List.getElem?_append_left (List.getElem?_eq_some_iff.1 hu).1]
        exact hu
      have := h1.cells hg' k u hk
      rw [Addr.add_lit, Nat.zero_add] at this
      exact this
    · exact h6.cell (h.2 k u hu) (by simp)
  · exact h2.cell (h.2 k u hu) (by intro e; exact hb e.symm)
section
variable {W : World} {ops : Array Oper} {rest : List Oper} {o : Oper} {ac : Act} {Q : Exit → Act → World → Prop}
end
end Go.Proofs.YtkaofcakelpnpaaGreat

namespace Go.Proofs.YtkaofcakelpnpaaGreat
set_option linter.unusedVariables false
set_option linter.unusedSimpArgs false
def oneW (f : List Int → Int → Bool) (L : List Int) (w : List Int) : List (List Int) := (L.filter (f w)).map fun x => w ++ [x]
def layStep (f : List Int → Int → Bool) (L : List Int) (l : List (List Int)) : List (List Int) := l.flatMap (oneW f L)
def lay (f : List Int → Int → Bool) (L : List Int) : Nat → List (List Int)
  | 0 => [[]]
  | n + 1 => layStep f L (lay f L n)
def pre (f : List Int → Int → Bool) (L : List Int) : Nat → List (List Int)
  | 0 => []
  | n + 1 => pre f L n ++ lay f L n
section
variable {f : List Int → Int → Bool} {L : List Int}
theorem oneW_len (w : List Int) : (oneW f L w).length ≤ L.length := by
  unfold oneW
  rw [List.length_map]
  exact List.length_filter_le _ _
theorem layStep_len (l : List (List Int)) : (layStep f L l).length ≤ l.length * L.length := by
  induction l with
  | nil => simp [layStep]
  | cons w t ih =>
    have h1 := oneW_len (f := f) (L := L) w
    have h2 : layStep f L (w :: t) = oneW f L w ++ layStep f L t := rfl
    rw [h2, List.length_append, List.length_cons, Nat.succ_mul]
    omega
theorem lay_len (hL : L.length ≤ 6) : ∀ n, (lay f L n).length ≤ 6 ^ n
  | 0 => by simp [lay]
  | n + 1 => by
    have h1 := lay_len hL n
    have h2 := layStep_len (f := f) (L := L) (lay f L n)
    have h3 : (lay f L n).length * L.length ≤ 6 ^ n * 6 := Nat.mul_le_mul h1 hL
    rw [Nat.pow_succ]
    exact Nat.le_trans h2 h3
theorem lay_b (hL : L.length ≤ 6) {n : Nat} (hn : n ≤ 5) : (lay f L n).length ≤ 7776 := by
  have h1 := lay_len (f := f) hL n
  have h2 : 6 ^ n ≤ 6 ^ 5 := Nat.pow_le_pow_right (by omega) hn
  omega
theorem pre_b (hL : L.length ≤ 6) : ∀ {n : Nat}, n ≤ 6 → (pre f L n).length ≤ n * 7776
  | 0, _ => by simp [pre]
  | n + 1, hn => by
    have h1 := pre_b hL (n := n) (by omega)
    have h2 := lay_b (f := f) hL (n := n) (by omega)
    rw [pre, List.length_append]
    omega
theorem mem_layStep {l : List (List Int)} {v : List Int} : v ∈ layStep f L l ↔ ∃ w ∈ l, ∃ x ∈ L, f w x = true ∧ v = w ++ [x] := by
  unfold layStep oneW
  simp only [List.mem_flatMap, List.mem_map, List.mem_filter]
  constructor
  · rintro ⟨w, hw, x, ⟨hx, hf⟩, rfl⟩
    exact ⟨w, hw, x, hx, hf, rfl⟩
  · rintro ⟨w, hw, x, hx, hf, rfl⟩
    exact ⟨w, hw, x, ⟨hx, hf⟩, rfl⟩
theorem lay_ok : ∀ {n : Nat} {v : List Int}, v ∈ lay f L n → v.length = n ∧ ∀ x ∈ v, x ∈ L
  | 0, v, h => by simp [lay] at h; subst h; simp
  | n + 1, v, h => by
    obtain ⟨w, hw, x, hx, -, rfl⟩ := mem_layStep.1 h
    obtain ⟨h1, h2⟩ := lay_ok hw
    refine ⟨by simp [h1], fun y hy => ?_⟩
    rcases List.mem_append.1 hy with hy | hy
    · exact h2 y hy
    · simp at hy
      subst hy
      exact hx
theorem pre_ok : ∀ {n : Nat} {v : List Int}, v ∈ pre f L n → v.length < n ∧ ∀ x ∈ v, x ∈ L
  | 0, v, h => by simp [pre] at h
  | n + 1, v, h => by
    rcases List.mem_append.1 h with h | h
    · have := pre_ok h
      exact ⟨by omega, this.2⟩
    · have := lay_ok h
      exact ⟨by omega, this.2⟩
end
def okB (w : List Int) (x : Int) : Bool := !(w.getLast? == some (-x))
end Go.Proofs.YtkaofcakelpnpaaGreat

namespace Go.Proofs.YtkaofcakelpnpaaGreat
set_option linter.unusedVariables false
set_option linter.unusedSimpArgs false
open Go.RowKit
end Go.Proofs.YtkaofcakelpnpaaGreat

namespace Go.Proofs.YtkaofcakelpnpaaGreat
set_option linter.unusedVariables false
set_option linter.unusedSimpArgs false
open Go.RowKit
set_option maxHeartbeats 800000 in
theorem impl_InvertWord (A : Option Addr) (xs : List Int) (c B : Nat) (w : World) (hr : Rs w B A (ints xs)) (hB : B ≤ w.heap.size) (hok : OkI xs) (hl : xs.length ≤ 4194304) :
    Calls Tryz.prog 57 #[.slice A xs.length c] w fun e w' => RetI 3 (invW xs) w e w' := by
  have HOK := Lib.hid hok
  clear hok
  have hmx : xs.length ≤ maxLen := by unfold maxLen; omega
  obtain ⟨i0, hi, hz0, hz1, hz2⟩ := info_parts infoI
  have hby : i0.bytes * xs.length ≤ 281474976710656 := by rw [hz2]; omega
  go_enter Tryz.func57, Tryz.ntmps57
  go_wp2_with (at_make; refine wpList_make_own _ rfl _ _ 48 rfl w.heap.size 3 i0 (.int .i64 0) 1 undSI hi hz0 hz1 .i64 .i64 _ xs.length rfl rfl rfl hby hmx (Nat.le_refl _) ?_; intro w1 hown1 hgr1)
  have hb1 := below_none hgr1
  clear hi hz0 hz1 hz2 hby
  go_loopw [3, 4] (fun v i wr => ∃ j : Nat, j ≤ xs.length ∧ i = .int .i64 ((j : Int) - 1) ∧ wr.ownsRow w.heap.size 3 1 v (xs.length - j) (ints (invW (xs.drop j))) ∧ Below w.heap.size w wr)
    (fun _ i _ => (intOf i + 1).toNat)
  case atStart => exact ⟨xs.length, Nat.le_refl _, rfl, by simpa [invW, ints] using hown1, hb1⟩
  case round =>
    obtain ⟨j, hj, rfl, hown, hb⟩ := hrel
    have hsz := hb.size
    cases j with
    | zero =>
      go_wp2_with fail
      go_ret
      exact RetI.mk (by rw [invW_len]) (by simpa using hown) hb
    | succ m =>
      rw [show (((m + 1 : Nat) : Int) - 1) = (m : Int) from by omega]
      obtain ⟨b, off, x, rfl, -, hx, hc⟩ := ((hr.more hB).below hb).int (show m < xs.length by omega)
      have hbx := HOK.out x (List.mem_of_getElem? hx)
      have HW := Lib.hid (wrap_neg hbx.1 hbx.2)
      have HX := Lib.hid hx
      clear hx hbx
      go_wp2_with (at_builtin; refine wpList_push rfl _ _ 48 rfl w.heap.size 3 (.int .i64 0) 1 8 undSI infoI rfl (by decide) _ _ _ rfl hown 1 [.int .i64 (wrap64 (-x))] rfl rfl ?c1 ?c2 ?c3 hsz ?next)
      case c1 => exact one_of_ints [wrap64 (-x)]
      case c2 => unfold maxLen; omega
      case c3 => omega
      case next =>
        intro v' w1 hown1 hgr _
        go_wp2_with fail
        go_roundw
        case rel =>
          refine ⟨m, by omega, rfl, ?_, hb.grown hgr hsz (fun g hg => (hown.lt g hg).1)⟩
          rw [drop_of xs HX.out, invW_cons, ints_append, show xs.length - m = xs.length - (m + 1) + 1 from by omega, ← HW.out]
          exact hown1
        case measure => simp [intOf]
def halfN (xs : List Int) : Nat := (xs.length + 1) / 2
def halfA (xs : List Int) : List Int := xs.take (halfN xs)
def halfB (xs : List Int) : List Int := (invW xs).take (halfN xs)
def halves (xs : List Int) : List Int × List Int := if 0 < cmpW (halfA xs) (halfB xs) then (halfB xs, halfA xs) else (halfA xs, halfB xs)
theorem okI_invW {xs : List Int} (h : OkI xs) : OkI (invW xs) := by
  intro x hx
  unfold invW at hx
  rw [List.mem_reverse, List.mem_map] at hx
  obtain ⟨y, hy, rfl⟩ := hx
  have := h y hy
  unfold negI minI
  split <;> omega
def RetHalves (xs : List Int) (w : World) (e : Ending) (w' : World) : Prop :=
  ∃ A c A' c', e = .returned (.tuple #[.slice A (halfN xs) c, .slice A' (halfN xs) c']) ∧ Rs w' w'.heap.size A (ints (halves xs).1) ∧ Rs w' w'.heap.size A' (ints (halves xs).2) ∧ Mid 0 0 w w'
theorem impl_InvertWordX (A : Option Addr) (xs : List Int) (c B : Nat) (w : World) (hr : Rs w B A (ints xs)) (hB : B ≤ w.heap.size) (hok : OkI xs) (hl : xs.length ≤ 4194304) :
    Calls Tryz.prog 57 #[.slice A xs.length c] w fun e w' => ∃ A2 c2, e = .returned (.slice A2 xs.length c2) ∧ xs.length ≤ c2 ∧ w'.ownsRow w.heap.size 3 1 (.slice A2 xs.length c2) xs.length (ints (invW xs)) ∧ Below w.heap.size w w' :=
  (impl_InvertWord A xs c B w hr hB hok hl).mono fun e w' h => by
    obtain ⟨A2, c2, he, ho, hb⟩ := h
    obtain ⟨A2', c2', he2, hn2, -⟩ := owns_shape ho
    injection he2 with he2a _ he2c
    subst he2a he2c
    rw [invW_len] at he hn2 ho
    exact ⟨A2, c2, he, hn2, ho, hb⟩
end Go.Proofs.YtkaofcakelpnpaaGreat
