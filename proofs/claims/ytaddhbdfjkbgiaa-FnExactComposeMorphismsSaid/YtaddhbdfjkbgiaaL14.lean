/- IdentityMorphism, both sides. -/
import Derived.Test.YtaddhbdfjkbgiaaL13
import Derived.Test.YtaddhbdfjkbgiaaB3
namespace Go.Proofs.Ytaddhbdfjkbgiaa
set_option linter.unusedVariables false
set_option linter.unusedSimpArgs false
open Go.RowKit

/-- The words of one letter 1, .., n. -/
def idW (n : Nat) : List (List Int) := (List.range n).map fun (i : Nat) => [(i : Int) + 1]
theorem idW_succ (n : Nat) : idW (n + 1) = idW n ++ [[(n : Int) + 1]] := by simp [idW, List.range_succ]
theorem idW_len (n : Nat) : (idW n).length = n := by simp [idW]
def idM (r : Int) : Mor := if 1 ≤ r ∧ r ≤ 3 then ⟨r, idW r.toNat⟩ else ⟨0, []⟩
def idB (r : Int) : Bool := inB r 1 3


set_option maxHeartbeats 1600000 in
theorem spec_IdentityMorphism (r : Int) (w : World) :
    Calls Try.prog 15 #[.int .i64 r] w fun e w' => ∃ A c, e = .returned (.tuple #[.agg #[.int .i64 (idM r).rank, .slice A (idM r).imgs.length c], .bool (idB r)]) ∧
      OSS w' w.heap.size w'.heap.size 36 3 A c (idM r).imgs ∧ Mid 0 0 w w' := by
  by_cases hb : inB r 1 3 = false
  · have hd : idM r = ⟨0, []⟩ := by
      unfold idM
      rw [if_neg]
      intro h
      simp [inB] at hb
      omega
    have HD := Lib.hid hd
    clear hd
    have HB := Lib.hid hb
    go_enter Try.func15, Try.ntmps15
    go_wp2_with fail
    with_reducible refine (l1In_any _ _ _ _).mono ?_
    rintro e w1 ⟨rfl, rfl⟩
    rw [HB.out]
    go_wp2_with fail
    refine bodyPost_ret (v := .tuple #[.agg #[.int .i64 0, .slice none 0 0], .bool false]) (by simp [results, Try.results15, go_sem]) rfl ⟨none, 0, ?_, ?_, ?_⟩
    · rw [HD.out, show idB r = false from HB.out]
      rfl
    · rw [HD.out]
      exact OSS.nil
    · repeat (first | exact Mid.alloc _ _ | refine Mid.storeNew ?_ (by simp) _)
  · have hb' : inB r 1 3 = true := by simpa using hb
    have hr : 1 ≤ r ∧ r ≤ 3 := by simpa [inB] using hb'
    obtain ⟨n, rfl⟩ : ∃ n : Nat, r = (n : Int) := ⟨r.toNat, by omega⟩
    have hn : n ≤ 3 := by omega
    have hd : idM n = ⟨n, idW n⟩ := by
      unfold idM
      rw [if_pos hr]
      simp
    have HD := Lib.hid hd
    have HB := Lib.hid hb'
    clear hd hb hb' hr
    go_enter Try.func15, Try.ntmps15
    go_wp2_with fail
    with_reducible refine (l1In_any _ _ _ _).mono ?_
    rintro e w1 ⟨rfl, rfl⟩
    rw [HB.out]
    go_wp2_with fail
    have hbx0 := (Box.new (w.alloc (.cells #[.int .i64 0, .slice none 0 0] 24)) #[.int .i64 n, .slice none 0 0] 24)
    have hby0 := (Box.new w #[.int .i64 0, .slice none 0 0] 24).mid (Mid.alloc _ (.cells #[.int .i64 n, .slice none 0 0] 24)) (Or.inr (Nat.zero_le _))
    have hm0 : Mid 0 0 w ((w.alloc (.cells #[.int .i64 0, .slice none 0 0] 24)).alloc (.cells #[.int .i64 n, .slice none 0 0] 24)) := (Mid.alloc _ _).trans (Mid.alloc _ _)
    rw [World.size_alloc] at hbx0
    go_loopw [5] (fun i wr => ∃ k : Nat, ∃ rows : List Row, ∃ A c, k ≤ n ∧ i = .int .i64 ((k : Int) + 1) ∧ rowsD rows = idW k ∧
      Box wr (w.heap.size + 1) [.int .i64 n, .slice A k c] ∧ Box wr w.heap.size [.int .i64 0, .slice none 0 0] ∧ 
      wr.ownsRow (w.heap.size + 2) 36 1 (.slice A k c) k (rowsV rows) ∧ OwnRows wr (w.heap.size + 2) wr.heap.size 3 rows ∧ Mid 0 0 w wr ∧ w.heap.size + 2 ≤ wr.heap.size)
      (fun i _ => n + 1 - (intOf i).toNat)
    case atStart => exact ⟨0, [], none, 0, Nat.zero_le _, by simp, by simp [rowsD, idW], hbx0, hby0, ⟨rfl, .inl ⟨rfl, rfl⟩⟩, OwnRows.nil, hm0, by simp⟩
    case round =>
      obtain ⟨k, rows, A, c, hk, rfl, hrd, hbx, hby, hown, hrows, hm, hsz⟩ := hrel
      have HRD := Lib.hid hrd
      clear hrd
      have bx1 := hbx.cell 1 rfl
      have bx0 := hbx.cell 0 rfl
      have by0 := hby.cell 0 rfl
      have by1 := hby.cell 1 rfl
      have fx := hbx.2.2
      have fy := hby.2.2
      by_cases hlt : k < n
      · have hma : Mid 0 0 wr (wr.alloc (.cells #[.int .i64 ((k : Int) + 1)] 3)) := Mid.alloc _ _
        have hownA := hown.alloc (.cells #[.int .i64 ((k : Int) + 1)] 3)
        have hrowsA := hrows.mid hma (Or.inl (Nat.zero_le _))
        have hrow := World.ownsRow_lit (e := 3) (size := 1) wr #[.int .i64 ((k : Int) + 1)] 1 (Nat.le_refl _) (by decide) rfl
        go_wp2_with (at_builtin; refine wpList_push rfl _ _ 22 rfl (w.heap.size + 2) 36 (.slice none 0 0) 1 24 undSSI infoSI rfl (by decide) _ _ _ rfl hownA 1 [.slice (some ⟨wr.heap.size, 0, none⟩) 1 1] (by simp [go_sem]) rfl ?c1 ?c2 ?c3 (by simp; omega) ?next)
        case c1 => simp [Value.oneCell']
        case c2 => unfold maxLen; omega
        case c3 => omega
        case next =>
          intro v' w1 hown1 hgr _
          have hmg := Mid.of_grownRow hownA hgr
          have hs1 := hmg.size
          simp only [World.size_alloc] at hs1 hmg
          have hbx1 := (hbx.mid hma (Or.inr (Nat.zero_le _))).mid hmg (Or.inl (by omega))
          have hby1 := (hby.mid hma (Or.inr (Nat.zero_le _))).mid hmg (Or.inl (by omega))
          have bx1' := hbx1.cell 1 rfl
          have fx1 := hbx1.2.2
          obtain ⟨A', c', rfl, -, -⟩ := owns_shape hown1
          go_wp2_with fail
          go_roundw
          case rel =>
            have hp := hrowsA.push (r := ⟨some ⟨wr.heap.size, 0, none⟩, 1, [(k : Int) + 1]⟩) (base := wr.heap.size) (hi' := wr.heap.size + 1) hrow (Nat.le_refl _) hsz (by omega) (by simp)
              (by intro g hg; simp [Row.v, Value.ownBlock] at hg; omega)
            have hp1 := (hp.grown hownA (by decide) hgr).mid (Mid.setCell w1 (lo := w.heap.size + 1) (hi := w.heap.size + 2) (p := ⟨w.heap.size + 1, 1, none⟩) (.slice A' (k + 1) c') (by simp) (by simp)) (Or.inl (Nat.le_refl _))
            have hms := Mid.setCell w1 (lo := w.heap.size + 1) (hi := w.heap.size + 2) (p := ⟨w.heap.size + 1, 1, none⟩) (.slice A' (k + 1) c') (by simp) (by simp)
            refine ⟨k + 1, rows ++ [⟨some ⟨wr.heap.size, 0, none⟩, 1, [(k : Int) + 1]⟩], A', c', by omega, by go_num, ?_, hbx1.set 1 _ (by simp) rfl, hby1.mid hms (Or.inl (by omega)), ?_, hp1.wide (Nat.le_refl _) (by simpa using hs1) (by simp), ?_, by simp; omega⟩
            · rw [rowsD_append, HRD.out, idW_succ]
              rfl
            · rw [rowsV_append]
              exact owns_mid hown1 hms (Or.inl (Nat.le_refl _))
            · exact ((hm.trans hma).transNew hmg (Or.inl (by omega))).storeNew (by simp) _
          case measure => simp [intOf]; omega
      · obtain rfl : k = n := by omega
        go_wp2_with fail
        have hD : rowsD rows = idW k := HRD.out
        refine bodyPost_ret (v := .tuple #[.agg #[.int .i64 k, .slice A k c], .bool true]) (by simp [results, Try.results15, go_sem, by0, by1, fy]) rfl ⟨A, c, ?_, ?_, ?_⟩
        · rw [HD.out, show idB k = true from HB.out]
          simp [idW_len]
        · refine OSS.wide ((OSS.mk' hown hrows (by rw [hD, HD.out])).mid (a := w.heap.size) (b := w.heap.size + 1) ?_ (Or.inl (by omega))) (by omega) (by simp) (Nat.le_refl _)
          repeat (first | exact Mid.refl _ _ _ | refine Mid.stored ?_ _ (by simp) (by simp))
        · repeat (first | exact hm | refine Mid.storeNew ?_ (by simp) _)


set_option maxHeartbeats 1600000 in
theorem impl_IdentityMorphism (r : Int) (w : World) :
    Calls Try.prog 16 #[.int .i64 r] w fun e w' => ∃ A c, e = .returned (.tuple #[.agg #[.int .i64 (idM r).rank, .slice A (idM r).imgs.length c], .bool (idB r)]) ∧
      OSS w' w.heap.size w'.heap.size 36 3 A c (idM r).imgs ∧ Mid 0 0 w w' := by
  by_cases hb : inB r 1 3 = false
  · have hd : idM r = ⟨0, []⟩ := by
      unfold idM
      rw [if_neg]
      intro h
      simp [inB] at hb
      omega
    have HD := Lib.hid hd
    clear hd
    have HB := Lib.hid hb
    go_enter Try.func16, Try.ntmps16
    go_wp2_with fail
    with_reducible refine (within_any _ _ _ _).mono ?_
    rintro e w1 ⟨rfl, rfl⟩
    rw [HB.out]
    go_wp2_with fail
    refine bodyPost_ret (v := .tuple #[.agg #[.int .i64 0, .slice none 0 0], .bool false]) (by simp [results, Try.results16, go_sem]) rfl ⟨none, 0, ?_, ?_, ?_⟩
    · rw [HD.out, show idB r = false from HB.out]
      rfl
    · rw [HD.out]
      exact OSS.nil
    · repeat (first | exact Mid.alloc _ _ | refine Mid.storeNew ?_ (by simp) _)
  · have hb' : inB r 1 3 = true := by simpa using hb
    have hr : 1 ≤ r ∧ r ≤ 3 := by simpa [inB] using hb'
    obtain ⟨n, rfl⟩ : ∃ n : Nat, r = (n : Int) := ⟨r.toNat, by omega⟩
    have hn : n ≤ 3 := by omega
    have hd : idM n = ⟨n, idW n⟩ := by
      unfold idM
      rw [if_pos hr]
      simp
    have HD := Lib.hid hd
    have HB := Lib.hid hb'
    clear hd hb hb' hr
    go_enter Try.func16, Try.ntmps16
    go_wp2_with fail
    with_reducible refine (within_any _ _ _ _).mono ?_
    rintro e w1 ⟨rfl, rfl⟩
    rw [HB.out]
    go_wp2_with fail
    have hbx0 := (Box.new (w.alloc (.cells #[.int .i64 0, .slice none 0 0] 24)) #[.int .i64 n, .slice none 0 0] 24)
    have hby0 := (Box.new w #[.int .i64 0, .slice none 0 0] 24).mid (Mid.alloc _ (.cells #[.int .i64 n, .slice none 0 0] 24)) (Or.inr (Nat.zero_le _))
    have hm0 : Mid 0 0 w ((w.alloc (.cells #[.int .i64 0, .slice none 0 0] 24)).alloc (.cells #[.int .i64 n, .slice none 0 0] 24)) := (Mid.alloc _ _).trans (Mid.alloc _ _)
    rw [World.size_alloc] at hbx0
    go_loopw [5] (fun i wr => ∃ k : Nat, ∃ rows : List Row, ∃ A c, k ≤ n ∧ i = .int .i64 ((k : Int) + 1) ∧ rowsD rows = idW k ∧
      Box wr (w.heap.size + 1) [.int .i64 n, .slice A k c] ∧ Box wr w.heap.size [.int .i64 0, .slice none 0 0] ∧ 
      wr.ownsRow (w.heap.size + 2) 36 1 (.slice A k c) k (rowsV rows) ∧ OwnRows wr (w.heap.size + 2) wr.heap.size 3 rows ∧ Mid 0 0 w wr ∧ w.heap.size + 2 ≤ wr.heap.size)
      (fun i _ => n + 1 - (intOf i).toNat)
    case atStart => exact ⟨0, [], none, 0, Nat.zero_le _, by simp, by simp [rowsD, idW], hbx0, hby0, ⟨rfl, .inl ⟨rfl, rfl⟩⟩, OwnRows.nil, hm0, by simp⟩
    case round =>
      obtain ⟨k, rows, A, c, hk, rfl, hrd, hbx, hby, hown, hrows, hm, hsz⟩ := hrel
      have HRD := Lib.hid hrd
      clear hrd
      have bx1 := hbx.cell 1 rfl
      have bx0 := hbx.cell 0 rfl
      have by0 := hby.cell 0 rfl
      have by1 := hby.cell 1 rfl
      have fx := hbx.2.2
      have fy := hby.2.2
      by_cases hlt : k < n
      · have hma : Mid 0 0 wr (wr.alloc (.cells #[.int .i64 ((k : Int) + 1)] 3)) := Mid.alloc _ _
        have hownA := hown.alloc (.cells #[.int .i64 ((k : Int) + 1)] 3)
        have hrowsA := hrows.mid hma (Or.inl (Nat.zero_le _))
        have hrow := World.ownsRow_lit (e := 3) (size := 1) wr #[.int .i64 ((k : Int) + 1)] 1 (Nat.le_refl _) (by decide) rfl
        go_wp2_with (at_builtin; refine wpList_push rfl _ _ 22 rfl (w.heap.size + 2) 36 (.slice none 0 0) 1 24 undSSI infoSI rfl (by decide) _ _ _ rfl hownA 1 [.slice (some ⟨wr.heap.size, 0, none⟩) 1 1] (by simp [go_sem]) rfl ?c1 ?c2 ?c3 (by simp; omega) ?next)
        case c1 => simp [Value.oneCell']
        case c2 => unfold maxLen; omega
        case c3 => omega
        case next =>
          intro v' w1 hown1 hgr _
          have hmg := Mid.of_grownRow hownA hgr
          have hs1 := hmg.size
          simp only [World.size_alloc] at hs1 hmg
          have hbx1 := (hbx.mid hma (Or.inr (Nat.zero_le _))).mid hmg (Or.inl (by omega))
          have hby1 := (hby.mid hma (Or.inr (Nat.zero_le _))).mid hmg (Or.inl (by omega))
          have bx1' := hbx1.cell 1 rfl
          have fx1 := hbx1.2.2
          obtain ⟨A', c', rfl, -, -⟩ := owns_shape hown1
          go_wp2_with fail
          go_roundw
          case rel =>
            have hp := hrowsA.push (r := ⟨some ⟨wr.heap.size, 0, none⟩, 1, [(k : Int) + 1]⟩) (base := wr.heap.size) (hi' := wr.heap.size + 1) hrow (Nat.le_refl _) hsz (by omega) (by simp)
              (by intro g hg; simp [Row.v, Value.ownBlock] at hg; omega)
            have hp1 := (hp.grown hownA (by decide) hgr).mid (Mid.setCell w1 (lo := w.heap.size + 1) (hi := w.heap.size + 2) (p := ⟨w.heap.size + 1, 1, none⟩) (.slice A' (k + 1) c') (by simp) (by simp)) (Or.inl (Nat.le_refl _))
            have hms := Mid.setCell w1 (lo := w.heap.size + 1) (hi := w.heap.size + 2) (p := ⟨w.heap.size + 1, 1, none⟩) (.slice A' (k + 1) c') (by simp) (by simp)
            refine ⟨k + 1, rows ++ [⟨some ⟨wr.heap.size, 0, none⟩, 1, [(k : Int) + 1]⟩], A', c', by omega, by go_num, ?_, hbx1.set 1 _ (by simp) rfl, hby1.mid hms (Or.inl (by omega)), ?_, hp1.wide (Nat.le_refl _) (by simpa using hs1) (by simp), ?_, by simp; omega⟩
            · rw [rowsD_append, HRD.out, idW_succ]
              rfl
            · rw [rowsV_append]
              exact owns_mid hown1 hms (Or.inl (Nat.le_refl _))
            · exact ((hm.trans hma).transNew hmg (Or.inl (by omega))).storeNew (by simp) _
          case measure => simp [intOf]; omega
      · obtain rfl : k = n := by omega
        go_wp2_with fail
        have hD : rowsD rows = idW k := HRD.out
        refine bodyPost_ret (v := .tuple #[.agg #[.int .i64 k, .slice A k c], .bool true]) (by simp [results, Try.results16, go_sem, by0, by1, fy]) rfl ⟨A, c, ?_, ?_, ?_⟩
        · rw [HD.out, show idB k = true from HB.out]
          simp [idW_len]
        · refine OSS.wide ((OSS.mk' hown hrows (by rw [hD, HD.out])).mid (a := w.heap.size) (b := w.heap.size + 1) ?_ (Or.inl (by omega))) (by omega) (by simp) (Nat.le_refl _)
          repeat (first | exact Mid.refl _ _ _ | refine Mid.stored ?_ _ (by simp) (by simp))
        · repeat (first | exact hm | refine Mid.storeNew ?_ (by simp) _)

end Go.Proofs.Ytaddhbdfjkbgiaa
