/- ExpandBy of the program. -/
import Derived.Test.YtaddhbdfjkbgiaaL24
namespace Go.Proofs.Ytaddhbdfjkbgiaa
set_option linter.unusedVariables false
set_option linter.unusedSimpArgs false
open Go.RowKit

/-- A row that was there, or one of the call's own. -/
def PRow (w wr : World) (r : Row) : Prop := RV w 0 w.heap.size r.A (ints r.xs) ∨ wr.ownsRow w.heap.size 3 1 r.v r.xs.length (ints r.xs)
theorem PRow.grown {w wr w' : World} {r : Row} {base : Nat} {e' : TypeId} {s' : Nat} {v' : Value} {n' : Nat} {xs' : List Value} (h : PRow w wr r) (ho : wr.ownsRow base e' s' v' n' xs') (hne : 3 ≠ e') (hg : wr.grownBy w' v'.ownBlock) : PRow w w' r := by
  rcases h with h | h
  · exact .inl h
  · exact .inr (h.kept hg (owns_ne h ho hne))
theorem PRow.below {w wr w' : World} {r : Row} (h : PRow w wr r) (hb : Below wr.heap.size wr w') : PRow w w' r := by
  rcases h with h | h
  · exact .inl h
  · exact .inr (owns_belowS h hb)
theorem PRow.rv {w wr : World} {r : Row} (h : PRow w wr r) (hb : Below w.heap.size w wr) : RV wr 0 wr.heap.size r.A (ints r.xs) := by
  rcases h with h | h
  · exact (h.mid (Mid.of_below (lo := 0) (hi := 0) hb) (Or.inl (Nat.zero_le _))).wide (Nat.le_refl _) hb.size (Nat.le_refl _)
  · exact RV.of_rs (Rs.of_own h) (Nat.le_refl _)
/-- What holds of the parts. -/
structure Parts (w wr : World) (v : Value) (rows : List Row) (k : Nat) (d : List (List Int)) (l : List Int) : Prop where
  own : wr.ownsRow w.heap.size 36 1 v rows.length (rowsV rows)
  row : ∀ r ∈ rows, PRow w wr r
  dat : (rowsD rows).flatten = (pieces d (l.take k)).flatten
  ok : ∀ xs ∈ rowsD rows, OkI xs
  len : rows.length ≤ k
  bel : Below w.heap.size w wr
theorem Parts.push {w wr w1 : World} {v v' : Value} {rows : List Row} {k : Nat} {d : List (List Int)} {l : List Int} {x : Int} {r : Row} (h : Parts w wr v rows k d l) (hx : l[k]? = some x) (hp : pieceB d x = r.xs) (hr : PRow w wr r) (ho : OkI r.xs)
    (hown : w1.ownsRow w.heap.size 36 1 v' (rows.length + 1) (rowsV rows ++ [r.v])) (hg : wr.grownBy w1 v.ownBlock) : Parts w w1 v' (rows ++ [r]) (k + 1) d l := by
  refine ⟨?_, ?_, ?_, ?_, ?_, h.bel.grown hg h.bel.size (fun g hg => (h.own.lt g hg).1)⟩
  · rw [rowsV_append, List.length_append]
    exact hown
  · intro s hs
    rcases List.mem_append.1 hs with h1 | h1
    · exact (h.row s h1).grown h.own (by decide) hg
    · simp at h1
      subst h1
      exact hr.grown h.own (by decide) hg
  · rw [rowsD_append, List.flatten_append, h.dat, pieces_succ d l hx, hp]
    simp [rowsD]
  · intro xs hxs
    rw [rowsD_append] at hxs
    rcases List.mem_append.1 hxs with h1 | h1
    · exact h.ok xs h1
    · simp [rowsD] at h1
      subst h1
      exact ho
  · have := h.len
    simp
    omega
theorem Parts.skip {w wr : World} {v : Value} {rows : List Row} {k : Nat} {d : List (List Int)} {l : List Int} {x : Int} (h : Parts w wr v rows k d l) (hx : l[k]? = some x) (hp : pieceB d x = []) : Parts w wr v rows (k + 1) d l :=
  ⟨h.own, h.row, by rw [h.dat, pieces_succ d l hx, hp, List.append_nil], h.ok, by have := h.len; omega, h.bel⟩
theorem Parts.below {w wr w1 : World} {v : Value} {rows : List Row} {k : Nat} {d : List (List Int)} {l : List Int} (h : Parts w wr v rows k d l) (hb : Below wr.heap.size wr w1) : Parts w w1 v rows k d l :=
  ⟨owns_belowS h.own hb, fun r hr => (h.row r hr).below hb, h.dat, h.ok, h.len, h.bel.trans (hb.mono h.bel.size)⟩
theorem Parts.rss {w wr : World} {A : Option Addr} {n c : Nat} {rows : List Row} {k : Nat} {d : List (List Int)} {l : List Int} (h : Parts w wr (.slice A n c) rows k d l) : RSS wr 0 wr.heap.size A (rowsD rows) := by
  obtain ⟨A', c', he, -, -⟩ := owns_shape h.own
  injection he with e1 e2 e3
  subst e1 e2 e3
  exact ⟨rows, rfl, RV.of_rs (Rs.of_own h.own) (Nat.le_refl _), fun r hr => (h.row r hr).rv h.bel⟩

set_option maxRecDepth 20000 in
set_option maxHeartbeats 6400000 in
theorem impl_ExpandBy (A : Option Addr) (d : List (List Int)) (c : Nat) (A' : Option Addr) (l : List Int) (c' : Nat) (w : World) (lo hi : Nat) (hr : RSS w lo hi A d) (hr' : Rs w w.heap.size A' (ints l)) (hc : l.length ≤ c') (hb24 : ∀ xs ∈ d, xs.length ≤ 24) (hok : ∀ xs ∈ d, OkI xs) (hokl : OkI l) (hld : d.length ≤ 1048576) (hll : l.length ≤ 1048576) :
    Calls Try.prog 94 #[.slice A d.length c, .slice A' l.length c'] w fun e w' => RetI 3 (expand d l) w e w' := by
  have HOK := Lib.hid hok
  have HOL := Lib.hid hokl
  have H24 := Lib.hid hb24
  clear hok hokl hb24
  have hhi := hr.size
  have ho0 := owns_empty w 36 1
  have hb0 := (Below.refl w.heap.size w).alloc (Nat.le_refl _) (.cells #[] 36)
  have hp0 : Parts w (w.alloc (.cells #[] 36)) (.slice (some ⟨w.heap.size, 0, none⟩) 0 0) [] 0 d l := ⟨ho0, by simp, by simp [rowsD, pieces], by simp [rowsD], Nat.le_refl _, hb0⟩
  by_cases hle : l.length ≤ 200
  · have hmin : min (l.length : Int) 200 = (l.length : Int) := by omega
    go_enter Try.func94, Try.ntmps94
    go_wp2_with fail
    go_loopw [5, 7, 15] (fun v _ i wr => ∃ k : Nat, ∃ rows : List Row, k ≤ l.length ∧ i = .int .i64 k ∧ Parts w wr v rows k d l) (fun _ _ i _ => l.length - (intOf i).toNat)
    case atStart => exact ⟨0, [], Nat.zero_le _, rfl, hp0⟩
    case round =>
      obtain ⟨k, rows, hk, rfl, hown⟩ := hrel
      have hsz := hown.bel.size
      have hrl := hown.len
      by_cases hlt : k < l.length
      · obtain ⟨b, off, x, rfl, -, hx, hcx⟩ := (hr'.below hown.bel).int (show k < l.length by omega)
        have hbx := HOL.out x (List.mem_of_getElem? hx)
        obtain ⟨hbx1, hbx2⟩ := hbx
        have HX := Lib.hid hx
        clear hx
        by_cases hp : 1 ≤ x ∧ x ≤ d.length
        · obtain ⟨m, hxm⟩ : ∃ m : Nat, x = (m : Int) + 1 := ⟨(x - 1).toNat, by omega⟩
          have hm : m < d.length := by omega
          obtain ⟨b2, off2, A2, c2, xs, rfl, -, hb2h, hxx, hcc, hrx⟩ := hr.row hm
          have hcw : wr.cell? ⟨b2, off2 + m, none⟩ = some (.slice A2 xs.length c2) := (hown.bel.cell (by simp; omega)).trans hcc
          have hpc := pieceB_pos hxx
          rw [← hxm] at hpc
          have hox := HOK.out xs (List.mem_of_getElem? hxx)
          have hpr : PRow w wr ⟨A2, c2, xs⟩ := .inl (hrx.wide (Nat.zero_le _) hhi (Nat.le_refl _))
          have HPC := Lib.hid hpc
          have HOX := Lib.hid hox
          have HPR := Lib.hid hpr
          have hin : inB x 1 (d.length : Int) = true := by simp [inB]; omega
          have HIN := Lib.hid hin
          have hp3 : x - 1 = (m : Int) := by omega
          clear hpc hxx hcc hrx hp hxm hbx1 hbx2 hox hpr hin
          go_wp2_with fail
          refine (within_any _ _ _ _).mono ?_
          rintro e w' ⟨rfl, rfl⟩
          rw [HIN.out]
          go_wp2_with (at_builtin; refine wpList_push rfl _ _ 22 rfl w.heap.size 36 (.slice none 0 0) 1 24 undSSI infoSI rfl (by decide) _ _ _ rfl hown.own 1 [.slice A2 xs.length c2] rfl rfl (one_of_rows [⟨A2, c2, xs⟩]) (by unfold maxLen; omega) (by omega) hsz ?n1)
          case n1 =>
            intro v' w1 hown1 hgr _
            go_wp2_with fail
            go_roundw
            case rel => exact ⟨k + 1, rows ++ [⟨A2, c2, xs⟩], by omega, by go_num, hown.push (r := ⟨A2, c2, xs⟩) HX.out HPC.out HPR.out HOX.out hown1 hgr⟩
            case measure => simp [intOf]; omega
        · have hin : inB x 1 (d.length : Int) = false := by
            cases hv : inB x 1 (d.length : Int) with
            | false => rfl
            | true => exact absurd (by simpa [inB] using hv) hp
          have HIN := Lib.hid hin
          clear hin
          by_cases hn : -(d.length : Int) ≤ x ∧ x ≤ -1
          · obtain ⟨m, hxm⟩ : ∃ m : Nat, x = -((m : Int) + 1) := ⟨(-x - 1).toNat, by omega⟩
            have hm : m < d.length := by omega
            obtain ⟨b2, off2, A2, c2, xs, rfl, -, hb2h, hxx, hcc, hrx⟩ := hr.row hm
            have hcw : wr.cell? ⟨b2, off2 + m, none⟩ = some (.slice A2 xs.length c2) := (hown.bel.cell (by simp; omega)).trans hcc
            have hpc := pieceB_neg hxx
            rw [← hxm] at hpc
            have hox := HOK.out xs (List.mem_of_getElem? hxx)
            have hlx := H24.out xs (List.mem_of_getElem? hxx)
            have hra : Rs wr w.heap.size A2 (ints xs) := (hrx.rs.more hhi).below hown.bel
            have HPC := Lib.hid hpc
            have HOX := Lib.hid hox
            have hin2 : inB x (-(d.length : Int)) (-1) = true := by simp [inB]; omega
            have HIN2 := Lib.hid hin2
            have hp5 : -9223372036854775807 ≤ x := by omega
            have hp6 : x ≤ 9223372036854775807 := by omega
            have hp3 : -x - 1 = (m : Int) := by omega
            clear hpc hxx hcc hrx hp hn hxm hbx1 hbx2 hox hin2
            go_wp2_with fail
            refine (within_any _ _ _ _).mono ?_
            rintro e w' ⟨rfl, rfl⟩
            rw [HIN.out]
            go_wp2_with fail
            refine (within_any _ _ _ _).mono ?_
            rintro e w' ⟨rfl, rfl⟩
            rw [HIN2.out]
            go_wp2_with fail
            refine (impl_InvertWordX A2 xs c2 _ _ hra hsz HOX.out (by omega)).mono ?_
            rintro e w2 ⟨A3, c3, rfl, hn3, ho3, hb3⟩
            have hown2 := hown.below hb3
            have hsz2 := hown2.bel.size
            have hpr : PRow w w2 ⟨A3, c3, invW xs⟩ := .inr (by
              show w2.ownsRow w.heap.size 3 1 (.slice A3 (invW xs).length c3) (invW xs).length (ints (invW xs))
              rw [invW_len]
              exact owns_base ho3 hsz)
            have HPR := Lib.hid hpr
            clear hpr ho3 hra hcw
            go_wp2_with (at_builtin; refine wpList_push rfl _ _ 22 rfl w.heap.size 36 (.slice none 0 0) 1 24 undSSI infoSI rfl (by decide) _ _ _ rfl hown2.own 1 [.slice A3 xs.length c3] rfl rfl (by simp [Value.oneCell']) (by unfold maxLen; omega) (by omega) hsz2 ?n2)
            case n2 =>
              intro v' w1 hown1 hgr _
              go_wp2_with fail
              go_roundw
              case rel =>
                refine ⟨k + 1, rows ++ [⟨A3, c3, invW xs⟩], by omega, by go_num, hown2.push HX.out HPC.out HPR.out (okI_invW HOX.out) ?_ hgr⟩
                show w1.ownsRow w.heap.size 36 1 v' (rows.length + 1) (rowsV rows ++ [.slice A3 (invW xs).length c3])
                rw [invW_len]
                exact hown1
              case measure => simp [intOf]; omega
          · have hin2 : inB x (-(d.length : Int)) (-1) = false := by
              cases hv : inB x (-(d.length : Int)) (-1) with
              | false => rfl
              | true => exact absurd (by simpa [inB] using hv) hn
            have HIN2 := Lib.hid hin2
            have hpc := pieceB_else hp hn
            have HPC := Lib.hid hpc
            clear hpc hin2
            go_wp2_with fail
            refine (within_any _ _ _ _).mono ?_
            rintro e w' ⟨rfl, rfl⟩
            rw [HIN.out]
            go_wp2_with fail
            refine (within_any _ _ _ _).mono ?_
            rintro e w' ⟨rfl, rfl⟩
            rw [HIN2.out]
            go_wp2_with fail
            go_roundw
            case rel => exact ⟨k + 1, rows, by omega, by go_num, hown.skip HX.out HPC.out⟩
            case measure => simp [intOf]; omega
      · have hexp : expand d l = red [] (rowsD rows).flatten := by
          rw [hown.dat, show k = l.length from by omega, List.take_length, expand, List.take_of_length_le hle]
        have hsum : sumL (rowsD rows) ≤ 268435456 := by
          rw [← sumL_flatten, hown.dat]
          have := pieces_take_len H24.out HOK.out l (show k ≤ 200 by omega)
          omega
        have hrd : (rowsD rows).length ≤ 4194304 := by rw [rowsD_len]; omega
        obtain ⟨A1, c1, rfl, -, -⟩ := owns_shape hown.own
        have hC := impl_product A1 (rowsD rows) c1 wr 0 wr.heap.size hown.rss hown.ok hrd hsum
        rw [rowsD_len, ← hexp] at hC
        have HC := Lib.hid hC
        clear hC hexp hsum hrd
        go_wp2_with fail
        refine HC.out.mono ?_
        intro e w2 hret
        have hret2 := hret.back hown.bel
        obtain ⟨A2, c2, rfl, ho2, hb2⟩ := hret2
        go_wp2_with fail
        go_ret
        exact ⟨_, _, rfl, ho2, hb2⟩
  · have hc200 : 200 ≤ c' := by omega
    go_enter Try.func94, Try.ntmps94
    go_wp2_with fail
    go_loopw [5, 7, 15] (fun v _ i wr => ∃ k : Nat, ∃ rows : List Row, k ≤ 200 ∧ i = .int .i64 k ∧ Parts w wr v rows k d l) (fun _ _ i _ => 200 - (intOf i).toNat)
    case atStart => exact ⟨0, [], Nat.zero_le _, rfl, hp0⟩
    case round =>
      obtain ⟨k, rows, hk, rfl, hown⟩ := hrel
      have hsz := hown.bel.size
      have hrl := hown.len
      by_cases hlt : k < 200
      · obtain ⟨b, off, x, rfl, -, hx, hcx⟩ := (hr'.below hown.bel).int (show k < l.length by omega)
        have hbx := HOL.out x (List.mem_of_getElem? hx)
        obtain ⟨hbx1, hbx2⟩ := hbx
        have HX := Lib.hid hx
        clear hx
        by_cases hp : 1 ≤ x ∧ x ≤ d.length
        · obtain ⟨m, hxm⟩ : ∃ m : Nat, x = (m : Int) + 1 := ⟨(x - 1).toNat, by omega⟩
          have hm : m < d.length := by omega
          obtain ⟨b2, off2, A2, c2, xs, rfl, -, hb2h, hxx, hcc, hrx⟩ := hr.row hm
          have hcw : wr.cell? ⟨b2, off2 + m, none⟩ = some (.slice A2 xs.length c2) := (hown.bel.cell (by simp; omega)).trans hcc
          have hpc := pieceB_pos hxx
          rw [← hxm] at hpc
          have hox := HOK.out xs (List.mem_of_getElem? hxx)
          have hpr : PRow w wr ⟨A2, c2, xs⟩ := .inl (hrx.wide (Nat.zero_le _) hhi (Nat.le_refl _))
          have HPC := Lib.hid hpc
          have HOX := Lib.hid hox
          have HPR := Lib.hid hpr
          have hin : inB x 1 (d.length : Int) = true := by simp [inB]; omega
          have HIN := Lib.hid hin
          have hp3 : x - 1 = (m : Int) := by omega
          clear hpc hxx hcc hrx hp hxm hbx1 hbx2 hox hpr hin
          go_wp2_with fail
          refine (within_any _ _ _ _).mono ?_
          rintro e w' ⟨rfl, rfl⟩
          rw [HIN.out]
          go_wp2_with (at_builtin; refine wpList_push rfl _ _ 22 rfl w.heap.size 36 (.slice none 0 0) 1 24 undSSI infoSI rfl (by decide) _ _ _ rfl hown.own 1 [.slice A2 xs.length c2] rfl rfl (one_of_rows [⟨A2, c2, xs⟩]) (by unfold maxLen; omega) (by omega) hsz ?n1)
          case n1 =>
            intro v' w1 hown1 hgr _
            go_wp2_with fail
            go_roundw
            case rel => exact ⟨k + 1, rows ++ [⟨A2, c2, xs⟩], by omega, by go_num, hown.push (r := ⟨A2, c2, xs⟩) HX.out HPC.out HPR.out HOX.out hown1 hgr⟩
            case measure => simp [intOf]; omega
        · have hin : inB x 1 (d.length : Int) = false := by
            cases hv : inB x 1 (d.length : Int) with
            | false => rfl
            | true => exact absurd (by simpa [inB] using hv) hp
          have HIN := Lib.hid hin
          clear hin
          by_cases hn : -(d.length : Int) ≤ x ∧ x ≤ -1
          · obtain ⟨m, hxm⟩ : ∃ m : Nat, x = -((m : Int) + 1) := ⟨(-x - 1).toNat, by omega⟩
            have hm : m < d.length := by omega
            obtain ⟨b2, off2, A2, c2, xs, rfl, -, hb2h, hxx, hcc, hrx⟩ := hr.row hm
            have hcw : wr.cell? ⟨b2, off2 + m, none⟩ = some (.slice A2 xs.length c2) := (hown.bel.cell (by simp; omega)).trans hcc
            have hpc := pieceB_neg hxx
            rw [← hxm] at hpc
            have hox := HOK.out xs (List.mem_of_getElem? hxx)
            have hlx := H24.out xs (List.mem_of_getElem? hxx)
            have hra : Rs wr w.heap.size A2 (ints xs) := (hrx.rs.more hhi).below hown.bel
            have HPC := Lib.hid hpc
            have HOX := Lib.hid hox
            have hin2 : inB x (-(d.length : Int)) (-1) = true := by simp [inB]; omega
            have HIN2 := Lib.hid hin2
            have hp5 : -9223372036854775807 ≤ x := by omega
            have hp6 : x ≤ 9223372036854775807 := by omega
            have hp3 : -x - 1 = (m : Int) := by omega
            clear hpc hxx hcc hrx hp hn hxm hbx1 hbx2 hox hin2
            go_wp2_with fail
            refine (within_any _ _ _ _).mono ?_
            rintro e w' ⟨rfl, rfl⟩
            rw [HIN.out]
            go_wp2_with fail
            refine (within_any _ _ _ _).mono ?_
            rintro e w' ⟨rfl, rfl⟩
            rw [HIN2.out]
            go_wp2_with fail
            refine (impl_InvertWordX A2 xs c2 _ _ hra hsz HOX.out (by omega)).mono ?_
            rintro e w2 ⟨A3, c3, rfl, hn3, ho3, hb3⟩
            have hown2 := hown.below hb3
            have hsz2 := hown2.bel.size
            have hpr : PRow w w2 ⟨A3, c3, invW xs⟩ := .inr (by
              show w2.ownsRow w.heap.size 3 1 (.slice A3 (invW xs).length c3) (invW xs).length (ints (invW xs))
              rw [invW_len]
              exact owns_base ho3 hsz)
            have HPR := Lib.hid hpr
            clear hpr ho3 hra hcw
            go_wp2_with (at_builtin; refine wpList_push rfl _ _ 22 rfl w.heap.size 36 (.slice none 0 0) 1 24 undSSI infoSI rfl (by decide) _ _ _ rfl hown2.own 1 [.slice A3 xs.length c3] rfl rfl (by simp [Value.oneCell']) (by unfold maxLen; omega) (by omega) hsz2 ?n2)
            case n2 =>
              intro v' w1 hown1 hgr _
              go_wp2_with fail
              go_roundw
              case rel =>
                refine ⟨k + 1, rows ++ [⟨A3, c3, invW xs⟩], by omega, by go_num, hown2.push HX.out HPC.out HPR.out (okI_invW HOX.out) ?_ hgr⟩
                show w1.ownsRow w.heap.size 36 1 v' (rows.length + 1) (rowsV rows ++ [.slice A3 (invW xs).length c3])
                rw [invW_len]
                exact hown1
              case measure => simp [intOf]; omega
          · have hin2 : inB x (-(d.length : Int)) (-1) = false := by
              cases hv : inB x (-(d.length : Int)) (-1) with
              | false => rfl
              | true => exact absurd (by simpa [inB] using hv) hn
            have HIN2 := Lib.hid hin2
            have hpc := pieceB_else hp hn
            have HPC := Lib.hid hpc
            clear hpc hin2
            go_wp2_with fail
            refine (within_any _ _ _ _).mono ?_
            rintro e w' ⟨rfl, rfl⟩
            rw [HIN.out]
            go_wp2_with fail
            refine (within_any _ _ _ _).mono ?_
            rintro e w' ⟨rfl, rfl⟩
            rw [HIN2.out]
            go_wp2_with fail
            go_roundw
            case rel => exact ⟨k + 1, rows, by omega, by go_num, hown.skip HX.out HPC.out⟩
            case measure => simp [intOf]; omega
      · have hexp : expand d l = red [] (rowsD rows).flatten := by
          rw [hown.dat, show k = 200 from by omega, expand]
        have hsum : sumL (rowsD rows) ≤ 268435456 := by
          rw [← sumL_flatten, hown.dat]
          have := pieces_take_len H24.out HOK.out l (show k ≤ 200 by omega)
          omega
        have hrd : (rowsD rows).length ≤ 4194304 := by rw [rowsD_len]; omega
        obtain ⟨A1, c1, rfl, -, -⟩ := owns_shape hown.own
        have hC := impl_product A1 (rowsD rows) c1 wr 0 wr.heap.size hown.rss hown.ok hrd hsum
        rw [rowsD_len, ← hexp] at hC
        have HC := Lib.hid hC
        clear hC hexp hsum hrd
        go_wp2_with fail
        refine HC.out.mono ?_
        intro e w2 hret
        have hret2 := hret.back hown.bel
        obtain ⟨A2, c2, rfl, ho2, hb2⟩ := hret2
        go_wp2_with fail
        go_ret
        exact ⟨_, _, rfl, ho2, hb2⟩
end Go.Proofs.Ytaddhbdfjkbgiaa
