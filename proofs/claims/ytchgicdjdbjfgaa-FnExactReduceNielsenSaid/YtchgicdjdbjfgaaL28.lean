
/- Copies of lists of words: copyLists, l20Copy. -/
import Derived.Test.YtchgicdjdbjfgaaL20
namespace Go.Proofs.Ytchgicdjdbjfgaa
set_option linter.unusedVariables false
set_option linter.unusedSimpArgs false
open Go.RowKit

theorem OwnRows.replace {w : World} {lo hi : Nat} {tI : TypeId} {rows : List Row} {base hi' k : Nat} {r : Row} (h : OwnRows w lo hi tI rows) (hr : w.ownsRow base tI 1 r.v r.xs.length (ints r.xs)) (hb : hi ≤ base) (hl : lo ≤ base) (hh : hi ≤ hi') (hs : hi' ≤ w.heap.size) (hlt : ∀ g, r.v.ownBlock = some g → g < hi') :
    OwnRows w lo hi' tI (rows.set k r) := by
  refine ⟨fun s hs' => ?_, ?_⟩
  · rcases List.mem_or_eq_of_mem_set hs' with hm | hm
    · exact (h.1 s hm).wide (Nat.le_refl _) hh hs
    · subst hm
      exact ⟨hs, owns_base hr hl, hlt⟩
  · have key : ∀ s ∈ rows, s.v.ownBlock = none ∨ (s.v.ownBlock ≠ r.v.ownBlock) := fun s hsm => by
      cases hv : s.v.ownBlock with
      | none => exact .inl rfl
      | some g =>
        refine .inr fun e => ?_
        have h1 := (h.1 s hsm).2.2 g hv
        have h2 := (hr.lt g e.symm).1
        omega
    rw [List.pairwise_iff_getElem]
    intro i j hi hj hij
    have hp := List.pairwise_iff_getElem.1 h.2 i j (by simpa using hi) (by simpa using hj) hij
    rw [List.getElem_set, List.getElem_set]
    have hi2 : i < rows.length := by simpa using hi
    have hj2 : j < rows.length := by simpa using hj
    split
    · split
      · omega
      · cases hv : r.v.ownBlock with
        | none => exact .inl rfl
        | some g =>
          refine .inr fun e => ?_
          rcases key rows[j] (List.getElem_mem _) with h1 | h1
          · rw [h1] at e; cases e
          · exact h1 (by rw [hv]; exact e.symm)
    · split
      · exact key rows[i] (List.getElem_mem _)
      · exact hp
theorem OwnRows.erase {w : World} {lo hi : Nat} {tI : TypeId} {rows : List Row} (k : Nat) (h : OwnRows w lo hi tI rows) : OwnRows w lo hi tI (rows.eraseIdx k) :=
  ⟨fun r hr => h.1 r (List.mem_of_mem_eraseIdx hr), h.2.sublist (List.eraseIdx_sublist _ _)⟩
theorem rowsD_set (rows : List Row) (k : Nat) (r : Row) : rowsD (rows.set k r) = (rowsD rows).set k r.xs := by simp [rowsD, List.map_set]
theorem rowsV_set (rows : List Row) (k : Nat) (r : Row) : rowsV (rows.set k r) = (rowsV rows).set k r.v := by simp [rowsV, List.map_set]

set_option maxHeartbeats 400000 in
theorem impl_copyInts (A : Option Addr) (xs : List Int) (c : Nat) (w : World) (B : Nat) (hr : Rs w B A (ints xs)) (hB : B ≤ w.heap.size) (hl : xs.length ≤ 1099511627776) :
    Calls Try.prog 129 #[.slice A xs.length c] w fun e w' => ∃ A2 c2, e = .returned (.slice A2 xs.length c2) ∧ w'.ownsRow w.heap.size 3 1 (.slice A2 xs.length c2) xs.length (ints xs) ∧ Below w.heap.size w w' := by
  have hoe := owns_empty w 3 1
  have hra : Rs (w.alloc (.cells #[] 3)) B A (ints xs) := hr.alloc hB _
  have hla : (ints xs).length = xs.length * 1 := by rw [ints_len]; omega
  go_enter Try.func129, Try.ntmps129
  go_wp2_with (at_builtin; refine wpList_cat rfl _ _ 27 rfl w.heap.size 3 (.int .i64 0) 1 8 undSI infoI rfl (by decide) _ _ _ rfl hoe A xs.length c B (ints xs) rfl hra hla (one_of_ints _) ?c4 ?c5 ?c6 ?next)
  case c4 => unfold maxLen; omega
  case c5 => omega
  case c6 => simp
  case next =>
    intro v2 w2 ho2 hgr2 _
    try rw [Nat.zero_add, List.nil_append] at ho2
    go_wp2_with fail
    go_ret
    obtain ⟨A2, c2, rfl, -, -⟩ := owns_shape ho2
    exact ⟨A2, c2, rfl, ho2, ((Below.refl w.heap.size w).alloc (Nat.le_refl _) _).grown hgr2 (by simp) (fun g hg => (hoe.lt g hg).1)⟩

set_option maxHeartbeats 800000 in
theorem impl_copyLists (A : Option Addr) (d : List (List Int)) (c : Nat) (w : World) (lo hi : Nat) (hr : RSS w lo hi A d) (hsz : d.length ≤ 4194304) (hs2 : ∀ xs ∈ d, xs.length ≤ 1073741824) :
    Calls Try.prog 83 #[.slice A d.length c] w fun e w' => RetSS 27 3 d w e w' := by
  have hmx : d.length ≤ maxLen := by unfold maxLen; omega
  obtain ⟨i0, hi0, hz0, hz1, hz2⟩ := info_parts infoSI
  have hby : i0.bytes * d.length ≤ 281474976710656 := by rw [hz2]; omega
  go_enter Try.func83, Try.ntmps83
  go_wp2_with (at_make; refine wpList_make_own _ rfl _ _ 22 rfl w.heap.size 27 i0 (.slice none 0 0) 1 undSSI hi0 hz0 hz1 .i64 .i64 _ d.length rfl rfl rfl hby hmx (Nat.le_refl _) ?_; intro w1 hown1 hgr1)
  have hm1 : Mid 0 0 w w1 := Mid.of_grown hgr1 (by intro g h; cases h)
  clear hi0 hz0 hz1 hz2 hby
  go_loopw [3, 5, 11] (fun v _ i wr => ∃ k : Nat, ∃ rows : List Row, k ≤ d.length ∧ i = .int .i64 k ∧ rowsD rows = d.take k ∧
      wr.ownsRow w.heap.size 27 1 v k (rowsV rows) ∧ OwnRows wr w.heap.size wr.heap.size 3 rows ∧ Mid 0 0 w wr)
    (fun _ _ i _ => d.length - (intOf i).toNat)
  case atStart => exact ⟨0, [], Nat.zero_le _, rfl, by simp [rowsD], by simpa [rowsV] using hown1, OwnRows.nil, hm1⟩
  case round =>
    obtain ⟨k, rows, hk, rfl, hrd, hown, hrows, hm⟩ := hrel
    have HRD := Lib.hid hrd
    clear hrd
    by_cases hlt : k < d.length
    · obtain ⟨b, off, A', c', xs, rfl, -, -, hx, hc, hrx⟩ := (hr.mid hm (Or.inl (Nat.zero_le _))).row hlt
      have hxl := hs2 xs (List.mem_of_getElem? hx)
      have HX := Lib.hid hx
      clear hx
      have hszr := hm.size
      go_wp2_with fail
      with_reducible refine (impl_copyInts A' xs c' _ _ hrx.rsS (Nat.le_refl _) (by omega)).mono ?_
      rintro e w2 ⟨A2, c2, rfl, ho2, hb2⟩
      have hown2 := owns_belowS hown hb2
      have hrows2 := hrows.mid (w' := w2) (Mid.of_below (lo := 0) (hi := 0) hb2) (Or.inl (Nat.zero_le _))
      have hm2 := hm.trans (Mid.of_below hb2)
      have hsz2 := hb2.size
      have hblk : ∀ g, Value.ownBlock (.slice A2 xs.length c2) = some g → g < w2.heap.size := fun g hg => (ho2.lt g hg).2
      go_wp2_with (at_builtin; refine wpList_push rfl _ _ 22 rfl w.heap.size 27 (.slice none 0 0) 1 24 undSSI infoSI rfl (by decide) _ _ _ rfl hown2 1 [.slice A2 xs.length c2] rfl rfl ?c1 ?c2 ?c3 (by omega) ?next)
      case c1 => simp [Value.oneCell']
      case c2 => unfold maxLen; omega
      case c3 => omega
      case next =>
        intro v' w3 hown3 hgr3 _
        go_wp2_with fail
        go_roundw
        case rel =>
          have hp := hrows2.push (r := ⟨A2, c2, xs⟩) (base := wr.heap.size) (hi' := w2.heap.size) ho2 (Nat.le_refl _) hszr hsz2 (Nat.le_refl _) hblk
          have hp3 := hp.grown hown2 (by decide) hgr3
          refine ⟨k + 1, rows ++ [⟨A2, c2, xs⟩], by omega, by go_num, ?_, ?_, ?_, ?_⟩
          · rw [rowsD_append, HRD.out, take_succ_of d HX.out]
            rfl
          · rw [rowsV_append]
            exact hown3
          · exact hp3.wide (Nat.le_refl _) hgr3.size (Nat.le_refl _)
          · exact hm2.grownNew hgr3 (fun g hg => (hown2.lt g hg).1)
        case measure => simp [intOf]; omega
    · go_wp2_with fail
      go_ret
      obtain rfl : k = d.length := by omega
      have hD : rowsD rows = d := by rw [HRD.out, List.take_length]
      obtain ⟨A1, c1, rfl, -, -⟩ := owns_shape hown
      exact ⟨A1, c1, rfl, OSS.mk' hown hrows hD, hm⟩

set_option maxHeartbeats 800000 in
theorem spec_l20Copy (A : Option Addr) (d : List (List Int)) (c : Nat) (w : World) (lo hi : Nat) (hr : RSS w lo hi A d) (hsz : d.length ≤ 4194304) (hs2 : ∀ xs ∈ d, xs.length ≤ 1073741824) :
    Calls Try.prog 81 #[.slice A d.length c] w fun e w' => RetSS 27 3 d w e w' := by
  have hb0 : Mid 0 0 w (w.alloc (.cells #[] 27)) := Mid.alloc _ _
  have ho0 := owns_empty w 27 1
  go_enter Try.func81, Try.ntmps81
  go_wp2_with fail
  go_loopw [3, 4] (fun v i wr => ∃ k : Nat, ∃ rows : List Row, k ≤ d.length ∧ i = .int .i64 k ∧ rowsD rows = d.take k ∧
      wr.ownsRow w.heap.size 27 1 v k (rowsV rows) ∧ OwnRows wr w.heap.size wr.heap.size 3 rows ∧ Mid 0 0 w wr)
    (fun _ i _ => d.length - (intOf i).toNat)
  case atStart => exact ⟨0, [], Nat.zero_le _, rfl, by simp [rowsD], by simpa [rowsV] using ho0, OwnRows.nil, hb0⟩
  case round =>
    obtain ⟨k, rows, hk, rfl, hrd, hown, hrows, hm⟩ := hrel
    have HRD := Lib.hid hrd
    clear hrd
    by_cases hlt : k < d.length
    · obtain ⟨b, off, A', c', xs, rfl, -, hbhi, hx, hc, hrx⟩ := (hr.mid hm (Or.inl (Nat.zero_le _))).row hlt
      have hxl := hs2 xs (List.mem_of_getElem? hx)
      have HX := Lib.hid hx
      clear hx
      have hszr := hm.size
      have hlt3 : (k : Int) < (d.length : Int) := by omega
      have hma : Mid 0 0 wr (wr.alloc (.cells #[] 3)) := Mid.alloc _ _
      have hoe := owns_empty wr 3 1
      have hra : Rs (wr.alloc (.cells #[] 3)) wr.heap.size A' (ints xs) := hrx.rsS.alloc (Nat.le_refl _) _
      have hbs : b < wr.heap.size := by have := hr.size; have := hm.size; omega
      have hca : (wr.alloc (.cells #[] 3)).cell? ⟨b, off + k, none⟩ = some (.slice A' xs.length c') := (World.cell?_alloc_lt wr _ _ hbs).trans hc
      have hla : (ints xs).length = xs.length * 1 := by rw [ints_len]; omega
      have hown1 := hown.alloc (.cells #[] 3)
      have hrows1 := hrows.mid hma (Or.inl (Nat.zero_le _))
      clear hrx
      go_wp2_with (at_builtin; refine wpList_cat rfl _ _ 27 rfl wr.heap.size 3 (.int .i64 0) 1 8 undSI infoI rfl (by decide) _ _ _ rfl hoe A' xs.length c' wr.heap.size (ints xs) rfl hra hla (one_of_ints _) ?c4 ?c5 ?c6 ?next1)
      case c4 => unfold maxLen; omega
      case c5 => omega
      case c6 => simp
      case next1 =>
        intro v2 w2 ho2 hgr2 _
        try rw [Nat.zero_add, List.nil_append] at ho2
        have hm12 : Mid 0 0 wr w2 := hma.grownNew hgr2 (fun g hg => (hoe.lt g hg).1)
        have hown2 := owns_mid hown hm12 (Or.inl (Nat.zero_le _))
        have hrows2 := hrows.mid hm12 (Or.inl (Nat.zero_le _))
        have hm2 := hm.trans hm12
        have hsz2 := hm12.size
        obtain ⟨A2, c2, rfl, -, -⟩ := owns_shape ho2
        have hblk : ∀ g, Value.ownBlock (.slice A2 xs.length c2) = some g → g < w2.heap.size := fun g hg => (ho2.lt g hg).2
        clear hown1 hrows1 hra hoe
        go_wp2_with (at_builtin; refine wpList_push rfl _ _ 22 rfl w.heap.size 27 (.slice none 0 0) 1 24 undSSI infoSI rfl (by decide) _ _ _ rfl hown2 1 [.slice A2 xs.length c2] rfl rfl ?d1 ?d2 ?d3 (by omega) ?next)
        case d1 => simp [Value.oneCell']
        case d2 => unfold maxLen; omega
        case d3 => omega
        case next =>
          intro v' w3 hown3 hgr3 _
          go_wp2_with fail
          go_roundw
          case rel =>
            have hp := hrows2.push (r := ⟨A2, c2, xs⟩) (base := wr.heap.size) (hi' := w2.heap.size) ho2 (Nat.le_refl _) hszr hsz2 (Nat.le_refl _) hblk
            have hp3 := hp.grown hown2 (by decide) hgr3
            refine ⟨k + 1, rows ++ [⟨A2, c2, xs⟩], by omega, by go_num, ?_, ?_, ?_, ?_⟩
            · rw [rowsD_append, HRD.out, take_succ_of d HX.out]
              rfl
            · rw [rowsV_append]
              exact hown3
            · exact hp3.wide (Nat.le_refl _) hgr3.size (Nat.le_refl _)
            · exact hm2.grownNew hgr3 (fun g hg => (hown2.lt g hg).1)
          case measure => simp [intOf]; omega
    · go_wp2_with fail
      go_ret
      obtain rfl : k = d.length := by omega
      have hD : rowsD rows = d := by rw [HRD.out, List.take_length]
      obtain ⟨A1, c1, rfl, -, -⟩ := owns_shape hown
      exact ⟨A1, c1, rfl, OSS.mk' hown hrows hD, hm⟩
end Go.Proofs.Ytchgicdjdbjfgaa
