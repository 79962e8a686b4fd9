/- ExpandBy, both sides. -/
import Derived.Test.YtaddhbdfjkbgiaaL20
import Derived.Test.YtaddhbdfjkbgiaaL22
import Derived.Test.YtaddhbdfjkbgiaaL23
namespace Go.Proofs.Ytaddhbdfjkbgiaa
set_option linter.unusedVariables false
set_option linter.unusedSimpArgs false
open Go.RowKit

/-- The word that one number of a list over a basis stands for. -/
def pieceB (d : List (List Int)) (k : Int) : List Int := if 1 ≤ k ∧ k ≤ d.length then d.getD (k - 1).toNat [] else if -(d.length : Int) ≤ k ∧ k ≤ -1 then invW (d.getD (-k - 1).toNat []) else []
def pieces (d : List (List Int)) (l : List Int) : List (List Int) := l.map (pieceB d)
def expand (d : List (List Int)) (l : List Int) : List Int := red [] (pieces d (l.take 200)).flatten
theorem pieceB_pos {d : List (List Int)} {m : Nat} {xs : List Int} (h : d[m]? = some xs) : pieceB d ((m : Int) + 1) = xs := by
  have hm := (List.getElem?_eq_some_iff.1 h).1
  unfold pieceB
  rw [if_pos (by omega), show ((m : Int) + 1 - 1).toNat = m from by omega, List.getD_eq_getElem?_getD, h]
  rfl
theorem pieceB_neg {d : List (List Int)} {m : Nat} {xs : List Int} (h : d[m]? = some xs) : pieceB d (-((m : Int) + 1)) = invW xs := by
  have hm := (List.getElem?_eq_some_iff.1 h).1
  unfold pieceB
  rw [if_neg (by omega), if_pos (by omega), show (- -((m : Int) + 1) - 1).toNat = m from by omega, List.getD_eq_getElem?_getD, h]
  rfl
theorem pieceB_else {d : List (List Int)} {k : Int} (h1 : ¬ (1 ≤ k ∧ k ≤ d.length)) (h2 : ¬ (-(d.length : Int) ≤ k ∧ k ≤ -1)) : pieceB d k = [] := by
  unfold pieceB
  rw [if_neg h1, if_neg h2]
theorem getD_mem {d : List (List Int)} {m : Nat} : d.getD m [] = [] ∨ d.getD m [] ∈ d := by
  rw [List.getD_eq_getElem?_getD]
  cases h : d[m]? with
  | none => left; rfl
  | some xs => right; exact List.mem_of_getElem? h
theorem pieceB_props {d : List (List Int)} {b : Nat} (hb : ∀ xs ∈ d, xs.length ≤ b) (ho : ∀ xs ∈ d, OkI xs) (k : Int) : (pieceB d k).length ≤ b ∧ OkI (pieceB d k) := by
  have hn : OkI ([] : List Int) := fun x hx => by simp at hx
  have key : ∀ m : Nat, (d.getD m []).length ≤ b ∧ OkI (d.getD m []) := fun m => by
    rcases getD_mem (d := d) (m := m) with h | h
    · rw [h]; exact ⟨Nat.zero_le _, hn⟩
    · exact ⟨hb _ h, ho _ h⟩
  unfold pieceB
  split
  · exact key _
  · split
    · rw [invW_len]; exact ⟨(key _).1, okI_invW (key _).2⟩
    · exact ⟨Nat.zero_le _, hn⟩
theorem pieces_succ (d : List (List Int)) (l : List Int) {k : Nat} {x : Int} (h : l[k]? = some x) : (pieces d (l.take (k + 1))).flatten = (pieces d (l.take k)).flatten ++ pieceB d x := by
  rw [take_succ_of l h]
  simp [pieces]
theorem pieces_len {d : List (List Int)} {b : Nat} (hb : ∀ xs ∈ d, xs.length ≤ b) (ho : ∀ xs ∈ d, OkI xs) (l : List Int) : (pieces d l).flatten.length ≤ l.length * b := by
  induction l with
  | nil => simp [pieces]
  | cons x t ih =>
    have := (pieceB_props hb ho x).1
    simp only [pieces, List.map_cons, List.flatten_cons, List.length_append, List.length_cons]
    simp only [pieces] at ih
    rw [Nat.succ_mul]
    omega
theorem pieces_ok {d : List (List Int)} {b : Nat} (hb : ∀ xs ∈ d, xs.length ≤ b) (ho : ∀ xs ∈ d, OkI xs) (l : List Int) : OkI (pieces d l).flatten := okI_flatten fun xs hx => by
  obtain ⟨k, _, rfl⟩ := List.mem_map.1 hx
  exact (pieceB_props hb ho k).2
theorem pieces_take_len {d : List (List Int)} (hb : ∀ xs ∈ d, xs.length ≤ 24) (ho : ∀ xs ∈ d, OkI xs) (l : List Int) {k : Nat} (hk : k ≤ 200) : (pieces d (l.take k)).flatten.length ≤ 4800 := by
  have h1 := pieces_len hb ho (l.take k)
  have h2 : (l.take k).length ≤ k := by rw [List.length_take]; omega
  have h3 := Nat.mul_le_mul_right 24 (Nat.le_trans h2 hk)
  omega

theorem RetI.back {eI : TypeId} {xs : List Int} {w wr w' : World} {e : Ending} (h : RetI eI xs wr e w') (hb : Below w.heap.size w wr) : RetI eI xs w e w' := by
  obtain ⟨A, c, he, ho, hb2⟩ := h
  exact ⟨A, c, he, owns_base ho hb.size, hb.trans (hb2.mono hb.size)⟩
/-- What holds of the list in the reference. -/
def ExOut (w wr : World) (v : Value) (out : List Int) : Prop := wr.ownsRow w.heap.size 3 1 v out.length (ints out) ∧ Below w.heap.size w wr
set_option maxHeartbeats 6400000 in
set_option maxRecDepth 20000 in
theorem spec_ExpandBy (A : Option Addr) (d : List (List Int)) (c : Nat) (A' : Option Addr) (l : List Int) (c' : Nat) (w : World) (lo hi : Nat) (hr : RSS w lo hi A d) (hr' : Rs w w.heap.size A' (ints l)) (hb24 : ∀ xs ∈ d, xs.length ≤ 24) (hok : ∀ xs ∈ d, OkI xs) (hokl : OkI l) (hld : d.length ≤ 1048576) (hll : l.length ≤ 1048576) :
    Calls Try.prog 93 #[.slice A d.length c, .slice A' l.length c'] w fun e w' => RetI 3 (expand d l) w e w' := by
  have HOK := Lib.hid hok
  have HOL := Lib.hid hokl
  have H24 := Lib.hid hb24
  clear hok hokl hb24
  have hhi := hr.size
  have hb0 := (Below.refl w.heap.size w).alloc (Nat.le_refl _) (.cells #[] 3)
  have ho0 := owns_empty w 3 1
  go_enter Try.func93, Try.ntmps93
  go_wp2_with fail
  go_loopw [5, 6] (fun v i wr => ∃ k : Nat, k ≤ l.length ∧ k ≤ 200 ∧ i = .int .i64 k ∧ ExOut w wr v (pieces d (l.take k)).flatten) (fun _ i _ => l.length - (intOf i).toNat)
  case atStart => exact ⟨0, Nat.zero_le _, Nat.zero_le _, rfl, by simpa [pieces, ints] using ho0, hb0⟩
  case round =>
    obtain ⟨k, hk, hk200, rfl, hown, hb⟩ := hrel
    have hsz := hb.size
    have hlen := pieces_take_len H24.out HOK.out l hk200
    obtain ⟨out, hout⟩ : ∃ o, o = (pieces d (l.take k)).flatten := ⟨_, rfl⟩
    rw [← hout] at hown hlen
    have HOUT := Lib.hid hout
    clear hout
    by_cases hlt : k < l.length
    · by_cases hlt2 : k < 200
      · obtain ⟨b, off, x, rfl, -, hx, hc⟩ := (hr'.below hb).int hlt
        have hst := pieces_succ d l hx
        rw [← HOUT.out] at hst
        have hbx := HOL.out x (List.mem_of_getElem? hx)
        obtain ⟨hbx1, hbx2⟩ := hbx
        have HST := Lib.hid hst
        clear hx hst
        by_cases hp : 1 ≤ x ∧ x ≤ d.length
        · obtain ⟨m, hxm⟩ : ∃ m : Nat, x = (m : Int) + 1 := ⟨(x - 1).toNat, by omega⟩
          have hm : m < d.length := by omega
          obtain ⟨b2, off2, A2, c2, xs, rfl, -, hb2h, hxx, hcc, hrx⟩ := hr.row hm
          have hcw : wr.cell? ⟨b2, off2 + m, none⟩ = some (.slice A2 xs.length c2) := (hb.cell (by simp; omega)).trans hcc
          have hlx := H24.out xs (List.mem_of_getElem? hxx)
          have hpc := pieceB_pos hxx
          have hra : Rs wr w.heap.size A2 (ints xs) := (hrx.rs.more hhi).below hb
          have hla : (ints xs).length = xs.length * 1 := by rw [ints_len]; omega
          rw [← hxm] at hpc
          have HPC := Lib.hid hpc
          have hp1 : 0 < x := by omega
          have hp2 : x ≤ (d.length : Int) := by omega
          have hp3 : x - 1 = (m : Int) := by omega
          clear hpc hxx hcc hrx hp hxm hbx1 hbx2
          go_wp2_with (at_builtin; refine wpList_cat rfl _ _ 36 rfl w.heap.size 3 (.int .i64 0) 1 8 undSI infoI rfl (by decide) _ _ _ rfl hown A2 xs.length c2 w.heap.size (ints xs) rfl hra hla (one_of_ints _) ?c2 ?c3 hsz ?n1)
          case c2 => unfold maxLen; omega
          case c3 => omega
          case n1 =>
            intro v1 w1 hown1 hgr1 _
            go_wp2_with fail
            go_roundw
            case rel =>
              refine ⟨k + 1, by omega, by omega, by go_num, ?_, hb.grown hgr1 hsz (fun g hg => (hown.lt g hg).1)⟩
              rw [HST.out, HPC.out, List.length_append, ints_append]
              exact hown1
            case measure => simp [intOf]; omega
        · by_cases hn : -(d.length : Int) ≤ x ∧ x ≤ -1
          · obtain ⟨m, hxm⟩ : ∃ m : Nat, x = -((m : Int) + 1) := ⟨(-x - 1).toNat, by omega⟩
            have hm : m < d.length := by omega
            obtain ⟨b2, off2, A2, c2, xs, rfl, -, hb2h, hxx, hcc, hrx⟩ := hr.row hm
            have hcw : wr.cell? ⟨b2, off2 + m, none⟩ = some (.slice A2 xs.length c2) := (hb.cell (by simp; omega)).trans hcc
            have hlx := H24.out xs (List.mem_of_getElem? hxx)
            have hox := HOK.out xs (List.mem_of_getElem? hxx)
            have hpc := pieceB_neg hxx
            have hra : Rs wr w.heap.size A2 (ints xs) := (hrx.rs.more hhi).below hb
            rw [← hxm] at hpc
            have HPC := Lib.hid hpc
            have HOX := Lib.hid hox
            have hp1 : ¬ 0 < x := by omega
            have hp2 : x < 0 := by omega
            have hp4 : -(d.length : Int) ≤ x := by omega
            have hp5 : -9223372036854775807 ≤ x := by omega
            have hp3 : -x - 1 = (m : Int) := by omega
            clear hpc hxx hcc hrx hox hp hn hxm hbx1 hbx2
            go_wp2_with fail
            with_reducible refine (spec_InvertWord A2 xs c2 _ _ hra hsz HOX.out (by omega)).mono ?_
            rintro e w2 ⟨A3, c3, rfl, ho3, hb3⟩
            rw [invW_len] at ho3 ⊢
            have hown2 := owns_belowS hown hb3
            have hb2 : Below w.heap.size w w2 := hb.trans (hb3.mono hsz)
            have hsz2 := hb2.size
            have hra3 : Rs w2 w2.heap.size A3 (ints (invW xs)) := Rs.of_own ho3
            have hla3 : (ints (invW xs)).length = xs.length * 1 := by rw [ints_len, invW_len]; omega
            clear hra ho3 hcw
            go_wp2_with (at_builtin; refine wpList_cat rfl _ _ 36 rfl w.heap.size 3 (.int .i64 0) 1 8 undSI infoI rfl (by decide) _ _ _ rfl hown2 A3 xs.length c3 w2.heap.size (ints (invW xs)) rfl hra3 hla3 (one_of_ints _) ?c4 ?c5 hsz2 ?n2)
            case c4 => unfold maxLen; omega
            case c5 => omega
            case n2 =>
              intro v1 w3 hown3 hgr3 _
              go_wp2_with fail
              go_roundw
              case rel =>
                refine ⟨k + 1, by omega, by omega, by go_num, ?_, hb2.grown hgr3 hsz2 (fun g hg => (hown2.lt g hg).1)⟩
                rw [HST.out, HPC.out, List.length_append, ints_append, invW_len]
                exact hown3
              case measure => simp [intOf]; omega
          · have hpc := pieceB_else hp hn
            have HPC := Lib.hid hpc
            clear hpc
            go_wp2_with fail
            all_goals exact ⟨⟨k + 1, by omega, by omega, by go_num, by rw [HST.out, HPC.out, List.append_nil]; exact ⟨hown, hb⟩⟩, by simp [intOf]; omega⟩
      · have hexp : expand d l = red [] out := by
          have e : k = 200 := by omega
          rw [HOUT.out, e]
          rfl
        have hoko : OkI out := by rw [HOUT.out]; exact pieces_ok H24.out HOK.out _
        have HE := Lib.hid hexp
        have HO := Lib.hid hoko
        clear hexp hoko
        obtain ⟨A1, c1, rfl, -, -⟩ := owns_shape hown
        have hro : Rs wr wr.heap.size A1 (ints out) := Rs.of_own hown
        go_wp2_with fail
        with_reducible refine (spec_ReduceLetters A1 out c1 _ _ hro (Nat.le_refl _) HO.out (by omega)).mono ?_
        intro e w2 hret
        have hret2 := hret.back hb
        rw [← HE.out] at hret2
        obtain ⟨A2, c2, rfl, ho2, hb2⟩ := hret2
        go_wp2_with fail
        go_ret
        exact ⟨_, _, rfl, ho2, hb2⟩
    · have hexp : expand d l = red [] out := by
        have e : k = l.length := by omega
        rw [HOUT.out, e, List.take_length]
        unfold expand
        rw [List.take_of_length_le (by omega)]
      have hoko : OkI out := by rw [HOUT.out]; exact pieces_ok H24.out HOK.out _
      have HE := Lib.hid hexp
      have HO := Lib.hid hoko
      clear hexp hoko
      obtain ⟨A1, c1, rfl, -, -⟩ := owns_shape hown
      have hro : Rs wr wr.heap.size A1 (ints out) := Rs.of_own hown
      go_wp2_with fail
      with_reducible refine (spec_ReduceLetters A1 out c1 _ _ hro (Nat.le_refl _) HO.out (by omega)).mono ?_
      intro e w2 hret
      have hret2 := hret.back hb
      rw [← HE.out] at hret2
      obtain ⟨A2, c2, rfl, ho2, hb2⟩ := hret2
      go_wp2_with fail
      go_ret
      exact ⟨_, _, rfl, ho2, hb2⟩
end Go.Proofs.Ytaddhbdfjkbgiaa
