
/- Contracts of the laws' helpers on slices of int slices. -/
import Derived.Test.YtchgicdjdbjfgaaL1
import Derived.Test.YtchgicdjdbjfgaaB2
namespace Go.Proofs.Ytchgicdjdbjfgaa
set_option linter.unusedVariables false
set_option linter.unusedSimpArgs false
open Go.RowKit

theorem infoSI : (Try.prog.info? 27).map (fun i => (i.zero, i.size, i.bytes)) = some (some (.slice none 0 0), 1, 24) := by kernel_rfl
theorem undSSI : Try.prog.underlying 22 = some (.slice 27) := by kernel_rfl

/-- What is left of a budget, or -1. -/
def szI (left : Int) (n : Nat) : Int := if (n : Int) ≤ left then left - n else -1

set_option maxHeartbeats 400000 in
theorem szIntS_any (A : Option Addr) (n c : Nat) (left : Int) (w : World) (hn : n ≤ 9223372036854775807) (h0 : 0 ≤ left) (h1 : left ≤ 1048576) :
    Calls Try.prog 60 #[.slice A n c, .int .i64 left] w fun e w' => e = .returned (.int .i64 (szI left n)) ∧ w = w' := by
  by_cases h : (n : Int) ≤ left
  · have e : szI left n = left - n := by unfold szI; rw [if_pos h]
    rw [e]
    clear e
    go_enter Try.func60, Try.ntmps60
    go_wp2_with fail
    go_ret
    exact ⟨rfl, rfl⟩
  · have e : szI left n = -1 := by unfold szI; rw [if_neg h]
    rw [e]
    clear e
    go_enter Try.func60, Try.ntmps60
    go_wp2_with fail
    go_ret
    exact ⟨rfl, rfl⟩

/-- How many numbers stand in the rows. -/
def sumL (xss : List (List Int)) : Nat := (xss.map List.length).sum
theorem sumL_append (a b : List (List Int)) : sumL (a ++ b) = sumL a + sumL b := by simp [sumL]
theorem sumL_one (a : List Int) : sumL [a] = a.length := by simp [sumL]
theorem sumL_take_succ {xss : List (List Int)} {k : Nat} {xs : List Int} (h : xss[k]? = some xs) : sumL (xss.take (k + 1)) = sumL (xss.take k) + xs.length := by
  rw [take_succ_of xss h, sumL_append, sumL_one]
theorem sumL_take_le (xss : List (List Int)) (k : Nat) : sumL (xss.take k) ≤ sumL xss := by
  have h := List.take_append_drop k xss
  have := sumL_append (xss.take k) (xss.drop k)
  rw [h] at this
  omega
theorem len_le_sumL {xss : List (List Int)} {xs : List Int} (h : xs ∈ xss) : xs.length ≤ sumL xss := by
  obtain ⟨k, hk⟩ := List.mem_iff_getElem?.1 h
  have h1 := sumL_take_succ hk
  have h2 := sumL_take_le xss (k + 1)
  omega

/-- The lengths are lengths of slices that there can be. -/
def LenOk (xss : List (List Int)) : Prop := xss.length ≤ 9223372036854775807 ∧ ∀ xs ∈ xss, xs.length ≤ 9223372036854775807

set_option maxHeartbeats 800000 in
theorem szIntSS_any (A : Option Addr) (xss : List (List Int)) (c : Nat) (left : Int) (w : World) (lo hi : Nat) (hr : RSS w lo hi A xss) (hok : LenOk xss) (h0 : 0 ≤ left) (h1 : left ≤ 1048576) (r : Int)
    (hres : r = szI left (xss.length + sumL xss)) :
    Calls Try.prog 15 #[.slice A xss.length c, .int .i64 left] w fun e w' => e = .returned (.int .i64 r) ∧ w = w' := by
  have HR := Lib.hid hres
  clear hres
  have hlen := hok.1
  by_cases hbig : (xss.length : Int) ≤ left
  · go_enter Try.func15, Try.ntmps15
    go_wp2_with fail
    go_loop [1, 5] (fun lv i => ∃ k : Nat, k ≤ xss.length ∧ i = .int .i64 k ∧ lv = .int .i64 (left - xss.length - (sumL (xss.take k) : Int)) ∧ ((xss.length + sumL (xss.take k) : Nat) : Int) ≤ left)
      (fun _ i => xss.length - (intOf i).toNat)
    case atStart => exact ⟨0, Nat.zero_le _, rfl, by simp [sumL], by simp [sumL]; omega⟩
    case round =>
      obtain ⟨k, hk, rfl, rfl, hle⟩ := hrel
      by_cases hlt : k < xss.length
      · obtain ⟨b, off, A', c', xs, rfl, -, -, hx, hc, -⟩ := hr.row hlt
        have hxl := hok.2 xs (List.mem_of_getElem? hx)
        have hs := sumL_take_succ hx
        have HS := Lib.hid hs
        clear hs hx
        by_cases hfit : (xs.length : Int) ≤ left - xss.length - (sumL (xss.take k) : Int)
        · have e : szI (left - xss.length - (sumL (xss.take k) : Int)) xs.length = left - xss.length - (sumL (xss.take k) : Int) - xs.length := by unfold szI; rw [if_pos hfit]
          have E := Lib.hid e
          clear e
          go_wp2_with fail
          with_reducible refine (szIntS_any A' xs.length c' _ _ hxl (by omega) (by omega)).mono ?_
          rintro e w' ⟨rfl, rfl⟩
          rw [E.out]
          go_wp2_with fail
          go_round
          case rel => exact ⟨k + 1, by omega, by go_num, by rw [HS.out]; go_num, by rw [HS.out]; omega⟩
          case measure => simp [intOf]; omega
        · have e : szI (left - xss.length - (sumL (xss.take k) : Int)) xs.length = -1 := by unfold szI; rw [if_neg hfit]
          have E := Lib.hid e
          clear e
          go_wp2_with fail
          with_reducible refine (szIntS_any A' xs.length c' _ _ hxl (by omega) (by omega)).mono ?_
          rintro e w' ⟨rfl, rfl⟩
          rw [E.out]
          go_wp2_with fail
          go_ret
          have hbad : szI left (xss.length + sumL xss) = -1 := by
            have h2 := sumL_take_le xss (k + 1)
            have h3 := HS.out
            unfold szI
            rw [if_neg (by omega)]
          rw [HR.out, hbad]
          exact ⟨rfl, rfl⟩
      · go_wp2_with fail
        go_ret
        obtain rfl : k = xss.length := by omega
        have ht : xss.take xss.length = xss := List.take_length
        rw [ht] at hle ⊢
        have hgood : szI left (xss.length + sumL xss) = left - xss.length - (sumL xss : Int) := by
          unfold szI
          rw [if_pos hle]
          omega
        rw [HR.out, hgood]
        exact ⟨rfl, rfl⟩
  · have hbad : szI left (xss.length + sumL xss) = -1 := by
      unfold szI
      rw [if_neg (by omega)]
    rw [HR.out, hbad]
    clear hbad
    go_enter Try.func15, Try.ntmps15
    go_wp2_with fail
    go_ret
    exact ⟨rfl, rfl⟩

set_option maxHeartbeats 800000 in
theorem toIntSS_any (A : Option Addr) (xss : List (List Int)) (c : Nat) (w : World) (lo hi : Nat) (hr : RSS w lo hi A xss) (hsz : xss.length + sumL xss ≤ 1048576) :
    Calls Try.prog 17 #[.slice A xss.length c] w fun e w' => RetSS 27 3 xss w e w' := by
  have hmx : xss.length ≤ maxLen := by unfold maxLen; omega
  go_enter Try.func17, Try.ntmps17
  go_wp2_with (at_make; refine wpList_mk rfl _ _ 22 rfl 27 (.slice none 0 0) 24 undSSI infoSI rfl .i64 .i64 _ _ xss.length rfl rfl rfl rfl (by omega) hmx ?_; intro w1 hown1 hgr1 hsz1)
  have hm1 : Mid 0 0 w w1 := Mid.of_grown hgr1 (by intro g h; cases h)
  go_loopw [4] (fun i wr => ∃ k : Nat, ∃ rows : List Row, k ≤ xss.length ∧ i = .int .i64 k ∧ rowsD rows = xss.take k ∧
      wr.ownsRow w.heap.size 27 1 (.slice (some ⟨w.heap.size, 0, none⟩) xss.length xss.length) xss.length (rowsV rows ++ List.replicate (xss.length - k) (.slice none 0 0)) ∧
      OwnRows wr w.heap.size wr.heap.size 3 rows ∧ Mid 0 0 w wr)
    (fun i _ => xss.length - (intOf i).toNat)
  case atStart => exact ⟨0, [], Nat.zero_le _, rfl, by simp [rowsD], by simpa [rowsV] using hown1, OwnRows.nil, hm1⟩
  case round =>
    obtain ⟨k, rows, hk, rfl, hrd, hown, hrows, hm⟩ := hrel
    have HRD := Lib.hid hrd
    clear hrd
    by_cases hlt : k < xss.length
    · obtain ⟨b, off, A', c', xs, rfl, -, -, hx, hc, hrx⟩ := (hr.mid hm (Or.inl (Nat.zero_le _))).row hlt
      have hxl := len_le_sumL (List.mem_of_getElem? hx)
      have HX := Lib.hid hx
      clear hx
      have hszr := hm.size
      go_wp2_with fail
      with_reducible refine (toIntS_any A' xs c' _ hrx.rsS (by omega)).mono ?_
      rintro e w2 ⟨rfl, ho2, hb2⟩
      have hown2 := owns_belowS hown hb2
      have hrows2 := hrows.mid (w' := w2) (Mid.of_below (lo := 0) (hi := 0) hb2) (Or.inl (Nat.zero_le _))
      have hm2 := hm.trans (Mid.of_below hb2)
      have hsz2 := hb2.size
      obtain ⟨u, -, hu⟩ := owns_cell hown2 hlt
      have hfz := hown2.frozenAt k
      have hblk : wr.heap.size < w2.heap.size := (ho2.lt wr.heap.size rfl).2
      go_wp2_with fail
      go_roundw
      case rel =>
        have hl2 : (rowsV rows).length = k := by rw [rowsV_len, ← rowsD_len, HRD.out, List.length_take]; omega
        have hp := hrows2.push (r := ⟨some ⟨wr.heap.size, 0, none⟩, xs.length, xs⟩) (base := wr.heap.size) (hi' := w2.heap.size) ho2 (Nat.le_refl _) hszr hsz2 (Nat.le_refl _)
          (by intro g hg; simp [Row.v, Value.ownBlock] at hg; omega)
        refine ⟨k + 1, rows ++ [⟨some ⟨wr.heap.size, 0, none⟩, xs.length, xs⟩], by omega, by go_num, ?_, owns_set hown2 k _ ?_, ?_, ?_⟩
        · rw [rowsD_append, HRD.out, take_succ_of xss HX.out]
          rfl
        · rw [set_fill _ _ _ hl2 hlt, rowsV_append]
          rfl
        · have h3 := hp.grown hown2 (by decide) (grown_of_setCell w2 w.heap.size k (.slice (some ⟨wr.heap.size, 0, none⟩) xs.length xs.length))
          simpa using h3
        · exact hm2.storeNew (Nat.le_refl _) _
      case measure => simp [intOf]; omega
    · go_wp2_with fail
      go_ret
      obtain rfl : k = xss.length := by omega
      have hD : rowsD rows = xss := by rw [HRD.out, List.take_length]
      refine ⟨_, _, rfl, ⟨Nat.le_refl _, rows, hD, ⟨Nat.le_refl _, by simpa using hown, ?_⟩, hrows⟩, hm⟩
      intro g hg
      simp [Value.ownBlock] at hg
      subst hg
      exact (hown.lt _ rfl).2

set_option maxHeartbeats 800000 in
theorem eqIntSS_same (A A' : Option Addr) (xss : List (List Int)) (c c' : Nat) (w : World) (lo hi lo' hi' : Nat) (hr : RSS w lo hi A xss) (hr' : RSS w lo' hi' A' xss) (hsz : xss.length + sumL xss ≤ 1048576) :
    Calls Try.prog 19 #[.slice A xss.length c, .slice A' xss.length c'] w fun e w' => e = .returned (.bool true) ∧ ∃ n, w' = w.drewN n := by
  go_enter Try.func19, Try.ntmps19
  go_wp2_with fail
  go_loopw [5] (fun i wr => ∃ k : Nat, k ≤ xss.length ∧ i = .int .i64 k ∧ ∃ n, wr = w.drewN n) (fun i _ => xss.length - (intOf i).toNat)
  case atStart => exact ⟨0, Nat.zero_le _, rfl, 0, rfl⟩
  case round =>
    obtain ⟨k, hk, rfl, nd, rfl⟩ := hrel
    by_cases hlt : k < xss.length
    · obtain ⟨b, off, A1, c1, xs, rfl, -, -, hx, hc, hrx⟩ := hr.row hlt
      obtain ⟨b', off', A2, c2, xs', rfl, -, -, hx', hc', hrx'⟩ := hr'.row hlt
      rw [hx] at hx'
      obtain rfl := Option.some.inj hx'
      have hxl := len_le_sumL (List.mem_of_getElem? hx)
      clear hx hx'
      go_wp2_with fail
      go_quiet ((go_at_call 23; first | exact qz0 (eqIntS_same A1 A2 xs c1 c2 _ _ _ hrx.rs hrx'.rs (by omega)) | exact qz1 (eqIntS_same A1 A2 xs c1 c2 _ _ _ hrx.rs hrx'.rs (by omega))))
      go_wp2_with fail
      go_roundw
      case rel => exact ⟨k + 1, by omega, by go_num, _, by first | rfl | exact dn _ _ _⟩
      case measure => simp [intOf]; omega
    · go_wp2_with fail
      go_ret
      exact ⟨rfl, _, rfl⟩

/-- The rows with marks in them, from q on. -/
def markD (q : Int) : List (List Int) → List (List Int)
  | [] => []
  | xs :: r => marks q xs.length :: markD (q + xs.length) r
def markRows (q : Int) : List Row → List Row
  | [] => []
  | r :: t => { r with xs := marks q r.xs.length } :: markRows (q + r.xs.length) t
theorem markRows_D (q : Int) (rows : List Row) : rowsD (markRows q rows) = markD q (rowsD rows) := by
  induction rows generalizing q with
  | nil => rfl
  | cons r t ih =>
    show marks q r.xs.length :: rowsD (markRows (q + r.xs.length) t) = marks q r.xs.length :: markD (q + r.xs.length) (rowsD t)
    rw [ih]
theorem markD_len (q : Int) (xss : List (List Int)) : (markD q xss).length = xss.length := by
  induction xss generalizing q with
  | nil => rfl
  | cons x t ih => simp [markD, ih]
theorem markD_sum (q : Int) (xss : List (List Int)) : sumL (markD q xss) = sumL xss := by
  induction xss generalizing q with
  | nil => rfl
  | cons x t ih =>
    have := ih (q + x.length)
    simp [sumL, markD, marks_len] at this ⊢
    omega
theorem markD_get (q : Int) (xss : List (List Int)) {k : Nat} {xs : List Int} (h : xss[k]? = some xs) : (markD q xss)[k]? = some (marks (q + sumL (xss.take k)) xs.length) := by
  induction xss generalizing q k with
  | nil => simp at h
  | cons x t ih =>
    cases k with
    | zero =>
      simp at h
      subst h
      simp [markD, sumL]
    | succ k =>
      simp at h
      have := ih (q + x.length) h
      simp [markD, this, sumL]
      rw [Int.add_assoc]
theorem rowsD_map_xs (rows : List Row) (f : Row → List Int) : rowsD (rows.map fun r => { r with xs := f r }) = rows.map f := by
  simp [rowsD]

theorem OwnRows.mark {w w' : World} {lo hi : Nat} {tI : TypeId} {fs bs : List Row} {r : Row} {ys : List Int} (h : OwnRows w lo hi tI (fs ++ r :: bs)) (hg : w.grownBy w' r.v.ownBlock) (hy : ys.length = r.xs.length)
    (ho : w'.ownsRow lo tI 1 r.v r.xs.length (ints ys)) : OwnRows w' lo hi tI (fs ++ { r with xs := ys } :: bs) := by
  have hvv : ({ r with xs := ys } : Row).v = r.v := by simp [Row.v, hy]
  have hp := h.2
  rw [List.pairwise_append, List.pairwise_cons] at hp
  obtain ⟨hp1, ⟨hp2, hp3⟩, hp4⟩ := hp
  refine ⟨fun s hs => ?_, ?_⟩
  · rcases List.mem_append.1 hs with hm | hm
    · have ⟨h1, h2, h3⟩ := h.1 s (List.mem_append_left _ hm)
      exact ⟨Nat.le_trans h1 hg.size, h2.kept hg (hp4 s hm r List.mem_cons_self), h3⟩
    · rcases List.mem_cons.1 hm with hm | hm
      · subst hm
        have ⟨h1, h2, h3⟩ := h.1 r (List.mem_append_right _ List.mem_cons_self)
        refine ⟨Nat.le_trans h1 hg.size, ?_, ?_⟩
        · show w'.ownsRow lo tI 1 (.slice r.A ys.length r.c) ys.length (ints ys)
          rw [hy]
          exact ho
        · show ∀ g, Value.ownBlock (.slice r.A ys.length r.c) = some g → g < hi
          rw [hy]
          exact h3
      · have ⟨h1, h2, h3⟩ := h.1 s (List.mem_append_right _ (List.mem_cons_of_mem _ hm))
        refine ⟨Nat.le_trans h1 hg.size, h2.kept hg ?_, h3⟩
        rcases hp2 s hm with hn | hn
        · cases hv : s.v.ownBlock with
          | none => exact .inl hv
          | some g =>
            refine .inr ?_
            show s.v.ownBlock ≠ _
            rw [hn, hv]
            simp
        · exact .inr (fun e => hn e.symm)
  · rw [List.pairwise_append, List.pairwise_cons]
    refine ⟨hp1, ⟨fun s hs => by rw [hvv]; exact hp2 s hs, hp3⟩, fun s hs t ht => ?_⟩
    rcases List.mem_cons.1 ht with rfl | ht
    · rw [hvv]
      exact hp4 s hs r List.mem_cons_self
    · exact hp4 s hs t (List.mem_cons_of_mem _ ht)

theorem markRows_snoc (q : Int) (fs : List Row) (r : Row) : markRows q (fs ++ [r]) = markRows q fs ++ [{ r with xs := marks (q + sumL (rowsD fs)) r.xs.length }] := by
  induction fs generalizing q with
  | nil => simp [markRows, sumL, rowsD]
  | cons s t ih =>
    have := ih (q + s.xs.length)
    simp [markRows, this, sumL, rowsD]
    rw [Int.add_assoc]
theorem markRows_V (q : Int) (rows : List Row) : rowsV (markRows q rows) = rowsV rows := by
  induction rows generalizing q with
  | nil => rfl
  | cons r t ih =>
    show Row.v _ :: rowsV (markRows (q + r.xs.length) t) = Row.v r :: rowsV t
    rw [ih]
    simp [Row.v, marks_len]
theorem OV.grown {w w' : World} {lo hi : Nat} {e : TypeId} {size : Nat} {A : Option Addr} {c n : Nat} {cs : List Value} {row : Option Nat} (h : OV w lo hi e size A c n cs) (hg : w.grownBy w' row)
    (hne : Value.ownBlock (.slice A n c) = none ∨ Value.ownBlock (.slice A n c) ≠ row) : OV w' lo hi e size A c n cs :=
  ⟨Nat.le_trans h.1 hg.size, h.2.1.kept hg hne, h.2.2⟩

set_option maxHeartbeats 800000 in
theorem markIntSS_any (A : Option Addr) (xss : List (List Int)) (c : Nat) (q : Int) (w : World) (lo hi : Nat) (ho : OSS w lo hi 27 3 A c xss) (hq : 0 ≤ q) (hq2 : q ≤ 4194304) (hsz : xss.length + sumL xss ≤ 1048576) :
    Calls Try.prog 34 #[.slice A xss.length c, .int .i64 q] w fun e w' => e = .returned (.int .i64 (q + (sumL xss : Int))) ∧ OSS w' lo hi 27 3 A c (markD q xss) ∧ Mid lo hi w w' := by
  obtain ⟨h0, rows, hD, hout, hrows⟩ := ho
  have hl1 : rows.length ≤ xss.length := by rw [← hD, rowsD_len]; exact Nat.le_refl _
  have hl2 : xss.length ≤ rows.length := by rw [← hD, rowsD_len]; exact Nat.le_refl _
  have HD := Lib.hid hD
  clear hD
  go_enter Try.func34, Try.ntmps34
  go_wp2_with fail
  go_loopw [1, 5] (fun qv i wr => ∃ k : Nat, k ≤ xss.length ∧ i = .int .i64 k ∧ qv = .int .i64 (q + (sumL (xss.take k) : Int)) ∧ OwnRows wr lo hi 3 (markRows q (rows.take k) ++ rows.drop k) ∧
      OV wr lo hi 27 1 A c xss.length (rowsV rows) ∧ Mid lo hi w wr)
    (fun _ i _ => xss.length - (intOf i).toNat)
  case atStart => exact ⟨0, Nat.zero_le _, rfl, by simp [sumL], by simpa [markRows] using hrows, hout, Mid.refl _ _ _⟩
  case round =>
    obtain ⟨k, hk, rfl, rfl, hrw, hout', hm⟩ := hrel
    by_cases hlt : k < xss.length
    · obtain ⟨r, hrk⟩ := get_of_lt rows (show k < rows.length by omega)
      rw [drop_of rows hrk] at hrw
      have hor := hrw.1 r (List.mem_append_right _ List.mem_cons_self)
      have hor1 := hor.2.1
      obtain ⟨b, off, u, hA, -, hu, hc⟩ := hout'.rv.rs.at (j := k) (by rw [rowsV_len]; omega)
      have hu' : u = .slice r.A r.xs.length r.c := by
        rw [rowsV, List.getElem?_map, hrk] at hu
        simp at hu
        exact hu.symm
      subst hu'
      have hdk : xss[k]? = some r.xs := by rw [← HD.out]; simp [rowsD, hrk]
      have hs := sumL_take_succ hdk
      have hs2 := sumL_take_le xss (k + 1)
      have hle : sumL (xss.take k) + r.xs.length ≤ 1048576 := by omega
      have HS := Lib.hid hs
      have HRK := Lib.hid hrk
      rw [hA] at hout
      subst hA
      clear hs hs2 hrk hu hdk
      go_wp2_with fail
      with_reducible refine (markIntS_any r.A r.xs r.c lo _ wr hor1 (by omega) (by omega) (by omega)).mono ?_
      rintro e w2 ⟨rfl, ho2, hg2⟩
      have hm2 := hm.trans (Mid.of_grown hg2 (fun g hgg => ⟨(hor1.lt g hgg).1, hor.2.2 g hgg⟩))
      have hout2 := hout'.grown hg2 (owns_ne hout'.2.1 hor1 (by decide))
      have hrw2 := OwnRows.mark hrw (ys := marks (q + (sumL (xss.take k) : Int)) r.xs.length) hg2 (marks_len _ _) ho2
      go_wp2_with fail
      go_roundw
      case rel =>
        refine ⟨k + 1, by omega, by go_num, by rw [HS.out]; go_num, ?_, hout2, hm2⟩
        rw [take_succ_of rows HRK.out, markRows_snoc]
        have e1 : rowsD (rows.take k) = xss.take k := by rw [← HD.out]; simp [rowsD]
        rw [e1, List.append_assoc]
        exact hrw2
      case measure => simp [intOf]; omega
    · go_wp2_with fail
      go_ret
      have hkx : k = xss.length := by omega
      have hkr : k = rows.length := by omega
      have e1 : xss.take k = xss := by rw [hkx]; exact List.take_length
      have e2 : rows.take k = rows := by rw [hkr]; exact List.take_length
      have e3 : rows.drop k = [] := by rw [hkr]; exact List.drop_length
      rw [e2, e3, List.append_nil] at hrw
      rw [e1]
      refine ⟨rfl, ⟨hout'.1, markRows q rows, by rw [markRows_D, HD.out], ?_, hrw⟩, hm⟩
      rw [markD_len, markRows_V]
      exact hout'

set_option maxHeartbeats 800000 in
theorem heldIntSS_any (A : Option Addr) (xss : List (List Int)) (c : Nat) (q : Int) (w : World) (lo hi : Nat) (hr : RSS w lo hi A (markD q xss)) (hq : 0 ≤ q) (hq2 : q ≤ 4194304) (hsz : xss.length + sumL xss ≤ 1048576) :
    Calls Try.prog 35 #[.slice A xss.length c, .int .i64 q] w fun e w' => e = .returned (.int .i64 (q + (sumL xss : Int))) ∧ w = w' := by
  go_enter Try.func35, Try.ntmps35
  go_wp2_with fail
  go_loop [1, 5] (fun qv i => ∃ k : Nat, k ≤ xss.length ∧ i = .int .i64 k ∧ qv = .int .i64 (q + (sumL (xss.take k) : Int))) (fun _ i => xss.length - (intOf i).toNat)
  case atStart => exact ⟨0, Nat.zero_le _, rfl, by simp [sumL]⟩
  case round =>
    obtain ⟨k, hk, rfl, rfl⟩ := hrel
    by_cases hlt : k < xss.length
    · obtain ⟨b, off, A', c', ys, rfl, -, -, hy, hc, hry⟩ := hr.row (k := k) (by rw [markD_len]; exact hlt)
      obtain ⟨xs, hx⟩ := get_of_lt xss hlt
      rw [markD_get q xss hx] at hy
      obtain rfl := Option.some.inj hy
      have hs := sumL_take_succ hx
      have hs2 := sumL_take_le xss (k + 1)
      have hle : sumL (xss.take k) + xs.length ≤ 1048576 := by omega
      have HS := Lib.hid hs
      rw [marks_len] at hc
      clear hs hs2 hx hy
      go_wp2_with fail
      with_reducible refine (heldIntS_any A' xs.length c' _ _ _ hry.rs (by omega) (by omega) (by omega)).mono ?_
      rintro e w' ⟨rfl, rfl⟩
      go_wp2_with fail
      go_round
      case rel => exact ⟨k + 1, by omega, by go_num, by rw [HS.out]; go_num⟩
      case measure => simp [intOf]; omega
    · go_wp2_with fail
      go_ret
      obtain rfl : k = xss.length := by omega
      rw [List.take_length]
      exact ⟨rfl, rfl⟩
end Go.Proofs.Ytchgicdjdbjfgaa
