
/- ApplyMove, both sides. -/
import Derived.Test.YtchgicdjdbjfgaaM5
import Derived.Test.YtchgicdjdbjfgaaL22
import Derived.Test.YtchgicdjdbjfgaaL23
import Derived.Test.YtchgicdjdbjfgaaL28
import Derived.Test.YtchgicdjdbjfgaaB4
import Derived.IntWalk
import Derived.Outline
namespace Go.Proofs.Ytchgicdjdbjfgaa
set_option linter.unusedVariables false
set_option linter.unusedSimpArgs false
open Go.RowKit

set_option maxHeartbeats 800000 in
theorem spec_MultiplyWords (A A' : Option Addr) (xs ys : List Int) (c c' : Nat) (w : World) (hr : Rs w w.heap.size A (ints xs)) (hr' : Rs w w.heap.size A' (ints ys)) (hok : OkI xs) (hok' : OkI ys) (hl : xs.length + ys.length ≤ 268435456) :
    Calls Try.prog 130 #[.slice A xs.length c, .slice A' ys.length c'] w fun e w' => RetI 3 (red [] (xs ++ ys)) w e w' := by
  have hoe := owns_empty w 3 1
  have hb0 : Below w.heap.size w (w.alloc (.cells #[] 3)) := (Below.refl w.heap.size w).alloc (Nat.le_refl _) _
  have hra : Rs (w.alloc (.cells #[] 3)) w.heap.size A (ints xs) := hr.alloc (Nat.le_refl _) _
  have hla : (ints xs).length = xs.length * 1 := by rw [ints_len]; omega
  have hlb : (ints ys).length = ys.length * 1 := by rw [ints_len]; omega
  have hoo := Lib.hid (okI_app hok hok')
  go_enter Try.func130, Try.ntmps130
  go_wp2_with (at_builtin; refine wpList_cat rfl (.tmp 5) (.tmp 6) 27 rfl w.heap.size 3 (.int .i64 0) 1 8 undSI infoI rfl (by decide) _ _ _ rfl hoe A xs.length c w.heap.size (ints xs) rfl hra hla (one_of_ints _) ?c4 ?c5 ?c6 ?next)
  case c4 => unfold maxLen; omega
  case c5 => omega
  case c6 => simp
  case next =>
    intro v2 w2 ho2 hgr2 _
    try rw [Nat.zero_add, List.nil_append] at ho2
    have hb2 : Below w.heap.size w w2 := hb0.grown hgr2 (by simp) (fun g hg => (hoe.lt g hg).1)
    have hrb : Rs w2 w.heap.size A' (ints ys) := hr'.below hb2
    have hs2 := hb2.size
    go_wp2_with (at_builtin; refine wpList_cat rfl (.tmp 7) (.tmp 8) 27 rfl w.heap.size 3 (.int .i64 0) 1 8 undSI infoI rfl (by decide) _ _ _ rfl ho2 A' ys.length c' w.heap.size (ints ys) rfl hrb hlb (one_of_ints _) ?d4 ?d5 ?d6 ?next2)
    case d4 => unfold maxLen; omega
    case d5 => omega
    case d6 => omega
    case next2 =>
      intro v3 w3 ho3 hgr3 _
      have hb3 : Below w.heap.size w w3 := hb2.grown hgr3 hs2 (fun g hg => (ho2.lt g hg).1)
      rw [← ints_append, ← List.length_append] at ho3
      have hlz : (xs ++ ys).length ≤ 268435456 := by rw [List.length_append]; exact hl
      obtain ⟨zs, hzs⟩ : ∃ zs, zs = xs ++ ys := ⟨_, rfl⟩
      rw [← hzs] at ho3 hoo hlz
      have HZ := Lib.hid hzs
      clear hzs
      obtain ⟨A3, c3, rfl, -, -⟩ := owns_shape ho3
      go_wp2_with fail
      refine (spec_ReduceLetters A3 zs c3 w3 w3.heap.size (Rs.of_own ho3) (Nat.le_refl _) hoo.out hlz).mono ?_
      rintro e w4 ⟨A4, c4, rfl, ho4, hb4⟩
      go_wp2_with fail
      go_ret
      obtain rfl := HZ.out
      exact ⟨A4, c4, rfl, owns_base ho4 hb3.size, hb3.trans (hb4.mono hb3.size)⟩

/-- What ApplyMove hands back. -/
abbrev RetMv (d : List (List Int)) (m : Mv) (w : World) (e : Ending) (w' : World) : Prop :=
  ∃ A c, e = .returned (.tuple #[.slice A (applyM d m).1.length c, .bool (applyM d m).2]) ∧ OSS w' w.heap.size w'.heap.size 27 3 A c (applyM d m).1 ∧ Mid 0 0 w w'
theorem RetMv.mk {d ys : List (List Int)} {m : Mv} {b : Bool} {w w' : World} {A : Option Addr} {c n : Nat} (he : applyM d m = (ys, b)) (hn : ys.length = n) (ho : OSS w' w.heap.size w'.heap.size 27 3 A c ys) (hm : Mid 0 0 w w') : RetMv d m w (.returned (.tuple #[.slice A n c, .bool b])) w' := by
  subst hn
  refine ⟨A, c, ?_, ?_, hm⟩
  · rw [he]
  · rw [he]; exact ho
theorem impl_InvertWordE (A : Option Addr) (xs : List Int) (c : Nat) (w : World) (hr : Rs w w.heap.size A (ints xs)) (hok : OkI xs) (hl : xs.length ≤ 4194304) :
    Calls Try.prog 116 #[.slice A xs.length c] w fun e w' => ∃ A2 c2, e = .returned (.slice A2 (invW xs).length c2) ∧ w'.ownsRow w.heap.size 3 1 (.slice A2 (invW xs).length c2) (invW xs).length (ints (invW xs)) ∧ Below w.heap.size w w' := impl_InvertWord A xs c _ w hr (Nat.le_refl _) hok hl
theorem spec_InvertWordE (A : Option Addr) (xs : List Int) (c : Nat) (w : World) (hr : Rs w w.heap.size A (ints xs)) (hok : OkI xs) (hl : xs.length ≤ 4194304) :
    Calls Try.prog 126 #[.slice A xs.length c] w fun e w' => ∃ A2 c2, e = .returned (.slice A2 (invW xs).length c2) ∧ w'.ownsRow w.heap.size 3 1 (.slice A2 (invW xs).length c2) (invW xs).length (ints (invW xs)) ∧ Below w.heap.size w w' := spec_InvertWord A xs c _ w hr (Nat.le_refl _) hok hl
theorem OSS.cut {w : World} {lo hi : Nat} {tSI tI : TypeId} {A : Option Addr} {c : Nat} {xss : List (List Int)} (h : OSS w lo hi tSI tI A c xss) : ∃ rows, rowsD rows = xss ∧ w.ownsRow lo tSI 1 (.slice A xss.length c) xss.length (rowsV rows) ∧ (∀ g, Value.ownBlock (.slice A xss.length c) = some g → g < hi) ∧ OwnRows w lo hi tI rows := by
  obtain ⟨_, rows, h1, h2, h3⟩ := h
  exact ⟨rows, h1, h2.2.1, h2.2.2, h3⟩
theorem applyM_out {d : List (List Int)} {m : Mv} (h : ¬ (0 ≤ m.i ∧ m.i < d.length)) : applyM d m = (d, false) := by unfold applyM; rw [if_pos h]
theorem applyM_1 {d : List (List Int)} {n : Nat} {j s : Int} {xs : List Int} (h : d[n]? = some xs) : applyM d ⟨1, n, j, s⟩ = (d.set n (invW xs), true) := by
  have hn := (List.getElem?_eq_some_iff.1 h).1
  unfold applyM
  rw [if_neg (by simp; omega), if_pos rfl]
  simp [rowAt_get h]
theorem applyM_4 {d : List (List Int)} {n : Nat} {j s : Int} {xs : List Int} (h : d[n]? = some xs) : applyM d ⟨4, n, j, s⟩ = if 0 < xs.length then (d, false) else (d.eraseIdx n, true) := by
  have hn := (List.getElem?_eq_some_iff.1 h).1
  unfold applyM
  rw [if_neg (by simp; omega), if_neg (show ¬ ((4 : Int) = 1) by decide), if_pos rfl]
  simp [rowAt_get h]
theorem applyM_bad {d : List (List Int)} {m : Mv} (h1 : m.kind ≠ 1) (h4 : m.kind ≠ 4) (h : ¬ MvOk d m ∨ (m.kind ≠ 2 ∧ m.kind ≠ 3)) : applyM d m = (d, false) := by
  unfold applyM
  by_cases h0 : ¬ (0 ≤ m.i ∧ m.i < d.length)
  · rw [if_pos h0]
  · rw [if_neg h0, if_neg h1, if_neg h4]
    by_cases h5 : MvOk d m
    · rcases h with h | h
      · exact absurd h5 h
      · rw [if_neg (not_not_intro h5), if_neg h.1, if_neg h.2]
    · rw [if_pos h5]
theorem applyM_23 {d : List (List Int)} {n n' : Nat} {k s : Int} {xs ys : List Int} (h : d[n]? = some xs) (h' : d[n']? = some ys) (hk : k = 2 ∨ k = 3) (hne : n' ≠ n) (hs : s = 1 ∨ s = -1) :
    applyM d ⟨k, n, n', s⟩ = (d.set n (red [] (if k = 2 then xs ++ (if s < 0 then invW ys else ys) else (if s < 0 then invW ys else ys) ++ xs)), true) := by
  have hn := (List.getElem?_eq_some_iff.1 h).1
  have hn' := (List.getElem?_eq_some_iff.1 h').1
  unfold applyM
  rw [if_neg (by simp; omega), if_neg (show ¬ (k = 1) by omega), if_neg (show ¬ (k = 4) by omega), if_neg (by simp [MvOk]; omega)]
  rcases hk with rfl | rfl
  · simp [rowAt_get h, rowAt_get h', mvWord]
  · simp [rowAt_get h, rowAt_get h', mvWord]
theorem mv_back {w0 w1 w2 : World} {c n : Nat} {d : List (List Int)} {rows : List Row} {r : Row} {g : Nat}
    (hm1 : Mid 0 0 w0 w1) (hD : rowsD rows = d) (hown : w1.ownsRow w0.heap.size 27 1 (.slice (some ⟨g, 0, none⟩) d.length c) d.length (rowsV rows)) (hrows : OwnRows w1 w0.heap.size w1.heap.size 3 rows)
    (ho2 : w2.ownsRow w1.heap.size 3 1 r.v r.xs.length (ints r.xs)) (hb2 : Below w1.heap.size w1 w2) {ys : List (List Int)} (hy : ys = d.set n r.xs) :
    OSS (w2.setCell ⟨g, n, none⟩ r.v) w0.heap.size (w2.setCell ⟨g, n, none⟩ r.v).heap.size 27 3 (some ⟨g, 0, none⟩) c ys ∧ Mid 0 0 w0 (w2.setCell ⟨g, n, none⟩ r.v) := by
  subst hy
  have hs1 := hm1.size
  have hown2 := owns_belowS hown hb2
  have hrows2 := hrows.mid (w' := w2) (Mid.of_below (lo := 0) (hi := 0) hb2) (Or.inl (Nat.zero_le _))
  have hp := hrows2.replace (k := n) (hi' := w2.heap.size) ho2 (Nat.le_refl _) hs1 hb2.size (Nat.le_refl _) (fun g hg => (ho2.lt g hg).2)
  have hp3 := hp.grown hown2 (by decide) (grown_of_setCell w2 g n r.v)
  have hset := owns_set hown2 n r.v rfl
  have hg := (hown.lt g rfl).1
  refine ⟨?_, (hm1.trans (Mid.of_below hb2)).storeNew (by simpa using hg) _⟩
  have h := OSS.mk' (w := w2.setCell ⟨g, n, none⟩ r.v) (tI := 3) (rows := rows.set n r) (xss := d.set n r.xs) (by rw [rowsV_set]; exact hset) (by simpa using hp3) (by rw [rowsD_set, hD])
  exact h

set_option maxRecDepth 100000 in
set_option maxHeartbeats 3200000 in
theorem impl_ApplyMove_a (A : Option Addr) (d : List (List Int)) (c : Nat) (m : Mv) (w : World) (lo hi : Nat) (hr : RSS w lo hi A d) (hok : ∀ xs ∈ d, OkI xs) (hl : d.length + sumL d ≤ 1048576) (hc : ¬ (0 ≤ m.i ∧ m.i < d.length)) :
    Calls Try.prog 84 #[.slice A d.length c, m.v] w (RetMv d m w) := by
  obtain ⟨kd, i, j, s⟩ := m
  show Calls _ _ #[.slice A d.length c, .agg #[.int .i64 kd, .int .i64 i, .int .i64 j, .int .i64 s]] w _
  have HE := Lib.hid (applyM_out (m := ⟨kd, i, j, s⟩) hc)
  have hb : inB i 0 ((d.length : Int) - 1) = false := by simp [inB]; simp at hc; omega
  have HB := Lib.hid hb
  have H28 := Lib.hid (fun xs (hx : xs ∈ d) => show xs.length ≤ 1073741824 by have := len_le_sumL hx; omega)
  clear hb hc
  have hb0 : Mid 0 0 w (w.alloc (.cells #[.int .i64 kd, .int .i64 i, .int .i64 j, .int .i64 s] 68)) := Mid.alloc _ _
  have hbx := Box.new w #[.int .i64 kd, .int .i64 i, .int .i64 j, .int .i64 s] 68
  have hrb := hr.mid hb0 (Or.inl (Nat.zero_le _))
  go_enter Try.func84, Try.ntmps84
  go_wp2_with fail
  with_reducible refine (impl_copyLists A d c _ _ _ hrb (by omega) H28.out).mono ?_
  rintro e w1 ⟨A1, c1, rfl, ho1, hm1⟩
  have hm := hb0.trans hm1
  have hbx1 := hbx.mid hm1 (Or.inr (Nat.zero_le _))
  have hrd1 := hrb.mid hm1 (Or.inl (Nat.zero_le _))
  have k0 := hbx1.cell 0 rfl
  have k1 := hbx1.cell 1 rfl
  have k2 := hbx1.cell 2 rfl
  have k3 := hbx1.cell 3 rfl
  go_wp2_with fail
  with_reducible refine (within_any _ _ _ _).mono ?_
  rintro e w' ⟨rfl, rfl⟩
  rw [HB.out]
  go_wp2_with fail
  go_ret2
  exact RetMv.mk HE.out rfl (ho1.wide hb0.size (Nat.le_refl _) ho1.size) hm

set_option maxRecDepth 100000 in
set_option maxHeartbeats 3200000 in
theorem impl_ApplyMove_1 (A : Option Addr) (d : List (List Int)) (c : Nat) (n : Nat) (j s : Int) (w : World) (lo hi : Nat) (hr : RSS w lo hi A d) (hok : ∀ xs ∈ d, OkI xs) (hl : d.length + sumL d ≤ 1048576) (hn : n < d.length) :
    Calls Try.prog 84 #[.slice A d.length c, (Mv.mk 1 n j s).v] w (RetMv d ⟨1, n, j, s⟩ w) := by
  show Calls _ _ #[.slice A d.length c, .agg #[.int .i64 1, .int .i64 n, .int .i64 j, .int .i64 s]] w _
  obtain ⟨b, off, A', c', xs, rfl, -, hbhi, hx, hcx, hrx⟩ := hr.row hn
  have HE := Lib.hid (applyM_1 (j := j) (s := s) hx)
  have hb : inB n 0 ((d.length : Int) - 1) = true := by simp [inB]; omega
  have HB := Lib.hid hb
  have H28 := Lib.hid (fun xs (hx : xs ∈ d) => show xs.length ≤ 1073741824 by have := len_le_sumL hx; omega)
  have hlx : xs.length ≤ 4194304 := by have := len_le_sumL (List.mem_of_getElem? hx); omega
  have HOX := Lib.hid (hok xs (List.mem_of_getElem? hx))
  clear hb hx
  have hhi := hr.size
  have hb0 : Mid 0 0 w (w.alloc (.cells #[.int .i64 1, .int .i64 n, .int .i64 j, .int .i64 s] 68)) := Mid.alloc _ _
  have hbx := Box.new w #[.int .i64 1, .int .i64 n, .int .i64 j, .int .i64 s] 68
  have hrb := hr.mid hb0 (Or.inl (Nat.zero_le _))
  go_enter Try.func84, Try.ntmps84
  go_wp2_with fail
  with_reducible refine (impl_copyLists _ d c _ _ _ hrb (by omega) H28.out).mono ?_
  rintro e w1 ⟨A1, c1, rfl, ho1, hm1⟩
  have hm := hb0.trans hm1
  have hbx1 := hbx.mid hm1 (Or.inr (Nat.zero_le _))
  have hrd1 := hrb.mid hm1 (Or.inl (Nat.zero_le _))
  have k0 := hbx1.cell 0 rfl
  have k1 := hbx1.cell 1 rfl
  have k2 := hbx1.cell 2 rfl
  have k3 := hbx1.cell 3 rfl
  go_wp2_with fail
  with_reducible refine (within_any _ _ _ _).mono ?_
  rintro e w' ⟨rfl, rfl⟩
  rw [HB.out]
  have hcx1 : w1.cell? ⟨b, off + n, none⟩ = some (.slice A' xs.length c') := (World.cell?_of_block (hm.block b (by omega) (by omega))).trans hcx
  have hrx1 := hrx.mid hm (Or.inl (Nat.zero_le _))
  have hmd := Mid.drew1 w1
  have hrxd := hrx1.mid hmd (Or.inl (Nat.zero_le _))
  have hbxd := hbx1.mid hmd (Or.inr (Nat.zero_le _))
  have k1d := hbxd.cell 1 rfl
  have hcxd : w1.drew.cell? ⟨b, off + n, none⟩ = some (.slice A' xs.length c') := hcx1
  obtain ⟨rows, hD, hown, hlt, hrows⟩ := ho1.cut
  have HD := Lib.hid hD
  obtain ⟨g, rfl, hg0, hg1⟩ := owns_addr hown (by omega)
  have hs0 := hb0.size
  have hownd : w1.drew.ownsRow (w.alloc (.cells #[.int .i64 1, .int .i64 n, .int .i64 j, .int .i64 s] 68)).heap.size 27 1 (.slice (some ⟨g, 0, none⟩) d.length c1) d.length (rowsV rows) := hown
  have hrowsd := hrows.mid hmd (Or.inl (Nat.zero_le _))
  have hmdd := hm.trans hmd
  have hs1 := hm1.size
  have hszb : b < w1.heap.size := by omega
  simp only [World.size_alloc] at hg0
  have hbg : b < g := by omega
  have hwg : w.heap.size < g := by omega
  have hnn : (0 : Int) ≤ (n : Int) := by omega
  have hnl : (n : Int) < (d.length : Int) := by omega
  clear hD hcx hrx1 hrb hrx hr hlt ho1 hrd1
  go_wp2_with fail
  go_region_held3 (fun w' => w'.cell? ⟨w.heap.size, 1, none⟩ = some (.int .i64 n) ∧ w'.cell? ⟨b, off + n, none⟩ = some (.slice A' xs.length c')) (first | exact ⟨k1, hcx1⟩ | exact ⟨k1d, hcxd⟩ | exact ⟨k1f, hcxf⟩ | exact ⟨k1e, hcxe⟩) (first | (go_at_call 116; refine (impl_InvertWordE A' xs c' _ hrxd.rsS HOX.out hlx).mono ?_; rintro e w2 ⟨A2, c2, rfl, ho2, hb2⟩; have hbxe := hbxd.mid (Mid.of_below (lo := 0) (hi := 0) hb2) (Or.inr (Nat.zero_le _)); have k1e := hbxe.cell 1 rfl; have hcxe : w2.cell? ⟨b, off + n, none⟩ = some (.slice A' xs.length c') := (hb2.cell (by simpa using hszb)).trans hcxd; have hwn := owns_belowS hownd hb2; obtain ⟨u, hu0, hu⟩ := owns_cell hwn hn; have hfz := hwn.frozenAt n; have hms := Mid.setCell w2 (lo := g) (hi := g + 1) (p := ⟨g, n, none⟩) (.slice A2 (invW xs).length c2) (Nat.le_refl _) (Nat.lt_succ_self _); have k1f := (hbxe.mid hms (Or.inl hwg)).cell 1 rfl; have hcxf := cell_keep hms (Nat.lt_of_lt_of_le hszb hb2.size) (Or.inl hbg) hcxe; clear hu0))
  go_wp2_with fail
  go_ret2
  have hfin := mv_back (r := ⟨A2, c2, invW xs⟩) hmdd HD.out (owns_base hownd hs0) (hrowsd.wide hs0 (Nat.le_refl _) (Nat.le_refl _)) ho2 hb2 (n := n) rfl
  exact RetMv.mk HE.out (by simp) hfin.1 hfin.2

set_option maxRecDepth 100000 in
set_option maxHeartbeats 3200000 in
theorem impl_ApplyMove_4f (A : Option Addr) (d : List (List Int)) (c : Nat) (n : Nat) (j s : Int) (w : World) (lo hi : Nat) (hr : RSS w lo hi A d) (hok : ∀ xs ∈ d, OkI xs) (hl : d.length + sumL d ≤ 1048576) (hn : n < d.length) (hrow : 0 < (rowAt d n).length) :
    Calls Try.prog 84 #[.slice A d.length c, (Mv.mk 4 n j s).v] w (RetMv d ⟨4, n, j, s⟩ w) := by
  show Calls _ _ #[.slice A d.length c, .agg #[.int .i64 4, .int .i64 n, .int .i64 j, .int .i64 s]] w _
  obtain ⟨b, off, A', c', xs, rfl, -, hbhi, hx, hcx, hrx⟩ := hr.row hn
  have HE := Lib.hid (applyM_4 (j := j) (s := s) hx)
  have hb : inB n 0 ((d.length : Int) - 1) = true := by simp [inB]; omega
  have HB := Lib.hid hb
  have H28 := Lib.hid (fun xs (hx : xs ∈ d) => show xs.length ≤ 1073741824 by have := len_le_sumL hx; omega)
  have hlx : xs.length ≤ 4194304 := by have := len_le_sumL (List.mem_of_getElem? hx); omega
  rw [rowAt_get hx] at hrow
  have hhi := hr.size
  have hnn : (0 : Int) ≤ (n : Int) := by omega
  have hnl : (n : Int) < (d.length : Int) := by omega
  clear hb hx
  have hb0 : Mid 0 0 w (w.alloc (.cells #[.int .i64 4, .int .i64 n, .int .i64 j, .int .i64 s] 68)) := Mid.alloc _ _
  have hbx := Box.new w #[.int .i64 4, .int .i64 n, .int .i64 j, .int .i64 s] 68
  have hrb := hr.mid hb0 (Or.inl (Nat.zero_le _))
  go_enter Try.func84, Try.ntmps84
  go_wp2_with fail
  with_reducible refine (impl_copyLists _ d c _ _ _ hrb (by omega) H28.out).mono ?_
  rintro e w1 ⟨A1, c1, rfl, ho1, hm1⟩
  have hm := hb0.trans hm1
  have hbx1 := hbx.mid hm1 (Or.inr (Nat.zero_le _))
  have hrd1 := hrb.mid hm1 (Or.inl (Nat.zero_le _))
  have k0 := hbx1.cell 0 rfl
  have k1 := hbx1.cell 1 rfl
  have k2 := hbx1.cell 2 rfl
  have k3 := hbx1.cell 3 rfl
  go_wp2_with fail
  with_reducible refine (within_any _ _ _ _).mono ?_
  rintro e w' ⟨rfl, rfl⟩
  rw [HB.out]
  have hcx1 : w1.cell? ⟨b, off + n, none⟩ = some (.slice A' xs.length c') := (World.cell?_of_block (hm.block b (by omega) (by omega))).trans hcx
  have he2 := HE.out
  rw [if_pos hrow] at he2
  have HE := Lib.hid he2
  clear he2
  go_wp2_with fail
  go_ret2
  exact RetMv.mk HE.out rfl (ho1.wide hb0.size (Nat.le_refl _) ho1.size) hm

set_option maxRecDepth 100000 in
set_option maxHeartbeats 3200000 in
theorem impl_ApplyMove_4t (A : Option Addr) (d : List (List Int)) (c : Nat) (n : Nat) (j s : Int) (w : World) (lo hi : Nat) (hr : RSS w lo hi A d) (hok : ∀ xs ∈ d, OkI xs) (hl : d.length + sumL d ≤ 1048576) (hn : n < d.length) (hrow : (rowAt d n).length = 0) :
    Calls Try.prog 84 #[.slice A d.length c, (Mv.mk 4 n j s).v] w (RetMv d ⟨4, n, j, s⟩ w) := by
  show Calls _ _ #[.slice A d.length c, .agg #[.int .i64 4, .int .i64 n, .int .i64 j, .int .i64 s]] w _
  obtain ⟨b, off, A', c', xs, rfl, -, hbhi, hx, hcx, hrx⟩ := hr.row hn
  have HE := Lib.hid (applyM_4 (j := j) (s := s) hx)
  have hb : inB n 0 ((d.length : Int) - 1) = true := by simp [inB]; omega
  have HB := Lib.hid hb
  have H28 := Lib.hid (fun xs (hx : xs ∈ d) => show xs.length ≤ 1073741824 by have := len_le_sumL hx; omega)
  have hlx : xs.length ≤ 4194304 := by have := len_le_sumL (List.mem_of_getElem? hx); omega
  rw [rowAt_get hx] at hrow
  have hhi := hr.size
  have hnn : (0 : Int) ≤ (n : Int) := by omega
  have hnl : (n : Int) < (d.length : Int) := by omega
  clear hb hx
  have hb0 : Mid 0 0 w (w.alloc (.cells #[.int .i64 4, .int .i64 n, .int .i64 j, .int .i64 s] 68)) := Mid.alloc _ _
  have hbx := Box.new w #[.int .i64 4, .int .i64 n, .int .i64 j, .int .i64 s] 68
  have hrb := hr.mid hb0 (Or.inl (Nat.zero_le _))
  go_enter Try.func84, Try.ntmps84
  go_wp2_with fail
  with_reducible refine (impl_copyLists _ d c _ _ _ hrb (by omega) H28.out).mono ?_
  rintro e w1 ⟨A1, c1, rfl, ho1, hm1⟩
  have hm := hb0.trans hm1
  have hbx1 := hbx.mid hm1 (Or.inr (Nat.zero_le _))
  have hrd1 := hrb.mid hm1 (Or.inl (Nat.zero_le _))
  have k0 := hbx1.cell 0 rfl
  have k1 := hbx1.cell 1 rfl
  have k2 := hbx1.cell 2 rfl
  have k3 := hbx1.cell 3 rfl
  go_wp2_with fail
  with_reducible refine (within_any _ _ _ _).mono ?_
  rintro e w' ⟨rfl, rfl⟩
  rw [HB.out]
  have hcx1 : w1.cell? ⟨b, off + n, none⟩ = some (.slice A' xs.length c') := (World.cell?_of_block (hm.block b (by omega) (by omega))).trans hcx
  have he2 := HE.out
  rw [if_neg (by omega)] at he2
  have HE2 := Lib.hid he2
  obtain rfl := List.eq_nil_of_length_eq_zero hrow
  clear he2 hrow
  obtain ⟨rows, hD, hown, hlt, hrows⟩ := ho1.cut
  have HD := Lib.hid hD
  have hrl : rows.length = d.length := by rw [← hD, rowsD_len]
  have hld : (rowsV rows).length = d.length := by rw [rowsV_len, hrl]
  obtain ⟨g, rfl, hg0, hg1⟩ := owns_addr hown (by omega)
  have hcap : d.length ≤ c1 := by
    obtain ⟨_, _, e, h1, _⟩ := owns_shape hown
    injection e with _ _ e
    omega
  have hmd := Mid.drew1 w1
  have hbxd := hbx1.mid hmd (Or.inr (Nat.zero_le _))
  have k1d := hbxd.cell 1 rfl
  have hownd : w1.drew.ownsRow (w.alloc (.cells #[.int .i64 4, .int .i64 n, .int .i64 j, .int .i64 s] 68)).heap.size 27 1 (.slice (some ⟨g, 0, none⟩) d.length c1) d.length (rowsV rows) := hown
  have hcut : w1.drew.ownsRow (w.alloc (.cells #[.int .i64 4, .int .i64 n, .int .i64 j, .int .i64 s] 68)).heap.size 27 1 (.slice (some ⟨g, 0, none⟩) n c1) n ((rowsV rows).take n) := by simpa using owns_cut hownd (show n ≤ d.length by omega)
  have hrowsd := (hrows.mid hmd (Or.inl (Nat.zero_le _))).erase n
  have hmdd := hm.trans hmd
  have hs0 := hb0.size
  have hs1 := hm1.size
  have hnc : (n : Int) ≤ (c1 : Int) := by omega
  have hn1 : (n : Int) + 1 ≤ (d.length : Int) := by omega
  have hn0 : (0 : Int) ≤ (n : Int) + 1 := by omega
  have hn3 : (n : Int) + 1 ≤ (c1 : Int) := by omega
  have hnl2 : (n : Int) ≤ (d.length : Int) := by omega
  have hl1 : ((rowsV rows).take n).length = n * 1 := by rw [List.length_take]; omega
  have hl2 : ((rowsV rows).drop (n + 1)).length = (d.length - (n + 1)) * 1 := by rw [List.length_drop]; omega
  have ho1' : ∀ u ∈ (rowsV rows).take n, u.oneCell' = true := fun u hu => one_of_rows rows u (List.mem_of_mem_take hu)
  have ho2' : ∀ u ∈ (rowsV rows).drop (n + 1), u.oneCell' = true := fun u hu => one_of_rows rows u (List.mem_of_mem_drop hu)
  have hfin : (rowsV rows).take n ++ (rowsV rows).drop (n + 1) = rowsV (rows.eraseIdx n) := by rw [List.eraseIdx_eq_take_drop_succ, rowsV_append]; simp [rowsV, List.map_take, List.map_drop]
  have hfd : rowsD (rows.eraseIdx n) = d.eraseIdx n := by rw [← hD]; simp [rowsD, List.eraseIdx_eq_take_drop_succ, List.map_take, List.map_drop]
  have hlen : (d.eraseIdx n).length = n + (d.length - (n + 1)) := by rw [List.length_eraseIdx_of_lt hn]; omega
  have HF := Lib.hid hfin
  have HFD := Lib.hid hfd
  have HLEN := Lib.hid hlen
  have HL1 := Lib.hid hl1
  have HL2 := Lib.hid hl2
  have HO1 := Lib.hid ho1'
  have HO2 := Lib.hid ho2'
  have hbmx : n + (d.length - (n + 1)) ≤ maxLen := by unfold maxLen; omega
  have hbby : (n + (d.length - (n + 1))) * 24 ≤ 140737488355328 := by omega
  have hbase : (w.alloc (.cells #[.int .i64 4, .int .i64 n, .int .i64 j, .int .i64 s] 68)).heap.size ≤ w1.drew.heap.size := hs1
  clear hD hcx hrb hr hlt ho1 hrd1 hfin hfd hlen hl1 hl2 ho1' ho2'
  have hrsd : Rs w1.drew w1.heap.size (some ⟨g, n + 1, none⟩) ((rowsV rows).drop (n + 1)) := by
    intro hne
    obtain ⟨b', off', e1, h1, h2⟩ := Rs.of_own hownd (by intro h0; rw [h0] at hne; simp at hne)
    injection e1 with e1
    injection e1 with e1 e2
    subst e1 e2
    refine ⟨g, n + 1, rfl, h1, fun j u hu => ?_⟩
    rw [List.getElem?_drop] at hu
    have := h2 _ u hu
    rwa [Nat.zero_add] at this
  have hrst : Rs w1.drew w1.heap.size (some ⟨g, 0, none⟩) ((rowsV rows).take n) := (Rs.of_own hownd).take n
  have hrse : c1 = n + 1 → Rs w1.drew w1.heap.size (some ⟨g, 0, none⟩) ((rowsV rows).drop (n + 1)) := by
    intro hc
    have : (rowsV rows).drop (n + 1) = [] := List.drop_eq_nil_of_le (by omega)
    rw [this]
    exact Rs.nil
  have HRE := Lib.hid hrse
  clear hrse
  have hw1 : IntKind.i64.wrap ((n : Int) + 1) = (n : Int) + 1 := IntWalk.i64_in _ (by omega)
  have hnp : (n : Int) ≤ (n : Int) + 1 := by omega
  by_cases hce : c1 = n + 1
  · subst hce
    go_wp2_with fail
    go_region_held3 (fun w' => w'.cell? ⟨w.heap.size, 1, none⟩ = some (.int .i64 n)) (first | exact k1 | exact k1d) (fail)
    go_wp2_with fail
    go_ret2
    have hdn : (rowsV rows).drop (n + 1) = [] := List.drop_eq_nil_of_le (by omega)
    have hf := HF.out
    rw [hdn, List.append_nil] at hf
    rw [hf] at hcut
    exact RetMv.mk HE2.out (by have := HLEN.out; omega) ((OSS.mk' hcut hrowsd HFD.out).wide hs0 (Nat.le_refl _) (Nat.le_refl _)) hmdd
  · go_wp2_with fail
    go_region_held3 (fun w' => w'.cell? ⟨w.heap.size, 1, none⟩ = some (.int .i64 n)) (first | exact k1 | exact k1d | exact k1e) ((refine step_cat (by rfl) (.tmp 44) (.tmp 49) 22 (by rfl) _ 27 (.slice none 0 0) 1 24 undSSI infoSI rfl (by decide) _ n ((rowsV rows).take n) (by rfl) hcut (some ⟨g, n + 1, none⟩) (d.length - (n + 1)) _ w1.heap.size ((rowsV rows).drop (n + 1)) (by rfl) hrsd HL2.out HO2.out hbmx hbby hbase ?_; intro v2 w2 ho2 hgr2 hat2; have k1e := (hbxd.mid (Mid.of_grownRow hcut hgr2) (Or.inl (by simp))).cell 1 rfl))
    go_wp2_with fail
    go_ret2
    rw [HF.out] at ho2
    obtain ⟨A2, c2, rfl, -, -⟩ := owns_shape ho2
    have hsz2 := hgr2.size
    have hOR := hrowsd.grown hcut (by decide) hgr2
    exact RetMv.mk HE2.out HLEN.out ((OSS.mk' ho2 (hOR.wide (Nat.le_refl _) hsz2 (Nat.le_refl _)) HFD.out).wide hs0 (Nat.le_refl _) (Nat.le_refl _)) (hmdd.grownNew hgr2 (fun g hg => Nat.le_trans hs0 (hcut.lt g hg).1))

set_option maxRecDepth 100000 in
set_option maxHeartbeats 3200000 in
theorem spec_ApplyMove_a (A : Option Addr) (d : List (List Int)) (c : Nat) (m : Mv) (w : World) (lo hi : Nat) (hr : RSS w lo hi A d) (hok : ∀ xs ∈ d, OkI xs) (hl : d.length + sumL d ≤ 1048576) (hc : ¬ (0 ≤ m.i ∧ m.i < d.length)) :
    Calls Try.prog 82 #[.slice A d.length c, m.v] w (RetMv d m w) := by
  obtain ⟨kd, i, j, s⟩ := m
  show Calls _ _ #[.slice A d.length c, .agg #[.int .i64 kd, .int .i64 i, .int .i64 j, .int .i64 s]] w _
  have HE := Lib.hid (applyM_out (m := ⟨kd, i, j, s⟩) hc)
  have hb : inB i 0 ((d.length : Int) - 1) = false := by simp [inB]; simp at hc; omega
  have HB := Lib.hid hb
  have H28 := Lib.hid (fun xs (hx : xs ∈ d) => show xs.length ≤ 1073741824 by have := len_le_sumL hx; omega)
  clear hb hc
  have hb0 : Mid 0 0 w (w.alloc (.cells #[.int .i64 kd, .int .i64 i, .int .i64 j, .int .i64 s] 68)) := Mid.alloc _ _
  have hbx := Box.new w #[.int .i64 kd, .int .i64 i, .int .i64 j, .int .i64 s] 68
  have hrb := hr.mid hb0 (Or.inl (Nat.zero_le _))
  go_enter Try.func82, Try.ntmps82
  go_wp2_with fail
  with_reducible refine (spec_l20Copy A d c _ _ _ hrb (by omega) H28.out).mono ?_
  rintro e w1 ⟨A1, c1, rfl, ho1, hm1⟩
  have hm := hb0.trans hm1
  have hbx1 := hbx.mid hm1 (Or.inr (Nat.zero_le _))
  have hrd1 := hrb.mid hm1 (Or.inl (Nat.zero_le _))
  have k0 := hbx1.cell 0 rfl
  have k1 := hbx1.cell 1 rfl
  have k2 := hbx1.cell 2 rfl
  have k3 := hbx1.cell 3 rfl
  go_wp2_with fail
  with_reducible refine (l1In_any _ _ _ _).mono ?_
  rintro e w' ⟨rfl, rfl⟩
  rw [HB.out]
  go_wp2_with fail
  go_ret2
  exact RetMv.mk HE.out rfl (ho1.wide hb0.size (Nat.le_refl _) ho1.size) hm

set_option maxRecDepth 100000 in
set_option maxHeartbeats 3200000 in
theorem spec_ApplyMove_1 (A : Option Addr) (d : List (List Int)) (c : Nat) (n : Nat) (j s : Int) (w : World) (lo hi : Nat) (hr : RSS w lo hi A d) (hok : ∀ xs ∈ d, OkI xs) (hl : d.length + sumL d ≤ 1048576) (hn : n < d.length) :
    Calls Try.prog 82 #[.slice A d.length c, (Mv.mk 1 n j s).v] w (RetMv d ⟨1, n, j, s⟩ w) := by
  show Calls _ _ #[.slice A d.length c, .agg #[.int .i64 1, .int .i64 n, .int .i64 j, .int .i64 s]] w _
  obtain ⟨b, off, A', c', xs, rfl, -, hbhi, hx, hcx, hrx⟩ := hr.row hn
  have HE := Lib.hid (applyM_1 (j := j) (s := s) hx)
  have hb : inB n 0 ((d.length : Int) - 1) = true := by simp [inB]; omega
  have HB := Lib.hid hb
  have H28 := Lib.hid (fun xs (hx : xs ∈ d) => show xs.length ≤ 1073741824 by have := len_le_sumL hx; omega)
  have hlx : xs.length ≤ 4194304 := by have := len_le_sumL (List.mem_of_getElem? hx); omega
  have HOX := Lib.hid (hok xs (List.mem_of_getElem? hx))
  clear hb hx
  have hhi := hr.size
  have hb0 : Mid 0 0 w (w.alloc (.cells #[.int .i64 1, .int .i64 n, .int .i64 j, .int .i64 s] 68)) := Mid.alloc _ _
  have hbx := Box.new w #[.int .i64 1, .int .i64 n, .int .i64 j, .int .i64 s] 68
  have hrb := hr.mid hb0 (Or.inl (Nat.zero_le _))
  go_enter Try.func82, Try.ntmps82
  go_wp2_with fail
  with_reducible refine (spec_l20Copy _ d c _ _ _ hrb (by omega) H28.out).mono ?_
  rintro e w1 ⟨A1, c1, rfl, ho1, hm1⟩
  have hm := hb0.trans hm1
  have hbx1 := hbx.mid hm1 (Or.inr (Nat.zero_le _))
  have hrd1 := hrb.mid hm1 (Or.inl (Nat.zero_le _))
  have k0 := hbx1.cell 0 rfl
  have k1 := hbx1.cell 1 rfl
  have k2 := hbx1.cell 2 rfl
  have k3 := hbx1.cell 3 rfl
  go_wp2_with fail
  with_reducible refine (l1In_any _ _ _ _).mono ?_
  rintro e w' ⟨rfl, rfl⟩
  rw [HB.out]
  have hcx1 : w1.cell? ⟨b, off + n, none⟩ = some (.slice A' xs.length c') := (World.cell?_of_block (hm.block b (by omega) (by omega))).trans hcx
  have hrx1 := hrx.mid hm (Or.inl (Nat.zero_le _))
  have hmd := Mid.drew1 w1
  have hrxd := hrx1.mid hmd (Or.inl (Nat.zero_le _))
  have hbxd := hbx1.mid hmd (Or.inr (Nat.zero_le _))
  have k1d := hbxd.cell 1 rfl
  have hcxd : w1.drew.cell? ⟨b, off + n, none⟩ = some (.slice A' xs.length c') := hcx1
  obtain ⟨rows, hD, hown, hlt, hrows⟩ := ho1.cut
  have HD := Lib.hid hD
  obtain ⟨g, rfl, hg0, hg1⟩ := owns_addr hown (by omega)
  have hs0 := hb0.size
  have hownd : w1.drew.ownsRow (w.alloc (.cells #[.int .i64 1, .int .i64 n, .int .i64 j, .int .i64 s] 68)).heap.size 27 1 (.slice (some ⟨g, 0, none⟩) d.length c1) d.length (rowsV rows) := hown
  have hrowsd := hrows.mid hmd (Or.inl (Nat.zero_le _))
  have hmdd := hm.trans hmd
  have hs1 := hm1.size
  have hszb : b < w1.heap.size := by omega
  simp only [World.size_alloc] at hg0
  have hbg : b < g := by omega
  have hwg : w.heap.size < g := by omega
  have hnn : (0 : Int) ≤ (n : Int) := by omega
  have hnl : (n : Int) < (d.length : Int) := by omega
  clear hD hcx hrx1 hrb hrx hr hlt ho1 hrd1
  go_wp2_with fail
  go_region_held3 (fun w' => w'.cell? ⟨w.heap.size, 1, none⟩ = some (.int .i64 n) ∧ w'.cell? ⟨b, off + n, none⟩ = some (.slice A' xs.length c')) (first | exact ⟨k1, hcx1⟩ | exact ⟨k1d, hcxd⟩ | exact ⟨k1f, hcxf⟩ | exact ⟨k1e, hcxe⟩) (first | (go_at_call 126; refine (spec_InvertWordE A' xs c' _ hrxd.rsS HOX.out hlx).mono ?_; rintro e w2 ⟨A2, c2, rfl, ho2, hb2⟩; have hbxe := hbxd.mid (Mid.of_below (lo := 0) (hi := 0) hb2) (Or.inr (Nat.zero_le _)); have k1e := hbxe.cell 1 rfl; have hcxe : w2.cell? ⟨b, off + n, none⟩ = some (.slice A' xs.length c') := (hb2.cell (by simpa using hszb)).trans hcxd; have hwn := owns_belowS hownd hb2; obtain ⟨u, hu0, hu⟩ := owns_cell hwn hn; have hfz := hwn.frozenAt n; have hms := Mid.setCell w2 (lo := g) (hi := g + 1) (p := ⟨g, n, none⟩) (.slice A2 (invW xs).length c2) (Nat.le_refl _) (Nat.lt_succ_self _); have k1f := (hbxe.mid hms (Or.inl hwg)).cell 1 rfl; have hcxf := cell_keep hms (Nat.lt_of_lt_of_le hszb hb2.size) (Or.inl hbg) hcxe; clear hu0))
  go_wp2_with fail
  go_ret2
  have hfin := mv_back (r := ⟨A2, c2, invW xs⟩) hmdd HD.out (owns_base hownd hs0) (hrowsd.wide hs0 (Nat.le_refl _) (Nat.le_refl _)) ho2 hb2 (n := n) rfl
  exact RetMv.mk HE.out (by simp) hfin.1 hfin.2

set_option maxRecDepth 100000 in
set_option maxHeartbeats 3200000 in
theorem spec_ApplyMove_4f (A : Option Addr) (d : List (List Int)) (c : Nat) (n : Nat) (j s : Int) (w : World) (lo hi : Nat) (hr : RSS w lo hi A d) (hok : ∀ xs ∈ d, OkI xs) (hl : d.length + sumL d ≤ 1048576) (hn : n < d.length) (hrow : 0 < (rowAt d n).length) :
    Calls Try.prog 82 #[.slice A d.length c, (Mv.mk 4 n j s).v] w (RetMv d ⟨4, n, j, s⟩ w) := by
  show Calls _ _ #[.slice A d.length c, .agg #[.int .i64 4, .int .i64 n, .int .i64 j, .int .i64 s]] w _
  obtain ⟨b, off, A', c', xs, rfl, -, hbhi, hx, hcx, hrx⟩ := hr.row hn
  have HE := Lib.hid (applyM_4 (j := j) (s := s) hx)
  have hb : inB n 0 ((d.length : Int) - 1) = true := by simp [inB]; omega
  have HB := Lib.hid hb
  have H28 := Lib.hid (fun xs (hx : xs ∈ d) => show xs.length ≤ 1073741824 by have := len_le_sumL hx; omega)
  have hlx : xs.length ≤ 4194304 := by have := len_le_sumL (List.mem_of_getElem? hx); omega
  rw [rowAt_get hx] at hrow
  have hhi := hr.size
  have hnn : (0 : Int) ≤ (n : Int) := by omega
  have hnl : (n : Int) < (d.length : Int) := by omega
  clear hb hx
  have hb0 : Mid 0 0 w (w.alloc (.cells #[.int .i64 4, .int .i64 n, .int .i64 j, .int .i64 s] 68)) := Mid.alloc _ _
  have hbx := Box.new w #[.int .i64 4, .int .i64 n, .int .i64 j, .int .i64 s] 68
  have hrb := hr.mid hb0 (Or.inl (Nat.zero_le _))
  go_enter Try.func82, Try.ntmps82
  go_wp2_with fail
  with_reducible refine (spec_l20Copy _ d c _ _ _ hrb (by omega) H28.out).mono ?_
  rintro e w1 ⟨A1, c1, rfl, ho1, hm1⟩
  have hm := hb0.trans hm1
  have hbx1 := hbx.mid hm1 (Or.inr (Nat.zero_le _))
  have hrd1 := hrb.mid hm1 (Or.inl (Nat.zero_le _))
  have k0 := hbx1.cell 0 rfl
  have k1 := hbx1.cell 1 rfl
  have k2 := hbx1.cell 2 rfl
  have k3 := hbx1.cell 3 rfl
  go_wp2_with fail
  with_reducible refine (l1In_any _ _ _ _).mono ?_
  rintro e w' ⟨rfl, rfl⟩
  rw [HB.out]
  have hcx1 : w1.cell? ⟨b, off + n, none⟩ = some (.slice A' xs.length c') := (World.cell?_of_block (hm.block b (by omega) (by omega))).trans hcx
  have he2 := HE.out
  rw [if_pos hrow] at he2
  have HE := Lib.hid he2
  clear he2
  go_wp2_with fail
  go_ret2
  exact RetMv.mk HE.out rfl (ho1.wide hb0.size (Nat.le_refl _) ho1.size) hm

end Go.Proofs.Ytchgicdjdbjfgaa
