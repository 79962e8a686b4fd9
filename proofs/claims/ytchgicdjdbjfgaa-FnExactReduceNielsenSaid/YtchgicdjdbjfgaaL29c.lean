
/- ApplyMove, impl: bad second places, products. -/
import Derived.Test.YtchgicdjdbjfgaaL29
namespace Go.Proofs.Ytchgicdjdbjfgaa
set_option linter.unusedVariables false
set_option linter.unusedSimpArgs false
open Go.RowKit

theorem RSS.lit {w : World} (rows : List Row) (tSI : TypeId) (h : ∀ r ∈ rows, Rs w w.heap.size r.A (ints r.xs)) : RSS (w.alloc (.cells (rowsV rows).toArray tSI)) 0 (w.heap.size + 1) (some ⟨w.heap.size, 0, none⟩) (rowsD rows) := by
  refine ⟨rows, rfl, ⟨by simp, fun _ => ⟨w.heap.size, 0, rfl, Nat.zero_le _, Nat.lt_succ_self _, fun j u hu => ?_⟩⟩, fun r hr => ⟨by simp, fun hn => ?_⟩⟩
  · rw [Nat.zero_add, World.cell?_alloc_new]
    simpa using hu
  · obtain ⟨b, off, e, hb, hc⟩ := (h r hr).alloc (Nat.le_refl _) (.cells (rowsV rows).toArray tSI) hn
    exact ⟨b, off, e, Nat.zero_le _, by omega, hc⟩
set_option maxHeartbeats 800000 in
theorem impl_product2 (A : Option Addr) (xs : List Int) (c : Nat) (A' : Option Addr) (ys : List Int) (c' : Nat) (w : World) (hx : Rs w w.heap.size A (ints xs)) (hy : Rs w w.heap.size A' (ints ys)) (ox : OkI xs) (oy : OkI ys) (hl : xs.length + ys.length ≤ 268435456) :
    Calls Try.prog 118 #[.slice (some ⟨w.heap.size, 0, none⟩) 2 2] (w.alloc (.cells #[.slice A xs.length c, .slice A' ys.length c'] 27)) fun e w' =>
      ∃ A2 c2, e = .returned (.slice A2 (red [] (xs ++ ys)).length c2) ∧ w'.ownsRow (w.alloc (.cells #[.slice A xs.length c, .slice A' ys.length c'] 27)).heap.size 3 1 (.slice A2 (red [] (xs ++ ys)).length c2) (red [] (xs ++ ys)).length (ints (red [] (xs ++ ys))) ∧
        Below (w.alloc (.cells #[.slice A xs.length c, .slice A' ys.length c'] 27)).heap.size (w.alloc (.cells #[.slice A xs.length c, .slice A' ys.length c'] 27)) w' := by
  have h := RSS.lit (w := w) [⟨A, c, xs⟩, ⟨A', c', ys⟩] 27 (by intro r hr; simp at hr; rcases hr with rfl | rfl; exact hx; exact hy)
  have h2 := impl_product (some ⟨w.heap.size, 0, none⟩) [xs, ys] 2 _ _ _ h (by intro zs hz; simp at hz; rcases hz with rfl | rfl; exact ox; exact oy) (by simp) (by simp [sumL]; omega)
  have e : [xs, ys].flatten = xs ++ ys := by simp
  rw [e] at h2
  exact h2

set_option maxRecDepth 100000 in
set_option maxHeartbeats 3200000 in
theorem impl_ApplyMove_b (A : Option Addr) (d : List (List Int)) (c : Nat) (kd : Int) (n : Nat) (j s : Int) (w : World) (lo hi : Nat) (hr : RSS w lo hi A d) (hok : ∀ xs ∈ d, OkI xs) (hl : d.length + sumL d ≤ 1048576) (hn : n < d.length)
    (hk : kd = 2 ∨ kd = 3) (hbad : ¬ MvOk d ⟨kd, n, j, s⟩) :
    Calls Try.prog 84 #[.slice A d.length c, (Mv.mk kd n j s).v] w (RetMv d ⟨kd, n, j, s⟩ w) := by
  show Calls _ _ #[.slice A d.length c, .agg #[.int .i64 kd, .int .i64 n, .int .i64 j, .int .i64 s]] w _
  have hb : inB n 0 ((d.length : Int) - 1) = true := by simp [inB]; omega
  have HB := Lib.hid hb
  have H28 := Lib.hid (fun xs (hx : xs ∈ d) => show xs.length ≤ 1073741824 by have := len_le_sumL hx; omega)
  have hhi := hr.size
  have hnn : (0 : Int) ≤ (n : Int) := by omega
  have hnl : (n : Int) < (d.length : Int) := by omega
  have HE := Lib.hid (applyM_bad (d := d) (m := ⟨kd, n, j, s⟩) (show kd ≠ 1 by omega) (show kd ≠ 4 by omega) (.inl hbad))
  clear hb
  obtain ⟨b, off, A', c', xs, rfl, -, hbhi, hx, hcx, hrx⟩ := hr.row hn
  have hlx : xs.length ≤ 4194304 := by have := len_le_sumL (List.mem_of_getElem? hx); omega
  have HOX := Lib.hid (hok xs (List.mem_of_getElem? hx))
  clear hx
  rcases hk with rfl | rfl
  · skip
    by_cases hj : ¬ (0 ≤ j ∧ j < d.length)
    · have HJ : Hid (inB j 0 ((d.length : Int) - 1) = false) := Lib.hid (by simp [inB]; omega)
      clear hbad hj
      have hb0 : Mid 0 0 w (w.alloc (.cells #[.int .i64 2, .int .i64 n, .int .i64 j, .int .i64 s] 68)) := Mid.alloc _ _
      have hbx := Box.new w #[.int .i64 2, .int .i64 n, .int .i64 j, .int .i64 s] 68
      have hrb := hr.mid hb0 (Or.inl (Nat.zero_le _))
      go_enter Try.func84, Try.ntmps84
      go_wp2_with fail
      with_reducible refine (impl_copyLists _ d c _ _ _ hrb (by omega) H28.out).mono ?_
      rintro e w1 ⟨A1, c1, rfl, ho1, hm1⟩
      have hm := hb0.trans hm1
      have hbx1 := hbx.mid hm1 (Or.inr (Nat.zero_le _))
      have hrd1 := hrb.mid hm1 (Or.inl (Nat.zero_le _))
      have k0 := hbx1.cell 0 rfl
      have k1 := hbx1.cell 1 rfl
      have k2 := hbx1.cell 2 rfl
      have k3 := hbx1.cell 3 rfl
      go_wp2_with fail
      with_reducible refine (within_any _ _ _ _).mono ?_
      rintro e w' ⟨rfl, rfl⟩
      rw [HB.out]
      have hcx1 : w1.cell? ⟨b, off + n, none⟩ = some (.slice A' xs.length c') := (World.cell?_of_block (hm.block b (by omega) (by omega))).trans hcx
      go_wp2_with fail
      with_reducible refine (within_any _ _ _ _).mono ?_
      rintro e w' ⟨rfl, rfl⟩
      rw [HJ.out]
      go_wp2_with fail
      go_ret2
      exact RetMv.mk HE.out rfl (ho1.wide hb0.size (Nat.le_refl _) ho1.size) hm
    · have HJ : Hid (inB j 0 ((d.length : Int) - 1) = true) := Lib.hid (by simp [inB]; omega)
      by_cases hjn : j = n
      · subst hjn
        have heq : ((n : Int) == (n : Int)) = true := by simp
        clear hbad hj
        have hb0 : Mid 0 0 w (w.alloc (.cells #[.int .i64 2, .int .i64 n, .int .i64 n, .int .i64 s] 68)) := Mid.alloc _ _
        have hbx := Box.new w #[.int .i64 2, .int .i64 n, .int .i64 n, .int .i64 s] 68
        have hrb := hr.mid hb0 (Or.inl (Nat.zero_le _))
        go_enter Try.func84, Try.ntmps84
        go_wp2_with fail
        with_reducible refine (impl_copyLists _ d c _ _ _ hrb (by omega) H28.out).mono ?_
        rintro e w1 ⟨A1, c1, rfl, ho1, hm1⟩
        have hm := hb0.trans hm1
        have hbx1 := hbx.mid hm1 (Or.inr (Nat.zero_le _))
        have hrd1 := hrb.mid hm1 (Or.inl (Nat.zero_le _))
        have k0 := hbx1.cell 0 rfl
        have k1 := hbx1.cell 1 rfl
        have k2 := hbx1.cell 2 rfl
        have k3 := hbx1.cell 3 rfl
        go_wp2_with fail
        with_reducible refine (within_any _ _ _ _).mono ?_
        rintro e w' ⟨rfl, rfl⟩
        rw [HB.out]
        have hcx1 : w1.cell? ⟨b, off + n, none⟩ = some (.slice A' xs.length c') := (World.cell?_of_block (hm.block b (by omega) (by omega))).trans hcx
        go_wp2_with fail
        with_reducible refine (within_any _ _ _ _).mono ?_
        rintro e w' ⟨rfl, rfl⟩
        rw [HJ.out]
        go_wp2_with fail
        go_ret2
        exact RetMv.mk HE.out rfl (ho1.wide hb0.size (Nat.le_refl _) ho1.size) hm
      · have hs1 : (s != 1) = true := by simp; intro h; exact hbad ⟨by simp; omega, by simp; omega, hjn, .inl h⟩
        have hs2 : (s != -1) = true := by simp; intro h; exact hbad ⟨by simp; omega, by simp; omega, hjn, .inr h⟩
        have heq1 : (j == (n : Int)) = false := by simpa using hjn
        have heq2 : ((n : Int) == j) = false := by simpa using Ne.symm hjn
        clear hbad hj hjn
        have hb0 : Mid 0 0 w (w.alloc (.cells #[.int .i64 2, .int .i64 n, .int .i64 j, .int .i64 s] 68)) := Mid.alloc _ _
        have hbx := Box.new w #[.int .i64 2, .int .i64 n, .int .i64 j, .int .i64 s] 68
        have hrb := hr.mid hb0 (Or.inl (Nat.zero_le _))
        go_enter Try.func84, Try.ntmps84
        go_wp2_with fail
        with_reducible refine (impl_copyLists _ d c _ _ _ hrb (by omega) H28.out).mono ?_
        rintro e w1 ⟨A1, c1, rfl, ho1, hm1⟩
        have hm := hb0.trans hm1
        have hbx1 := hbx.mid hm1 (Or.inr (Nat.zero_le _))
        have hrd1 := hrb.mid hm1 (Or.inl (Nat.zero_le _))
        have k0 := hbx1.cell 0 rfl
        have k1 := hbx1.cell 1 rfl
        have k2 := hbx1.cell 2 rfl
        have k3 := hbx1.cell 3 rfl
        go_wp2_with fail
        with_reducible refine (within_any _ _ _ _).mono ?_
        rintro e w' ⟨rfl, rfl⟩
        rw [HB.out]
        have hcx1 : w1.cell? ⟨b, off + n, none⟩ = some (.slice A' xs.length c') := (World.cell?_of_block (hm.block b (by omega) (by omega))).trans hcx
        go_wp2_with fail
        with_reducible refine (within_any _ _ _ _).mono ?_
        rintro e w' ⟨rfl, rfl⟩
        rw [HJ.out]
        go_wp2_with fail
        go_ret2
        exact RetMv.mk HE.out rfl (ho1.wide hb0.size (Nat.le_refl _) ho1.size) hm
  · skip
    by_cases hj : ¬ (0 ≤ j ∧ j < d.length)
    · have HJ : Hid (inB j 0 ((d.length : Int) - 1) = false) := Lib.hid (by simp [inB]; omega)
      clear hbad hj
      have hb0 : Mid 0 0 w (w.alloc (.cells #[.int .i64 3, .int .i64 n, .int .i64 j, .int .i64 s] 68)) := Mid.alloc _ _
      have hbx := Box.new w #[.int .i64 3, .int .i64 n, .int .i64 j, .int .i64 s] 68
      have hrb := hr.mid hb0 (Or.inl (Nat.zero_le _))
      go_enter Try.func84, Try.ntmps84
      go_wp2_with fail
      with_reducible refine (impl_copyLists _ d c _ _ _ hrb (by omega) H28.out).mono ?_
      rintro e w1 ⟨A1, c1, rfl, ho1, hm1⟩
      have hm := hb0.trans hm1
      have hbx1 := hbx.mid hm1 (Or.inr (Nat.zero_le _))
      have hrd1 := hrb.mid hm1 (Or.inl (Nat.zero_le _))
      have k0 := hbx1.cell 0 rfl
      have k1 := hbx1.cell 1 rfl
      have k2 := hbx1.cell 2 rfl
      have k3 := hbx1.cell 3 rfl
      go_wp2_with fail
      with_reducible refine (within_any _ _ _ _).mono ?_
      rintro e w' ⟨rfl, rfl⟩
      rw [HB.out]
      have hcx1 : w1.cell? ⟨b, off + n, none⟩ = some (.slice A' xs.length c') := (World.cell?_of_block (hm.block b (by omega) (by omega))).trans hcx
      go_wp2_with fail
      with_reducible refine (within_any _ _ _ _).mono ?_
      rintro e w' ⟨rfl, rfl⟩
      rw [HJ.out]
      go_wp2_with fail
      go_ret2
      exact RetMv.mk HE.out rfl (ho1.wide hb0.size (Nat.le_refl _) ho1.size) hm
    · have HJ : Hid (inB j 0 ((d.length : Int) - 1) = true) := Lib.hid (by simp [inB]; omega)
      by_cases hjn : j = n
      · subst hjn
        have heq : ((n : Int) == (n : Int)) = true := by simp
        clear hbad hj
        have hb0 : Mid 0 0 w (w.alloc (.cells #[.int .i64 3, .int .i64 n, .int .i64 n, .int .i64 s] 68)) := Mid.alloc _ _
        have hbx := Box.new w #[.int .i64 3, .int .i64 n, .int .i64 n, .int .i64 s] 68
        have hrb := hr.mid hb0 (Or.inl (Nat.zero_le _))
        go_enter Try.func84, Try.ntmps84
        go_wp2_with fail
        with_reducible refine (impl_copyLists _ d c _ _ _ hrb (by omega) H28.out).mono ?_
        rintro e w1 ⟨A1, c1, rfl, ho1, hm1⟩
        have hm := hb0.trans hm1
        have hbx1 := hbx.mid hm1 (Or.inr (Nat.zero_le _))
        have hrd1 := hrb.mid hm1 (Or.inl (Nat.zero_le _))
        have k0 := hbx1.cell 0 rfl
        have k1 := hbx1.cell 1 rfl
        have k2 := hbx1.cell 2 rfl
        have k3 := hbx1.cell 3 rfl
        go_wp2_with fail
        with_reducible refine (within_any _ _ _ _).mono ?_
        rintro e w' ⟨rfl, rfl⟩
        rw [HB.out]
        have hcx1 : w1.cell? ⟨b, off + n, none⟩ = some (.slice A' xs.length c') := (World.cell?_of_block (hm.block b (by omega) (by omega))).trans hcx
        go_wp2_with fail
        with_reducible refine (within_any _ _ _ _).mono ?_
        rintro e w' ⟨rfl, rfl⟩
        rw [HJ.out]
        go_wp2_with fail
        go_ret2
        exact RetMv.mk HE.out rfl (ho1.wide hb0.size (Nat.le_refl _) ho1.size) hm
      · have hs1 : (s != 1) = true := by simp; intro h; exact hbad ⟨by simp; omega, by simp; omega, hjn, .inl h⟩
        have hs2 : (s != -1) = true := by simp; intro h; exact hbad ⟨by simp; omega, by simp; omega, hjn, .inr h⟩
        have heq1 : (j == (n : Int)) = false := by simpa using hjn
        have heq2 : ((n : Int) == j) = false := by simpa using Ne.symm hjn
        clear hbad hj hjn
        have hb0 : Mid 0 0 w (w.alloc (.cells #[.int .i64 3, .int .i64 n, .int .i64 j, .int .i64 s] 68)) := Mid.alloc _ _
        have hbx := Box.new w #[.int .i64 3, .int .i64 n, .int .i64 j, .int .i64 s] 68
        have hrb := hr.mid hb0 (Or.inl (Nat.zero_le _))
        go_enter Try.func84, Try.ntmps84
        go_wp2_with fail
        with_reducible refine (impl_copyLists _ d c _ _ _ hrb (by omega) H28.out).mono ?_
        rintro e w1 ⟨A1, c1, rfl, ho1, hm1⟩
        have hm := hb0.trans hm1
        have hbx1 := hbx.mid hm1 (Or.inr (Nat.zero_le _))
        have hrd1 := hrb.mid hm1 (Or.inl (Nat.zero_le _))
        have k0 := hbx1.cell 0 rfl
        have k1 := hbx1.cell 1 rfl
        have k2 := hbx1.cell 2 rfl
        have k3 := hbx1.cell 3 rfl
        go_wp2_with fail
        with_reducible refine (within_any _ _ _ _).mono ?_
        rintro e w' ⟨rfl, rfl⟩
        rw [HB.out]
        have hcx1 : w1.cell? ⟨b, off + n, none⟩ = some (.slice A' xs.length c') := (World.cell?_of_block (hm.block b (by omega) (by omega))).trans hcx
        go_wp2_with fail
        with_reducible refine (within_any _ _ _ _).mono ?_
        rintro e w' ⟨rfl, rfl⟩
        rw [HJ.out]
        go_wp2_with fail
        go_ret2
        exact RetMv.mk HE.out rfl (ho1.wide hb0.size (Nat.le_refl _) ho1.size) hm

set_option maxRecDepth 100000 in
set_option maxHeartbeats 3200000 in
theorem impl_ApplyMove_n (A : Option Addr) (d : List (List Int)) (c : Nat) (kd : Int) (n : Nat) (j s : Int) (w : World) (lo hi : Nat) (hr : RSS w lo hi A d) (hok : ∀ xs ∈ d, OkI xs) (hl : d.length + sumL d ≤ 1048576) (hn : n < d.length)
    (hk1 : (kd == 1) = false) (hk4 : (kd == 4) = false) (hk2 : (kd == 2) = false) (hk3 : (kd == 3) = false) :
    Calls Try.prog 84 #[.slice A d.length c, (Mv.mk kd n j s).v] w (RetMv d ⟨kd, n, j, s⟩ w) := by
  show Calls _ _ #[.slice A d.length c, .agg #[.int .i64 kd, .int .i64 n, .int .i64 j, .int .i64 s]] w _
  have hb : inB n 0 ((d.length : Int) - 1) = true := by simp [inB]; omega
  have HB := Lib.hid hb
  have H28 := Lib.hid (fun xs (hx : xs ∈ d) => show xs.length ≤ 1073741824 by have := len_le_sumL hx; omega)
  have hhi := hr.size
  have hnn : (0 : Int) ≤ (n : Int) := by omega
  have hnl : (n : Int) < (d.length : Int) := by omega
  have HE := Lib.hid (applyM_bad (d := d) (m := ⟨kd, n, j, s⟩) (show kd ≠ 1 by simpa using hk1) (show kd ≠ 4 by simpa using hk4) (.inr ⟨show kd ≠ 2 by simpa using hk2, show kd ≠ 3 by simpa using hk3⟩))
  clear hb
  obtain ⟨b, off, A', c', xs, rfl, -, hbhi, hx, hcx, hrx⟩ := hr.row hn
  have hlx : xs.length ≤ 4194304 := by have := len_le_sumL (List.mem_of_getElem? hx); omega
  have HOX := Lib.hid (hok xs (List.mem_of_getElem? hx))
  clear hx
  have hb0 : Mid 0 0 w (w.alloc (.cells #[.int .i64 kd, .int .i64 n, .int .i64 j, .int .i64 s] 68)) := Mid.alloc _ _
  have hbx := Box.new w #[.int .i64 kd, .int .i64 n, .int .i64 j, .int .i64 s] 68
  have hrb := hr.mid hb0 (Or.inl (Nat.zero_le _))
  go_enter Try.func84, Try.ntmps84
  go_wp2_with fail
  with_reducible refine (impl_copyLists _ d c _ _ _ hrb (by omega) H28.out).mono ?_
  rintro e w1 ⟨A1, c1, rfl, ho1, hm1⟩
  have hm := hb0.trans hm1
  have hbx1 := hbx.mid hm1 (Or.inr (Nat.zero_le _))
  have hrd1 := hrb.mid hm1 (Or.inl (Nat.zero_le _))
  have k0 := hbx1.cell 0 rfl
  have k1 := hbx1.cell 1 rfl
  have k2 := hbx1.cell 2 rfl
  have k3 := hbx1.cell 3 rfl
  go_wp2_with fail
  with_reducible refine (within_any _ _ _ _).mono ?_
  rintro e w' ⟨rfl, rfl⟩
  rw [HB.out]
  have hcx1 : w1.cell? ⟨b, off + n, none⟩ = some (.slice A' xs.length c') := (World.cell?_of_block (hm.block b (by omega) (by omega))).trans hcx
  go_wp2_with fail
  go_ret2
  exact RetMv.mk HE.out rfl (ho1.wide hb0.size (Nat.le_refl _) ho1.size) hm

set_option maxRecDepth 100000 in
set_option maxHeartbeats 3200000 in
theorem impl_ApplyMove_g (A : Option Addr) (d : List (List Int)) (c : Nat) (kd : Int) (n : Nat) (j s : Int) (w : World) (lo hi : Nat) (hr : RSS w lo hi A d) (hok : ∀ xs ∈ d, OkI xs) (hl : d.length + sumL d ≤ 1048576) (hn : n < d.length)
    (hk : kd = 2 ∨ kd = 3) (hne : j ≠ n) (hbad : MvOk d ⟨kd, n, j, s⟩) :
    Calls Try.prog 84 #[.slice A d.length c, (Mv.mk kd n j s).v] w (RetMv d ⟨kd, n, j, s⟩ w) := by
  show Calls _ _ #[.slice A d.length c, .agg #[.int .i64 kd, .int .i64 n, .int .i64 j, .int .i64 s]] w _
  have hb : inB n 0 ((d.length : Int) - 1) = true := by simp [inB]; omega
  have HB := Lib.hid hb
  have H28 := Lib.hid (fun xs (hx : xs ∈ d) => show xs.length ≤ 1073741824 by have := len_le_sumL hx; omega)
  have hhi := hr.size
  have hnn : (0 : Int) ≤ (n : Int) := by omega
  have hnl : (n : Int) < (d.length : Int) := by omega
  clear hb
  obtain ⟨b, off, A', c', xs, rfl, -, hbhi, hx, hcx, hrx⟩ := hr.row hn
  have hlx : xs.length ≤ 4194304 := by have := len_le_sumL (List.mem_of_getElem? hx); omega
  have HOX := Lib.hid (hok xs (List.mem_of_getElem? hx))
  obtain ⟨h1, h2, h3, hs⟩ := hbad
  simp at h1 h2 h3 hs
  obtain ⟨n', rfl⟩ : ∃ n' : Nat, j = (n' : Int) := ⟨j.toNat, by omega⟩
  have hn' : n' < d.length := by omega
  have hne' : n' ≠ n := by omega
  obtain ⟨b', off', Ay, cy, ys, e1, -, hbhi', hy, hcy, hry⟩ := hr.row hn'
  injection e1 with e1
  injection e1 with e1 e2
  subst e1 e2
  have hly : ys.length ≤ 4194304 := by have := len_le_sumL (List.mem_of_getElem? hy); omega
  have HOY := Lib.hid (hok ys (List.mem_of_getElem? hy))
  have HJ : Hid (inB (n' : Int) 0 ((d.length : Int) - 1) = true) := Lib.hid (by simp [inB]; omega)
  have hmn : (0 : Int) ≤ (n' : Int) := by omega
  have hml : (n' : Int) < (d.length : Int) := by omega
  have heq1 : ((n' : Int) == (n : Int)) = false := by simp; omega
  have heq2 : ((n : Int) == (n' : Int)) = false := by simp; omega
  have HEE := fun (k s : Int) (hk : k = 2 ∨ k = 3) (hs : s = 1 ∨ s = -1) => applyM_23 hx hy hk hne' hs
  clear hx hy h1 h2 h3
  rcases hk with rfl | rfl
  · rcases hs with rfl | rfl
    · have he3 := HEE 2 1 (by omega) (by omega)
      rw [if_pos rfl, if_neg (by omega)] at he3
      have HE := Lib.hid he3
      clear he3 HEE
      have hb0 : Mid 0 0 w (w.alloc (.cells #[.int .i64 2, .int .i64 n, .int .i64 n', .int .i64 1] 68)) := Mid.alloc _ _
      have hbx := Box.new w #[.int .i64 2, .int .i64 n, .int .i64 n', .int .i64 1] 68
      have hrb := hr.mid hb0 (Or.inl (Nat.zero_le _))
      go_enter Try.func84, Try.ntmps84
      go_wp2_with fail
      with_reducible refine (impl_copyLists _ d c _ _ _ hrb (by omega) H28.out).mono ?_
      rintro e w1 ⟨A1, c1, rfl, ho1, hm1⟩
      have hm := hb0.trans hm1
      have hbx1 := hbx.mid hm1 (Or.inr (Nat.zero_le _))
      have hrd1 := hrb.mid hm1 (Or.inl (Nat.zero_le _))
      have k0 := hbx1.cell 0 rfl
      have k1 := hbx1.cell 1 rfl
      have k2 := hbx1.cell 2 rfl
      have k3 := hbx1.cell 3 rfl
      go_wp2_with fail
      with_reducible refine (within_any _ _ _ _).mono ?_
      rintro e w' ⟨rfl, rfl⟩
      rw [HB.out]
      have hcx1 : w1.cell? ⟨b, off + n, none⟩ = some (.slice A' xs.length c') := (World.cell?_of_block (hm.block b (by omega) (by omega))).trans hcx
      go_wp2_with fail
      with_reducible refine (within_any _ _ _ _).mono ?_
      rintro e w' ⟨rfl, rfl⟩
      rw [HJ.out]
      have hcy1 : w1.cell? ⟨b, off + n', none⟩ = some (.slice Ay ys.length cy) := (World.cell?_of_block (hm.block b (by omega) (by omega))).trans hcy
      have hrx1 := hrx.mid hm (Or.inl (Nat.zero_le _))
      have hry1 := hry.mid hm (Or.inl (Nat.zero_le _))
      clear hcx hcy hrx hry hrb hr hrd1
      have hmX := hm
      have hoX := ho1
      have hbxX := hbx1
      have hcxX := hcx1
      have hrxX := hrx1
      have hryX := hry1.rsS
      have hmd := Mid.drew1 w1
      have hrxd := hrxX.mid hmd (Or.inl (Nat.zero_le _))
      have hryd : Rs w1.drew w1.drew.heap.size Ay (ints ys) := hryX
      have hbxd := hbxX.mid hmd (Or.inr (Nat.zero_le _))
      have k1d := hbxd.cell 1 rfl
      have hcxd : w1.drew.cell? ⟨b, off + n, none⟩ = some (.slice A' xs.length c') := hcxX
      obtain ⟨rows, hD, hown, hlt, hrows⟩ := (hoX.mid hmd (Or.inl (Nat.zero_le _))).cut
      have HD := Lib.hid hD
      obtain ⟨g, rfl, hg0, -⟩ := owns_addr hown (by omega)
      simp only [World.size_alloc] at hg0
      have hbg : b < g := by omega
      have hwg : w.heap.size < g := by omega
      have hmdd := hmX.trans hmd
      have hs0 := hb0.size
      have hszX : b < w1.drew.heap.size := by have := hmdd.size; omega
      have hrowsd := hrows.wide (Nat.le_refl _) hoX.size (Nat.le_refl w1.drew.heap.size)
      have hokz := Lib.hid HOY.out
      have hlz : ys.length ≤ 4194304 := by exact hly
      have hoka := Lib.hid HOX.out
      have hokb := Lib.hid HOY.out
      clear hD hlt
      have hal : Mid 0 0 w1.drew (w1.drew.alloc (.cells #[.slice A' xs.length c', .slice Ay ys.length cy] 27)) := Mid.alloc _ _
      have hbxa := hbxd.mid hal (Or.inr (Nat.zero_le _))
      have k1a := hbxa.cell 1 rfl
      have howna := owns_mid hown hal (Or.inl (Nat.zero_le _))
      have hrowsa := hrowsd.mid hal (Or.inl (Nat.zero_le _))
      have hmda := hmdd.trans hal
      have hC := impl_product2 A' xs c' Ay ys cy w1.drew hrxd.rsS hryd hoka.out hokb.out (by omega)
      have HC := Lib.hid hC
      clear hC
      go_wp2_with fail
      go_region_held3 (fun w' => w'.cell? ⟨w.heap.size, 1, none⟩ = some (.int .i64 n)) (first | exact k1 | exact k1d | exact k1a | exact k1f | exact k1e) (first | (go_at_call 118; refine (HC.out).mono ?_; rintro e w2 ⟨A2, c2, rfl, ho2, hb2⟩; have hbxe := hbxa.mid (Mid.of_below (lo := 0) (hi := 0) hb2) (Or.inr (Nat.zero_le _)); have k1e := hbxe.cell 1 rfl; have hwn := owns_belowS howna hb2; obtain ⟨u, hu0, hu⟩ := owns_cell hwn hn; have hfz := hwn.frozenAt n; have hms := Mid.setCell w2 (lo := g) (hi := g + 1) (p := ⟨g, n, none⟩) (.slice A2 (red [] (xs ++ ys)).length c2) (Nat.le_refl _) (Nat.lt_succ_self _); have k1f := (hbxe.mid hms (Or.inl hwg)).cell 1 rfl; clear hu0))
      go_wp2_with fail
      go_ret2
      have hfin := mv_back (r := ⟨A2, c2, red [] (xs ++ ys)⟩) hmda HD.out (owns_base howna hs0) (hrowsa.wide hs0 hal.size (Nat.le_refl _)) ho2 hb2 (n := n) rfl
      exact RetMv.mk HE.out (by simp) hfin.1 hfin.2
    · have he3 := HEE 2 (-1) (by omega) (by omega)
      rw [if_pos rfl, if_pos (by omega)] at he3
      have HE := Lib.hid he3
      clear he3 HEE
      have hb0 : Mid 0 0 w (w.alloc (.cells #[.int .i64 2, .int .i64 n, .int .i64 n', .int .i64 (-1)] 68)) := Mid.alloc _ _
      have hbx := Box.new w #[.int .i64 2, .int .i64 n, .int .i64 n', .int .i64 (-1)] 68
      have hrb := hr.mid hb0 (Or.inl (Nat.zero_le _))
      go_enter Try.func84, Try.ntmps84
      go_wp2_with fail
      with_reducible refine (impl_copyLists _ d c _ _ _ hrb (by omega) H28.out).mono ?_
      rintro e w1 ⟨A1, c1, rfl, ho1, hm1⟩
      have hm := hb0.trans hm1
      have hbx1 := hbx.mid hm1 (Or.inr (Nat.zero_le _))
      have hrd1 := hrb.mid hm1 (Or.inl (Nat.zero_le _))
      have k0 := hbx1.cell 0 rfl
      have k1 := hbx1.cell 1 rfl
      have k2 := hbx1.cell 2 rfl
      have k3 := hbx1.cell 3 rfl
      go_wp2_with fail
      with_reducible refine (within_any _ _ _ _).mono ?_
      rintro e w' ⟨rfl, rfl⟩
      rw [HB.out]
      have hcx1 : w1.cell? ⟨b, off + n, none⟩ = some (.slice A' xs.length c') := (World.cell?_of_block (hm.block b (by omega) (by omega))).trans hcx
      go_wp2_with fail
      with_reducible refine (within_any _ _ _ _).mono ?_
      rintro e w' ⟨rfl, rfl⟩
      rw [HJ.out]
      have hcy1 : w1.cell? ⟨b, off + n', none⟩ = some (.slice Ay ys.length cy) := (World.cell?_of_block (hm.block b (by omega) (by omega))).trans hcy
      have hrx1 := hrx.mid hm (Or.inl (Nat.zero_le _))
      have hry1 := hry.mid hm (Or.inl (Nat.zero_le _))
      clear hcx hcy hrx hry hrb hr hrd1
      go_wp2_with fail
      with_reducible refine (impl_InvertWordE Ay ys cy _ hry1.rsS HOY.out hly).mono ?_
      rintro e wX ⟨Az, cz, rfl, hoz, hbz⟩
      have hmz : Mid 0 0 w1 wX := Mid.of_below hbz
      have hmX := hm.trans hmz
      have hoX := ho1.mid hmz (Or.inl (Nat.zero_le _))
      have hbxX := hbx1.mid hmz (Or.inr (Nat.zero_le _))
      have hcxX := cell_keep hmz (show b < w1.heap.size by have := hm.size; omega) (Or.inr (Nat.zero_le _)) hcx1
      have hrxX := hrx1.mid hmz (Or.inl (Nat.zero_le _))
      have hryX : Rs wX wX.heap.size Az (ints (invW ys)) := Rs.of_own hoz
      have q0 := hbxX.cell 0 rfl
      have q1 := hbxX.cell 1 rfl
      have q2 := hbxX.cell 2 rfl
      have q3 := hbxX.cell 3 rfl
      clear k0 k1 k2 k3
      have hmd := Mid.drew1 wX
      have hrxd := hrxX.mid hmd (Or.inl (Nat.zero_le _))
      have hryd : Rs wX.drew wX.drew.heap.size Az (ints (invW ys)) := hryX
      have hbxd := hbxX.mid hmd (Or.inr (Nat.zero_le _))
      have k1d := hbxd.cell 1 rfl
      have hcxd : wX.drew.cell? ⟨b, off + n, none⟩ = some (.slice A' xs.length c') := hcxX
      obtain ⟨rows, hD, hown, hlt, hrows⟩ := (hoX.mid hmd (Or.inl (Nat.zero_le _))).cut
      have HD := Lib.hid hD
      obtain ⟨g, rfl, hg0, -⟩ := owns_addr hown (by omega)
      simp only [World.size_alloc] at hg0
      have hbg : b < g := by omega
      have hwg : w.heap.size < g := by omega
      have hmdd := hmX.trans hmd
      have hs0 := hb0.size
      have hszX : b < wX.drew.heap.size := by have := hmdd.size; omega
      have hrowsd := hrows.wide (Nat.le_refl _) hoX.size (Nat.le_refl wX.drew.heap.size)
      have hokz := Lib.hid (okI_invW HOY.out)
      have hlz : (invW ys).length ≤ 4194304 := by rw [invW_len]; exact hly
      have hoka := Lib.hid HOX.out
      have hokb := Lib.hid (okI_invW HOY.out)
      clear hD hlt
      have hal : Mid 0 0 wX.drew (wX.drew.alloc (.cells #[.slice A' xs.length c', .slice Az (invW ys).length cz] 27)) := Mid.alloc _ _
      have hbxa := hbxd.mid hal (Or.inr (Nat.zero_le _))
      have k1a := hbxa.cell 1 rfl
      have howna := owns_mid hown hal (Or.inl (Nat.zero_le _))
      have hrowsa := hrowsd.mid hal (Or.inl (Nat.zero_le _))
      have hmda := hmdd.trans hal
      have hC := impl_product2 A' xs c' Az (invW ys) cz wX.drew hrxd.rsS hryd hoka.out hokb.out (by omega)
      have HC := Lib.hid hC
      clear hC
      go_wp2_with fail
      go_region_held3 (fun w' => w'.cell? ⟨w.heap.size, 1, none⟩ = some (.int .i64 n)) (first | exact q1 | exact k1d | exact k1a | exact k1f | exact k1e) (first | (go_at_call 118; refine (HC.out).mono ?_; rintro e w2 ⟨A2, c2, rfl, ho2, hb2⟩; have hbxe := hbxa.mid (Mid.of_below (lo := 0) (hi := 0) hb2) (Or.inr (Nat.zero_le _)); have k1e := hbxe.cell 1 rfl; have hwn := owns_belowS howna hb2; obtain ⟨u, hu0, hu⟩ := owns_cell hwn hn; have hfz := hwn.frozenAt n; have hms := Mid.setCell w2 (lo := g) (hi := g + 1) (p := ⟨g, n, none⟩) (.slice A2 (red [] (xs ++ (invW ys))).length c2) (Nat.le_refl _) (Nat.lt_succ_self _); have k1f := (hbxe.mid hms (Or.inl hwg)).cell 1 rfl; clear hu0))
      go_wp2_with fail
      go_ret2
      have hfin := mv_back (r := ⟨A2, c2, red [] (xs ++ (invW ys))⟩) hmda HD.out (owns_base howna hs0) (hrowsa.wide hs0 hal.size (Nat.le_refl _)) ho2 hb2 (n := n) rfl
      exact RetMv.mk HE.out (by simp) hfin.1 hfin.2
  · rcases hs with rfl | rfl
    · have he3 := HEE 3 1 (by omega) (by omega)
      rw [if_neg (by omega), if_neg (by omega)] at he3
      have HE := Lib.hid he3
      clear he3 HEE
      have hb0 : Mid 0 0 w (w.alloc (.cells #[.int .i64 3, .int .i64 n, .int .i64 n', .int .i64 1] 68)) := Mid.alloc _ _
      have hbx := Box.new w #[.int .i64 3, .int .i64 n, .int .i64 n', .int .i64 1] 68
      have hrb := hr.mid hb0 (Or.inl (Nat.zero_le _))
      go_enter Try.func84, Try.ntmps84
      go_wp2_with fail
      with_reducible refine (impl_copyLists _ d c _ _ _ hrb (by omega) H28.out).mono ?_
      rintro e w1 ⟨A1, c1, rfl, ho1, hm1⟩
      have hm := hb0.trans hm1
      have hbx1 := hbx.mid hm1 (Or.inr (Nat.zero_le _))
      have hrd1 := hrb.mid hm1 (Or.inl (Nat.zero_le _))
      have k0 := hbx1.cell 0 rfl
      have k1 := hbx1.cell 1 rfl
      have k2 := hbx1.cell 2 rfl
      have k3 := hbx1.cell 3 rfl
      go_wp2_with fail
      with_reducible refine (within_any _ _ _ _).mono ?_
      rintro e w' ⟨rfl, rfl⟩
      rw [HB.out]
      have hcx1 : w1.cell? ⟨b, off + n, none⟩ = some (.slice A' xs.length c') := (World.cell?_of_block (hm.block b (by omega) (by omega))).trans hcx
      go_wp2_with fail
      with_reducible refine (within_any _ _ _ _).mono ?_
      rintro e w' ⟨rfl, rfl⟩
      rw [HJ.out]
      have hcy1 : w1.cell? ⟨b, off + n', none⟩ = some (.slice Ay ys.length cy) := (World.cell?_of_block (hm.block b (by omega) (by omega))).trans hcy
      have hrx1 := hrx.mid hm (Or.inl (Nat.zero_le _))
      have hry1 := hry.mid hm (Or.inl (Nat.zero_le _))
      clear hcx hcy hrx hry hrb hr hrd1
      have hmX := hm
      have hoX := ho1
      have hbxX := hbx1
      have hcxX := hcx1
      have hrxX := hrx1
      have hryX := hry1.rsS
      have hmd := Mid.drew1 w1
      have hrxd := hrxX.mid hmd (Or.inl (Nat.zero_le _))
      have hryd : Rs w1.drew w1.drew.heap.size Ay (ints ys) := hryX
      have hbxd := hbxX.mid hmd (Or.inr (Nat.zero_le _))
      have k1d := hbxd.cell 1 rfl
      have hcxd : w1.drew.cell? ⟨b, off + n, none⟩ = some (.slice A' xs.length c') := hcxX
      obtain ⟨rows, hD, hown, hlt, hrows⟩ := (hoX.mid hmd (Or.inl (Nat.zero_le _))).cut
      have HD := Lib.hid hD
      obtain ⟨g, rfl, hg0, -⟩ := owns_addr hown (by omega)
      simp only [World.size_alloc] at hg0
      have hbg : b < g := by omega
      have hwg : w.heap.size < g := by omega
      have hmdd := hmX.trans hmd
      have hs0 := hb0.size
      have hszX : b < w1.drew.heap.size := by have := hmdd.size; omega
      have hrowsd := hrows.wide (Nat.le_refl _) hoX.size (Nat.le_refl w1.drew.heap.size)
      have hokz := Lib.hid HOY.out
      have hlz : ys.length ≤ 4194304 := by exact hly
      have hoka := Lib.hid HOY.out
      have hokb := Lib.hid HOX.out
      clear hD hlt
      have hal : Mid 0 0 w1.drew (w1.drew.alloc (.cells #[.slice Ay ys.length cy, .slice A' xs.length c'] 27)) := Mid.alloc _ _
      have hbxa := hbxd.mid hal (Or.inr (Nat.zero_le _))
      have k1a := hbxa.cell 1 rfl
      have howna := owns_mid hown hal (Or.inl (Nat.zero_le _))
      have hrowsa := hrowsd.mid hal (Or.inl (Nat.zero_le _))
      have hmda := hmdd.trans hal
      have hC := impl_product2 Ay ys cy A' xs c' w1.drew hryd hrxd.rsS hoka.out hokb.out (by omega)
      have HC := Lib.hid hC
      clear hC
      go_wp2_with fail
      go_region_held3 (fun w' => w'.cell? ⟨w.heap.size, 1, none⟩ = some (.int .i64 n)) (first | exact k1 | exact k1d | exact k1a | exact k1f | exact k1e) (first | (go_at_call 118; refine (HC.out).mono ?_; rintro e w2 ⟨A2, c2, rfl, ho2, hb2⟩; have hbxe := hbxa.mid (Mid.of_below (lo := 0) (hi := 0) hb2) (Or.inr (Nat.zero_le _)); have k1e := hbxe.cell 1 rfl; have hwn := owns_belowS howna hb2; obtain ⟨u, hu0, hu⟩ := owns_cell hwn hn; have hfz := hwn.frozenAt n; have hms := Mid.setCell w2 (lo := g) (hi := g + 1) (p := ⟨g, n, none⟩) (.slice A2 (red [] (ys ++ xs)).length c2) (Nat.le_refl _) (Nat.lt_succ_self _); have k1f := (hbxe.mid hms (Or.inl hwg)).cell 1 rfl; clear hu0))
      go_wp2_with fail
      go_ret2
      have hfin := mv_back (r := ⟨A2, c2, red [] (ys ++ xs)⟩) hmda HD.out (owns_base howna hs0) (hrowsa.wide hs0 hal.size (Nat.le_refl _)) ho2 hb2 (n := n) rfl
      exact RetMv.mk HE.out (by simp) hfin.1 hfin.2
    · have he3 := HEE 3 (-1) (by omega) (by omega)
      rw [if_neg (by omega), if_pos (by omega)] at he3
      have HE := Lib.hid he3
      clear he3 HEE
      have hb0 : Mid 0 0 w (w.alloc (.cells #[.int .i64 3, .int .i64 n, .int .i64 n', .int .i64 (-1)] 68)) := Mid.alloc _ _
      have hbx := Box.new w #[.int .i64 3, .int .i64 n, .int .i64 n', .int .i64 (-1)] 68
      have hrb := hr.mid hb0 (Or.inl (Nat.zero_le _))
      go_enter Try.func84, Try.ntmps84
      go_wp2_with fail
      with_reducible refine (impl_copyLists _ d c _ _ _ hrb (by omega) H28.out).mono ?_
      rintro e w1 ⟨A1, c1, rfl, ho1, hm1⟩
      have hm := hb0.trans hm1
      have hbx1 := hbx.mid hm1 (Or.inr (Nat.zero_le _))
      have hrd1 := hrb.mid hm1 (Or.inl (Nat.zero_le _))
      have k0 := hbx1.cell 0 rfl
      have k1 := hbx1.cell 1 rfl
      have k2 := hbx1.cell 2 rfl
      have k3 := hbx1.cell 3 rfl
      go_wp2_with fail
      with_reducible refine (within_any _ _ _ _).mono ?_
      rintro e w' ⟨rfl, rfl⟩
      rw [HB.out]
      have hcx1 : w1.cell? ⟨b, off + n, none⟩ = some (.slice A' xs.length c') := (World.cell?_of_block (hm.block b (by omega) (by omega))).trans hcx
      go_wp2_with fail
      with_reducible refine (within_any _ _ _ _).mono ?_
      rintro e w' ⟨rfl, rfl⟩
      rw [HJ.out]
      have hcy1 : w1.cell? ⟨b, off + n', none⟩ = some (.slice Ay ys.length cy) := (World.cell?_of_block (hm.block b (by omega) (by omega))).trans hcy
      have hrx1 := hrx.mid hm (Or.inl (Nat.zero_le _))
      have hry1 := hry.mid hm (Or.inl (Nat.zero_le _))
      clear hcx hcy hrx hry hrb hr hrd1
      go_wp2_with fail
      with_reducible refine (impl_InvertWordE Ay ys cy _ hry1.rsS HOY.out hly).mono ?_
      rintro e wX ⟨Az, cz, rfl, hoz, hbz⟩
      have hmz : Mid 0 0 w1 wX := Mid.of_below hbz
      have hmX := hm.trans hmz
      have hoX := ho1.mid hmz (Or.inl (Nat.zero_le _))
      have hbxX := hbx1.mid hmz (Or.inr (Nat.zero_le _))
      have hcxX := cell_keep hmz (show b < w1.heap.size by have := hm.size; omega) (Or.inr (Nat.zero_le _)) hcx1
      have hrxX := hrx1.mid hmz (Or.inl (Nat.zero_le _))
      have hryX : Rs wX wX.heap.size Az (ints (invW ys)) := Rs.of_own hoz
      have q0 := hbxX.cell 0 rfl
      have q1 := hbxX.cell 1 rfl
      have q2 := hbxX.cell 2 rfl
      have q3 := hbxX.cell 3 rfl
      clear k0 k1 k2 k3
      have hmd := Mid.drew1 wX
      have hrxd := hrxX.mid hmd (Or.inl (Nat.zero_le _))
      have hryd : Rs wX.drew wX.drew.heap.size Az (ints (invW ys)) := hryX
      have hbxd := hbxX.mid hmd (Or.inr (Nat.zero_le _))
      have k1d := hbxd.cell 1 rfl
      have hcxd : wX.drew.cell? ⟨b, off + n, none⟩ = some (.slice A' xs.length c') := hcxX
      obtain ⟨rows, hD, hown, hlt, hrows⟩ := (hoX.mid hmd (Or.inl (Nat.zero_le _))).cut
      have HD := Lib.hid hD
      obtain ⟨g, rfl, hg0, -⟩ := owns_addr hown (by omega)
      simp only [World.size_alloc] at hg0
      have hbg : b < g := by omega
      have hwg : w.heap.size < g := by omega
      have hmdd := hmX.trans hmd
      have hs0 := hb0.size
      have hszX : b < wX.drew.heap.size := by have := hmdd.size; omega
      have hrowsd := hrows.wide (Nat.le_refl _) hoX.size (Nat.le_refl wX.drew.heap.size)
      have hokz := Lib.hid (okI_invW HOY.out)
      have hlz : (invW ys).length ≤ 4194304 := by rw [invW_len]; exact hly
      have hoka := Lib.hid (okI_invW HOY.out)
      have hokb := Lib.hid HOX.out
      clear hD hlt
      have hal : Mid 0 0 wX.drew (wX.drew.alloc (.cells #[.slice Az (invW ys).length cz, .slice A' xs.length c'] 27)) := Mid.alloc _ _
      have hbxa := hbxd.mid hal (Or.inr (Nat.zero_le _))
      have k1a := hbxa.cell 1 rfl
      have howna := owns_mid hown hal (Or.inl (Nat.zero_le _))
      have hrowsa := hrowsd.mid hal (Or.inl (Nat.zero_le _))
      have hmda := hmdd.trans hal
      have hC := impl_product2 Az (invW ys) cz A' xs c' wX.drew hryd hrxd.rsS hoka.out hokb.out (by omega)
      have HC := Lib.hid hC
      clear hC
      go_wp2_with fail
      go_region_held3 (fun w' => w'.cell? ⟨w.heap.size, 1, none⟩ = some (.int .i64 n)) (first | exact q1 | exact k1d | exact k1a | exact k1f | exact k1e) (first | (go_at_call 118; refine (HC.out).mono ?_; rintro e w2 ⟨A2, c2, rfl, ho2, hb2⟩; have hbxe := hbxa.mid (Mid.of_below (lo := 0) (hi := 0) hb2) (Or.inr (Nat.zero_le _)); have k1e := hbxe.cell 1 rfl; have hwn := owns_belowS howna hb2; obtain ⟨u, hu0, hu⟩ := owns_cell hwn hn; have hfz := hwn.frozenAt n; have hms := Mid.setCell w2 (lo := g) (hi := g + 1) (p := ⟨g, n, none⟩) (.slice A2 (red [] ((invW ys) ++ xs)).length c2) (Nat.le_refl _) (Nat.lt_succ_self _); have k1f := (hbxe.mid hms (Or.inl hwg)).cell 1 rfl; clear hu0))
      go_wp2_with fail
      go_ret2
      have hfin := mv_back (r := ⟨A2, c2, red [] ((invW ys) ++ xs)⟩) hmda HD.out (owns_base howna hs0) (hrowsa.wide hs0 hal.size (Nat.le_refl _)) ho2 hb2 (n := n) rfl
      exact RetMv.mk HE.out (by simp) hfin.1 hfin.2
end Go.Proofs.Ytchgicdjdbjfgaa
