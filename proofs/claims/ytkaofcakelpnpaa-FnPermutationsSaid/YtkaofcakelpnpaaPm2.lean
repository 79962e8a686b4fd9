/- Contracts and lemmas of this seat, many texts in one: see the words ahead of each. No condition beyond those typed in each lemma. -/
import Derived.Test.YtkaofcakelpnpaaPm1
import Derived.IntWalk
import Derived.Deep.Matrix
import Derived.Lib.SmallJoins
import Derived.ProofKit
import Derived.OpenShut
import Derived.ShutString
import Derived.ChangeOld

/- CycleType and SignOf in the laws' words; SignOf, both sides. -/
namespace Go.Proofs.Ytkaofcakelpnpaa
set_option linter.unusedVariables false
set_option linter.unusedSimpArgs false
open Go.RowKit

def CycleTypeIs (p res : List Int) : Prop := CycIs p res
theorem CycleTypeIs_ex (p : List Int) (_ : OkI p) (_ : p.length ≤ 1048576) : ∃ res, CycleTypeIs p res := by
  by_cases h : IsPerm p
  · exact ⟨cyc p, fun _ => rfl, fun h' => absurd h h'⟩
  · exact ⟨[], fun h' => absurd h' h, fun _ => rfl⟩
theorem CycIs.len {p res : List Int} (h : CycIs p res) (hl : p.length ≤ 1048576) : res.length ≤ 1048576 := by
  by_cases hp : IsPerm p
  · rw [h.1 hp]
    have := cyc_len hp
    omega
  · rw [h.2 hp]
    simp
theorem CycleTypeIs_len {p res : List Int} (h : CycleTypeIs p res) (_ : OkI p) (hl : p.length ≤ 1048576) : res.length ≤ 1048576 := CycIs.len h hl
theorem sspec_CycleType (A : Option Addr) (p : List Int) (c : Nat) (w : World) (lo hi : Nat) (h : RI w lo hi A p) (_o : OkI p) (hl : p.length ≤ 1048576) (r : List Int) (hr : CycleTypeIs p r) :
    Calls Try.prog 18 #[.slice A p.length c] w (StpI r w) := (spec_CycleType A p c _ w h.rs (Nat.le_refl _) hl r hr).mono fun _ _ h => h.stp
theorem simpl_CycleType (A : Option Addr) (p : List Int) (c : Nat) (w : World) (lo hi : Nat) (h : RI w lo hi A p) (_o : OkI p) (hl : p.length ≤ 1048576) (r : List Int) (hr : CycleTypeIs p r) :
    Calls Try.prog 15 #[.slice A p.length c] w (StpI r w) := (impl_CycleType A p c _ w h.rs (Nat.le_refl _) hl r hr).mono fun _ _ h => h.stp

def SignOfIs (p : List Int) (res : Int) : Prop := ∃ cy, CycIs p cy ∧ ((IsPerm p → res = if (p.length - cy.length) % 2 = 0 then 1 else -1) ∧ (¬ IsPerm p → res = 0))
theorem SignOfIs_ex (p : List Int) (_ : OkI p) (_ : p.length ≤ 1048576) : ∃ res, SignOfIs p res := by
  by_cases h : IsPerm p
  · exact ⟨_, cyc p, ⟨fun _ => rfl, fun h' => absurd h h'⟩, fun _ => rfl, fun h' => absurd h h'⟩
  · exact ⟨0, [], ⟨fun h' => absurd h' h, fun _ => rfl⟩, fun h' => absurd h' h, fun _ => rfl⟩

set_option maxHeartbeats 800000 in
theorem simpl_SignOf (A : Option Addr) (p : List Int) (c : Nat) (w : World) (lo hi : Nat) (h : RI w lo hi A p) (_o : OkI p) (hl : p.length ≤ 1048576) (res : Int) (hres : SignOfIs p res) :
    Calls Try.prog 14 #[.slice A p.length c] w (Stp (.int .i64 res) w) := by
  obtain ⟨cy, hcy, hr1, hr2⟩ := hres
  have hr := h.rs
  have HCY := Lib.hid hcy
  have hlc := hcy.len hl
  clear h hcy
  by_cases hp : IsPerm p
  · have hres := hr1 hp
    have hle : cy.length ≤ p.length := by rw [HCY.out.1 hp]; exact cyc_len hp
    have HP := Lib.hid hp
    clear hp hr1 hr2
    by_cases hev : (p.length - cy.length) % 2 = 0
    · rw [if_pos hev] at hres
      subst hres
      have hev2 : (((p.length : Int) - (cy.length : Int)) % 2 == 0) = true := by simp; omega
      have hd0 : (0 : Int) ≤ (p.length : Int) - (cy.length : Int) := by omega
      clear hev
      go_enter Try.func14, Try.ntmps14
      go_wp2_with fail
      with_reducible refine (impl_IsPermutation A p c _ _ hr (Nat.le_refl _) hl true (iff_of_true rfl HP.out)).mono ?_
      rintro e w1 ⟨rfl, hb1⟩
      have hr1 := (hr.below hb1).more hb1.size
      go_wp2_with fail
      with_reducible refine (impl_CycleType A p c _ _ hr1 (Nat.le_refl _) hl cy HCY.out).mono ?_
      rintro e w2 ⟨A2, c2, rfl, ho2, hb2⟩
      go_wp2_with fail
      go_ret
      exact ⟨rfl, (Mid.of_below hb1).trans (Mid.of_below hb2)⟩
    · rw [if_neg hev] at hres
      subst hres
      have hev2 : (((p.length : Int) - (cy.length : Int)) % 2 == 0) = false := by simp; omega
      have hd0 : (0 : Int) ≤ (p.length : Int) - (cy.length : Int) := by omega
      clear hev
      go_enter Try.func14, Try.ntmps14
      go_wp2_with fail
      with_reducible refine (impl_IsPermutation A p c _ _ hr (Nat.le_refl _) hl true (iff_of_true rfl HP.out)).mono ?_
      rintro e w1 ⟨rfl, hb1⟩
      have hr1 := (hr.below hb1).more hb1.size
      go_wp2_with fail
      with_reducible refine (impl_CycleType A p c _ _ hr1 (Nat.le_refl _) hl cy HCY.out).mono ?_
      rintro e w2 ⟨A2, c2, rfl, ho2, hb2⟩
      go_wp2_with fail
      go_ret
      exact ⟨rfl, (Mid.of_below hb1).trans (Mid.of_below hb2)⟩
  · obtain rfl : res = 0 := hr2 hp
    have HN := Lib.hid hp
    clear hp hr1 hr2
    go_enter Try.func14, Try.ntmps14
    go_wp2_with fail
    with_reducible refine (impl_IsPermutation A p c _ _ hr (Nat.le_refl _) hl false (iff_of_false Bool.false_ne_true HN.out)).mono ?_
    rintro e w1 ⟨rfl, hb1⟩
    go_wp2_with fail
    go_ret
    exact ⟨rfl, Mid.of_below hb1⟩

set_option maxHeartbeats 800000 in
theorem sspec_SignOf (A : Option Addr) (p : List Int) (c : Nat) (w : World) (lo hi : Nat) (h : RI w lo hi A p) (_o : OkI p) (hl : p.length ≤ 1048576) (res : Int) (hres : SignOfIs p res) :
    Calls Try.prog 22 #[.slice A p.length c] w (Stp (.int .i64 res) w) := by
  obtain ⟨cy, hcy, hr1, hr2⟩ := hres
  have hr := h.rs
  have HCY := Lib.hid hcy
  have hlc := hcy.len hl
  clear h hcy
  by_cases hp : IsPerm p
  · have hres := hr1 hp
    have hle : cy.length ≤ p.length := by rw [HCY.out.1 hp]; exact cyc_len hp
    have HP := Lib.hid hp
    clear hp hr1 hr2
    by_cases hev : (p.length - cy.length) % 2 = 0
    · rw [if_pos hev] at hres
      subst hres
      have hev2 : (((p.length : Int) - (cy.length : Int)) % 2 == 0) = true := by simp; omega
      have hd0 : (0 : Int) ≤ (p.length : Int) - (cy.length : Int) := by omega
      clear hev
      go_enter Try.func22, Try.ntmps22
      go_wp2_with fail
      with_reducible refine (spec_CycleType A p c _ _ hr (Nat.le_refl _) hl cy HCY.out).mono ?_
      rintro e w2 ⟨A2, c2, rfl, ho2, hb2⟩
      have hr1 := (hr.below hb2).more hb2.size
      go_wp2_with fail
      with_reducible refine (spec_IsPermutation A p c _ _ hr1 hl true (iff_of_true rfl HP.out)).mono ?_
      rintro e w1 ⟨rfl, nd, rfl⟩
      go_wp2_with fail
      go_ret
      exact ⟨rfl, (Mid.of_below hb2).drewN nd⟩
    · rw [if_neg hev] at hres
      subst hres
      have hev2 : (((p.length : Int) - (cy.length : Int)) % 2 == 0) = false := by simp; omega
      have hd0 : (0 : Int) ≤ (p.length : Int) - (cy.length : Int) := by omega
      clear hev
      go_enter Try.func22, Try.ntmps22
      go_wp2_with fail
      with_reducible refine (spec_CycleType A p c _ _ hr (Nat.le_refl _) hl cy HCY.out).mono ?_
      rintro e w2 ⟨A2, c2, rfl, ho2, hb2⟩
      have hr1 := (hr.below hb2).more hb2.size
      go_wp2_with fail
      with_reducible refine (spec_IsPermutation A p c _ _ hr1 hl true (iff_of_true rfl HP.out)).mono ?_
      rintro e w1 ⟨rfl, nd, rfl⟩
      go_wp2_with fail
      go_ret
      exact ⟨rfl, (Mid.of_below hb2).drewN nd⟩
  · obtain rfl : res = 0 := hr2 hp
    have HN := Lib.hid hp
    clear hp hr1 hr2
    go_enter Try.func22, Try.ntmps22
    go_wp2_with fail
    with_reducible refine (spec_CycleType A p c _ _ hr (Nat.le_refl _) hl cy HCY.out).mono ?_
    rintro e w2 ⟨A2, c2, rfl, ho2, hb2⟩
    have hr1 := (hr.below hb2).more hb2.size
    go_wp2_with fail
    with_reducible refine (spec_IsPermutation A p c _ _ hr1 hl false (iff_of_false Bool.false_ne_true HN.out)).mono ?_
    rintro e w1 ⟨rfl, nd, rfl⟩
    go_wp2_with fail
    go_ret
    exact ⟨rfl, (Mid.of_below hb2).drewN nd⟩
end Go.Proofs.Ytkaofcakelpnpaa

/- OrderOfPermutation, both sides. -/
namespace Go.Proofs.Ytkaofcakelpnpaa
set_option linter.unusedVariables false
set_option linter.unusedSimpArgs false
open Go.RowKit

def ordStep (n : Nat) (c : Int) : Nat := n / Nat.gcd n c.toNat * c.toNat
def ordN (cy : List Int) : Nat := cy.foldl ordStep 1
structure OrdAt (cy : List Int) (k : Nat) (n : Nat) : Prop where
  val : n = ordN (cy.take k)
  pos : 1 ≤ n
  le : (n : Int) ≤ 2 ^ (cy.take k).sum.toNat
theorem sum_nonneg {cy : List Int} (h : ∀ c ∈ cy, 1 ≤ c) : 0 ≤ cy.sum := by
  induction cy with
  | nil => simp
  | cons c t ih =>
    have := h c List.mem_cons_self
    have := ih (fun x hx => h x (List.mem_cons_of_mem _ hx))
    simp; omega
theorem OrdAt.zero (cy : List Int) : OrdAt cy 0 1 := ⟨by simp [ordN], by omega, by simp⟩
theorem OrdAt.succ {cy : List Int} {k n c : Nat} (hp : ∀ c ∈ cy, 1 ≤ c) (h : OrdAt cy k n) (hc : cy[k]? = some (c : Int)) : OrdAt cy (k + 1) (n / Nat.gcd n c * c) := by
  have hc1 : 1 ≤ c := by have := hp c (List.mem_of_getElem? hc); omega
  have hg : 0 < Nat.gcd n c := Nat.gcd_pos_of_pos_left _ h.pos
  have hdv : Nat.gcd n c ≤ n := Nat.le_of_dvd h.pos (Nat.gcd_dvd_left _ _)
  have hq : 1 ≤ n / Nat.gcd n c := (Nat.one_le_div_iff hg).2 hdv
  have hs0 : 0 ≤ (cy.take k).sum := sum_nonneg (fun x hx => hp x (List.mem_of_mem_take hx))
  refine ⟨?_, Nat.mul_pos hq hc1, ?_⟩
  · rw [take_succ_of cy hc]
    simp [ordN, List.foldl_append, ordStep]
    rw [show List.foldl ordStep 1 (cy.take k) = n from h.val.symm]
  · rw [take_succ_of cy hc, List.sum_append]
    have e : ((cy.take k).sum + ([(c : Int)] : List Int).sum).toNat = (cy.take k).sum.toNat + c := by simp; omega
    rw [e, Int.pow_add]
    have h1 : (n / Nat.gcd n c : Nat) ≤ n := Nat.div_le_self _ _
    have h2 : c < 2 ^ c := Nat.lt_two_pow_self
    have h3 : ((n / Nat.gcd n c * c : Nat) : Int) ≤ ((n * 2 ^ c : Nat) : Int) := by
      have := Nat.mul_le_mul h1 (Nat.le_of_lt h2)
      omega
    refine Int.le_trans h3 ?_
    rw [Int.natCast_mul]
    have h4 : ((2 ^ c : Nat) : Int) = 2 ^ c := by simp
    rw [h4]
    exact Int.mul_le_mul_of_nonneg_right h.le (by rw [← h4]; omega)
theorem OrdAt.bound {cy : List Int} {k n : Nat} (hp : ∀ c ∈ cy, 1 ≤ c) (hs : cy.sum ≤ 40) (h : OrdAt cy k n) : n ≤ 1099511627776 := by
  have h1 : (cy.take k).sum ≤ 40 := by
    have e := List.take_append_drop k cy
    have : (cy.take k).sum + (cy.drop k).sum = cy.sum := by rw [← List.sum_append, e]
    have := sum_nonneg (fun x hx => hp x (List.mem_of_mem_drop hx) : ∀ c ∈ cy.drop k, 1 ≤ c)
    omega
  have h2 : (2 : Int) ^ (cy.take k).sum.toNat ≤ 2 ^ 40 := by
    have h3 : (2 : Nat) ^ (cy.take k).sum.toNat ≤ 2 ^ 40 := Nat.pow_le_pow_right (by omega) (by omega)
    exact_mod_cast h3
  have h5 := Int.le_trans h.le h2
  have e : (2 : Int) ^ 40 = 1099511627776 := by decide
  rw [e] at h5
  omega
theorem sum_perm {xs ys : List Int} (h : xs.Perm ys) : xs.sum = ys.sum := by
  induction h with
  | nil => rfl
  | cons x _ ih => simp [ih]
  | swap x y l => simp; omega
  | trans _ _ h1 h2 => exact h1.trans h2
theorem cyc_facts {p : List Int} (h : IsPerm p) : (∀ c ∈ cyc p, 1 ≤ c) ∧ (cyc p).sum ≤ 40 := by
  obtain ⟨vis, out, h2⟩ := CycOut.get h.2.1 p.length (Nat.le_refl _)
  have hp := downL_perm out
  unfold cyc
  rw [h2.st]
  refine ⟨fun c hc => h2.pos c (hp.mem_iff.1 hc), ?_⟩
  rw [sum_perm hp, h2.sum]
  have := h2.hv.le
  have := h.1
  omega
def OrderOfPermutationIs (p : List Int) (res : Int) : Prop := ∃ cy, CycIs p cy ∧ ((IsPerm p → res = (ordN cy : Int)) ∧ (¬ IsPerm p → res = 0))
theorem OrderOfPermutationIs_ex (p : List Int) (_ : OkI p) (_ : p.length ≤ 1048576) : ∃ res, OrderOfPermutationIs p res := by
  by_cases h : IsPerm p
  · exact ⟨_, cyc p, ⟨fun _ => rfl, fun h' => absurd h h'⟩, fun _ => rfl, fun h' => absurd h h'⟩
  · exact ⟨0, [], ⟨fun h' => absurd h' h, fun _ => rfl⟩, fun h' => absurd h' h, fun _ => rfl⟩

set_option maxHeartbeats 400000 in
theorem spec_l17Gcd (a b : Nat) (w : World) (ha : a ≤ 1099511627776) (hb : b ≤ 1099511627776) :
    Calls Try.prog 34 #[.int .i64 a, .int .i64 b] w fun e w' => e = .returned (.int .i64 (Nat.gcd a b : Nat)) ∧ w = w' := by
  go_enter Try.func34, Try.ntmps34
  go_wp2_with fail
  go_loop [0, 1, 5] (fun x y _ => ∃ a' b' : Nat, x = .int .i64 a' ∧ y = .int .i64 b' ∧ Nat.gcd a' b' = Nat.gcd a b ∧ a' ≤ 1099511627776 ∧ b' ≤ 1099511627776) (fun _ y _ => (intOf y).toNat)
  case atStart => exact ⟨a, b, rfl, rfl, rfl, ha, hb⟩
  case round =>
    obtain ⟨a', b', rfl, rfl, hg, ha', hb'⟩ := hrel
    have HG := Lib.hid hg
    clear hg
    by_cases h0 : 0 < b'
    · have h03 : (0 : Int) < (b' : Int) := by omega
      have hml := Nat.mod_lt a' h0
      go_wp2_with fail
      go_round
      case rel =>
        refine ⟨b', a' % b', rfl, by first | rfl | go_num, ?_, hb', by omega⟩
        rw [← HG.out, Nat.gcd_comm a' b', Nat.gcd_comm b' (a' % b'), ← Nat.gcd_rec]
      case measure => simp [intOf]; omega
    · obtain rfl : b' = 0 := by omega
      go_wp2_with fail
      go_ret
      have := HG.out
      rw [Nat.gcd_zero_right] at this
      subst this
      exact ⟨rfl, rfl⟩

set_option maxHeartbeats 1600000 in
theorem simpl_OrderOfPermutation (A : Option Addr) (p : List Int) (c : Nat) (w : World) (lo hi : Nat) (h : RI w lo hi A p) (_o : OkI p) (hl : p.length ≤ 1048576) (res : Int) (hres : OrderOfPermutationIs p res) :
    Calls Try.prog 13 #[.slice A p.length c] w (Stp (.int .i64 res) w) := by
  obtain ⟨cy, hcy, hr1, hr2⟩ := hres
  have hr := h.rs
  have HCY := Lib.hid hcy
  have hlc := hcy.len hl
  clear h hcy
  by_cases hp : IsPerm p
  · have HRES := Lib.hid (hr1 hp)
    have hf := cyc_facts hp
    rw [← HCY.out.1 hp] at hf
    have HF := Lib.hid hf
    have HP := Lib.hid hp
    clear hp hr1 hr2 hf
    go_enter Try.func13, Try.ntmps13
    go_wp2_with fail
    with_reducible refine (impl_IsPermutation A p c _ _ hr (Nat.le_refl _) hl true (iff_of_true rfl HP.out)).mono ?_
    rintro e w1 ⟨rfl, hb1⟩
    have hr1 := (hr.below hb1).more hb1.size
    go_wp2_with fail
    with_reducible refine (impl_CycleType A p c _ _ hr1 (Nat.le_refl _) hl cy HCY.out).mono ?_
    rintro e w2 ⟨A2, c2, rfl, ho2, hb2⟩
    have hrc : Rs w2 w2.heap.size A2 (ints cy) := Rs.of_own ho2
    have hm2 := (Mid.of_below (lo := 0) (hi := 0) hb1).trans (Mid.of_below hb2)
    go_wp2_with fail
    go_loopw [3, 5, 6, 7, 14] (fun nv _ _ _ i wr => ∃ k n : Nat, k ≤ cy.length ∧ i = .int .i64 k ∧ nv = .int .i64 n ∧ OrdAt cy k n ∧ ∃ m, wr = w2.drewN m) (fun _ _ _ _ i _ => cy.length - (intOf i).toNat)
    case atStart => exact ⟨0, 1, Nat.zero_le _, rfl, rfl, OrdAt.zero cy, 0, rfl⟩
    case round =>
      obtain ⟨k, n, hk, rfl, rfl, hat, md, rfl⟩ := hrel
      have HAT := Lib.hid hat
      have hn1 := hat.pos
      have hn2 := hat.bound HF.out.1 HF.out.2
      clear hat
      by_cases hlt : k < cy.length
      · obtain ⟨b, off, x, rfl, -, hx, hc⟩ := hrc.int hlt
        have hx1 := HF.out.1 x (List.mem_of_getElem? hx)
        obtain ⟨d, rfl⟩ : ∃ d : Nat, x = (d : Int) := ⟨x.toNat, by omega⟩
        have hnext := HAT.out.succ HF.out.1 hx
        have hnb := hnext.bound HF.out.1 HF.out.2
        have hd40 : d ≤ 1099511627776 := by
          have h1 := Nat.div_mul_le_self n (Nat.gcd n d)
          have hg : 0 < Nat.gcd n d := Nat.gcd_pos_of_pos_left _ hn1
          have hq : 1 ≤ n / Nat.gcd n d := (Nat.one_le_div_iff hg).2 (Nat.le_of_dvd hn1 (Nat.gcd_dvd_left _ _))
          have := Nat.mul_le_mul_right d hq
          omega
        have HNX := Lib.hid hnext
        clear hx hnext
        go_wp2_with fail
        go_loopw [6, 7] (fun av bv wr2 => ∃ a b' : Nat, av = .int .i64 a ∧ bv = .int .i64 b' ∧ Nat.gcd a b' = Nat.gcd n d ∧ a ≤ 1099511627776 ∧ b' ≤ 1099511627776 ∧ ∃ m, wr2 = w2.drewN m) (fun _ bv _ => (intOf bv).toNat)
        case atStart => exact ⟨n, d, rfl, rfl, rfl, hn2, hd40, md, rfl⟩
        case round =>
          obtain ⟨a, b', rfl, rfl, hg, ha, hb, m2, rfl⟩ := hrel
          have HG := Lib.hid hg
          clear hg
          by_cases h0 : b' = 0
          · subst h0
            have hga := HG.out
            rw [Nat.gcd_zero_right] at hga
            have ha1 : 1 ≤ a := by rw [hga]; exact Nat.gcd_pos_of_pos_left _ hn1
            have hnb2 : n / a * d ≤ 1099511627776 := by rw [hga]; exact hnb
            have HGA := Lib.hid hga
            have hz : (((0 : Nat) : Int) != 0) = false := by simp
            have hq0 : (0 : Int) ≤ (n : Int) / (a : Int) := Int.ediv_nonneg (by omega) (by omega)
            have hqe : (n : Int) / (a : Int) = ((n / a : Nat) : Int) := by simp
            have hmul : (n : Int) / (a : Int) * (d : Int) = ((n / a * d : Nat) : Int) := by rw [hqe, Int.natCast_mul]
            have hmb : (n : Int) / (a : Int) * (d : Int) ≤ 1099511627776 := by rw [hmul]; omega
            have hmb0 : 0 ≤ (n : Int) / (a : Int) * (d : Int) := by rw [hmul]; omega
            have HMUL := Lib.hid hmul
            clear hga hqe hmul
            go_wp2_with fail
            go_roundw
            case rel =>
              refine ⟨k + 1, n / a * d, by omega, by go_num, ?_, by rw [HGA.out]; exact HNX.out, m2, rfl⟩
              have hq1 : (n : Int) / (a : Int) ≤ 1099511627776 := by
                have h1 := Nat.div_le_self n a
                have e : (n : Int) / (a : Int) = ((n / a : Nat) : Int) := by simp
                rw [e]
                omega
              have e1 := IntWalk.wrap64_in ((n : Int) / (a : Int)) ⟨by omega, by omega⟩
              have e2 := IntWalk.wrap64_in ((n : Int) / (a : Int) * (d : Int)) ⟨by omega, by omega⟩
              show Value.int .i64 _ = Value.int .i64 ((n / a * d : Nat) : Int)
              first | rw [e1, e2, HMUL.out] | rw [e2, HMUL.out] | rw [HMUL.out]
            case measure => simp [intOf]; omega
          · have hz : ((b' : Int) != 0) = true := by simp; omega
            have hb1 : (1 : Int) ≤ (b' : Int) := by omega
            have hml := Nat.mod_lt a (show 0 < b' by omega)
            go_wp2_with fail
            go_quiet (fail)
            go_wp2_with fail
            go_roundw
            case rel =>
              refine ⟨b', a % b', rfl, ?_, ?_, hb, by omega, _, by first | rfl | exact dn _ _ _⟩
              · first | rfl | go_num | simp
              · rw [← HG.out, Nat.gcd_comm a b', Nat.gcd_comm b' (a % b'), ← Nat.gcd_rec]
            case measure =>
              have e : ((a : Int) % (b' : Int)) = ((a % b' : Nat) : Int) := by simp
              show ((a : Int) % (b' : Int)).toNat < ((b' : Int)).toNat
              rw [e]
              omega
      · obtain rfl : k = cy.length := by omega
        go_wp2_with fail
        go_ret
        have h2 := HAT.out.val
        rw [List.take_length] at h2
        have h3 := HRES.out
        rw [← h2] at h3
        subst h3
        exact ⟨rfl, hm2.drewN _⟩
  · obtain rfl : res = 0 := hr2 hp
    have HN := Lib.hid hp
    clear hp hr1 hr2
    go_enter Try.func13, Try.ntmps13
    go_wp2_with fail
    with_reducible refine (impl_IsPermutation A p c _ _ hr (Nat.le_refl _) hl false (iff_of_false Bool.false_ne_true HN.out)).mono ?_
    rintro e w1 ⟨rfl, hb1⟩
    go_wp2_with fail
    go_ret
    exact ⟨rfl, Mid.of_below hb1⟩

set_option maxHeartbeats 1600000 in
theorem sspec_OrderOfPermutation (A : Option Addr) (p : List Int) (c : Nat) (w : World) (lo hi : Nat) (h : RI w lo hi A p) (_o : OkI p) (hl : p.length ≤ 1048576) (res : Int) (hres : OrderOfPermutationIs p res) :
    Calls Try.prog 19 #[.slice A p.length c] w (Stp (.int .i64 res) w) := by
  obtain ⟨cy, hcy, hr1, hr2⟩ := hres
  have hr := h.rs
  have HCY := Lib.hid hcy
  have hlc := hcy.len hl
  clear h hcy
  by_cases hp : IsPerm p
  · have HRES := Lib.hid (hr1 hp)
    have hf := cyc_facts hp
    rw [← HCY.out.1 hp] at hf
    have HF := Lib.hid hf
    have HP := Lib.hid hp
    clear hp hr1 hr2 hf
    go_enter Try.func19, Try.ntmps19
    go_wp2_with fail
    with_reducible refine (spec_CycleType A p c _ _ hr (Nat.le_refl _) hl cy HCY.out).mono ?_
    rintro e w2 ⟨A2, c2, rfl, ho2, hb2⟩
    have hrc : Rs w2 w2.heap.size A2 (ints cy) := Rs.of_own ho2
    have hr1 := (hr.below hb2).more hb2.size
    have hm2 := Mid.of_below (lo := 0) (hi := 0) hb2
    go_wp2_with fail
    go_loopw [4, 5] (fun nv i wr => ∃ k n : Nat, k ≤ cy.length ∧ i = .int .i64 k ∧ nv = .int .i64 n ∧ OrdAt cy k n ∧ ∃ m, wr = w2.drewN m) (fun _ i _ => cy.length - (intOf i).toNat)
    case atStart => exact ⟨0, 1, Nat.zero_le _, rfl, rfl, OrdAt.zero cy, 0, rfl⟩
    case round =>
      obtain ⟨k, n, hk, rfl, rfl, hat, md, rfl⟩ := hrel
      have HAT := Lib.hid hat
      have hn1 := hat.pos
      have hn2 := hat.bound HF.out.1 HF.out.2
      clear hat
      by_cases hlt : k < cy.length
      · obtain ⟨b, off, x, rfl, -, hx, hc⟩ := hrc.int hlt
        have hx1 := HF.out.1 x (List.mem_of_getElem? hx)
        obtain ⟨d, rfl⟩ : ∃ d : Nat, x = (d : Int) := ⟨x.toNat, by omega⟩
        have hnext := HAT.out.succ HF.out.1 hx
        have hnb := hnext.bound HF.out.1 HF.out.2
        have hg1 : 1 ≤ Nat.gcd n d := Nat.gcd_pos_of_pos_left _ hn1
        have hd40 : d ≤ 1099511627776 := by
          have hq : 1 ≤ n / Nat.gcd n d := (Nat.one_le_div_iff hg1).2 (Nat.le_of_dvd hn1 (Nat.gcd_dvd_left _ _))
          have := Nat.mul_le_mul_right d hq
          omega
        have HNX := Lib.hid hnext
        obtain ⟨gg, hgg⟩ : ∃ gg, gg = Nat.gcd n d := ⟨_, rfl⟩
        rw [← hgg] at hnb hg1
        have hC := fun W => spec_l17Gcd n d W hn2 hd40
        rw [← hgg] at hC
        have HC := Lib.hid hC
        have HGG := Lib.hid hgg
        have hk3 : (k : Int) < (cy.length : Int) := by omega
        have hk0 : (0 : Int) ≤ (k : Int) := by omega
        have hg3 : (1 : Int) ≤ (gg : Int) := by omega
        have hn0 : (0 : Int) ≤ (n : Int) := by omega
        clear hx hnext hgg hC
        go_wp2_with fail
        go_quiet ((go_at_call 34; first | exact qz0 (pq (HC.out _)) | exact qz1 (pq (HC.out _))))
        go_wp2_with fail
        go_roundw
        case rel =>
          refine ⟨k + 1, n / gg * d, by omega, by go_num, ?_, by rw [HGG.out]; exact HNX.out, _, by first | rfl | exact dn _ _ _⟩
          have h1 := Nat.div_le_self n gg
          have e : (n : Int) / (gg : Int) = ((n / gg : Nat) : Int) := by simp
          have p0 : (0 : Int) ≤ ((n / gg : Nat) : Int) := Int.natCast_nonneg _
          have p1 : ((n / gg : Nat) : Int) ≤ 1099511627776 := by
            have h5 : n / gg ≤ 1099511627776 := Nat.le_trans h1 hn2
            exact Int.ofNat_le.2 h5
          have e1 := IntWalk.wrap64_in ((n : Int) / (gg : Int)) ⟨by rw [e]; exact Int.le_trans (by decide) p0, by rw [e]; exact Int.le_trans p1 (by decide)⟩
          have em : (n : Int) / (gg : Int) * (d : Int) = ((n / gg * d : Nat) : Int) := by rw [e, Int.natCast_mul]
          have q0 : (0 : Int) ≤ ((n / gg * d : Nat) : Int) := Int.natCast_nonneg _
          have q1 : ((n / gg * d : Nat) : Int) ≤ 1099511627776 := Int.ofNat_le.2 hnb
          have e2 := IntWalk.wrap64_in ((n : Int) / (gg : Int) * (d : Int)) ⟨by rw [em]; exact Int.le_trans (by decide) q0, by rw [em]; exact Int.le_trans q1 (by decide)⟩
          show Value.int .i64 _ = Value.int .i64 ((n / gg * d : Nat) : Int)
          first | rw [e1, e2, em] | rw [e2, em] | rw [em]
        case measure => simp [intOf]; omega
      · obtain rfl : k = cy.length := by omega
        go_wp2_with fail
        with_reducible refine (spec_IsPermutation A p c _ _ (hr1.drewN md) hl true (iff_of_true rfl HP.out)).mono ?_
        rintro e w' ⟨rfl, nd, rfl⟩
        go_wp2_with fail
        go_ret
        have h2 := HAT.out.val
        rw [List.take_length] at h2
        have h3 := HRES.out
        rw [← h2] at h3
        subst h3
        exact ⟨rfl, by first | exact hm2.drewN _ | exact (hm2.drewN _).drewN _⟩
  · obtain rfl : res = 0 := hr2 hp
    have HN := Lib.hid hp
    obtain rfl : cy = [] := HCY.out.2 hp
    clear hp hr1 hr2
    go_enter Try.func19, Try.ntmps19
    go_wp2_with fail
    with_reducible refine (spec_CycleType A p c _ _ hr (Nat.le_refl _) hl [] HCY.out).mono ?_
    rintro e w2 ⟨A2, c2, rfl, ho2, hb2⟩
    have hr1 := (hr.below hb2).more hb2.size
    have hm2 := Mid.of_below (lo := 0) (hi := 0) hb2
    go_wp2_with fail
    go_loopw [4, 5] (fun _ i wr => i = .int .i64 0 ∧ wr = w2) (fun _ i _ => 0)
    case atStart => exact ⟨rfl, rfl⟩
    case round =>
      obtain ⟨rfl, rfl⟩ := hrel
      go_wp2_with fail
      with_reducible refine (spec_IsPermutation A p c _ _ hr1 hl false (iff_of_false Bool.false_ne_true HN.out)).mono ?_
      rintro e w' ⟨rfl, nd, rfl⟩
      go_wp2_with fail
      go_ret
      exact ⟨rfl, hm2.drewN _⟩
end Go.Proofs.Ytkaofcakelpnpaa

/- Plain: the cycles, the order and the sign of a permutation are those of its elements. -/
namespace Go.Proofs.Ytkaofcakelpnpaa
set_option linter.unusedVariables false
set_option linter.unusedSimpArgs false
open Go.RowKit

/-- A permutation as a map. -/
def pf (p : List Int) (x : Nat) : Nat := (p.getD x 0).toNat
theorem pf_get {p : List Int} {x : Nat} (hp : IsPerm p) (hx : x < p.length) : p[x]? = some ((pf p x : Nat) : Int) ∧ pf p x < p.length := by
  have hm := hp.2.1 _ (List.getElem_mem hx)
  have e : pf p x = (p[x]).toNat := by unfold pf; rw [List.getD_eq_getElem?_getD, List.getElem?_eq_getElem hx]; rfl
  rw [List.getElem?_eq_getElem hx, e]
  exact ⟨by rw [Int.toNat_of_nonneg hm.1], by omega⟩
theorem IsPerm.bij {p : List Int} (hp : IsPerm p) : Bij p.length (pf p) := by
  refine ⟨fun x hx => (pf_get hp hx).2, fun x y hx hy e => ?_⟩
  have h1 := (pf_get hp hx).1
  have h2 := (pf_get hp hy).1
  rw [e] at h1
  obtain ⟨_, h1⟩ := List.getElem?_eq_some_iff.1 h1
  obtain ⟨_, h2⟩ := List.getElem?_eq_some_iff.1 h2
  have hpw := List.pairwise_iff_getElem.1 hp.2.2
  rcases Nat.lt_trichotomy x y with hl | he | hg
  · exact absurd (h1.trans h2.symm) (hpw x y hx hy hl)
  · exact he
  · exact absurd (h2.trans h1.symm) (hpw y x hy hx hg)
/-- x comes back after d steps, and not before. -/
def IsPer (f : Nat → Nat) (x d : Nat) : Prop := 0 < d ∧ itF f d x = x ∧ ∀ k, 0 < k → k < d → itF f k x ≠ x
theorem IsPer.dvd {f : Nat → Nat} {x d : Nat} (h : IsPer f x d) (m : Nat) : itF f m x = x ↔ d ∣ m := by
  constructor
  · intro hm
    have e : itF f (m % d) x = x := by
      have h1 : itF f (m % d + m / d * d) x = itF f (m % d) x := by rw [itF_add, itF_mul h.2.1]
      rw [← h1, Nat.mul_comm, Nat.mod_add_div]
      exact hm
    apply Classical.byContradiction
    intro hno
    have hpos : 0 < m % d := Nat.pos_of_ne_zero fun h0 => hno (Nat.dvd_of_mod_eq_zero h0)
    exact h.2.2 _ hpos (Nat.mod_lt _ h.1) e
  · rintro ⟨q, rfl⟩
    rw [Nat.mul_comm]
    exact itF_mul h.2.1 q
/-- The walk round an orbit that was not visited. -/
theorem cycGo_run {p : List Int} {vis : List Int} {i d : Nat} (hp : IsPerm p) (hi : i < p.length) (hd : IsPer (pf p) i d)
    (hcl : ∀ y : Nat, (y : Int) ∈ vis → y < p.length → ((pf p y : Nat) : Int) ∈ vis) (hno : (i : Int) ∉ vis) :
    ∀ (e k f : Nat), k + e = d → e < f → cycGo p f (vis ++ (List.range k).map fun j => ((itF (pf p) j i : Nat) : Int)) (itF (pf p) k i) k = (vis ++ (List.range d).map fun j => ((itF (pf p) j i : Nat) : Int), d) := by
  have hb := hp.bij
  have hcl2 : ∀ m : Nat, ∀ y : Nat, (y : Int) ∈ vis → y < p.length → ((itF (pf p) m y : Nat) : Int) ∈ vis := by
    intro m
    induction m with
    | zero => exact fun y h _ => h
    | succ m ih => exact fun y h hy => hcl _ (ih y h hy) (hb.it m y hy)
  intro e
  induction e with
  | zero =>
    intro k f hk hf
    obtain rfl : k = d := by omega
    obtain ⟨f, rfl⟩ : ∃ g, f = g + 1 := ⟨f - 1, by omega⟩
    have hin : ((itF (pf p) k i : Nat) : Int) ∈ vis ++ (List.range k).map fun j => ((itF (pf p) j i : Nat) : Int) := by
      rw [hd.2.1]
      exact List.mem_append_right _ (List.mem_map.2 ⟨0, List.mem_range.2 hd.1, rfl⟩)
    simp only [cycGo, if_pos hin]
  | succ e ih =>
    intro k f hk hf
    obtain ⟨f, rfl⟩ : ∃ g, f = g + 1 := ⟨f - 1, by omega⟩
    have hxk := hb.it k i hi
    have hout : ((itF (pf p) k i : Nat) : Int) ∉ vis ++ (List.range k).map fun j => ((itF (pf p) j i : Nat) : Int) := by
      intro hm
      rcases List.mem_append.1 hm with hm | hm
      · have h1 := hcl2 (d - k) _ hm hxk
        rw [← itF_add, show d - k + k = d by omega, hd.2.1] at h1
        exact hno h1
      · obtain ⟨j, hj, hj2⟩ := List.mem_map.1 hm
        have hj := List.mem_range.1 hj
        have e1 : itF (pf p) j i = itF (pf p) k i := by omega
        have e2 : itF (pf p) j (itF (pf p) (k - j) i) = itF (pf p) j i := by rw [← itF_add, show j + (k - j) = k by omega, e1]
        exact hd.2.2 (k - j) (by omega) (by omega) (hb.itInj j _ _ (hb.it _ _ hi) hi e2)
    have h2 := ih (k + 1) f (by omega) (by omega)
    simp only [cycGo, if_neg hout]
    rw [List.range_succ, List.map_append, ← List.append_assoc] at h2
    exact h2
/-- What is known when the first places were looked at. -/
structure CycKn (p : List Int) (i : Nat) (vis out : List Int) : Prop where
  st : cycSt p i = (vis, out)
  mem : ∀ y : Nat, y < p.length → ((y : Int) ∈ vis ↔ ∃ j, j < i ∧ Orb (pf p) j y)
  cnt : out.length = cntP (Mn (pf p)) i
  per : ∀ c ∈ out, ∃ x, x < p.length ∧ IsPer (pf p) x c.toNat
  all : ∀ y : Nat, y < p.length → (y : Int) ∈ vis → ∃ c ∈ out, itF (pf p) c.toNat y = y
theorem CycKn.get {p : List Int} (hp : IsPerm p) (i : Nat) (hi : i ≤ p.length) : ∃ vis out, CycKn p i vis out := by
  have hb := hp.bij
  induction i with
  | zero => exact ⟨[], [], rfl, by simp, rfl, by simp, by simp⟩
  | succ i ih =>
    obtain ⟨vis, out, h⟩ := ih (by omega)
    have hi2 : i < p.length := by omega
    by_cases hm : (i : Int) ∈ vis
    · have hr : cycGo p (p.length + 1) vis i 0 = (vis, 0) := by simp only [cycGo, if_pos hm]
      obtain ⟨j0, hj0, ho⟩ := (h.mem i hi2).1 hm
      refine ⟨vis, out, by simp [cycSt, h.st, hr], fun y hy => (h.mem y hy).trans ?_, ?_, h.per, h.all⟩
      · constructor
        · rintro ⟨j, hj, hj2⟩
          exact ⟨j, by omega, hj2⟩
        · rintro ⟨j, hj, hj2⟩
          by_cases e : j = i
          · subst e
            exact ⟨j0, hj0, ho.trans hj2⟩
          · exact ⟨j, by omega, hj2⟩
      · have hn : ¬ Mn (pf p) i := fun q => q j0 hj0 ho
        simp only [cntP, if_neg hn]
        exact h.cnt
    · obtain ⟨d, hd1, hd2, hd3, hd4⟩ := hb.per hi2
      have hd : IsPer (pf p) i d := ⟨hd1, hd3, hd4⟩
      have hcl : ∀ y : Nat, (y : Int) ∈ vis → y < p.length → ((pf p y : Nat) : Int) ∈ vis := fun y hy hyl => by
        obtain ⟨j, hj, ho⟩ := (h.mem y hyl).1 hy
        exact (h.mem _ (hb.to y hyl)).2 ⟨j, hj, ho.trans (Orb.one _ _)⟩
      have hr := cycGo_run hp hi2 hd hcl hm d 0 (p.length + 1) (by omega) (by omega)
      simp only [List.range_zero, List.map_nil, List.append_nil, itF] at hr
      have hmn : Mn (pf p) i := fun j hj ho => hm ((h.mem i hi2).2 ⟨j, hj, ho⟩)
      have hmem2 : ∀ y : Nat, (y : Int) ∈ ((List.range d).map fun j => ((itF (pf p) j i : Nat) : Int)) ↔ Orb (pf p) i y := by
        intro y
        constructor
        · intro hy
          obtain ⟨k, -, hk⟩ := List.mem_map.1 hy
          exact ⟨k, by omega⟩
        · rintro ⟨k, hk⟩
          refine List.mem_map.2 ⟨k % d, List.mem_range.2 (Nat.mod_lt _ hd1), ?_⟩
          have h1 : itF (pf p) (k % d + k / d * d) i = itF (pf p) (k % d) i := by rw [itF_add, itF_mul hd3]
          rw [← h1, Nat.mul_comm, Nat.mod_add_div, hk]
      refine ⟨vis ++ (List.range d).map fun j => ((itF (pf p) j i : Nat) : Int), out ++ [(d : Int)], by simp [cycSt, h.st, hr, hd1], fun y hy => ?_, ?_, ?_, ?_⟩
      · rw [List.mem_append, hmem2, h.mem y hy]
        constructor
        · rintro (⟨j, hj, hj2⟩ | ho)
          · exact ⟨j, by omega, hj2⟩
          · exact ⟨i, by omega, ho⟩
        · rintro ⟨j, hj, hj2⟩
          by_cases e : j = i
          · subst e
            exact .inr hj2
          · exact .inl ⟨j, by omega, hj2⟩
      · simp only [cntP, if_pos hmn, List.length_append, List.length_cons, List.length_nil, h.cnt]
      · intro c hc
        rcases List.mem_append.1 hc with hc | hc
        · exact h.per c hc
        · simp at hc
          subst hc
          exact ⟨i, hi2, by simpa using hd⟩
      · intro y hy hyv
        rcases List.mem_append.1 hyv with hyv | hyv
        · obtain ⟨c, hc, h1⟩ := h.all y hy hyv
          exact ⟨c, List.mem_append_left _ hc, h1⟩
        · obtain ⟨k, hk⟩ := (hmem2 y).1 hyv
          refine ⟨(d : Int), by simp, ?_⟩
          rw [Int.toNat_natCast, ← hk, ← itF_add, Nat.add_comm, itF_add, hd3]
theorem cyc_orbs {p : List Int} (hp : IsPerm p) : (cyc p).length = orbs (pf p) p.length := by
  obtain ⟨vis, out, h⟩ := CycKn.get hp p.length (Nat.le_refl _)
  unfold cyc
  rw [h.st, downL_len]
  exact h.cnt
theorem upto_nodup (n : Nat) : (upto n).Nodup := by
  unfold upto List.Nodup
  rw [List.pairwise_map]
  exact (List.pairwise_lt_range (n := n)).imp fun h => by omega
/-- The lengths of the cycles make up the whole. -/
theorem cyc_sum {p : List Int} (hp : IsPerm p) : (cyc p).sum = p.length := by
  obtain ⟨vis, out, h⟩ := CycKn.get hp p.length (Nat.le_refl _)
  obtain ⟨vis2, out2, h2⟩ := CycOut.get hp.2.1 p.length (Nat.le_refl _)
  have e := h.st.symm.trans h2.st
  injection e with e1 e2
  subst e1 e2
  have hle := h2.hv.le
  have hge := nodup_sub_len (upto p.length) vis (upto_nodup _) (fun y hy => by
    unfold upto at hy
    obtain ⟨k, hk, rfl⟩ := List.mem_map.1 hy
    have hk := List.mem_range.1 hk
    exact (h.mem k hk).2 ⟨k, hk, Orb.refl _ _⟩)
  rw [upto_len] at hge
  unfold cyc
  rw [h.st, sum_perm (downL_perm out), h2.sum]
  omega
theorem ordStep_lcm (n : Nat) (c : Int) : ordStep n c = Nat.lcm n c.toNat := by
  unfold ordStep Nat.lcm
  exact Nat.div_mul_right_comm (Nat.gcd_dvd_left _ _) _
theorem ordN_dvd (cy : List Int) (m : Nat) : ordN cy ∣ m ↔ ∀ c ∈ cy, c.toNat ∣ m := by
  have key : ∀ (cy : List Int) (a : Nat), cy.foldl ordStep a ∣ m ↔ a ∣ m ∧ ∀ c ∈ cy, c.toNat ∣ m := by
    intro cy
    induction cy with
    | nil => intro a; simp
    | cons c t ih =>
      intro a
      rw [List.foldl_cons, ih, ordStep_lcm]
      constructor
      · rintro ⟨h1, h2⟩
        refine ⟨Nat.dvd_trans (Nat.dvd_lcm_left _ _) h1, fun x hx => ?_⟩
        rcases List.mem_cons.1 hx with rfl | hx
        · exact Nat.dvd_trans (Nat.dvd_lcm_right _ _) h1
        · exact h2 x hx
      · rintro ⟨h1, h2⟩
        exact ⟨Nat.lcm_dvd h1 (h2 c List.mem_cons_self), fun x hx => h2 x (List.mem_cons_of_mem _ hx)⟩
  unfold ordN
  rw [key]
  simp
/-- The order. -/
theorem ordN_per {p : List Int} (hp : IsPerm p) (m : Nat) : (∀ x, x < p.length → itF (pf p) m x = x) ↔ ordN (cyc p) ∣ m := by
  obtain ⟨vis, out, h⟩ := CycKn.get hp p.length (Nat.le_refl _)
  have hmem : ∀ c, c ∈ cyc p ↔ c ∈ out := fun c => by
    unfold cyc
    rw [h.st]
    exact (downL_perm out).mem_iff
  rw [ordN_dvd]
  constructor
  · intro hall c hc
    obtain ⟨x, hx, hd⟩ := h.per c ((hmem c).1 hc)
    exact (hd.dvd m).1 (hall x hx)
  · intro hall x hx
    obtain ⟨c, hc, h1⟩ := h.all x hx ((h.mem x hx).2 ⟨x, hx, Orb.refl _ _⟩)
    obtain ⟨q, hq⟩ := hall c ((hmem c).2 hc)
    rw [hq, Nat.mul_comm]
    exact itF_mul h1 q
/-- The powers of a permutation. -/
def powP (p : List Int) (m : Nat) : List Int := (List.range p.length).map fun x => ((itF (pf p) m x : Nat) : Int)
theorem powP_len (p : List Int) (m : Nat) : (powP p m).length = p.length := by simp [powP]
theorem powP_zero (p : List Int) : powP p 0 = upto p.length := rfl
theorem powP_perm {p : List Int} (hp : IsPerm p) (m : Nat) : IsPerm (powP p m) := by
  refine ⟨by rw [powP_len]; exact hp.1, fun x hx => ?_, ?_⟩
  · obtain ⟨k, hk, rfl⟩ := List.mem_map.1 hx
    have := hp.bij.it m k (List.mem_range.1 hk)
    rw [powP_len]
    omega
  · unfold powP List.Nodup
    rw [List.pairwise_map]
    refine List.Pairwise.imp_of_mem ?_ (List.pairwise_lt_range (n := p.length))
    intro i j hi hj hij e
    have := hp.bij.itInj m i j (List.mem_range.1 hi) (List.mem_range.1 hj) (by omega)
    omega
theorem getD_pf {p : List Int} (hp : IsPerm p) {x : Nat} (hx : x < p.length) : p.getD x 0 = ((pf p x : Nat) : Int) := by
  rw [List.getD_eq_getElem?_getD, (pf_get hp hx).1]
  rfl
theorem powP_succ {p : List Int} (hp : IsPerm p) (m : Nat) : composeP (powP p m) p = powP p (m + 1) := by
  unfold composeP powP
  rw [List.map_map]
  refine List.map_congr_left fun x hx => ?_
  have hx := List.mem_range.1 hx
  simp only [Function.comp_apply, Int.toNat_natCast]
  rw [getD_pf hp (hp.bij.it m x hx)]
  rfl
theorem powP_id {p : List Int} (hp : IsPerm p) (m : Nat) : powP p m = upto p.length ↔ ordN (cyc p) ∣ m := by
  rw [← ordN_per hp]
  unfold powP upto
  constructor
  · intro e x hx
    have h1 := congrArg (fun l => l[x]?) e
    simp only [List.getElem?_map, List.getElem?_range hx, Option.map_some, Option.some.injEq] at h1
    omega
  · intro h
    refine List.map_congr_left fun x hx => ?_
    rw [h x (List.mem_range.1 hx)]
theorem invK_get {p : List Int} (hp : IsPerm p) : ∀ k, k ≤ p.length → ∀ x, x < k → (invK p k)[pf p x]? = some (x : Int) := by
  intro k
  induction k with
  | zero => intro _ x hx; omega
  | succ k ih =>
    intro hk x hx
    have hkl : k < p.length := by omega
    have hkk := (pf_get hp hkl).2
    show ((invK p k).set (pf p k) (k : Int))[pf p x]? = _
    rw [List.getElem?_set]
    by_cases e : x = k
    · subst e
      rw [if_pos rfl, if_pos (by rw [invK_len]; exact hkk)]
    · have hxl : x < p.length := by omega
      have hne : ¬ pf p k = pf p x := fun h => e (hp.bij.inj _ _ hxl hkl h.symm)
      rw [if_neg hne]
      exact ih (by omega) x (by omega)
theorem map_pf {p : List Int} (hp : IsPerm p) : p = (List.range p.length).map fun x => ((pf p x : Nat) : Int) := by
  refine List.ext_getElem? fun i => ?_
  rcases Nat.lt_or_ge i p.length with hi | hi
  · rw [(pf_get hp hi).1, List.getElem?_map, List.getElem?_range hi]
    rfl
  · rw [List.getElem?_eq_none hi, List.getElem?_eq_none (by simpa using hi)]
theorem inv_comp {p : List Int} (hp : IsPerm p) : composeP p (invK p p.length) = upto p.length := by
  have e : composeP p (invK p p.length) = ((List.range p.length).map fun x => ((pf p x : Nat) : Int)).map (fun x => (invK p p.length).getD x.toNat 0) := congrArg _ (map_pf hp)
  rw [e, List.map_map]
  unfold upto
  refine List.map_congr_left fun x hx => ?_
  have hx := List.mem_range.1 hx
  simp only [Function.comp_apply, Int.toNat_natCast]
  rw [List.getD_eq_getElem?_getD, invK_get hp _ (Nat.le_refl _) x hx]
  rfl
theorem invK_perm {p : List Int} (hp : IsPerm p) : IsPerm (invK p p.length) := by
  have hb := hp.bij
  have hsur : ∀ y, y < p.length → ∃ x, x < p.length ∧ pf p x = y := fun y hy => by
    obtain ⟨d, h1, -, h2⟩ := hb.back hy
    obtain ⟨k, rfl⟩ : ∃ k, d = k + 1 := ⟨d - 1, by omega⟩
    exact ⟨itF (pf p) k y, hb.it k y hy, h2⟩
  have hget : ∀ y, y < p.length → ∃ x : Nat, x < p.length ∧ (invK p p.length)[y]? = some (x : Int) ∧ pf p x = y := fun y hy => by
    obtain ⟨x, hx, rfl⟩ := hsur y hy
    exact ⟨x, hx, invK_get hp _ (Nat.le_refl _) x hx, rfl⟩
  refine ⟨by rw [invK_len]; exact hp.1, fun v hv => ?_, ?_⟩
  · obtain ⟨y, hy, e⟩ := List.getElem_of_mem hv
    rw [invK_len] at hy
    obtain ⟨x, hx, e2, -⟩ := hget y hy
    rw [List.getElem?_eq_getElem (by rw [invK_len]; exact hy), e] at e2
    injection e2 with e2
    rw [invK_len]
    omega
  · unfold List.Nodup
    rw [List.pairwise_iff_getElem]
    intro i j hi hj hij e
    rw [invK_len] at hi hj
    obtain ⟨x, hx, ex, ex2⟩ := hget i hi
    obtain ⟨y, hy, ey, ey2⟩ := hget j hj
    rw [List.getElem?_eq_getElem (by rw [invK_len]; exact hi)] at ex
    rw [List.getElem?_eq_getElem (by rw [invK_len]; exact hj), ← e, ex] at ey
    injection ey with ey
    obtain rfl : x = y := by omega
    omega
theorem compose_perm {p q : List Int} (hp : IsPerm p) (hq : IsPerm q) (hl : p.length = q.length) : IsPerm (composeP p q) ∧ (composeP p q).length = p.length ∧ ∀ x, x < p.length → pf (composeP p q) x = pf q (pf p x) := by
  have hlen : (composeP p q).length = p.length := by simp [composeP]
  have hget : ∀ x, x < p.length → (composeP p q)[x]? = some ((pf q (pf p x) : Nat) : Int) := fun x hx => by
    have h1 := pf_get hp hx
    unfold composeP
    rw [List.getElem?_map, h1.1]
    simp only [Option.map_some, Int.toNat_natCast]
    rw [getD_pf hq (by omega)]
  have hb := hp.bij
  have hc := hq.bij
  have hpf : ∀ x, x < p.length → pf (composeP p q) x = pf q (pf p x) := fun x hx => by
    show ((composeP p q).getD x 0).toNat = _
    rw [List.getD_eq_getElem?_getD, hget x hx]
    simp
  refine ⟨⟨by rw [hlen]; exact hp.1, fun v hv => ?_, ?_⟩, hlen, hpf⟩
  · obtain ⟨x, hx, e⟩ := List.getElem_of_mem hv
    rw [hlen] at hx
    have h1 := hget x hx
    rw [List.getElem?_eq_getElem (by rw [hlen]; exact hx), e] at h1
    injection h1 with h1
    have h2 := hc.to (pf p x) (by have := hb.to x hx; omega)
    rw [hlen]
    omega
  · unfold List.Nodup
    rw [List.pairwise_iff_getElem]
    intro i j hi hj hij e
    rw [hlen] at hi hj
    have h1 := hget i hi
    have h2 := hget j hj
    rw [List.getElem?_eq_getElem (by rw [hlen]; exact hi)] at h1
    rw [List.getElem?_eq_getElem (by rw [hlen]; exact hj), ← e, h1] at h2
    injection h2 with h2
    have h3 := hc.inj _ _ (by have := hb.to i hi; omega) (by have := hb.to j hj; omega) (by omega : pf q (pf p i) = pf q (pf p j))
    have := hb.inj _ _ hi hj h3
    omega
/-- The sign. -/
def sgnP (p : List Int) : Int := if (p.length - (cyc p).length) % 2 = 0 then 1 else -1
theorem sgn_comp {p q : List Int} (hp : IsPerm p) (hq : IsPerm q) (hl : p.length = q.length) : sgnP (composeP p q) = sgnP p * sgnP q := by
  obtain ⟨h1, h2, h3⟩ := compose_perm hp hq hl
  have hq' : Bij p.length (pf q) := by rw [hl]; exact hq.bij
  have h4 := orbs_comp hp.bij hq'
  have h5 : orbs (pf (composeP p q)) p.length = orbs (fun x => pf q (pf p x)) p.length := orbs_congr (by have := h1.bij; rwa [h2] at this) h3
  have l1 := cyc_len h1
  have l2 := cyc_len hp
  have l3 := cyc_len hq
  have c1 := cyc_orbs h1
  have c2 := cyc_orbs hp
  have c3 := cyc_orbs hq
  rw [h2] at l1 c1
  unfold sgnP
  rw [h2, c1, h5, c2, c3]
  rw [c1, h5] at l1
  rw [c2] at l2
  rw [c3] at l3
  rw [← hl] at l3 ⊢
  split <;> split <;> split <;> first | rfl | omega
end Go.Proofs.Ytkaofcakelpnpaa

/- Opening of arguments that came in: an int slice reads as a list. -/
namespace Go.Proofs.Ytkaofcakelpnpaa
set_option linter.unusedVariables false
set_option linter.unusedSimpArgs false
open Go.ChangeShapes Go.WideShapes Go.ChangeAt Go.RowKit
open Go.Joins

section
variable {H : Type} {enc : TypeId × Value → H} {P : Program} {W : World} {T E : TypeId}
/-- Every number of every row fits an int, and every length is one that there can be. -/
def OkSS (xss : List (List Int)) : Prop := (xss.length ≤ 9223372036854775807 ∧ ∀ xs ∈ xss, xs.length ≤ 9223372036854775807) ∧ ∀ xs ∈ xss, OkI xs

end
end Go.Proofs.Ytkaofcakelpnpaa

/- Opening of an argument that came in: a byte slice reads as a list of bytes. -/
namespace Go.Proofs.Ytkaofcakelpnpaa
set_option linter.unusedVariables false
set_option linter.unusedSimpArgs false
open Go.ChangeShapes Go.WideShapes Go.ChangeAt Go.RowKit
open Go.Joins

theorem undSU : Try.prog.underlying 22 = some (.slice 5) := by kernel_rfl
theorem undU : Try.prog.underlying 5 = some (.int .u8) := by kernel_rfl
theorem cellsU : Try.prog.cellsOf 5 = 1 := by kernel_rfl

section
variable {H : Type} {enc : TypeId × Value → H} {P : Program} {W : World} {T E : TypeId}
theorem byts_of_cells (uT : P.underlying T = some (.slice E)) (uE : P.underlying E = some (.int .u8)) (cE : P.cellsOf E = 1) {fuel : Nat} {A : Option Addr} {len c : Nat} {x : DataW H × List MemPlace}
    (h : DataW.trod enc P W 0 (fun _ => true) true fuel T [.slice A len c] = some x) : ∃ xs : List Int, len = xs.length ∧ RV W 0 W.heap.size A (byts xs) ∧ OkB xs ∧ xs.length ≤ 9223372036854775807 := by
  rcases open_ints uT uE cE h with ⟨hcs, _⟩ | ⟨a, l, cc, zs, hcs, _, hl, hm, hz, _, hcell, hwz⟩
  · simp at hcs
    obtain ⟨rfl, rfl, rfl⟩ := hcs
    exact ⟨[], rfl, ⟨Nat.le_refl _, fun hn => absurd rfl hn⟩, fun x hx => by simp at hx, by simp⟩
  · simp at hcs
    obtain ⟨rfl, rfl, rfl⟩ := hcs
    simp at hz
    refine ⟨zs.take len, by simp; omega, ⟨Nat.le_refl _, fun hn => ?_⟩, fun x hx => bounds_u8 (hwz x (List.mem_of_mem_take hx)), by unfold maxLen at hm; simp; omega⟩
    have hp : 0 < zs.length := by
      rcases Nat.eq_zero_or_pos zs.length with h0 | h0
      · have := List.eq_nil_of_length_eq_zero h0
        subst this
        simp [byts] at hn
      · exact h0
    obtain ⟨b, off, rfl, hc⟩ := ints_at hcell hp
    refine ⟨b, off, rfl, Nat.zero_le _, World.block_lt_of_cell? _ _ (hc 0 hp), fun j u hu => ?_⟩
    have hj : j < zs.length := by
      have := (List.getElem?_eq_some_iff.1 hu).1
      simp [byts] at this
      omega
    rw [hc j hj]
    unfold byts at hu
    rw [List.getElem?_map, List.getElem?_take] at hu
    split at hu
    · rw [List.getElem?_eq_getElem hj] at hu
      simp at hu
      rw [← hu]
      simp [List.getD, List.getElem?_eq_getElem hj]
    · simp at hu
theorem open_byteS (uT : P.underlying T = some (.slice E)) (uE : P.underlying E = some (.int .u8)) (cE : P.cellsOf E = 1) {r : Reach} {base : Nat} {v : Value} {d : DataW H} {ps : List MemPlace}
    (hok : Value.okWide P W r base T v) (h : DataW.Trod enc P W 0 (fun _ => true) true T v d ps) : ∃ A xs c, v = .slice A (List.length xs) c ∧ RV W 0 W.heap.size A (byts xs) ∧ OkB xs ∧ xs.length ≤ 9223372036854775807 := by
  obtain ⟨A, len, c, rfl⟩ := okWide_slice uT hok
  obtain ⟨fuel, hf⟩ := h
  obtain ⟨xs, rfl, h1, h2⟩ := byts_of_cells (A := A) (len := len) (c := c) uT uE cE (by simpa [Value.cells] using hf)
  exact ⟨A, xs, c, rfl, h1, h2⟩
end
end Go.Proofs.Ytkaofcakelpnpaa
