/- OrderOfPermutation, both sides. -/
import Derived.Test.YtchgicdjdbjfgaaL45
import Derived.IntWalk
namespace Go.Proofs.Ytchgicdjdbjfgaa
set_option linter.unusedVariables false
set_option linter.unusedSimpArgs false
open Go.RowKit

def ordStep (n : Nat) (c : Int) : Nat := n / Nat.gcd n c.toNat * c.toNat
def ordN (cy : List Int) : Nat := cy.foldl ordStep 1
structure OrdAt (cy : List Int) (k : Nat) (n : Nat) : Prop where
  val : n = ordN (cy.take k)
  pos : 1 ≤ n
  le : (n : Int) ≤ 2 ^ (cy.take k).sum.toNat
theorem sum_nonneg {cy : List Int} (h : ∀ c ∈ cy, 1 ≤ c) : 0 ≤ cy.sum := by
  induction cy with
  | nil => simp
  | cons c t ih =>
    have := h c List.mem_cons_self
    have := ih (fun x hx => h x (List.mem_cons_of_mem _ hx))
    simp; omega
theorem OrdAt.zero (cy : List Int) : OrdAt cy 0 1 := ⟨by simp [ordN], by omega, by simp⟩
theorem OrdAt.succ {cy : List Int} {k n c : Nat} (hp : ∀ c ∈ cy, 1 ≤ c) (h : OrdAt cy k n) (hc : cy[k]? = some (c : Int)) : OrdAt cy (k + 1) (n / Nat.gcd n c * c) := by
  have hc1 : 1 ≤ c := by have := hp c (List.mem_of_getElem? hc); omega
  have hg : 0 < Nat.gcd n c := Nat.gcd_pos_of_pos_left _ h.pos
  have hdv : Nat.gcd n c ≤ n := Nat.le_of_dvd h.pos (Nat.gcd_dvd_left _ _)
  have hq : 1 ≤ n / Nat.gcd n c := (Nat.one_le_div_iff hg).2 hdv
  have hs0 : 0 ≤ (cy.take k).sum := sum_nonneg (fun x hx => hp x (List.mem_of_mem_take hx))
  refine ⟨?_, Nat.mul_pos hq hc1, ?_⟩
  · rw [take_succ_of cy hc]
    simp [ordN, List.foldl_append, ordStep]
    rw [show List.foldl ordStep 1 (cy.take k) = n from h.val.symm]
  · rw [take_succ_of cy hc, List.sum_append]
    have e : ((cy.take k).sum + ([(c : Int)] : List Int).sum).toNat = (cy.take k).sum.toNat + c := by simp; omega
    rw [e, Int.pow_add]
    have h1 : (n / Nat.gcd n c : Nat) ≤ n := Nat.div_le_self _ _
    have h2 : c < 2 ^ c := Nat.lt_two_pow_self
    have h3 : ((n / Nat.gcd n c * c : Nat) : Int) ≤ ((n * 2 ^ c : Nat) : Int) := by
      have := Nat.mul_le_mul h1 (Nat.le_of_lt h2)
      omega
    refine Int.le_trans h3 ?_
    rw [Int.natCast_mul]
    have h4 : ((2 ^ c : Nat) : Int) = 2 ^ c := by simp
    rw [h4]
    exact Int.mul_le_mul_of_nonneg_right h.le (by rw [← h4]; omega)
theorem OrdAt.bound {cy : List Int} {k n : Nat} (hp : ∀ c ∈ cy, 1 ≤ c) (hs : cy.sum ≤ 40) (h : OrdAt cy k n) : n ≤ 1099511627776 := by
  have h1 : (cy.take k).sum ≤ 40 := by
    have e := List.take_append_drop k cy
    have : (cy.take k).sum + (cy.drop k).sum = cy.sum := by rw [← List.sum_append, e]
    have := sum_nonneg (fun x hx => hp x (List.mem_of_mem_drop hx) : ∀ c ∈ cy.drop k, 1 ≤ c)
    omega
  have h2 : (2 : Int) ^ (cy.take k).sum.toNat ≤ 2 ^ 40 := by
    have h3 : (2 : Nat) ^ (cy.take k).sum.toNat ≤ 2 ^ 40 := Nat.pow_le_pow_right (by omega) (by omega)
    exact_mod_cast h3
  have h5 := Int.le_trans h.le h2
  have e : (2 : Int) ^ 40 = 1099511627776 := by decide
  rw [e] at h5
  omega
theorem sum_perm {xs ys : List Int} (h : xs.Perm ys) : xs.sum = ys.sum := by
  induction h with
  | nil => rfl
  | cons x _ ih => simp [ih]
  | swap x y l => simp; omega
  | trans _ _ h1 h2 => exact h1.trans h2
theorem cyc_facts {p : List Int} (h : IsPerm p) : (∀ c ∈ cyc p, 1 ≤ c) ∧ (cyc p).sum ≤ 40 := by
  obtain ⟨vis, out, h2⟩ := CycOut.get h.2.1 p.length (Nat.le_refl _)
  have hp := downL_perm out
  unfold cyc
  rw [h2.st]
  refine ⟨fun c hc => h2.pos c (hp.mem_iff.1 hc), ?_⟩
  rw [sum_perm hp, h2.sum]
  have := h2.hv.le
  have := h.1
  omega
def OrderOfPermutationIs (p : List Int) (res : Int) : Prop := ∃ cy, CycIs p cy ∧ ((IsPerm p → res = (ordN cy : Int)) ∧ (¬ IsPerm p → res = 0))
theorem OrderOfPermutationIs_ex (p : List Int) (_ : OkI p) (_ : p.length ≤ 1048576) : ∃ res, OrderOfPermutationIs p res := by
  by_cases h : IsPerm p
  · exact ⟨_, cyc p, ⟨fun _ => rfl, fun h' => absurd h h'⟩, fun _ => rfl, fun h' => absurd h h'⟩
  · exact ⟨0, [], ⟨fun h' => absurd h' h, fun _ => rfl⟩, fun h' => absurd h' h, fun _ => rfl⟩

set_option maxHeartbeats 400000 in
theorem spec_l17Gcd (a b : Nat) (w : World) (ha : a ≤ 1099511627776) (hb : b ≤ 1099511627776) :
    Calls Try.prog 80 #[.int .i64 a, .int .i64 b] w fun e w' => e = .returned (.int .i64 (Nat.gcd a b : Nat)) ∧ w = w' := by
  go_enter Try.func80, Try.ntmps80
  go_wp2_with fail
  go_loop [0, 1, 5] (fun x y _ => ∃ a' b' : Nat, x = .int .i64 a' ∧ y = .int .i64 b' ∧ Nat.gcd a' b' = Nat.gcd a b ∧ a' ≤ 1099511627776 ∧ b' ≤ 1099511627776) (fun _ y _ => (intOf y).toNat)
  case atStart => exact ⟨a, b, rfl, rfl, rfl, ha, hb⟩
  case round =>
    obtain ⟨a', b', rfl, rfl, hg, ha', hb'⟩ := hrel
    have HG := Lib.hid hg
    clear hg
    by_cases h0 : 0 < b'
    · have h03 : (0 : Int) < (b' : Int) := by omega
      have hml := Nat.mod_lt a' h0
      go_wp2_with fail
      go_round
      case rel =>
        refine ⟨b', a' % b', rfl, by first | rfl | go_num, ?_, hb', by omega⟩
        rw [← HG.out, Nat.gcd_comm a' b', Nat.gcd_comm b' (a' % b'), ← Nat.gcd_rec]
      case measure => simp [intOf]; omega
    · obtain rfl : b' = 0 := by omega
      go_wp2_with fail
      go_ret
      have := HG.out
      rw [Nat.gcd_zero_right] at this
      subst this
      exact ⟨rfl, rfl⟩

set_option maxHeartbeats 1600000 in
theorem simpl_OrderOfPermutation (A : Option Addr) (p : List Int) (c : Nat) (w : World) (lo hi : Nat) (h : RI w lo hi A p) (_o : OkI p) (hl : p.length ≤ 1048576) (res : Int) (hres : OrderOfPermutationIs p res) :
    Calls Try.prog 37 #[.slice A p.length c] w (Stp (.int .i64 res) w) := by
  obtain ⟨cy, hcy, hr1, hr2⟩ := hres
  have hr := h.rs
  have HCY := Lib.hid hcy
  have hlc := hcy.len hl
  clear h hcy
  by_cases hp : IsPerm p
  · have HRES := Lib.hid (hr1 hp)
    have hf := cyc_facts hp
    rw [← HCY.out.1 hp] at hf
    have HF := Lib.hid hf
    have HP := Lib.hid hp
    clear hp hr1 hr2 hf
    go_enter Try.func37, Try.ntmps37
    go_wp2_with fail
    with_reducible refine (impl_IsPermutation A p c _ _ hr (Nat.le_refl _) hl true (iff_of_true rfl HP.out)).mono ?_
    rintro e w1 ⟨rfl, hb1⟩
    have hr1 := (hr.below hb1).more hb1.size
    go_wp2_with fail
    with_reducible refine (impl_CycleType A p c _ _ hr1 (Nat.le_refl _) hl cy HCY.out).mono ?_
    rintro e w2 ⟨A2, c2, rfl, ho2, hb2⟩
    have hrc : Rs w2 w2.heap.size A2 (ints cy) := Rs.of_own ho2
    have hm2 := (Mid.of_below (lo := 0) (hi := 0) hb1).trans (Mid.of_below hb2)
    go_wp2_with fail
    go_loopw [3, 5, 6, 7, 14] (fun nv _ _ _ i wr => ∃ k n : Nat, k ≤ cy.length ∧ i = .int .i64 k ∧ nv = .int .i64 n ∧ OrdAt cy k n ∧ ∃ m, wr = w2.drewN m) (fun _ _ _ _ i _ => cy.length - (intOf i).toNat)
    case atStart => exact ⟨0, 1, Nat.zero_le _, rfl, rfl, OrdAt.zero cy, 0, rfl⟩
    case round =>
      obtain ⟨k, n, hk, rfl, rfl, hat, md, rfl⟩ := hrel
      have HAT := Lib.hid hat
      have hn1 := hat.pos
      have hn2 := hat.bound HF.out.1 HF.out.2
      clear hat
      by_cases hlt : k < cy.length
      · obtain ⟨b, off, x, rfl, -, hx, hc⟩ := hrc.int hlt
        have hx1 := HF.out.1 x (List.mem_of_getElem? hx)
        obtain ⟨d, rfl⟩ : ∃ d : Nat, x = (d : Int) := ⟨x.toNat, by omega⟩
        have hnext := HAT.out.succ HF.out.1 hx
        have hnb := hnext.bound HF.out.1 HF.out.2
        have hd40 : d ≤ 1099511627776 := by
          have h1 := Nat.div_mul_le_self n (Nat.gcd n d)
          have hg : 0 < Nat.gcd n d := Nat.gcd_pos_of_pos_left _ hn1
          have hq : 1 ≤ n / Nat.gcd n d := (Nat.one_le_div_iff hg).2 (Nat.le_of_dvd hn1 (Nat.gcd_dvd_left _ _))
          have := Nat.mul_le_mul_right d hq
          omega
        have HNX := Lib.hid hnext
        clear hx hnext
        go_wp2_with fail
        go_loopw [6, 7] (fun av bv wr2 => ∃ a b' : Nat, av = .int .i64 a ∧ bv = .int .i64 b' ∧ Nat.gcd a b' = Nat.gcd n d ∧ a ≤ 1099511627776 ∧ b' ≤ 1099511627776 ∧ ∃ m, wr2 = w2.drewN m) (fun _ bv _ => (intOf bv).toNat)
        case atStart => exact ⟨n, d, rfl, rfl, rfl, hn2, hd40, md, rfl⟩
        case round =>
          obtain ⟨a, b', rfl, rfl, hg, ha, hb, m2, rfl⟩ := hrel
          have HG := Lib.hid hg
          clear hg
          by_cases h0 : b' = 0
          · subst h0
            have hga := HG.out
            rw [Nat.gcd_zero_right] at hga
            have ha1 : 1 ≤ a := by rw [hga]; exact Nat.gcd_pos_of_pos_left _ hn1
            have hnb2 : n / a * d ≤ 1099511627776 := by rw [hga]; exact hnb
            have HGA := Lib.hid hga
            have hz : (((0 : Nat) : Int) != 0) = false := by simp
            have hq0 : (0 : Int) ≤ (n : Int) / (a : Int) := Int.ediv_nonneg (by omega) (by omega)
            have hqe : (n : Int) / (a : Int) = ((n / a : Nat) : Int) := by simp
            have hmul : (n : Int) / (a : Int) * (d : Int) = ((n / a * d : Nat) : Int) := by rw [hqe, Int.natCast_mul]
            have hmb : (n : Int) / (a : Int) * (d : Int) ≤ 1099511627776 := by rw [hmul]; omega
            have hmb0 : 0 ≤ (n : Int) / (a : Int) * (d : Int) := by rw [hmul]; omega
            have HMUL := Lib.hid hmul
            clear hga hqe hmul
            go_wp2_with fail
            go_roundw
            case rel =>
              refine ⟨k + 1, n / a * d, by omega, by go_num, ?_, by rw [HGA.out]; exact HNX.out, m2, rfl⟩
              have hq1 : (n : Int) / (a : Int) ≤ 1099511627776 := by
                have h1 := Nat.div_le_self n a
                have e : (n : Int) / (a : Int) = ((n / a : Nat) : Int) := by simp
                rw [e]
                omega
              have e1 := IntWalk.wrap64_in ((n : Int) / (a : Int)) ⟨by omega, by omega⟩
              have e2 := IntWalk.wrap64_in ((n : Int) / (a : Int) * (d : Int)) ⟨by omega, by omega⟩
              show Value.int .i64 _ = Value.int .i64 ((n / a * d : Nat) : Int)
              first | rw [e1, e2, HMUL.out] | rw [e2, HMUL.out] | rw [HMUL.out]
            case measure => simp [intOf]; omega
          · have hz : ((b' : Int) != 0) = true := by simp; omega
            have hb1 : (1 : Int) ≤ (b' : Int) := by omega
            have hml := Nat.mod_lt a (show 0 < b' by omega)
            go_wp2_with fail
            go_quiet (fail)
            go_wp2_with fail
            go_roundw
            case rel =>
              refine ⟨b', a % b', rfl, ?_, ?_, hb, by omega, _, by first | rfl | exact dn _ _ _⟩
              · first | rfl | go_num | simp
              · rw [← HG.out, Nat.gcd_comm a b', Nat.gcd_comm b' (a % b'), ← Nat.gcd_rec]
            case measure =>
              have e : ((a : Int) % (b' : Int)) = ((a % b' : Nat) : Int) := by simp
              show ((a : Int) % (b' : Int)).toNat < ((b' : Int)).toNat
              rw [e]
              omega
      · obtain rfl : k = cy.length := by omega
        go_wp2_with fail
        go_ret
        have h2 := HAT.out.val
        rw [List.take_length] at h2
        have h3 := HRES.out
        rw [← h2] at h3
        subst h3
        exact ⟨rfl, hm2.drewN _⟩
  · obtain rfl : res = 0 := hr2 hp
    have HN := Lib.hid hp
    clear hp hr1 hr2
    go_enter Try.func37, Try.ntmps37
    go_wp2_with fail
    with_reducible refine (impl_IsPermutation A p c _ _ hr (Nat.le_refl _) hl false (iff_of_false Bool.false_ne_true HN.out)).mono ?_
    rintro e w1 ⟨rfl, hb1⟩
    go_wp2_with fail
    go_ret
    exact ⟨rfl, Mid.of_below hb1⟩

set_option maxHeartbeats 1600000 in
theorem sspec_OrderOfPermutation (A : Option Addr) (p : List Int) (c : Nat) (w : World) (lo hi : Nat) (h : RI w lo hi A p) (_o : OkI p) (hl : p.length ≤ 1048576) (res : Int) (hres : OrderOfPermutationIs p res) :
    Calls Try.prog 36 #[.slice A p.length c] w (Stp (.int .i64 res) w) := by
  obtain ⟨cy, hcy, hr1, hr2⟩ := hres
  have hr := h.rs
  have HCY := Lib.hid hcy
  have hlc := hcy.len hl
  clear h hcy
  by_cases hp : IsPerm p
  · have HRES := Lib.hid (hr1 hp)
    have hf := cyc_facts hp
    rw [← HCY.out.1 hp] at hf
    have HF := Lib.hid hf
    have HP := Lib.hid hp
    clear hp hr1 hr2 hf
    go_enter Try.func36, Try.ntmps36
    go_wp2_with fail
    with_reducible refine (spec_CycleType A p c _ _ hr (Nat.le_refl _) hl cy HCY.out).mono ?_
    rintro e w2 ⟨A2, c2, rfl, ho2, hb2⟩
    have hrc : Rs w2 w2.heap.size A2 (ints cy) := Rs.of_own ho2
    have hr1 := (hr.below hb2).more hb2.size
    have hm2 := Mid.of_below (lo := 0) (hi := 0) hb2
    go_wp2_with fail
    go_loopw [4, 5] (fun nv i wr => ∃ k n : Nat, k ≤ cy.length ∧ i = .int .i64 k ∧ nv = .int .i64 n ∧ OrdAt cy k n ∧ ∃ m, wr = w2.drewN m) (fun _ i _ => cy.length - (intOf i).toNat)
    case atStart => exact ⟨0, 1, Nat.zero_le _, rfl, rfl, OrdAt.zero cy, 0, rfl⟩
    case round =>
      obtain ⟨k, n, hk, rfl, rfl, hat, md, rfl⟩ := hrel
      have HAT := Lib.hid hat
      have hn1 := hat.pos
      have hn2 := hat.bound HF.out.1 HF.out.2
      clear hat
      by_cases hlt : k < cy.length
      · obtain ⟨b, off, x, rfl, -, hx, hc⟩ := hrc.int hlt
        have hx1 := HF.out.1 x (List.mem_of_getElem? hx)
        obtain ⟨d, rfl⟩ : ∃ d : Nat, x = (d : Int) := ⟨x.toNat, by omega⟩
        have hnext := HAT.out.succ HF.out.1 hx
        have hnb := hnext.bound HF.out.1 HF.out.2
        have hg1 : 1 ≤ Nat.gcd n d := Nat.gcd_pos_of_pos_left _ hn1
        have hd40 : d ≤ 1099511627776 := by
          have hq : 1 ≤ n / Nat.gcd n d := (Nat.one_le_div_iff hg1).2 (Nat.le_of_dvd hn1 (Nat.gcd_dvd_left _ _))
          have := Nat.mul_le_mul_right d hq
          omega
        have HNX := Lib.hid hnext
        obtain ⟨gg, hgg⟩ : ∃ gg, gg = Nat.gcd n d := ⟨_, rfl⟩
        rw [← hgg] at hnb hg1
        have hC := fun W => spec_l17Gcd n d W hn2 hd40
        rw [← hgg] at hC
        have HC := Lib.hid hC
        have HGG := Lib.hid hgg
        have hk3 : (k : Int) < (cy.length : Int) := by omega
        have hk0 : (0 : Int) ≤ (k : Int) := by omega
        have hg3 : (1 : Int) ≤ (gg : Int) := by omega
        have hn0 : (0 : Int) ≤ (n : Int) := by omega
        clear hx hnext hgg hC
        go_wp2_with fail
        go_quiet ((go_at_call 80; first | exact qz0 (pq (HC.out _)) | exact qz1 (pq (HC.out _))))
        go_wp2_with fail
        go_roundw
        case rel =>
          refine ⟨k + 1, n / gg * d, by omega, by go_num, ?_, by rw [HGG.out]; exact HNX.out, _, by first | rfl | exact dn _ _ _⟩
          have h1 := Nat.div_le_self n gg
          have e : (n : Int) / (gg : Int) = ((n / gg : Nat) : Int) := by simp
          have p0 : (0 : Int) ≤ ((n / gg : Nat) : Int) := Int.natCast_nonneg _
          have p1 : ((n / gg : Nat) : Int) ≤ 1099511627776 := by
            have h5 : n / gg ≤ 1099511627776 := Nat.le_trans h1 hn2
            exact Int.ofNat_le.2 h5
          have e1 := IntWalk.wrap64_in ((n : Int) / (gg : Int)) ⟨by rw [e]; exact Int.le_trans (by decide) p0, by rw [e]; exact Int.le_trans p1 (by decide)⟩
          have em : (n : Int) / (gg : Int) * (d : Int) = ((n / gg * d : Nat) : Int) := by rw [e, Int.natCast_mul]
          have q0 : (0 : Int) ≤ ((n / gg * d : Nat) : Int) := Int.natCast_nonneg _
          have q1 : ((n / gg * d : Nat) : Int) ≤ 1099511627776 := Int.ofNat_le.2 hnb
          have e2 := IntWalk.wrap64_in ((n : Int) / (gg : Int) * (d : Int)) ⟨by rw [em]; exact Int.le_trans (by decide) q0, by rw [em]; exact Int.le_trans q1 (by decide)⟩
          show Value.int .i64 _ = Value.int .i64 ((n / gg * d : Nat) : Int)
          first | rw [e1, e2, em] | rw [e2, em] | rw [em]
        case measure => simp [intOf]; omega
      · obtain rfl : k = cy.length := by omega
        go_wp2_with fail
        with_reducible refine (spec_IsPermutation A p c _ _ (hr1.drewN md) hl true (iff_of_true rfl HP.out)).mono ?_
        rintro e w' ⟨rfl, nd, rfl⟩
        go_wp2_with fail
        go_ret
        have h2 := HAT.out.val
        rw [List.take_length] at h2
        have h3 := HRES.out
        rw [← h2] at h3
        subst h3
        exact ⟨rfl, by first | exact hm2.drewN _ | exact (hm2.drewN _).drewN _⟩
  · obtain rfl : res = 0 := hr2 hp
    have HN := Lib.hid hp
    obtain rfl : cy = [] := HCY.out.2 hp
    clear hp hr1 hr2
    go_enter Try.func36, Try.ntmps36
    go_wp2_with fail
    with_reducible refine (spec_CycleType A p c _ _ hr (Nat.le_refl _) hl [] HCY.out).mono ?_
    rintro e w2 ⟨A2, c2, rfl, ho2, hb2⟩
    have hr1 := (hr.below hb2).more hb2.size
    have hm2 := Mid.of_below (lo := 0) (hi := 0) hb2
    go_wp2_with fail
    go_loopw [4, 5] (fun _ i wr => i = .int .i64 0 ∧ wr = w2) (fun _ i _ => 0)
    case atStart => exact ⟨rfl, rfl⟩
    case round =>
      obtain ⟨rfl, rfl⟩ := hrel
      go_wp2_with fail
      with_reducible refine (spec_IsPermutation A p c _ _ hr1 hl false (iff_of_false Bool.false_ne_true HN.out)).mono ?_
      rintro e w' ⟨rfl, nd, rfl⟩
      go_wp2_with fail
      go_ret
      exact ⟨rfl, hm2.drewN _⟩
end Go.Proofs.Ytchgicdjdbjfgaa
