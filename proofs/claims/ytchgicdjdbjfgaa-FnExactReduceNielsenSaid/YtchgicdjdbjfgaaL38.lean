/- IsNielsenReduced, both sides. -/
import Derived.Test.YtchgicdjdbjfgaaL34
import Derived.Test.YtchgicdjdbjfgaaL37
namespace Go.Proofs.Ytchgicdjdbjfgaa
set_option linter.unusedVariables false
set_option linter.unusedSimpArgs false
open Go.RowKit

set_option maxHeartbeats 400000 in
theorem spec_l20Words (A : Option Addr) (d : List (List Int)) (c : Nat) (w : World) (lo hi : Nat) (hr : RSS w lo hi A d) (hok : ∀ xs ∈ d, OkI xs) (hl : d.length + sumL d ≤ 1048576) (r : Bool) (hres : r = true ↔ AreW 3 d) :
    Calls Try.prog 62 #[.slice A d.length c] w fun e w' => e = .returned (.bool r) ∧ ∃ n, w' = w.drewN n := by
  have HOK := Lib.hid hok
  have HR := Lib.hid hres
  clear hok hres
  go_enter Try.func62, Try.ntmps62
  go_wp2_with fail
  with_reducible refine (spec_AreWords 3 A d c _ _ _ hr HOK.out hl r HR.out).mono ?_
  rintro e w' ⟨rfl, n, rfl⟩
  go_wp2_with fail
  go_ret
  exact ⟨rfl, _, rfl⟩

abbrev RetNE (d : List (List Int)) (w : World) (e : Ending) (w' : World) : Prop := e = .returned (.tuple #[.agg #[.int .i64 (mvD (nextM d)).kind, .int .i64 (mvD (nextM d)).i, .int .i64 (mvD (nextM d)).j, .int .i64 (mvD (nextM d)).sign], .bool (nextM d).isSome]) ∧ Mid 0 0 w w'
theorem impl_NextMoveE (A : Option Addr) (d : List (List Int)) (c : Nat) (w : World) (lo hi : Nat) (hr : RSC w lo hi A d) (hok : ∀ xs ∈ d, OkI xs) (hl : d.length + sumL d ≤ 1048576) :
    Calls Try.prog 64 #[.slice A d.length c] w (RetNE d w) := impl_NextMove A d c w lo hi hr hok hl
theorem spec_NextMoveE (A : Option Addr) (d : List (List Int)) (c : Nat) (w : World) (lo hi : Nat) (hr : RSC w lo hi A d) (hok : ∀ xs ∈ d, OkI xs) (hl : d.length + sumL d ≤ 1048576) :
    Calls Try.prog 61 #[.slice A d.length c] w (RetNE d w) := spec_NextMove A d c w lo hi hr hok hl

def IsNielsenReducedIs (d : List (List Int)) (res : Bool) : Prop := res = true ↔ (AreW 3 d ∧ nextM d = none)
theorem IsNielsenReducedIs_ex (d : List (List Int)) (_ : OkSS d) (_ : d.length + sumL d ≤ 1048576) : ∃ res, IsNielsenReducedIs d res := bool_of _
theorem isSome_eq (o : Option Mv) : (o.isSome = true ∧ ¬ o = none) ∨ (o.isSome = false ∧ o = none) := by cases o <;> simp

set_option maxHeartbeats 800000 in
theorem simpl_IsNielsenReduced (A : Option Addr) (d : List (List Int)) (c : Nat) (w : World) (lo hi : Nat) (h : OSS w lo hi 27 3 A c d) (ho : OkSS d) (hl : d.length + sumL d ≤ 1048576) (res : Bool) (hres : IsNielsenReducedIs d res) :
    Calls Try.prog 18 #[.slice A d.length c] w (Stp (.bool res) w) := by
  have hr := h.rsc
  have HOK := Lib.hid ho.2
  have HR := Lib.hid hres
  clear h hres
  obtain ⟨v, hv⟩ := bool_of (AreW 3 d)
  have HV := Lib.hid hv
  clear hv
  cases hvc : v with
  | false =>
    subst hvc
    have hn : ¬ AreW 3 d := fun h => by have := HV.out.2 h; cases this
    obtain rfl : res = false := bool_false HR.out (fun h => hn h.1)
    have HN := Lib.hid hn
    clear HV hn
    go_enter Try.func18, Try.ntmps18
    go_wp2_with fail
    with_reducible refine (impl_AreWords 3 A d c _ _ _ hr.rss HOK.out hl false (iff_of_false Bool.false_ne_true HN.out)).mono ?_
    rintro e w' ⟨rfl, rfl⟩
    go_wp2_with fail
    go_ret
    exact ⟨rfl, Mid.refl _ _ _⟩
  | true =>
    subst hvc
    have HV2 := Lib.hid (HV.out.1 rfl)
    clear HV
    rcases isSome_eq (nextM d) with ⟨h1, h2⟩ | ⟨h1, h2⟩
    · obtain rfl : res = false := bool_false HR.out (fun h => h2 h.2)
      have H1 := Lib.hid h1
      clear h1 h2 HR
      go_enter Try.func18, Try.ntmps18
      go_wp2_with fail
      with_reducible refine (impl_AreWords 3 A d c _ _ _ hr.rss HOK.out hl true (iff_of_true rfl HV2.out)).mono ?_
      rintro e w' ⟨rfl, rfl⟩
      go_wp2_with fail
      with_reducible refine (impl_NextMoveE A d c _ _ _ hr HOK.out hl).mono ?_
      rintro e w1 ⟨rfl, hm1⟩
      rw [H1.out]
      go_wp2_with fail
      go_ret
      exact ⟨rfl, hm1.trans (Mid.alloc _ _)⟩
    · obtain rfl : res = true := HR.out.2 ⟨HV2.out, h2⟩
      have H1 := Lib.hid h1
      clear h1 h2 HR
      go_enter Try.func18, Try.ntmps18
      go_wp2_with fail
      with_reducible refine (impl_AreWords 3 A d c _ _ _ hr.rss HOK.out hl true (iff_of_true rfl HV2.out)).mono ?_
      rintro e w' ⟨rfl, rfl⟩
      go_wp2_with fail
      with_reducible refine (impl_NextMoveE A d c _ _ _ hr HOK.out hl).mono ?_
      rintro e w1 ⟨rfl, hm1⟩
      rw [H1.out]
      go_wp2_with fail
      go_ret
      exact ⟨rfl, hm1.trans (Mid.alloc _ _)⟩

set_option maxHeartbeats 800000 in
theorem sspec_IsNielsenReduced (A : Option Addr) (d : List (List Int)) (c : Nat) (w : World) (lo hi : Nat) (h : OSS w lo hi 27 3 A c d) (ho : OkSS d) (hl : d.length + sumL d ≤ 1048576) (res : Bool) (hres : IsNielsenReducedIs d res) :
    Calls Try.prog 16 #[.slice A d.length c] w (Stp (.bool res) w) := by
  have hr := h.rsc
  have HOK := Lib.hid ho.2
  have HR := Lib.hid hres
  clear h hres
  obtain ⟨v, hv⟩ := bool_of (AreW 3 d)
  have HV := Lib.hid hv
  clear hv
  cases hvc : v with
  | false =>
    subst hvc
    have hn : ¬ AreW 3 d := fun h => by have := HV.out.2 h; cases this
    obtain rfl : res = false := bool_false HR.out (fun h => hn h.1)
    have HN := Lib.hid hn
    clear HV hn
    go_enter Try.func16, Try.ntmps16
    go_wp2_with fail
    with_reducible refine (spec_NextMoveE A d c _ _ _ hr HOK.out hl).mono ?_
    rintro e w1 ⟨rfl, hm1⟩
    have hr1 := hr.mid (hm1.trans (Mid.alloc w1 (.cells #[.int .i64 (mvD (nextM d)).kind, .int .i64 (mvD (nextM d)).i, .int .i64 (mvD (nextM d)).j, .int .i64 (mvD (nextM d)).sign] 68))) (Or.inl (Nat.zero_le _))
    go_wp2_with fail
    refine (spec_l20Words A d c _ _ _ hr1.rss HOK.out hl false (iff_of_false Bool.false_ne_true HN.out)).mono ?_
    rintro e w2 ⟨rfl, n, rfl⟩
    go_wp2_with fail
    go_ret
    exact ⟨rfl, (hm1.trans (Mid.alloc _ _)).drewN _⟩
  | true =>
    subst hvc
    have HV2 := Lib.hid (HV.out.1 rfl)
    clear HV
    rcases isSome_eq (nextM d) with ⟨h1, h2⟩ | ⟨h1, h2⟩
    · obtain rfl : res = false := bool_false HR.out (fun h => h2 h.2)
      have H1 := Lib.hid h1
      clear h1 h2 HR
      go_enter Try.func16, Try.ntmps16
      go_wp2_with fail
      with_reducible refine (spec_NextMoveE A d c _ _ _ hr HOK.out hl).mono ?_
      rintro e w1 ⟨rfl, hm1⟩
      rw [H1.out]
      have hr1 := hr.mid (hm1.trans (Mid.alloc w1 (.cells #[.int .i64 (mvD (nextM d)).kind, .int .i64 (mvD (nextM d)).i, .int .i64 (mvD (nextM d)).j, .int .i64 (mvD (nextM d)).sign] 68))) (Or.inl (Nat.zero_le _))
      go_wp2_with fail
      refine (spec_l20Words A d c _ _ _ hr1.rss HOK.out hl true (iff_of_true rfl HV2.out)).mono ?_
      rintro e w2 ⟨rfl, n, rfl⟩
      go_wp2_with fail
      go_ret
      exact ⟨rfl, (hm1.trans (Mid.alloc _ _)).drewN _⟩
    · obtain rfl : res = true := HR.out.2 ⟨HV2.out, h2⟩
      have H1 := Lib.hid h1
      clear h1 h2 HR
      go_enter Try.func16, Try.ntmps16
      go_wp2_with fail
      with_reducible refine (spec_NextMoveE A d c _ _ _ hr HOK.out hl).mono ?_
      rintro e w1 ⟨rfl, hm1⟩
      rw [H1.out]
      have hr1 := hr.mid (hm1.trans (Mid.alloc w1 (.cells #[.int .i64 (mvD (nextM d)).kind, .int .i64 (mvD (nextM d)).i, .int .i64 (mvD (nextM d)).j, .int .i64 (mvD (nextM d)).sign] 68))) (Or.inl (Nat.zero_le _))
      go_wp2_with fail
      refine (spec_l20Words A d c _ _ _ hr1.rss HOK.out hl true (iff_of_true rfl HV2.out)).mono ?_
      rintro e w2 ⟨rfl, n, rfl⟩
      go_wp2_with fail
      go_ret
      exact ⟨rfl, (hm1.trans (Mid.alloc _ _)).drewN _⟩
end Go.Proofs.Ytchgicdjdbjfgaa
