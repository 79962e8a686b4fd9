/- Contracts: IsPermutation of the program and of the reference. -/
import Derived.Test.YtchgicdjdbjfgaaL2
import Derived.Test.YtchgicdjdbjfgaaM1
namespace Go.Proofs.Ytchgicdjdbjfgaa
set_option linter.unusedVariables false
set_option linter.unusedSimpArgs false
open Go.RowKit

/-- seen: which of the first n numbers stand among l -/
def seenOf (n : Nat) (l : List Int) : List Value := (List.range n).map (fun (j : Nat) => Value.bool (decide ((j : Int) ∈ l)))
theorem seenOf_nil (n : Nat) : seenOf n [] = List.replicate n (.bool false) := by
  unfold seenOf
  apply List.ext_getElem <;> simp
theorem seenOf_get {n j : Nat} {l : List Int} (h : j < n) : (seenOf n l)[j]? = some (.bool (decide ((j : Int) ∈ l))) := by simp [seenOf, h]
theorem seenOf_set {n m : Nat} {l : List Int} (_h : m < n) : (seenOf n l).set m (.bool true) = seenOf n (l ++ [(m : Int)]) := by
  unfold seenOf
  apply List.ext_getElem
  · simp
  · intro i h1 h2
    rw [List.getElem_set]
    by_cases e : m = i
    · subst e
      simp
    · simp [e]
      intro e'
      omega

set_option maxHeartbeats 800000 in
theorem impl_IsPermutation (A : Option Addr) (p : List Int) (c B : Nat) (w : World) (hr : Rs w B A (ints p)) (hB : B ≤ w.heap.size) (hl : p.length ≤ 1048576) (r : Bool) (hres : r = true ↔ IsPerm p) :
    Calls Try.prog 66 #[.slice A p.length c] w fun e w' => e = .returned (.bool r) ∧ Below w.heap.size w w' := by
  have HR := Lib.hid hres
  clear hres
  by_cases hbig : 40 < p.length
  · go_enter Try.func66, Try.ntmps66
    go_wp2_with fail
    go_ret
    have hf : r = false := by
      cases r with
      | false => rfl
      | true => have := (HR.out.1 rfl).1; omega
    subst hf
    exact ⟨rfl, Below.refl _ _⟩
  · have hmx : p.length ≤ maxLen := by unfold maxLen; omega
    go_enter Try.func66, Try.ntmps66
    go_wp2_with (at_make; refine wpList_mk rfl _ _ 72 rfl 4 (.bool false) 1 undSB infoB rfl .i64 .i64 _ _ p.length rfl rfl rfl rfl (by omega) hmx ?_; intro w1 hown1 hgr1 hsz1)
    have hb1 := below_none hgr1
    go_loopw [5, 14] (fun _ i wr => ∃ k : Nat, k ≤ p.length ∧ i = .int .i64 k ∧ wr.ownsRow w.heap.size 4 1 (.slice (some ⟨w.heap.size, 0, none⟩) p.length p.length) p.length (seenOf p.length (p.take k)) ∧ Below w.heap.size w wr ∧ (∀ x ∈ p.take k, 0 ≤ x ∧ x < p.length) ∧ (p.take k).Nodup)
      (fun _ i _ => p.length - (intOf i).toNat)
    case atStart => exact ⟨0, Nat.zero_le _, rfl, by simpa [seenOf_nil] using hown1, hb1, by simp, by simp⟩
    case round =>
      obtain ⟨k, hk, rfl, hown, hb, hin, hnd⟩ := hrel
      have HI := Lib.hid hin
      have HN := Lib.hid hnd
      clear hin hnd
      by_cases hlt : k < p.length
      · obtain ⟨b, off, x, rfl, -, hx, hc⟩ := ((hr.more hB).below hb).int hlt
        have HX := Lib.hid hx
        clear hx
        by_cases hxi : 0 ≤ x ∧ x < p.length
        · obtain ⟨m, rfl⟩ : ∃ m : Nat, x = m := ⟨x.toNat, by omega⟩
          have hm : m < p.length := by omega
          have hi : inB (m : Int) 0 ((p.length : Int) - 1) = true := by simp [inB]; omega
          obtain ⟨u, hu0, hu⟩ := owns_cell hown hm
          rw [seenOf_get hm] at hu0
          obtain rfl := Option.some.inj hu0
          clear hu0
          have hfz := hown.frozenAt m
          by_cases hse : (m : Int) ∈ p.take k
          · have hd : decide ((m : Int) ∈ p.take k) = true := by simpa using hse
            rw [hd] at hu
            have HSE := Lib.hid hse
            clear hse hd
            go_wp2_with (go_at_call 76; refine (within_any _ _ _ _).mono ?_; rintro e w' ⟨rfl, rfl⟩)
            go_ret
            have hf : r = false := by
              cases r with
              | false => rfl
              | true => exact absurd (HR.out.1 rfl).2.2 (not_nodup_of HX.out HSE.out)
            subst hf
            exact ⟨rfl, hb⟩
          · have hd : decide ((m : Int) ∈ p.take k) = false := by simpa using hse
            rw [hd] at hu
            have HSE := Lib.hid hse
            clear hse hd
            go_wp2_with (go_at_call 76; refine (within_any _ _ _ _).mono ?_; rintro e w' ⟨rfl, rfl⟩)
            go_roundw
            case rel =>
              refine ⟨k + 1, by omega, by go_num, owns_set hown m _ ?_, hb.setCell (Nat.le_refl _) _, ?_, (nodup_take_succ HX.out).2 ⟨HN.out, HSE.out⟩⟩
              · rw [seenOf_set hm, take_succ_of p HX.out]
              · intro y hy
                rcases (mem_take_succ HX.out).1 hy with hy | rfl
                · exact HI.out y hy
                · exact hxi
            case measure => simp [intOf]; omega
        · have hi : inB x 0 ((p.length : Int) - 1) = false := by simp [inB]; omega
          go_wp2_with (go_at_call 76; refine (within_any _ _ _ _).mono ?_; rintro e w' ⟨rfl, rfl⟩)
          go_ret
          have hf : r = false := by
            cases r with
            | false => rfl
            | true => exact absurd ((HR.out.1 rfl).2.1 x (mem_of_get HX.out)) hxi
          subst hf
          exact ⟨rfl, hb⟩
      · go_wp2_with fail
        go_ret
        have hkl : k = p.length := by omega
        have ht : p.take k = p := by rw [hkl]; exact List.take_length
        have hf : r = true := HR.out.2 ⟨by omega, by have := HI.out; rwa [ht] at this, by have := HN.out; rwa [ht] at this⟩
        subst hf
        exact ⟨rfl, hb⟩

set_option maxHeartbeats 800000 in
theorem spec_IsPermutation (A : Option Addr) (p : List Int) (c B : Nat) (w : World) (hr : Rs w B A (ints p)) (hl : p.length ≤ 1048576) (r : Bool) (hres : r = true ↔ IsPerm p) :
    Calls Try.prog 65 #[.slice A p.length c] w fun e w' => e = .returned (.bool r) ∧ ∃ n, w' = w.drewN n := by
  have HR := Lib.hid hres
  clear hres
  go_enter Try.func65, Try.ntmps65
  go_wp2_with fail
  go_loopw [3, 4] (fun i _ wr => ∃ k : Nat, k ≤ p.length ∧ i = .int .i64 k ∧ (∃ n, wr = w.drewN n) ∧ (∀ x ∈ p.take k, 0 ≤ x ∧ x < p.length) ∧ (p.take k).Nodup)
    (fun i _ _ => p.length - (intOf i).toNat)
  case atStart => exact ⟨0, Nat.zero_le _, rfl, ⟨0, rfl⟩, by simp, by simp⟩
  case round =>
    obtain ⟨k, hk, rfl, ⟨nd, rfl⟩, hin, hnd⟩ := hrel
    have HI := Lib.hid hin
    have HN := Lib.hid hnd
    clear hin hnd
    by_cases hlt : k < p.length
    · obtain ⟨b, off, x, rfl, -, hx, hc⟩ := hr.int hlt
      have HX := Lib.hid hx
      clear hx
      by_cases hxi : 0 ≤ x ∧ x < p.length
      · have hi : inB x 0 ((p.length : Int) - 1) = true := by simp [inB]; omega
        go_wp2_with (go_at_call 71; refine (l1In_any _ _ _ _).mono ?_; rintro e w' ⟨rfl, rfl⟩)
        go_loopw [4] (fun j wr => ∃ l : Nat, l ≤ k ∧ j = .int .i64 l ∧ (∃ n, wr = w.drewN n) ∧ x ∉ p.take l)
          (fun j _ => k - (intOf j).toNat)
        case atStart => exact ⟨0, Nat.zero_le _, rfl, ⟨_, rfl⟩, by simp⟩
        case round =>
          obtain ⟨l, hlk, rfl, ⟨nd2, rfl⟩, hno⟩ := hrel
          have HNO := Lib.hid hno
          clear hno
          by_cases hl2 : l < k
          · obtain ⟨b', off', y, hA', -, hy, hc'⟩ := hr.int (show l < p.length by omega)
            injection hA' with hA'
            injection hA' with hA1 hA2
            subst hA1
            subst hA2
            have HY := Lib.hid hy
            clear hy
            by_cases hyx : (y == x) = true
            · go_wp2_with fail
              go_quiet (fail)
              go_wp2_with fail
              go_ret
              have hf : r = false := by
                cases r with
                | false => rfl
                | true =>
                  refine absurd (HR.out.1 rfl).2.2 (not_nodup_of HX.out ?_)
                  have e : y = x := by simpa using hyx
                  rw [← e]
                  exact List.mem_of_getElem? (by rw [List.getElem?_take, if_pos hl2]; exact HY.out)
              subst hf
              exact ⟨rfl, _, dn _ _ _⟩
            · have hyx' : (y == x) = false := by simpa using hyx
              clear hyx
              go_wp2_with fail
              go_quiet (fail)
              go_wp2_with fail
              go_roundw
              case rel =>
                refine ⟨l + 1, by omega, by go_num, ⟨_, rfl⟩, fun hm => ?_⟩
                rcases (mem_take_succ HY.out).1 hm with hm | hm
                · exact HNO.out hm
                · subst hm
                  simp at hyx'
              case measure => simp [intOf]; omega
          · go_wp2_with fail
            go_roundw
            case rel =>
              have hlk' : l = k := by omega
              subst hlk'
              refine ⟨l + 1, by omega, by go_num, ⟨_, rfl⟩, ?_, (nodup_take_succ HX.out).2 ⟨HN.out, HNO.out⟩⟩
              intro y hy
              rcases (mem_take_succ HX.out).1 hy with hy | rfl
              · exact HI.out y hy
              · exact hxi
            case measure => simp [intOf]; omega
      · have hi : inB x 0 ((p.length : Int) - 1) = false := by simp [inB]; omega
        go_wp2_with (go_at_call 71; refine (l1In_any _ _ _ _).mono ?_; rintro e w' ⟨rfl, rfl⟩)
        go_ret
        have hf : r = false := by
          cases r with
          | false => rfl
          | true => exact absurd ((HR.out.1 rfl).2.1 x (mem_of_get HX.out)) hxi
        subst hf
        exact ⟨rfl, _, rfl⟩
    · by_cases hbig : 40 < p.length
      · go_wp2_with fail
        go_ret
        have hf : r = false := by
          cases r with
          | false => rfl
          | true => have := (HR.out.1 rfl).1; omega
        subst hf
        exact ⟨by simp; omega, _, rfl⟩
      · go_wp2_with fail
        go_ret
        have hkl : k = p.length := by omega
        have ht : p.take k = p := by rw [hkl]; exact List.take_length
        have hf : r = true := HR.out.2 ⟨by omega, by have := HI.out; rwa [ht] at this, by have := HN.out; rwa [ht] at this⟩
        subst hf
        exact ⟨by simp; omega, _, rfl⟩
end Go.Proofs.Ytchgicdjdbjfgaa
