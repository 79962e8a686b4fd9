
/- l4Add, StepsFrom and NextVertex, the reference. -/
import Derived.Test.YtkcfbcbkokabdaaG18
namespace Go.Proofs.Ytkcfbcbkokabdaa
set_option linter.unusedVariables false
set_option linter.unusedSimpArgs false
open Go.RowKit

/-- A number put into an ascending list, once. -/
def putI (x : Int) : List Int → List Int
  | [] => [x]
  | y :: t => if x < y then x :: y :: t else if x = y then y :: t else y :: putI x t
theorem mem_putI {x y : Int} {l : List Int} : y ∈ putI x l ↔ y = x ∨ y ∈ l := by
  induction l with
  | nil => simp [putI]
  | cons z t ih =>
    rw [putI]
    split
    · simp
    · split
      · rename_i h
        subst h
        simp
      · rw [List.mem_cons, ih, List.mem_cons]
        constructor
        · rintro (h | h | h)
          · exact .inr (.inl h)
          · exact .inl h
          · exact .inr (.inr h)
        · rintro (h | h | h)
          · exact .inr (.inl h)
          · exact .inl h
          · exact .inr (.inr h)
theorem putI_sorted {x : Int} {l : List Int} (h : l.Pairwise (· < ·)) : (putI x l).Pairwise (· < ·) := by
  induction l with
  | nil => simp [putI]
  | cons z t ih =>
    obtain ⟨h1, h2⟩ := List.pairwise_cons.1 h
    rw [putI]
    split
    · rename_i hlt
      refine List.pairwise_cons.2 ⟨fun y hy => ?_, h⟩
      rcases List.mem_cons.1 hy with rfl | hy
      · exact hlt
      · have := h1 y hy
        omega
    · split
      · exact h
      · refine List.pairwise_cons.2 ⟨fun y hy => ?_, ih h2⟩
        rcases mem_putI.1 hy with rfl | hy
        · omega
        · exact h1 y hy
theorem putI_len (x : Int) (l : List Int) : (putI x l).length ≤ l.length + 1 := by
  induction l with
  | nil => simp [putI]
  | cons z t ih =>
    rw [putI]
    split
    · simp
    · split
      · simp
      · simp; omega
theorem putI_all {x : Int} {xs : List Int} (h : ∀ y ∈ xs, y < x) : putI x xs = xs ++ [x] := by
  induction xs with
  | nil => rfl
  | cons y t ih =>
    have hy := h y (by simp)
    rw [putI, if_neg (by omega), if_neg (by omega), ih fun f hf => h f (by simp [hf])]
    rfl
theorem putI_same {x : Int} {xs : List Int} (h : ∀ y ∈ xs, y < x) : putI x (xs ++ [x]) = xs ++ [x] := by
  induction xs with
  | nil => simp [putI]
  | cons y t ih =>
    have hy := h y (by simp)
    rw [List.cons_append, putI, if_neg (by omega), if_neg (by omega), ih fun f hf => h f (by simp [hf])]
theorem putI_ahead {x f : Int} {xs : List Int} (h : ∀ y ∈ xs, y < x) (hf : x < f) : putI x (xs ++ [f]) = xs ++ [x] ++ [f] := by
  induction xs with
  | nil => simp [putI, hf]
  | cons y t ih =>
    have hy := h y (by simp)
    rw [List.cons_append, putI, if_neg (by omega), if_neg (by omega), ih fun f hf => h f (by simp [hf])]
    simp
theorem putI_done {x f : Int} {xs : List Int} (h : ∃ y ∈ xs, ¬ y < x) : putI x (xs ++ [f]) = putI x xs ++ [f] := by
  induction xs with
  | nil => obtain ⟨g, hg, -⟩ := h; simp at hg
  | cons y t ih =>
    rw [List.cons_append, putI, putI]
    split
    · simp
    · split
      · simp
      · rename_i h1 h2
        rw [ih]
        · simp
        · obtain ⟨g', hg', hn⟩ := h
          rcases List.mem_cons.1 hg' with rfl | hg'
          · omega
          · exact ⟨g', hg', hn⟩
theorem take_snocI {l : List Int} {k : Nat} {x : Int} (h : l[k]? = some x) : l.take (k + 1) = l.take k ++ [x] := by
  obtain ⟨hk, h'⟩ := List.getElem?_eq_some_iff.1 h
  rw [List.take_succ_eq_append_getElem hk, h']
/-- The loop's state behind the first i. -/
def AddAt (x : Int) (l : List Int) (i : Nat) (p : Bool) (xs : List Int) : Prop :=
  if p = true then xs = putI x (l.take i) ∧ ∃ y ∈ l.take i, ¬ y < x else xs = l.take i ∧ ∀ y ∈ l.take i, y < x
section
variable {x f : Int} {l xs : List Int} {i : Nat}
theorem AddAt.zero (x : Int) (l : List Int) : AddAt x l 0 false [] := ⟨by simp, by simp⟩
theorem AddAt.on (h : AddAt x l i true xs) (hf : l[i]? = some f) : AddAt x l (i + 1) true (xs ++ [f]) := by
  obtain ⟨h1, h2⟩ := h
  refine ⟨by rw [take_snocI hf, putI_done h2, h1], ?_⟩
  obtain ⟨g, hg, hn⟩ := h2
  exact ⟨g, by rw [take_snocI hf]; simp [hg], hn⟩
theorem AddAt.eq (h : AddAt x l i false xs) (hf : l[i]? = some f) (hc : f = x) : AddAt x l (i + 1) true (xs ++ [f]) := by
  obtain ⟨h1, h2⟩ := h
  subst hc
  exact ⟨by rw [take_snocI hf, putI_same h2, h1], f, by rw [take_snocI hf]; simp, by omega⟩
theorem AddAt.lt (h : AddAt x l i false xs) (hf : l[i]? = some f) (hc : x < f) : AddAt x l (i + 1) true (xs ++ [x] ++ [f]) := by
  obtain ⟨h1, h2⟩ := h
  exact ⟨by rw [take_snocI hf, putI_ahead h2 hc, h1], f, by rw [take_snocI hf]; simp, by omega⟩
theorem AddAt.gt (h : AddAt x l i false xs) (hf : l[i]? = some f) (hc : f < x) : AddAt x l (i + 1) false (xs ++ [f]) := by
  obtain ⟨h1, h2⟩ := h
  refine ⟨by rw [take_snocI hf, h1], fun g hg => ?_⟩
  rw [take_snocI hf] at hg
  rcases List.mem_append.1 hg with hg | hg
  · exact h2 g hg
  · simp at hg; subst hg; exact hc
theorem AddAt.len {p : Bool} (h : AddAt x l i p xs) : xs.length ≤ l.length + 1 := by
  have h3 : (l.take i).length ≤ l.length := by simp; omega
  cases p with
  | false => have h1 : xs = l.take i := h.1; rw [h1]; omega
  | true => have h1 : xs = putI x (l.take i) := h.1; have := putI_len x (l.take i); rw [h1]; omega
theorem AddAt.fin (h : AddAt x l l.length true xs) : xs = putI x l := by
  have h1 : xs = putI x (l.take l.length) := h.1
  rwa [List.take_length] at h1
theorem AddAt.fin' (h : AddAt x l l.length false xs) : xs ++ [x] = putI x l := by
  have h1 : xs = l.take l.length := h.1
  have h2 : ∀ g ∈ l.take l.length, g < x := h.2
  rw [List.take_length] at h1 h2
  rw [h1, putI_all h2]
end
theorem RV.at {w : World} {lo hi : Nat} {A : Option Addr} {l : List Int} {k : Nat} (h : RV w lo hi A (ints l)) (hk : k < l.length) :
    ∃ b off f, A = some ⟨b, off, none⟩ ∧ b < hi ∧ l[k]? = some f ∧ w.cell? ⟨b, off + k, none⟩ = some (.int .i64 f) := by
  obtain ⟨b, off, rfl, -, hb, hc⟩ := h.2 (by intro h; simp [ints] at h; subst h; simp at hk)
  exact ⟨b, off, l[k], rfl, hb, List.getElem?_eq_getElem hk, hc k _ (by simp [ints, hk])⟩
theorem owns_rv {w : World} {lo n c : Nat} {A : Option Addr} {e : TypeId} {size : Nat} {cs : List Value} (h : w.ownsRow lo e size (.slice A n c) n cs) : RV w lo w.heap.size A cs :=
  OV.rv (c := c) (n := n) (e := e) (size := size) ⟨Nat.le_refl _, h, fun g hg => (h.lt g hg).2⟩

set_option maxHeartbeats 4000000 in
theorem spec_l4Add (A : Option Addr) (l : List Int) (c : Nat) (x : Int) (w : World) (lo hi : Nat) (hr : RV w lo hi A (ints l)) (hl : l.length ≤ 1000000) :
    Calls Try.prog 80 #[.slice A l.length c, .int .i64 x] w fun en w' => ∃ A' c', en = .returned (.slice A' (putI x l).length c') ∧ RV w' 0 w'.heap.size A' (ints (putI x l)) ∧ Mid 0 0 w w' := by
  have hm0 : Mid 0 0 w (w.alloc (.cells #[] 3)) := Mid.alloc _ _
  have O0 := owns_empty w 3 1
  go_enter Try.func80, Try.ntmps80
  go_wp2_with fail
  go_loopw [5, 6, 7] (fun out pl i wr => ∃ (k : Nat) (p : Bool) (A1 : Option Addr) (c1 n1 : Nat) (xs : List Int), k ≤ l.length ∧ i = .int .i64 k ∧ pl = .bool p ∧ out = .slice A1 n1 c1 ∧ Hid (AddAt x l k p xs) ∧ Hid (xs.length = n1) ∧
      wr.ownsRow w.heap.size 3 1 (.slice A1 n1 c1) n1 (ints xs) ∧ Mid 0 0 w wr ∧ w.heap.size ≤ wr.heap.size) (fun _ _ i _ => l.length - (intOf i).toNat)
  case atStart => exact ⟨0, false, _, 0, 0, [], Nat.zero_le _, rfl, rfl, rfl, Lib.hid (AddAt.zero x l), Lib.hid rfl, O0, hm0, hm0.size⟩
  case round =>
    obtain ⟨k, p, A1, c1, n1, xs, hk, rfl, rfl, rfl, HP, HN, hown, hm, hsz⟩ := hrel
    have hn1 : n1 ≤ 1000001 := by have := HP.out.len; have := HN.out; omega
    by_cases hlt : k < l.length
    · obtain ⟨B, off, f, rfl, hbh, he, c0⟩ := (hr.mid hm (Or.inl (Nat.zero_le _))).at hlt
      have hk0 : (0 : Int) ≤ (k : Int) := by omega
      have hkn : (k : Int) < (l.length : Int) := by omega
      have HE := Lib.hid he
      have HB : B < wr.heap.size ∧ B < w.heap.size := by have := hr.1; omega
      have HW := Lib.hid hown
      clear he hown
      cases p with
      | true =>
        rcases (by omega : f = x ∨ f < x ∨ x < f) with hv | hv | hv
        · have b1 : (f == x) = true := by simpa using hv
          have b2 : decide (x < f) = false := by simp; omega
          clear hv
          go_wp2_with (at_builtin; refine wpList_pushI rfl _ _ rfl w.heap.size A1 n1 c1 xs rfl HW.out f rfl (by omega) hsz ?_; intro A2 c2 w2 hown2 hm2)
          go_roundw
          case rel => exact ⟨k + 1, true, A2, c2, n1 + 1, xs ++ [f], by omega, by go_num, rfl, rfl, Lib.hid (HP.out.on HE.out), Lib.hid (by rw [List.length_append, HN.out]; rfl), hown2, hm.transNew hm2 (Or.inl (Nat.le_refl _)), Nat.le_trans hsz hm2.size⟩
          case measure => simp [intOf]; omega
        · have b1 : (f == x) = false := by simp only [beq_eq_false_iff_ne]; omega
          have b2 : decide (x < f) = false := by simp; omega
          clear hv
          go_wp2_with (at_builtin; refine wpList_pushI rfl _ _ rfl w.heap.size A1 n1 c1 xs rfl HW.out f rfl (by omega) hsz ?_; intro A2 c2 w2 hown2 hm2)
          go_roundw
          case rel => exact ⟨k + 1, true, A2, c2, n1 + 1, xs ++ [f], by omega, by go_num, rfl, rfl, Lib.hid (HP.out.on HE.out), Lib.hid (by rw [List.length_append, HN.out]; rfl), hown2, hm.transNew hm2 (Or.inl (Nat.le_refl _)), Nat.le_trans hsz hm2.size⟩
          case measure => simp [intOf]; omega
        · have b1 : (f == x) = false := by simp only [beq_eq_false_iff_ne]; omega
          have b2 : decide (x < f) = true := by simpa using hv
          clear hv
          go_wp2_with (at_builtin; refine wpList_pushI rfl _ _ rfl w.heap.size A1 n1 c1 xs rfl HW.out f rfl (by omega) hsz ?_; intro A2 c2 w2 hown2 hm2)
          go_roundw
          case rel => exact ⟨k + 1, true, A2, c2, n1 + 1, xs ++ [f], by omega, by go_num, rfl, rfl, Lib.hid (HP.out.on HE.out), Lib.hid (by rw [List.length_append, HN.out]; rfl), hown2, hm.transNew hm2 (Or.inl (Nat.le_refl _)), Nat.le_trans hsz hm2.size⟩
          case measure => simp [intOf]; omega
      | false =>
        rcases (by omega : f = x ∨ f < x ∨ x < f) with hv | hv | hv
        · subst hv
          go_wp2_with (at_builtin; refine wpList_pushI rfl _ _ rfl w.heap.size A1 n1 c1 xs rfl HW.out f rfl (by omega) hsz ?_; intro A2 c2 w2 hown2 hm2)
          go_roundw
          case rel => exact ⟨k + 1, true, A2, c2, n1 + 1, xs ++ [f], by omega, by go_num, rfl, rfl, Lib.hid (HP.out.eq HE.out rfl), Lib.hid (by rw [List.length_append, HN.out]; rfl), hown2, hm.transNew hm2 (Or.inl (Nat.le_refl _)), Nat.le_trans hsz hm2.size⟩
          case measure => simp [intOf]; omega
        · have b1 : (f == x) = false := by simp only [beq_eq_false_iff_ne]; omega
          have b2 : decide (x < f) = false := by simp; omega
          go_wp2_with (at_builtin; refine wpList_pushI rfl _ _ rfl w.heap.size A1 n1 c1 xs rfl HW.out f rfl (by omega) hsz ?_; intro A2 c2 w2 hown2 hm2)
          go_roundw
          case rel => exact ⟨k + 1, false, A2, c2, n1 + 1, xs ++ [f], by omega, by go_num, rfl, rfl, Lib.hid (HP.out.gt HE.out hv), Lib.hid (by rw [List.length_append, HN.out]; rfl), hown2, hm.transNew hm2 (Or.inl (Nat.le_refl _)), Nat.le_trans hsz hm2.size⟩
          case measure => simp [intOf]; omega
        · have b1 : (f == x) = false := by simp only [beq_eq_false_iff_ne]; omega
          have b2 : decide (x < f) = true := by simpa using hv
          go_wp2_with (first | (at_builtin; refine wpList_pushI rfl _ _ rfl w.heap.size A1 n1 c1 xs rfl HW.out x rfl (by omega) hsz ?_; intro A2 c2 w2 hown2 hm2; have c0' := cell_keep hm2 HB.1 (Or.inl HB.2) c0; have hsz2 := Nat.le_trans hsz hm2.size; have HW2 := Lib.hid hown2; clear hown2) | (at_builtin; refine wpList_pushI rfl _ _ rfl w.heap.size A2 (n1 + 1) c2 (xs ++ [x]) rfl HW2.out f rfl (by omega) hsz2 ?_; intro A3 c3 w3 hown3 hm3))
          go_roundw
          case rel => exact ⟨k + 1, true, A3, c3, n1 + 1 + 1, xs ++ [x] ++ [f], by omega, by go_num, rfl, rfl, Lib.hid (HP.out.lt HE.out hv), Lib.hid (by rw [List.length_append, List.length_append, HN.out]; rfl), hown3, (hm.transNew hm2 (Or.inl (Nat.le_refl _))).transNew hm3 (Or.inl (Nat.le_refl _)), Nat.le_trans hsz2 hm3.size⟩
          case measure => simp [intOf]; omega
    · obtain rfl : k = l.length := by omega
      have hsz' := hm.size
      cases p with
      | true =>
        have hx := HP.out.fin
        have hn := HN.out
        rw [hx] at hn hown
        go_wp2_with fail
        go_ret
        exact ⟨_, _, (by rw [hn]; rfl), (owns_rv hown).wide (Nat.zero_le _) (Nat.le_refl _) (Nat.le_refl _), hm⟩
      | false =>
        have HW := Lib.hid hown
        go_wp2_with (at_builtin; refine wpList_pushI rfl _ _ rfl w.heap.size A1 n1 c1 xs rfl HW.out x rfl (by omega) hsz ?_; intro A2 c2 w2 hown2 hm2)
        have hx := HP.out.fin'
        have hn : (putI x l).length = n1 + 1 := by rw [← hx, List.length_append, HN.out]; rfl
        rw [hx] at hown2
        rw [← hn] at hown2
        go_wp2_with fail
        go_ret
        exact ⟨_, _, (by rw [hn]; rfl), (owns_rv hown2).wide (Nat.zero_le _) (Nat.le_refl _) (Nat.le_refl _), hm.transNew hm2 (Or.inl (Nat.le_refl _))⟩
/-- The ends put in one by one. -/
def putEnds (es : List Ed) (v x : Int) : List Int := (ends es v x).foldl (fun l y => putI y l) []
theorem foldI_mem {y : Int} : ∀ (zs l : List Int), y ∈ zs.foldl (fun l y => putI y l) l ↔ y ∈ zs ∨ y ∈ l
  | [], l => by simp
  | z :: zs, l => by
    rw [List.foldl_cons, foldI_mem zs, mem_putI, List.mem_cons]
    constructor
    · rintro (h | h | h)
      · exact .inl (.inr h)
      · exact .inl (.inl h)
      · exact .inr h
    · rintro ((h | h) | h)
      · exact .inr (.inl h)
      · exact .inl h
      · exact .inr (.inr h)
theorem foldI_sorted : ∀ (zs l : List Int), l.Pairwise (· < ·) → (zs.foldl (fun l y => putI y l) l).Pairwise (· < ·)
  | [], l, h => h
  | z :: zs, l, h => foldI_sorted zs _ (putI_sorted h)
theorem foldI_len : ∀ (zs l : List Int), (zs.foldl (fun l y => putI y l) l).length ≤ zs.length + l.length
  | [], l => by simp
  | z :: zs, l => by
    have h1 := foldI_len zs (putI z l)
    have h2 := putI_len z l
    rw [List.foldl_cons, List.length_cons]
    omega
theorem stepsIs_put (es : List Ed) (v x : Int) : StepsIs es v x (putEnds es v x) := by
  refine ⟨fun h => by rw [putEnds, h]; rfl, fun h => ?_, ?_⟩
  · have hs := foldI_sorted (ends es v x) [] List.Pairwise.nil
    have hm := fun y => foldI_mem (y := y) (ends es v x) []
    change ∃ t, (ends es v x).foldl (fun l y => putI y l) [] = _
    cases hz : (ends es v x).foldl (fun l y => putI y l) [] with
    | nil =>
      rw [hz] at hm
      obtain ⟨y, t, ht⟩ := List.exists_cons_of_ne_nil h
      have := (hm y).2 (.inl (by rw [ht]; simp))
      simp at this
    | cons z t =>
      rw [hz] at hm hs
      refine ⟨t, ?_⟩
      obtain ⟨h1, -⟩ := List.pairwise_cons.1 hs
      have hzm : z ∈ ends es v x := by simpa using (hm z).1 (by simp)
      have : nextV es v x = leastI (ends es v x) := rfl
      rw [this, leastI_eq hzm fun y hy => ?_]
      rcases List.mem_cons.1 ((hm y).2 (.inl hy)) with rfl | h'
      · exact Int.le_refl _
      · have := h1 y h'
        omega
  · have h1 := foldI_len (ends es v x) []
    have h2 := ends_len es v x
    rw [List.length_nil] at h1
    exact Nat.le_trans (by simpa [putEnds] using h1) h2

set_option maxHeartbeats 4000000 in
theorem spec_StepsFrom (r s : Int) (A : Option Addr) (es : List Ed) (c : Nat) (v x : Int) (w : World) (lo hi : Nat) (hr : RG w lo hi A es) (hl : es.length ≤ 1000000) (hg : ∀ e ∈ es, 1 ≤ e.l ∧ e.l ≤ 3) (hx1 : -9223372036854775808 ≤ x) (hx2 : x ≤ 9223372036854775807) :
    Calls Try.prog 70 #[.agg #[.int .i64 r, .int .i64 s, .slice A es.length c], .int .i64 v, .int .i64 x] w fun e w' => ∃ A' c' zs, e = .returned (.slice A' zs.length c') ∧ RV w' 0 w'.heap.size A' (ints zs) ∧ StepsIs es v x zs ∧ Mid 0 0 w w' := by
  have hm0 : Mid 0 0 w ((w.alloc (.cells #[.int .i64 r, .int .i64 s, .slice A es.length c] 29)).alloc (.cells #[] 3)) := (Mid.alloc _ _).trans (Mid.alloc _ _)
  have B0 := (Box.new w #[.int .i64 r, .int .i64 s, .slice A es.length c] 29).mid (Mid.alloc _ (.cells #[] 3)) (Or.inr (Nat.zero_le _))
  go_enter Try.func70, Try.ntmps70
  go_wp2_with fail
  go_loopw [7, 8] (fun out i wr => ∃ (k : Nat) (A1 : Option Addr) (c1 : Nat) (xs : List Int), k ≤ es.length ∧ i = .int .i64 k ∧ out = .slice A1 xs.length c1 ∧ Hid (xs = (ends (es.take k) v x).foldl (fun l y => putI y l) []) ∧
      RV wr 0 wr.heap.size A1 (ints xs) ∧ Box wr w.heap.size [.int .i64 r, .int .i64 s, .slice A es.length c] ∧ Mid 0 0 w wr) (fun _ i _ => es.length - (intOf i).toNat)
  case atStart => exact ⟨0, _, 0, [], Nat.zero_le _, rfl, rfl, Lib.hid (by simp [ends]), ⟨Nat.le_refl _, fun h => absurd rfl h⟩, B0, hm0⟩
  case round =>
    obtain ⟨k, A1, c1, xs, hk, rfl, rfl, HX, hrv, bx, hm⟩ := hrel
    have hn1 : xs.length ≤ 1000000 := by
      have h1 := ends_len (es.take k) v x
      have h2 := foldI_len (ends (es.take k) v x) []
      rw [HX.out]
      simp at h1 h2 ⊢
      omega
    have p0 := bx.cell 0 rfl
    have p1 := bx.cell 1 rfl
    have p2 := bx.cell 2 rfl
    by_cases hlt : k < es.length
    · obtain ⟨B, off, e, rfl, -, hbh, he, e0, e1, e2⟩ := (hr.mid hm (Or.inl (Nat.zero_le _))).ed hlt
      obtain ⟨l1, l3⟩ := hg e (List.mem_of_getElem? he)
      have HET := Lib.hid (ends_take he v x)
      have hal := Mid.alloc wr (.cells #[.int .i64 e.a, .int .i64 e.l, .int .i64 e.b] 48)
      have hm1 := hm.trans hal
      have hrv1 := (hrv.mid hal (Or.inl (Nat.zero_le _))).wide (Nat.le_refl _) hal.size (Nat.le_refl _)
      have B1 := bx.mid hal (Or.inr (Nat.zero_le _))
      have E1 := Box.new wr #[.int .i64 e.a, .int .i64 e.l, .int .i64 e.b] 48
      have hkn : (k : Int) < (es.length : Int) := by omega
      clear he
      rcases endOf_cases v x e with ⟨hv, h1⟩ | ⟨hv, h1, h2⟩ | ⟨hv, h1, h2⟩
      · obtain ⟨p1, p2, p3⟩ := h1
        have b1 : decide (0 < x) = true := by simpa using p1
        have b0 : decide (x < 0) = false := by simp; omega
        have b2 : (e.l == x) = true := by simpa using p2
        have b3 : (e.a == v) = true := by simpa using p3
        clear p1 p2 p3
        go_wp2_with fail
        with_reducible refine (spec_l4Add A1 xs c1 e.b _ _ _ hrv1 hn1).mono ?_
        rintro en w2 ⟨A2, c2, rfl, hrv2, hm2⟩
        go_wp2_with fail
        go_roundw
        case rel => exact ⟨k + 1, A2, c2, _, by omega, by go_num, rfl, Lib.hid (by rw [HET.out, hv, HX.out, List.foldl_append]; rfl), hrv2, B1.mid hm2 (Or.inr (Nat.zero_le _)), hm1.trans hm2⟩
        case measure => simp [intOf]; omega
      · obtain ⟨p1, p2, p3⟩ := h2
        have b1 : decide (0 < x) = false := by simp; omega
        have b0 : decide (x < 0) = true := by simpa using p1
        have b4 : wrap64 (-x) = -x := by unfold wrap64; omega
        have b5 : (e.l == -x) = true := by simpa using p2
        have b3 : (e.b == v) = true := by simpa using p3
        clear h1 p1 p2 p3
        go_wp2_with fail
        with_reducible refine (spec_l4Add A1 xs c1 e.a _ _ _ hrv1 hn1).mono ?_
        rintro en w2 ⟨A2, c2, rfl, hrv2, hm2⟩
        go_wp2_with fail
        go_roundw
        case rel => exact ⟨k + 1, A2, c2, _, by omega, by go_num, rfl, Lib.hid (by rw [HET.out, hv, HX.out, List.foldl_append]; rfl), hrv2, B1.mid hm2 (Or.inr (Nat.zero_le _)), hm1.trans hm2⟩
        case measure => simp [intOf]; omega
      · rcases (by omega : 0 < x ∨ x < 0 ∨ x = 0) with p1 | p1 | p1
        · have b1 : decide (0 < x) = true := by simpa using p1
          have b0 : decide (x < 0) = false := by simp; omega
          by_cases p2 : e.l = x
          · have b2 : (e.l == x) = true := by simpa using p2
            have b3 : (e.a == v) = false := by simp only [beq_eq_false_iff_ne]; exact fun h => h1 ⟨p1, p2, h⟩
            clear h1 h2 p1 p2
            go_wp2_with fail
            go_roundw
            case rel => exact ⟨k + 1, A1, c1, _, by omega, by go_num, rfl, Lib.hid (by rw [HET.out, hv, HX.out]; simp), hrv1, B1, hm1⟩
            case measure => simp [intOf]; omega
          · have b2 : (e.l == x) = false := by simpa only [beq_eq_false_iff_ne] using p2
            clear h1 h2 p1 p2
            go_wp2_with fail
            go_roundw
            case rel => exact ⟨k + 1, A1, c1, _, by omega, by go_num, rfl, Lib.hid (by rw [HET.out, hv, HX.out]; simp), hrv1, B1, hm1⟩
            case measure => simp [intOf]; omega
        · have b1 : decide (0 < x) = false := by simp; omega
          have b0 : decide (x < 0) = true := by simpa using p1
          by_cases p2 : e.l = wrap64 (-x)
          · have b5 : (e.l == wrap64 (-x)) = true := by simpa using p2
            have b3 : (e.b == v) = false := by simp only [beq_eq_false_iff_ne]; exact fun h => h2 ⟨p1, by unfold wrap64 at p2; omega, h⟩
            clear h1 h2 p1 p2
            go_wp2_with fail
            go_roundw
            case rel => exact ⟨k + 1, A1, c1, _, by omega, by go_num, rfl, Lib.hid (by rw [HET.out, hv, HX.out]; simp), hrv1, B1, hm1⟩
            case measure => simp [intOf]; omega
          · have b5 : (e.l == wrap64 (-x)) = false := by simpa only [beq_eq_false_iff_ne] using p2
            clear h1 h2 p1 p2
            go_wp2_with fail
            go_roundw
            case rel => exact ⟨k + 1, A1, c1, _, by omega, by go_num, rfl, Lib.hid (by rw [HET.out, hv, HX.out]; simp), hrv1, B1, hm1⟩
            case measure => simp [intOf]; omega
        · subst p1
          clear h1 h2
          go_wp2_with fail
          go_roundw
          case rel => exact ⟨k + 1, A1, c1, _, by omega, by go_num, rfl, Lib.hid (by rw [HET.out, hv, HX.out]; simp), hrv1, B1, hm1⟩
          case measure => simp [intOf]; omega
    · obtain rfl : k = es.length := by omega
      have hst := stepsIs_put es v x
      have hx := HX.out
      rw [List.take_length] at hx
      rw [putEnds, ← hx] at hst
      go_wp2_with fail
      go_ret
      exact ⟨_, _, xs, rfl, hrv, hst, hm⟩

set_option maxHeartbeats 1600000 in
theorem spec_NextVertex (r s : Int) (A : Option Addr) (es : List Ed) (c : Nat) (v x : Int) (w : World) (lo hi : Nat) (hr : RG w lo hi A es) (hl : es.length ≤ 1000000) (hg : ∀ e ∈ es, 1 ≤ e.l ∧ e.l ≤ 3) (hx1 : -9223372036854775808 ≤ x) (hx2 : x ≤ 9223372036854775807) :
    Calls Try.prog 46 #[.agg #[.int .i64 r, .int .i64 s, .slice A es.length c], .int .i64 v, .int .i64 x] w fun e w' => e = .returned (.int .i64 (nextV es v x)) ∧ Mid 0 0 w w' := by
  go_enter Try.func46, Try.ntmps46
  have hal := Mid.alloc w (.cells #[.int .i64 r, .int .i64 s, .slice A es.length c] 29)
  go_wp2_with fail
  with_reducible refine (spec_StepsFrom r s A es c v x _ lo hi (hr.mid hal (Or.inl (Nat.zero_le _))) hl hg hx1 hx2).mono ?_
  rintro en w2 ⟨A2, c2, zs, rfl, hrv, ⟨h1, h2, h3⟩, hm⟩
  have hm := hal.trans hm
  generalize hn : zs.length = n
  by_cases h0 : ends es v x = []
  · obtain rfl : n = 0 := by rw [← hn, h1 h0]; rfl
    go_wp2_with fail
    go_ret
    exact ⟨by rw [nextV_none h0]; rfl, hm⟩
  · obtain ⟨t, ht⟩ := h2 h0
    obtain ⟨g, off, rfl, -, -, hc⟩ := hrv.2 (by rw [ht]; simp [ints])
    have c0 := hc 0 (.int .i64 (nextV es v x)) (by rw [ht]; simp [ints])
    rw [Nat.add_zero] at c0
    have hn0 : 0 < n := by rw [← hn, ht]; simp
    have hz : ((n : Int) == 0) = false := by simp only [beq_eq_false_iff_ne]; omega
    have hp : (0 : Int) < (n : Int) := by omega
    clear hn ht hc h1 h2 h3 hrv
    go_wp2_with fail
    go_ret
    exact ⟨rfl, hm⟩
end Go.Proofs.Ytkcfbcbkokabdaa
