
/- Plain: the next move; lists of words with the rows' capacities. -/
import Derived.Test.YtchgicdjdbjfgaaL31
namespace Go.Proofs.Ytchgicdjdbjfgaa
set_option linter.unusedVariables false
set_option linter.unusedSimpArgs false
open Go.RowKit

theorem mvTry_eq {d x : List (List Int)} {i k n : Nat} {is : Bool} (h : applyM d (mvOf i k n) = (x, is)) : mvTry d i k n = (is && decide (cmpN (rowAt x i) (rowAt d i) < 0)) := by
  unfold mvTry
  rw [h]
theorem mvOf_kind {i k n : Nat} (hn : n < 4) : ((mvOf i k n).kind = 2 ∨ (mvOf i k n).kind = 3) ∧ ((mvOf i k n).sign = 1 ∨ (mvOf i k n).sign = -1) := by
  simp [mvOf]
  omega
theorem mvTry_same (d : List (List Int)) (i : Nat) {n : Nat} (hn : n < 4) : mvTry d i i n = false := by
  have hk := (mvOf_kind (i := i) (k := i) hn).1
  have h : (applyM d (mvOf i i n)).2 = false := by
    by_cases h0 : 0 ≤ (mvOf i i n).i ∧ (mvOf i i n).i < d.length
    · rw [applyM_bad (by omega) (by omega) (.inl (by simp [MvOk, mvOf]))]
    · rw [applyM_out h0]
  unfold mvTry
  rw [h]
  rfl
theorem tryK_same (d : List (List Int)) (i : Nat) : tryK d i i = none := by
  unfold tryK
  rw [List.findSome?_eq_none_iff]
  intro n hn
  rw [List.mem_range] at hn
  unfold tryN
  rw [mvTry_same d i hn]
  rfl
/-- The word of a move of a pair. -/
def mvRes (xs ys : List Int) (n : Nat) : List Int := red [] (if n < 2 then xs ++ (if n % 2 = 1 then invW ys else ys) else (if n % 2 = 1 then invW ys else ys) ++ xs)
theorem mvTry_at {d : List (List Int)} {i k n : Nat} {xs ys : List Int} (hx : d[i]? = some xs) (hy : d[k]? = some ys) (hne : k ≠ i) (hn : n < 4) :
    applyM d (mvOf i k n) = (d.set i (mvRes xs ys n), true) ∧ mvTry d i k n = decide (cmpN (mvRes xs ys n) xs < 0) := by
  have hi := (List.getElem?_eq_some_iff.1 hx).1
  have h : applyM d (mvOf i k n) = (d.set i (mvRes xs ys n), true) := by
    have := applyM_23 (k := 2 + (n : Int) / 2) (s := 1 - 2 * ((n : Int) % 2)) hx hy (by omega) hne (by omega)
    unfold mvOf
    rw [this]
    congr 2
    unfold mvRes
    have e1 : ((2 + (n : Int) / 2 = 2) ↔ n < 2) := by omega
    have e2 : ((1 - 2 * ((n : Int) % 2) < 0) ↔ n % 2 = 1) := by omega
    simp only [e1, e2]
  refine ⟨h, ?_⟩
  rw [mvTry_eq h, rowAt_get hx, rowAt_get (xs := mvRes xs ys n) (by rw [List.getElem?_set_self hi])]
  rfl
theorem mvRes_len (xs ys : List Int) (n : Nat) : (mvRes xs ys n).length ≤ xs.length + ys.length := by
  unfold mvRes
  refine Nat.le_trans (red_nil_len _) ?_
  split <;> split <;> simp [invW_len] <;> omega
theorem mvRes_ok {xs ys : List Int} (hx : OkI xs) (hy : OkI ys) (n : Nat) : OkI (mvRes xs ys n) := by
  unfold mvRes
  refine red_ok ?_
  split
  · split
    · exact okI_app hx (okI_invW hy)
    · exact okI_app hx hy
  · split
    · exact okI_app (okI_invW hy) hx
    · exact okI_app hy hx
theorem nextM_D {d : List (List Int)} {k : Nat} {m : Mv} (h : (List.range k).findSome? (tryD d) = none) (hk : k < d.length) (hm : tryD d k = some m) : nextM d = some m := by
  unfold nextM
  rw [find_range_some _ h hk hm]
  rfl
theorem nextM_I {d : List (List Int)} {i k : Nat} {m : Mv} (hD : (List.range d.length).findSome? (tryD d) = none) (hI : (List.range i).findSome? (tryI d) = none) (hi : i < d.length)
    (hK : (List.range k).findSome? (tryK d i) = none) (hk : k < d.length) (hm : tryK d i k = some m) : nextM d = some m := by
  unfold nextM
  rw [hD, find_range_some _ hI hi (find_range_some _ hK hk hm)]
  rfl
theorem nextM_none {d : List (List Int)} (hD : (List.range d.length).findSome? (tryD d) = none) (hI : (List.range d.length).findSome? (tryI d) = none) : nextM d = none := by
  unfold nextM
  rw [hD, hI]
  rfl
theorem tryK_none {d : List (List Int)} {i k : Nat} (h : ∀ n, n < 4 → mvTry d i k n = false) : tryK d i k = none := by
  unfold tryK
  rw [List.findSome?_eq_none_iff]
  intro n hn
  unfold tryN
  rw [h n (List.mem_range.1 hn)]
  rfl
theorem tryK_some {d : List (List Int)} {i k n : Nat} (hn : n < 4) (h : ∀ j, j < n → mvTry d i k j = false) (ht : mvTry d i k n = true) : tryK d i k = some (mvOf i k n) := by
  unfold tryK
  refine find_range_some _ ?_ hn (by unfold tryN; rw [ht]; rfl)
  rw [List.findSome?_eq_none_iff]
  intro j hj
  unfold tryN
  rw [h j (List.mem_range.1 hj)]
  rfl
def mvD (m : Option Mv) : Mv := m.getD ⟨0, 0, 0, 0⟩

/-- The slice of slices at A reads xss, and each row has room for what it holds. -/
def RSC (w : World) (lo hi : Nat) (A : Option Addr) (xss : List (List Int)) : Prop :=
  ∃ rows, rowsD rows = xss ∧ RV w lo hi A (rowsV rows) ∧ ∀ r ∈ rows, RV w lo hi r.A (ints r.xs) ∧ r.xs.length ≤ r.c
section
variable {w w' : World} {lo hi a b : Nat} {A : Option Addr} {xss : List (List Int)}
theorem RSC.rss (h : RSC w lo hi A xss) : RSS w lo hi A xss := by
  obtain ⟨rows, h1, h2, h3⟩ := h
  exact ⟨rows, h1, h2, fun r hr => (h3 r hr).1⟩
theorem RSC.size (h : RSC w lo hi A xss) : hi ≤ w.heap.size := h.rss.size
theorem RSC.mid (h : RSC w lo hi A xss) (m : Mid a b w w') (hd : b ≤ lo ∨ hi ≤ a) : RSC w' lo hi A xss := by
  obtain ⟨rows, h1, h2, h3⟩ := h
  exact ⟨rows, h1, h2.mid m hd, fun r hr => ⟨(h3 r hr).1.mid m hd, (h3 r hr).2⟩⟩
theorem owns_cap {e : TypeId} {base size n c : Nat} {xs : List Value} (h : w.ownsRow base e size (.slice A n c) n xs) : n ≤ c := by
  obtain ⟨_, _, e, h1, _⟩ := owns_shape h
  injection e with _ _ e
  omega
theorem OSS.rsc {tSI tI : TypeId} {c : Nat} (h : OSS w lo hi tSI tI A c xss) : RSC w lo hi A xss := by
  obtain ⟨_, rows, h1, h2, h3⟩ := h
  exact ⟨rows, h1, h2.rv, fun r hr => ⟨(h3.1 r hr).rv, owns_cap (h3.1 r hr).2.1⟩⟩
theorem RSC.row (h : RSC w lo hi A xss) {k : Nat} (hk : k < xss.length) :
    ∃ b off A' c' xs, A = some ⟨b, off, none⟩ ∧ lo ≤ b ∧ b < hi ∧ xss[k]? = some xs ∧ w.cell? ⟨b, off + k, none⟩ = some (.slice A' xs.length c') ∧ RV w lo hi A' (ints xs) ∧ xs.length ≤ c' := by
  obtain ⟨rows, rfl, h2, h3⟩ := h
  rw [rowsD_len] at hk
  obtain ⟨b, off, e, hb, hb2, hc⟩ := h2.2 (by intro h0; have := congrArg List.length h0; rw [rowsV_len] at this; simp at this; subst this; simp at hk)
  obtain ⟨r, hr⟩ := get_of_lt rows hk
  refine ⟨b, off, r.A, r.c, r.xs, e, hb, hb2, by simp [rowsD, hr], hc k _ (by simp [rowsV, hr, Row.v]), (h3 r (List.mem_of_getElem? hr)).1, (h3 r (List.mem_of_getElem? hr)).2⟩
end
end Go.Proofs.Ytchgicdjdbjfgaa
