
/- The laws' helpers on graphs; graphs with the blocks they lie in. -/
import Derived.Test.YtkcfbcbkokabdaaG5
namespace Go.Proofs.Ytkcfbcbkokabdaa
set_option linter.unusedVariables false
set_option linter.unusedSimpArgs false
open Go.RowKit

theorem infoE : (Try.prog.info? 48).map (fun i => (i.zero, i.size, i.bytes)) = some (some (.agg #[.int .i64 0, .int .i64 0, .int .i64 0]), 3, 24) := by kernel_rfl
theorem undSE : Try.prog.underlying 27 = some (.slice 48) := by kernel_rfl
/-- The edges at A, and the same in a row of the call's own. -/
def RG (w : World) (lo hi : Nat) (A : Option Addr) (es : List Ed) : Prop := RV w lo hi A (ints (edI es))
def OG (w : World) (lo hi : Nat) (A : Option Addr) (c : Nat) (es : List Ed) : Prop := OV w lo hi 48 3 A c es.length (ints (edI es))
section
variable {w w' : World} {lo hi a b : Nat} {A : Option Addr} {c : Nat} {es : List Ed}
theorem RG.rv (h : RG w lo hi A es) : RV w lo hi A (ints (edI es)) := h
theorem RV.rg (h : RV w lo hi A (ints (edI es))) : RG w lo hi A es := h
theorem OG.ov (h : OG w lo hi A c es) : OV w lo hi 48 3 A c es.length (ints (edI es)) := h
theorem RG.mid (h : RG w lo hi A es) (m : Mid a b w w') (hd : b ≤ lo ∨ hi ≤ a) : RG w' lo hi A es := RV.mid h m hd
theorem OG.mid (h : OG w lo hi A c es) (m : Mid a b w w') (hd : b ≤ lo ∨ hi ≤ a) : OG w' lo hi A c es := OV.mid h m hd
theorem OG.rg (h : OG w lo hi A c es) : RG w lo hi A es := OV.rv h
theorem RG.size (h : RG w lo hi A es) : hi ≤ w.heap.size := h.1
theorem OG.size (h : OG w lo hi A c es) : hi ≤ w.heap.size := h.1
theorem OG.wide {lo' hi' : Nat} (h : OG w lo hi A c es) (h1 : lo' ≤ lo) (h2 : hi ≤ hi') (h3 : hi' ≤ w.heap.size) : OG w lo' hi' A c es := OV.wide h h1 h2 h3
theorem RG.wide {lo' hi' : Nat} (h : RG w lo hi A es) (h1 : lo' ≤ lo) (h2 : hi ≤ hi') (h3 : hi' ≤ w.heap.size) : RG w lo' hi' A es := RV.wide h h1 h2 h3
theorem RG.ed {k : Nat} (h : RG w lo hi A es) (hk : k < es.length) :
    ∃ b off e, A = some ⟨b, off, none⟩ ∧ lo ≤ b ∧ b < hi ∧ es[k]? = some e ∧ w.cell? ⟨b, off + k * 3, none⟩ = some (.int .i64 e.a) ∧ w.cell? ⟨b, off + k * 3 + 1, none⟩ = some (.int .i64 e.l) ∧ w.cell? ⟨b, off + k * 3 + 2, none⟩ = some (.int .i64 e.b) := RV.ed h hk
theorem OG.nil : OG w lo w.heap.size none 0 [] := ⟨Nat.le_refl _, ⟨rfl, .inl ⟨rfl, rfl⟩⟩, fun g hg => by simp [Value.ownBlock] at hg⟩
theorem OG.mk' {v : Value} {n base : Nat} (h : w.ownsRow base 48 3 v n (ints (edI es))) : ∃ A c, v = .slice A es.length c ∧ n = es.length ∧ OG w base w.heap.size A c es := by
  obtain ⟨A, c, rfl, -, -⟩ := owns_shape h
  have hn : n = es.length := by have := h.1; rw [ints_len, edI_len] at this; omega
  subst hn
  exact ⟨A, c, rfl, rfl, Nat.le_refl _, h, fun g hg => (h.lt g hg).2⟩
end
theorem oneInts (xs : List Int) : ∀ u ∈ ints xs, u.oneCell' = true := by
  intro u hu
  obtain ⟨x, -, rfl⟩ := List.mem_map.1 hu
  rfl

set_option maxHeartbeats 800000 in
theorem toEdge_any (e : Ed) (w : World) :
    Calls Try.prog 62 #[e.v] w fun en w' => en = .returned e.v ∧ Mid 0 0 w w' := by
  obtain ⟨a, l, b⟩ := e
  go_enter Try.func62, Try.ntmps62
  go_wp2_with fail
  refine bodyPost_ret (v := .agg #[.int .i64 a, .int .i64 l, .int .i64 b]) (by simp [results, Try.results62, go_sem]) rfl ⟨rfl, ?_⟩
  repeat (first | exact Mid.alloc _ _ | exact (Mid.alloc _ _).trans (Mid.alloc _ _) | exact ((Mid.alloc _ _).trans (Mid.alloc _ _)).trans (Mid.alloc _ _) | refine Mid.storeNew ?_ (by simp) _)

theorem edI_fill (es : List Ed) {k : Nat} {e : Ed} (he : es[k]? = some e) (zs : List Value) (hz : zs.length = es.length * 3) :
    (((ints (edI (es.take k)) ++ zs.drop (k * 3)).set (k * 3) (.int .i64 e.a)).set (k * 3 + 1) (.int .i64 e.l)).set (k * 3 + 2) (.int .i64 e.b) = ints (edI (es.take (k + 1))) ++ zs.drop ((k + 1) * 3) := by
  obtain ⟨hk, rfl⟩ := List.getElem?_eq_some_iff.1 he
  have hl : (ints (edI (es.take k))).length = k * 3 := by rw [ints_len, edI_len, List.length_take, Nat.min_eq_left (by omega)]
  obtain ⟨z0, z1, z2, rest, hd⟩ : ∃ z0 z1 z2 rest, zs.drop (k * 3) = z0 :: z1 :: z2 :: rest := by
    refine ⟨zs[k * 3], zs[k * 3 + 1], zs[k * 3 + 2], zs.drop (k * 3 + 3), ?_⟩
    rw [List.drop_eq_getElem_cons (by omega), List.drop_eq_getElem_cons (by omega), List.drop_eq_getElem_cons (by omega)]
  have hd3 : zs.drop ((k + 1) * 3) = rest := by
    rw [show (k + 1) * 3 = k * 3 + 3 by omega, ← List.drop_drop, hd]
    rfl
  rw [hd3, hd, List.take_succ_eq_append_getElem hk, edI_append, ints_append, edI_one]
  rw [List.set_append_right _ _ (by omega), List.set_append_right _ _ (by omega), List.set_append_right _ _ (by omega), hl]
  simp [ints]

set_option maxHeartbeats 1600000 in
theorem toEdgeS_any (A : Option Addr) (es : List Ed) (c : Nat) (w : World) (lo hi : Nat) (hr : RG w lo hi A es) (hl : es.length ≤ 1048576) :
    Calls Try.prog 34 #[.slice A es.length c] w fun e w' => ∃ A' c', e = .returned (.slice A' es.length c') ∧ OG w' w.heap.size w'.heap.size A' c' es ∧ Mid 0 0 w w' := by
  have hmx : es.length ≤ maxLen := by unfold maxLen; omega
  obtain ⟨i, hi1, hi2, hi3, hi4⟩ := info_parts infoE
  go_enter Try.func34, Try.ntmps34
  go_wp2_with (at_make; refine wpList_make_full w rfl _ _ 27 rfl w.heap.size 48 i _ 3 undSE hi1 hi2 hi3 .i64 .i64 _ _ es.length rfl rfl rfl rfl (by rw [hi4]; omega) hmx (Nat.le_refl _) ?_; intro w1 hown1 hgr1)
  have hb1 : Mid 0 0 w w1 := Mid.of_grown hgr1 (by intro g h; cases h)
  obtain ⟨zs, hzs⟩ : ∃ zs, zs = (madeCells (Value.agg #[.int .i64 0, .int .i64 0, .int .i64 0]).cells (es.length * 3)).toList := ⟨_, rfl⟩
  rw [← hzs] at hown1
  have hzl := hown1.1
  have HZ := Lib.hid hzl
  clear hzs hzl hi1 hi2 hi3 hi4
  go_loopw [4] (fun i wr => ∃ k : Nat, k ≤ es.length ∧ i = .int .i64 k ∧ wr.ownsRow w.heap.size 48 3 (.slice (some ⟨w.heap.size, 0, none⟩) es.length es.length) es.length (ints (edI (es.take k)) ++ zs.drop (k * 3)) ∧ Mid 0 0 w wr)
    (fun i _ => es.length - (intOf i).toNat)
  case atStart => exact ⟨0, Nat.zero_le _, rfl, by simpa [ints, edI] using hown1, hb1⟩
  case round =>
    obtain ⟨k, hk, rfl, hown, hm⟩ := hrel
    by_cases hlt : k < es.length
    · obtain ⟨b, off, e, rfl, -, hbh, he, c0, c1, c2⟩ := (hr.mid hm (Or.inl (Nat.zero_le _))).ed hlt
      have hs1 : b < wr.heap.size := Nat.lt_of_lt_of_le hbh (Nat.le_trans hr.1 hm.size)
      have HE := Lib.hid he
      have hk0 : (0 : Int) ≤ (k : Int) := by omega
      have hkn : (k : Int) < (es.length : Int) := by omega
      have hcell : ∀ (W : World) (ys : List Value), W.ownsRow w.heap.size 48 3 (.slice (some ⟨w.heap.size, 0, none⟩) es.length es.length) es.length ys → ∀ j, j < es.length * 3 → ∃ u, W.cell? ⟨w.heap.size, j, none⟩ = some u := by
        intro W ys h j hj
        exact ⟨_, (h.cellAt j hj).trans (List.getElem?_eq_getElem (by have := h.1; omega))⟩
      clear he
      go_wp2_with fail
      with_reducible refine (toEdge_any e _).mono ?_
      rintro en w2 ⟨rfl, hm2⟩
      have hown2 := owns_mid hown hm2 (Or.inl (Nat.zero_le _))
      obtain ⟨u0, hu0⟩ := hcell _ _ hown2 (k * 3) (by omega)
      obtain ⟨u1, hu1⟩ := hcell _ _ hown2 (k * 3 + 1) (by omega)
      obtain ⟨u2, hu2⟩ := hcell _ _ hown2 (k * 3 + 2) (by omega)
      have hfz := fun i => hown2.frozenAt i
      have HO := Lib.hid (owns_setK (owns_setK (owns_setK hown2 (k * 3) (.int .i64 e.a) rfl) (k * 3 + 1) (.int .i64 e.l) rfl) (k * 3 + 2) (.int .i64 e.b) rfl)
      clear hown hown2 hcell
      go_wp2_with fail
      go_roundw
      case rel =>
        refine ⟨k + 1, by omega, by go_num, ?_, ?_⟩
        · have h := HO.out
          rw [edI_fill es HE.out zs HZ.out] at h
          exact h
        · have h := hm.trans hm2
          repeat (first | exact h | refine Mid.storeNew ?_ (Nat.le_refl _) _)
      case measure => simp [intOf]; omega
    · obtain rfl : k = es.length := by omega
      go_wp2_with fail
      go_ret
      rw [List.drop_eq_nil_of_le (by rw [HZ.out]; exact Nat.le_refl _), List.append_nil, List.take_length] at hown
      exact ⟨_, _, rfl, ⟨Nat.le_refl _, hown, fun g hg => (hown.lt g hg).2⟩, hm⟩
end Go.Proofs.Ytkcfbcbkokabdaa
