
/- ApplyMove of the reference: the dropped row. -/
import Derived.Test.YtchgicdjdbjfgaaL29
namespace Go.Proofs.Ytchgicdjdbjfgaa
set_option linter.unusedVariables false
set_option linter.unusedSimpArgs false
open Go.RowKit
set_option maxRecDepth 100000 in
set_option maxHeartbeats 3200000 in
theorem spec_ApplyMove_4t (A : Option Addr) (d : List (List Int)) (c : Nat) (n : Nat) (j s : Int) (w : World) (lo hi : Nat) (hr : RSS w lo hi A d) (hok : ∀ xs ∈ d, OkI xs) (hl : d.length + sumL d ≤ 1048576) (hn : n < d.length) (hrow : (rowAt d n).length = 0) :
    Calls Try.prog 82 #[.slice A d.length c, (Mv.mk 4 n j s).v] w (RetMv d ⟨4, n, j, s⟩ w) := by
  show Calls _ _ #[.slice A d.length c, .agg #[.int .i64 4, .int .i64 n, .int .i64 j, .int .i64 s]] w _
  obtain ⟨b, off, A', c', xs, rfl, -, hbhi, hx, hcx, hrx⟩ := hr.row hn
  have HE := Lib.hid (applyM_4 (j := j) (s := s) hx)
  have hb : inB n 0 ((d.length : Int) - 1) = true := by simp [inB]; omega
  have HB := Lib.hid hb
  have H28 := Lib.hid (fun xs (hx : xs ∈ d) => show xs.length ≤ 1073741824 by have := len_le_sumL hx; omega)
  have hlx : xs.length ≤ 4194304 := by have := len_le_sumL (List.mem_of_getElem? hx); omega
  rw [rowAt_get hx] at hrow
  have hhi := hr.size
  have hnn : (0 : Int) ≤ (n : Int) := by omega
  have hnl : (n : Int) < (d.length : Int) := by omega
  clear hb hx
  have hb0 : Mid 0 0 w (w.alloc (.cells #[.int .i64 4, .int .i64 n, .int .i64 j, .int .i64 s] 68)) := Mid.alloc _ _
  have hbx := Box.new w #[.int .i64 4, .int .i64 n, .int .i64 j, .int .i64 s] 68
  have hrb := hr.mid hb0 (Or.inl (Nat.zero_le _))
  go_enter Try.func82, Try.ntmps82
  go_wp2_with fail
  with_reducible refine (spec_l20Copy _ d c _ _ _ hrb (by omega) H28.out).mono ?_
  rintro e w1 ⟨A1, c1, rfl, ho1, hm1⟩
  have hm := hb0.trans hm1
  have hbx1 := hbx.mid hm1 (Or.inr (Nat.zero_le _))
  have hrd1 := hrb.mid hm1 (Or.inl (Nat.zero_le _))
  have k0 := hbx1.cell 0 rfl
  have k1 := hbx1.cell 1 rfl
  have k2 := hbx1.cell 2 rfl
  have k3 := hbx1.cell 3 rfl
  go_wp2_with fail
  with_reducible refine (l1In_any _ _ _ _).mono ?_
  rintro e w' ⟨rfl, rfl⟩
  rw [HB.out]
  have hcx1 : w1.cell? ⟨b, off + n, none⟩ = some (.slice A' xs.length c') := (World.cell?_of_block (hm.block b (by omega) (by omega))).trans hcx
  have he2 := HE.out
  rw [if_neg (by omega)] at he2
  have HE2 := Lib.hid he2
  obtain rfl := List.eq_nil_of_length_eq_zero hrow
  clear he2 hrow
  obtain ⟨rows, hD, hown, hlt, hrows⟩ := ho1.cut
  have HD := Lib.hid hD
  have hrl : rows.length = d.length := by rw [← hD, rowsD_len]
  have hld : (rowsV rows).length = d.length := by rw [rowsV_len, hrl]
  obtain ⟨g, rfl, hg0, hg1⟩ := owns_addr hown (by omega)
  have hcap : d.length ≤ c1 := by
    obtain ⟨_, _, e, h1, _⟩ := owns_shape hown
    injection e with _ _ e
    omega
  have hmd := Mid.drew1 w1
  have hbxd := hbx1.mid hmd (Or.inr (Nat.zero_le _))
  have k1d := hbxd.cell 1 rfl
  have hownd : w1.drew.ownsRow (w.alloc (.cells #[.int .i64 4, .int .i64 n, .int .i64 j, .int .i64 s] 68)).heap.size 27 1 (.slice (some ⟨g, 0, none⟩) d.length c1) d.length (rowsV rows) := hown
  have hcut : w1.drew.ownsRow (w.alloc (.cells #[.int .i64 4, .int .i64 n, .int .i64 j, .int .i64 s] 68)).heap.size 27 1 (.slice (some ⟨g, 0, none⟩) n c1) n ((rowsV rows).take n) := by simpa using owns_cut hownd (show n ≤ d.length by omega)
  have hrowsd := (hrows.mid hmd (Or.inl (Nat.zero_le _))).erase n
  have hmdd := hm.trans hmd
  have hs0 := hb0.size
  have hs1 := hm1.size
  have hnc : (n : Int) ≤ (c1 : Int) := by omega
  have hn1 : (n : Int) + 1 ≤ (d.length : Int) := by omega
  have hn0 : (0 : Int) ≤ (n : Int) + 1 := by omega
  have hn3 : (n : Int) + 1 ≤ (c1 : Int) := by omega
  have hnl2 : (n : Int) ≤ (d.length : Int) := by omega
  have hl1 : ((rowsV rows).take n).length = n * 1 := by rw [List.length_take]; omega
  have hl2 : ((rowsV rows).drop (n + 1)).length = (d.length - (n + 1)) * 1 := by rw [List.length_drop]; omega
  have ho1' : ∀ u ∈ (rowsV rows).take n, u.oneCell' = true := fun u hu => one_of_rows rows u (List.mem_of_mem_take hu)
  have ho2' : ∀ u ∈ (rowsV rows).drop (n + 1), u.oneCell' = true := fun u hu => one_of_rows rows u (List.mem_of_mem_drop hu)
  have hfin : (rowsV rows).take n ++ (rowsV rows).drop (n + 1) = rowsV (rows.eraseIdx n) := by rw [List.eraseIdx_eq_take_drop_succ, rowsV_append]; simp [rowsV, List.map_take, List.map_drop]
  have hfd : rowsD (rows.eraseIdx n) = d.eraseIdx n := by rw [← hD]; simp [rowsD, List.eraseIdx_eq_take_drop_succ, List.map_take, List.map_drop]
  have hlen : (d.eraseIdx n).length = n + (d.length - (n + 1)) := by rw [List.length_eraseIdx_of_lt hn]; omega
  have HF := Lib.hid hfin
  have HFD := Lib.hid hfd
  have HLEN := Lib.hid hlen
  have HL1 := Lib.hid hl1
  have HL2 := Lib.hid hl2
  have HO1 := Lib.hid ho1'
  have HO2 := Lib.hid ho2'
  have hbmx : n + (d.length - (n + 1)) ≤ maxLen := by unfold maxLen; omega
  have hbby : (n + (d.length - (n + 1))) * 24 ≤ 140737488355328 := by omega
  have hbase : (w.alloc (.cells #[.int .i64 4, .int .i64 n, .int .i64 j, .int .i64 s] 68)).heap.size ≤ w1.drew.heap.size := hs1
  clear hD hcx hrb hr hlt ho1 hrd1 hfin hfd hlen hl1 hl2 ho1' ho2'
  have hrsd : Rs w1.drew w1.heap.size (some ⟨g, n + 1, none⟩) ((rowsV rows).drop (n + 1)) := by
    intro hne
    obtain ⟨b', off', e1, h1, h2⟩ := Rs.of_own hownd (by intro h0; rw [h0] at hne; simp at hne)
    injection e1 with e1
    injection e1 with e1 e2
    subst e1 e2
    refine ⟨g, n + 1, rfl, h1, fun j u hu => ?_⟩
    rw [List.getElem?_drop] at hu
    have := h2 _ u hu
    rwa [Nat.zero_add] at this
  have hrst : Rs w1.drew w1.heap.size (some ⟨g, 0, none⟩) ((rowsV rows).take n) := (Rs.of_own hownd).take n
  have hrse : c1 = n + 1 → Rs w1.drew w1.heap.size (some ⟨g, 0, none⟩) ((rowsV rows).drop (n + 1)) := by
    intro hc
    have : (rowsV rows).drop (n + 1) = [] := List.drop_eq_nil_of_le (by omega)
    rw [this]
    exact Rs.nil
  have HRE := Lib.hid hrse
  clear hrse
  have hw1 : IntKind.i64.wrap ((n : Int) + 1) = (n : Int) + 1 := IntWalk.i64_in _ (by omega)
  have hnp : (n : Int) ≤ (n : Int) + 1 := by omega
  by_cases hce : c1 = n + 1
  · subst hce
    have hal : Mid 0 0 w1.drew (w1.drew.alloc (.cells #[] 27)) := Mid.alloc _ _
    have hoe := owns_empty w1.drew 27 1
    have hbxa := hbxd.mid hal (Or.inr (Nat.zero_le _))
    have k1a := hbxa.cell 1 rfl
    have hrta : Rs (w1.drew.alloc (.cells #[] 27)) w1.heap.size (some ⟨g, 0, none⟩) ((rowsV rows).take n) := hrst.alloc (Nat.le_refl _) _
    have hmx1 : 0 + n ≤ maxLen := by unfold maxLen; omega
    have hby1 : (0 + n) * 24 ≤ 140737488355328 := by omega
    have hba1 : w1.drew.heap.size ≤ (w1.drew.alloc (.cells #[] 27)).heap.size := by simp
    have hdn : (rowsV rows).drop (n + 1) = [] := List.drop_eq_nil_of_le (by omega)
    have HDN := Lib.hid hdn
    have hz1 : ([] : List Value).length = 0 * 1 := rfl
    have hz2 : ∀ u ∈ ([] : List Value), u.oneCell' = true := by simp
    have HZ1 := Lib.hid hz1
    have HZ2 := Lib.hid hz2
    have hzmx : n + 0 ≤ maxLen := by unfold maxLen; omega
    have hzby : (n + 0) * 24 ≤ 140737488355328 := by omega
    clear hdn hz1 hz2
    have HR := Lib.hid (HRE.out rfl)
    have hbw : w.heap.size < w1.heap.size := by simp at hs1; omega
    go_wp2_with fail
    go_region_held3 (fun w' => w'.cell? ⟨w.heap.size, 1, none⟩ = some (.int .i64 n)) (first | exact k1 | exact k1d | exact k1a | exact k1e | exact k1f) (first | (refine step_cat (by rfl) (.tmp 43) (.tmp 47) 22 (by rfl) _ 27 (.slice none 0 0) 1 24 undSSI infoSI rfl (by decide) _ 0 [] (by rfl) hoe (some ⟨g, 0, none⟩) n _ w1.heap.size ((rowsV rows).take n) (by rfl) hrta HL1.out HO1.out hmx1 hby1 hba1 ?_; intro v2 w2 ho2 hgr2 hat2; have hm2 := hal.grownNew hgr2 (fun g hg => (hoe.lt g hg).1); have hbxe := hbxd.mid hm2 (Or.inr (Nat.zero_le _)); have k1e := hbxe.cell 1 rfl; have hrs2 := HR.out.keep (w' := w2) (fun p hp => World.cell?_of_block (hm2.block p.block hp (Nat.not_lt_zero _ ∘ And.right))); have hsz2 := hm2.size; simp only [Nat.zero_add, List.nil_append] at ho2) | (refine step_cat (by rfl) (.tmp 48) (.tmp 53) 22 (by rfl) _ 27 (.slice none 0 0) 1 24 undSSI infoSI rfl (by decide) v2 n ((rowsV rows).take n) (by rfl) ho2 (some ⟨g, 0, none⟩) 0 _ w1.heap.size [] (by rfl) Rs.nil HZ1.out HZ2.out hzmx hzby hsz2 ?_; intro v3 w3 ho3 hgr3 hat3; have hm3 := hm2.grownNew hgr3 (fun g hg => (ho2.lt g hg).1); have k1f := (hbxd.mid hm3 (Or.inr (Nat.zero_le _))).cell 1 rfl))
    go_wp2_with fail
    go_ret2
    have hf := HF.out
    rw [HDN.out] at hf
    rw [hf] at ho3
    obtain ⟨A2, c2, rfl, -, -⟩ := owns_shape ho3
    have hsz3 := hm3.size
    have hOR := hrowsd.mid hm3 (Or.inl (Nat.zero_le _))
    exact RetMv.mk HE2.out (by have := HLEN.out; omega) ((OSS.mk' (owns_base ho3 hs1) (hOR.wide (Nat.le_refl _) hsz3 (Nat.le_refl _)) HFD.out).wide hs0 (Nat.le_refl _) (Nat.le_refl _)) (hmdd.trans hm3)
  · have hal : Mid 0 0 w1.drew (w1.drew.alloc (.cells #[] 27)) := Mid.alloc _ _
    have hoe := owns_empty w1.drew 27 1
    have hbxa := hbxd.mid hal (Or.inr (Nat.zero_le _))
    have k1a := hbxa.cell 1 rfl
    have hrta : Rs (w1.drew.alloc (.cells #[] 27)) w1.heap.size (some ⟨g, 0, none⟩) ((rowsV rows).take n) := hrst.alloc (Nat.le_refl _) _
    have hmx1 : 0 + n ≤ maxLen := by unfold maxLen; omega
    have hby1 : (0 + n) * 24 ≤ 140737488355328 := by omega
    have hba1 : w1.drew.heap.size ≤ (w1.drew.alloc (.cells #[] 27)).heap.size := by simp
    have HR := Lib.hid hrsd
    have hbw : w.heap.size < w1.heap.size := by simp at hs1; omega
    go_wp2_with fail
    go_region_held3 (fun w' => w'.cell? ⟨w.heap.size, 1, none⟩ = some (.int .i64 n)) (first | exact k1 | exact k1d | exact k1a | exact k1e | exact k1f) (first | (refine step_cat (by rfl) (.tmp 43) (.tmp 47) 22 (by rfl) _ 27 (.slice none 0 0) 1 24 undSSI infoSI rfl (by decide) _ 0 [] (by rfl) hoe (some ⟨g, 0, none⟩) n _ w1.heap.size ((rowsV rows).take n) (by rfl) hrta HL1.out HO1.out hmx1 hby1 hba1 ?_; intro v2 w2 ho2 hgr2 hat2; have hm2 := hal.grownNew hgr2 (fun g hg => (hoe.lt g hg).1); have hbxe := hbxd.mid hm2 (Or.inr (Nat.zero_le _)); have k1e := hbxe.cell 1 rfl; have hrs2 := HR.out.keep (w' := w2) (fun p hp => World.cell?_of_block (hm2.block p.block hp (Nat.not_lt_zero _ ∘ And.right))); have hsz2 := hm2.size; simp only [Nat.zero_add, List.nil_append] at ho2) | (refine step_cat (by rfl) (.tmp 48) (.tmp 53) 22 (by rfl) _ 27 (.slice none 0 0) 1 24 undSSI infoSI rfl (by decide) v2 n ((rowsV rows).take n) (by rfl) ho2 (some ⟨g, n + 1, none⟩) (d.length - (n + 1)) _ w1.heap.size ((rowsV rows).drop (n + 1)) (by rfl) hrs2 HL2.out HO2.out hbmx hbby hsz2 ?_; intro v3 w3 ho3 hgr3 hat3; have hm3 := hm2.grownNew hgr3 (fun g hg => (ho2.lt g hg).1); have k1f := (hbxd.mid hm3 (Or.inr (Nat.zero_le _))).cell 1 rfl))
    go_wp2_with fail
    go_ret2
    rw [HF.out] at ho3
    obtain ⟨A2, c2, rfl, -, -⟩ := owns_shape ho3
    have hsz3 := hm3.size
    have hOR := hrowsd.mid hm3 (Or.inl (Nat.zero_le _))
    exact RetMv.mk HE2.out HLEN.out ((OSS.mk' (owns_base ho3 hs1) (hOR.wide (Nat.le_refl _) hsz3 (Nat.le_refl _)) HFD.out).wide hs0 (Nat.le_refl _) (Nat.le_refl _)) (hmdd.trans hm3)
end Go.Proofs.Ytchgicdjdbjfgaa
