/- Contracts and lemmas of this seat, many texts in one: see the words ahead of each. No condition beyond those typed in each lemma. -/
import Derived.Test.YtimmnnncgnnkgaaFw4
import Derived.Test.YtimmnnncgnnkgaaFw3
import Derived.Test.YtimmnnncgnnkgaaFw2
import Derived.Test.YtimmnnncgnnkgaaFw1

/- The state of a pullback as the program walks it. -/
namespace Go.Proofs.Ytimmnnncgnnkgaa
set_option linter.unusedVariables false
set_option linter.unusedSimpArgs false
open Go.RowKit

/-- A fact that no tactic looks into. -/
structure Sec (p : Prop) : Prop where
  out : p
/-- The pairs' cells. -/
def prI (st : PS) : List Int := st.flatMap fun p => [p.1, p.2]
section
variable {W : World} {ops : Array Oper} {rest : List Oper} {o : Oper} {a : Act} {Q : Exit → Act → World → Prop}
end
/-- The order, the map, the edges and the graph's box. -/
structure PB (w : World) (r : Int) (Bo M G : Nat) (A1 : Option Addr) (n1 c1 : Nat) (sto stm : PS) (A2 : Option Addr) (n2 c2 : Nat) (xs : List Ed) : Prop where
  ord : w.ownsRow Bo 73 2 (.slice A1 n1 c1) n1 (ints (prI sto))
  map : PMap w M stm
  edg : w.ownsRow (G + 1) 70 3 (.slice A2 n2 c2) n2 (ints (edI xs))
  box : Box w G [.int .i64 r, .int .i64 0, .slice A2 n2 c2]
  ne : Value.ownBlock (.slice A1 n1 c1) ≠ some G
  lt : M < Bo
  le : Bo ≤ G
section
variable {w w' : World} {r : Int} {Bo M G : Nat} {A1 : Option Addr} {n1 c1 : Nat} {sto stm : PS} {A2 : Option Addr} {n2 c2 : Nat} {xs : List Ed}
theorem PB.mid (h : PB w r Bo M G A1 n1 c1 sto stm A2 n2 c2 xs) (m : Mid 0 0 w w') : PB w' r Bo M G A1 n1 c1 sto stm A2 n2 c2 xs :=
  ⟨owns_mid h.ord m (Or.inl (Nat.zero_le _)), h.map.mid m (Or.inr (Nat.zero_le _)), owns_mid h.edg m (Or.inl (Nat.zero_le _)), h.box.mid m (Or.inr (Nat.zero_le _)), h.ne, h.lt, h.le⟩
theorem PB.put {stm' : PS} (h : PB w r Bo M G A1 n1 c1 sto stm A2 n2 c2 xs) (hm : PMap w' M stm') (m : Mid M (M + 1) w w') : PB w' r Bo M G A1 n1 c1 sto stm' A2 n2 c2 xs := by
  have h1 := h.lt
  have h2 := h.le
  exact ⟨owns_mid h.ord m (Or.inl (by omega)), hm, owns_mid h.edg m (Or.inl (by omega)), h.box.mid m (Or.inr (by omega)), h.ne, h1, h2⟩
theorem PB.push {A' : Option Addr} {c' : Nat} {sto' : PS} (h : PB w r Bo M G A1 n1 c1 sto stm A2 n2 c2 xs) (h1 : w'.ownsRow Bo 73 2 (.slice A' (n1 + 1) c') (n1 + 1) (ints (prI sto'))) (hg : w.grownBy w' (Value.ownBlock (.slice A1 n1 c1)))
    (hat : Value.ownBlock (.slice A' (n1 + 1) c') = Value.ownBlock (.slice A1 n1 c1) ∨ Value.ownBlock (.slice A' (n1 + 1) c') = some (w.heap.size + 1)) : PB w' r Bo M G A' (n1 + 1) c' sto' stm A2 n2 c2 xs := by
  have hm := Mid.of_grownRow h.ord hg
  have hb := h.box.1
  refine ⟨h1, h.map.mid hm (Or.inl h.lt), ?_, h.box.grown hg h.ne, ?_, h.lt, h.le⟩
  · exact h.edg.kept hg (owns_ne h.edg h.ord (by decide))
  · rcases hat with e | e
    · rw [e]
      exact h.ne
    · rw [e]
      intro e2
      injection e2 with e2
      omega
theorem PB.edge {A' : Option Addr} {c' : Nat} {xs' : List Ed} (h : PB w r Bo M G A1 n1 c1 sto stm A2 n2 c2 xs) (h1 : w'.ownsRow (G + 1) 70 3 (.slice A' (n2 + 1) c') (n2 + 1) (ints (edI xs'))) (hg : w.grownBy w' (Value.ownBlock (.slice A2 n2 c2))) :
    PB (w'.setCell ⟨G, 2, none⟩ (.slice A' (n2 + 1) c')) r Bo M G A1 n1 c1 sto stm A' (n2 + 1) c' xs' := by
  have hm := Mid.of_grownRow h.edg hg
  have hst := Mid.setCell w' (lo := G) (hi := G + 1) (p := ⟨G, 2, none⟩) (.slice A' (n2 + 1) c') (Nat.le_refl _) (Nat.lt_succ_self _)
  have hlt := h.lt
  have hle := h.le
  have hne : Value.ownBlock (.slice A2 n2 c2) ≠ some G := fun e => by have := (h.edg.lt G e).1; omega
  have hne1 : Value.ownBlock (.slice A' (n2 + 1) c') ≠ some G := fun e => by have := (h1.lt G e).1; omega
  refine ⟨?_, (h.map.mid hm (Or.inl (by omega))).mid hst (Or.inl (by omega)), ?_, ?_, h.ne, hlt, hle⟩
  · exact owns_other (h.ord.kept hg (owns_ne h.ord h.edg (by decide))) (k := G) (grown_setCell (World.grownBy.refl _ (some G)) 2 (.slice A' (n2 + 1) c')) h.ne
  · exact owns_other h1 (k := G) (grown_setCell (World.grownBy.refl _ (some G)) 2 (.slice A' (n2 + 1) c')) hne1
  · exact (h.box.grown hg hne).set 2 _ (by simp) rfl
end
end Go.Proofs.Ytimmnnncgnnkgaa

/- CompareNielsen, both sides, and in the laws' words. -/
namespace Go.Proofs.Ytimmnnncgnnkgaa
set_option linter.unusedVariables false
set_option linter.unusedSimpArgs false
open Go.RowKit

/-- The order of Nielsen's lists on words. -/
def cmpN (a b : List Int) : Int := if a.length < b.length then -1 else if b.length < a.length then 1 else if cmpW (halves a).1 (halves b).1 = 0 then cmpW (halves a).2 (halves b).2 else cmpW (halves a).1 (halves b).1


def CompareNielsenIs (a b : List Int) (res : Int) : Prop := cmpN a b = res
theorem OI.cap {w : World} {lo hi : Nat} {A : Option Addr} {c : Nat} {xs : List Int} (h : OI w lo hi A c xs) : xs.length ≤ c := by
  obtain ⟨A', c', he, hn, -⟩ := owns_shape h.2.1
  injection he with _ _ hc
  omega

end Go.Proofs.Ytimmnnncgnnkgaa

/- ApplyMorphism, both sides, in the laws' words. -/
namespace Go.Proofs.Ytimmnnncgnnkgaa
set_option linter.unusedVariables false
set_option linter.unusedSimpArgs false
open Go.RowKit

def ApplyMorphismIs (r : Int) (d : List (List Int)) (l : List Int) (res : List Int) (b : Bool) : Prop :=
  ((IsMor r d ∧ IsW r l) → res = expand d l ∧ b = true) ∧ (¬ (IsMor r d ∧ IsW r l) → res = [] ∧ b = false)
theorem expand_len {d : List (List Int)} (hb : ∀ xs ∈ d, xs.length ≤ 24) (ho : ∀ xs ∈ d, OkI xs) (l : List Int) : (expand d l).length ≤ 4800 := by
  have h1 := red_nil_len (pieces d (l.take 200)).flatten
  have h2 := pieces_take_len hb ho l (Nat.le_refl 200)
  unfold expand
  omega
end Go.Proofs.Ytimmnnncgnnkgaa

/- FixedWords, the program: its walk. -/
namespace Go.Proofs.Ytimmnnncgnnkgaa
set_option linter.unusedVariables false
set_option linter.unusedSimpArgs false
open Go.RowKit

set_option maxHeartbeats 6400000 in
set_option maxRecDepth 100000 in
theorem impl_FixedWords (rk : Int) (A : Option Addr) (d : List (List Int)) (c : Nat) (most : Int) (w : World) (lo hi : Nat) (hr : RSS w lo hi A d) (hok : OkSS d) (hl : d.length + sumL d ≤ 1048576) (res : List (List Int)) (hres : FixIs rk d most res) :
    Calls Try.prog 34 #[.agg #[.int .i64 rk, .slice A d.length c], .int .i64 most] w fun e w' => ∃ A1 c1, e = .returned (.slice A1 res.length c1) ∧ OSS w' w.heap.size w'.heap.size 37 3 A1 c1 res ∧ Mid 0 0 w w' := by
  have HR := Lib.hid hres
  have HOK := Lib.hid hok
  clear hres hok
  obtain ⟨b1, hb1⟩ := bool_of (IsMor rk d)
  have H1 := Lib.hid hb1
  have hIM := fun W h => impl_IsMorphism rk A d c W lo hi h HOK.out hl b1 hb1
  have HIM := Lib.hid hIM
  clear hb1 hIM
  have hm0 : Mid 0 0 w ((w.alloc (.cells #[.int .i64 rk, .slice A d.length c] 53)).alloc (.cells #[] 37)) := (Mid.alloc _ _).trans (Mid.alloc _ _)
  have B0 := (Box.new w #[.int .i64 rk, .slice A d.length c] 53).mid (Mid.alloc _ (.cells #[] 37)) (Or.inr (Nat.zero_le _))
  have O0 := owns_empty (w.alloc (.cells #[.int .i64 rk, .slice A d.length c] 53)) 37 1
  simp only [World.size_alloc] at O0
  go_enter Try.func34, Try.ntmps34
  go_wp2_with fail
  generalize hw1 : (w.alloc (.cells #[.int .i64 rk, .slice A d.length c] 53)).alloc (.cells #[] 37) = w1 at hm0 B0 O0 ⊢
  have hs1 : w.heap.size + 1 < w1.heap.size := (O0.lt _ rfl).2
  clear hw1
  with_reducible refine (HIM.out _ (hr.mid hm0 (Or.inl (Nat.zero_le _)))).mono ?_
  rintro en w2 ⟨rfl, hm2⟩
  replace B0 := B0.mid hm2 (Or.inr (Nat.zero_le _))
  replace O0 := owns_mid O0 hm2 (Or.inl (Nat.zero_le _))
  replace hm0 := hm0.trans hm2
  have hs2 := hm2.size
  clear hm2
  cases b1 with
  | false =>
    have hno : ¬ FixOk rk d most := fun h => by have := H1.out.2 h.1; cases this
    obtain rfl := HR.out.no hno
    go_wp2_with fail
    go_ret
    exact ⟨_, _, rfl, OSS.mk' (owns_base O0 (by omega)) OwnRows.nil rfl, hm0⟩
  | true =>
  have F1 := Lib.hid (H1.out.1 rfl)
  clear H1 HIM
  have g1 : 1 ≤ rk := F1.out.1
  have g2 : rk ≤ 3 := F1.out.2.1
  rcases (Decidable.em (0 ≤ most ∧ most ≤ 4)).symm with hmo | hmo
  · have hib : inB most 0 4 = false := by unfold inB; simp; omega
    have hno : ¬ FixOk rk d most := fun h => hmo h.2
    go_wp2_with fail
    with_reducible refine (within_at hib _).mono ?_
    rintro en w3 ⟨rfl, rfl⟩
    obtain rfl := HR.out.no hno
    go_wp2_with fail
    go_ret
    exact ⟨_, _, rfl, OSS.mk' (owns_base O0 (by omega)) OwnRows.nil rfl, hm0⟩
  have hib : inB most 0 4 = true := by unfold inB; simp; omega
  go_wp2_with fail
  with_reducible refine (within_at hib _).mono ?_
  rintro en w3 ⟨rfl, rfl⟩
  have hre := HR.out.yes ⟨F1.out, hmo.1, hmo.2⟩
  obtain ⟨rn, rfl⟩ : ∃ n : Nat, rk = n := ⟨rk.toNat, by omega⟩
  obtain ⟨mn, rfl⟩ : ∃ n : Nat, most = n := ⟨most.toNat, by omega⟩
  rw [Int.toNat_natCast, Int.toNat_natCast] at hre
  have p0 := B0.cell 0 rfl
  have hib' := hib
  clear hib hib' HR
  go_wp2_with fail
  with_reducible refine (impl_wordsUpTo rn mn _ (by omega) (by omega) (by omega)).mono ?_
  rintro en w5 ⟨A5, c5, rfl, ho5, hm5⟩
  have hLL : (lets rn).length ≤ 6 := by rw [lets_len]; omega
  have hpb := pre_b (f := okB) hLL (n := mn + 1) (by omega)
  have hpo : ∀ v ∈ pre okB (lets rn) (mn + 1), v.length ≤ 4 ∧ ∀ x ∈ v, -3 ≤ x ∧ x ≤ 3 := fun v hv => by
    have h1 := pre_ok hv
    refine ⟨by omega, fun x hx => ?_⟩
    have h2 := mem_lets.1 (h1.2 x hx)
    omega
  obtain ⟨R, hR⟩ : ∃ R, pre okB (lets rn) (mn + 1) = R := ⟨_, rfl⟩
  rw [hR] at hre hpb hpo ho5 ⊢
  have HRE : Sec (res = fixW d R) := ⟨hre⟩
  have HPO := Lib.hid hpo
  have hs5 := hm5.size
  have hO3 : ∀ g, Value.ownBlock (.slice (some (⟨w.heap.size + 1, 0, none⟩ : Addr)) 0 0) = some g → g < w2.heap.size ∨ w5.heap.size ≤ g := fun g hg => Or.inl (O0.lt g hg).2
  replace B0 := B0.mid hm5 (Or.inr (Nat.zero_le _))
  replace O0 := owns_mid O0 hm5 (Or.inl (Nat.zero_le _))
  replace hm0 := hm0.trans hm5
  obtain ⟨-, rowsW, hRD, hOV, hOwn⟩ := ho5
  have HRV := Lib.hid hOV.rv
  have HS0 : Hid (SubR w5 (w.heap.size + 1) w2.heap.size (some ⟨w.heap.size + 1, 0, none⟩) 0 0 [] rowsW) := Lib.hid ⟨O0, hOwn, List.nil_sublist _⟩
  have HD0 := Lib.hid hO3
  have HRD := Lib.hid hRD
  obtain ⟨L, hL⟩ : ∃ L, R.length = L := ⟨_, rfl⟩
  have HL := Lib.hid hL
  have hLb : L ≤ 40000 := by omega
  have hbL : w.heap.size + 1 ≤ w2.heap.size := by omega
  have HRL : Hid (rowsW.length = L) := Lib.hid (by rw [← hL, ← hRD, rowsD_len])
  rw [hL]
  have HT0 : Hid (rowsD ([] : List Row) = fixW d (R.take 0)) := Lib.hid rfl
  have HSB0 : Hid (List.Sublist ([] : List Row) (rowsW.take 0)) := Lib.hid (List.nil_sublist _)
  generalize (some (⟨w.heap.size + 1, 0, none⟩ : Addr)) = AO at HS0 HD0 ⊢
  generalize w2.heap.size = Lq at HRV HS0 HD0 hs5 hbL
  generalize w5.heap.size = Hq at HRV HD0 hs5
  clear hre hpo hpb hR hOV hOwn hRD hO3 hL O0 hm5 p0 hLL
  go_wp2_with fail
  go_loopw [5, 23] (fun ov iv wr => ∃ (k n1 : Nat) (rows1 : List Row) (A1 : Option Addr) (c1 : Nat), iv = .int .i64 k ∧ ov = .slice A1 n1 c1 ∧ Hid (k ≤ L) ∧ Hid (rowsD rows1 = fixW d (R.take k)) ∧ Hid (List.Sublist rows1 (rowsW.take k)) ∧ Hid (SubR wr (w.heap.size + 1) Lq A1 n1 c1 rows1 rowsW) ∧ Hid (RV wr Lq Hq A5 (rowsV rowsW)) ∧ Hid (∀ g, Value.ownBlock (.slice A1 n1 c1) = some g → g < Lq ∨ Hq ≤ g) ∧ Box wr w.heap.size [.int .i64 rn, .slice A d.length c] ∧ Mid 0 0 w wr) (fun _ iv _ => L - (intOf iv).toNat)
  case atStart => exact ⟨0, 0, [], AO, 0, rfl, rfl, Lib.hid (Nat.zero_le _), HT0, HSB0, HS0, HRV, HD0, B0, hm0⟩
  case round =>
    clear HT0 HSB0 HS0 HRV HD0 B0 hm0
    obtain ⟨wo, hwo⟩ : ∃ wo, wo = wr := ⟨_, rfl⟩
    subst hwo
    obtain ⟨k, n1, rows1, A1, c1, rfl, rfl, HK, HT, HSB, HS, HRV, HD, B0, hm⟩ := hrel
    have hkL := HK.out
    have hn1 : n1 ≤ 40000 := by have h1 := HS.out.len; have h2 := HSB.out.length_le; rw [List.length_take] at h2; omega
    by_cases hlt : k < L
    · obtain ⟨rr, hrr⟩ := get_of_lt rowsW (show k < rowsW.length by rw [HRL.out]; exact hlt)
      have hxs : R[k]? = some rr.xs := by rw [← HRD.out]; simp [rowsD, hrr]
      obtain ⟨g5, o5, hA5, hg5l, hg5, hcs⟩ := HRV.out.2 (by intro h0; have := congrArg List.length h0; rw [rowsV_len, HRL.out] at this; simp at this; omega)
      subst hA5
      have hce := hcs k rr.v (by simp [rowsV, hrr])
      have hmem := List.mem_of_getElem? hrr
      have hov := HS.out.own.1 rr hmem
      have hrv := OV.rv hov
      have hcap := owns_cap hov.2.1
      obtain ⟨hwl, hwb⟩ := HPO.out rr.xs (List.mem_of_getElem? hxs)
      have HXS := Lib.hid hxs
      have HRR := Lib.hid hrr
      obtain ⟨Aw, cw, xw⟩ := rr
      simp only [Row.v] at hce hrv hcap hwl hwb
      simp only at HXS
      have hk0 : (0 : Int) ≤ (k : Int) := by omega
      have hk1 : (k : Int) < (L : Int) := by omega
      have hg5s : g5 < wo.heap.size := Nat.lt_of_lt_of_le hg5 HRV.out.1
      have p1 := B0.cell 1 rfl
      have hoki : OkI xw := fun x hx => by have := hwb x hx; omega
      have hEx := impl_ExpandBy A d c Aw xw cw wo lo hi (hr.mid hm (Or.inl (Nat.zero_le _))) hrv.rsS hcap (fun xs hx => (F1.out.2.2.2 xs hx).2.2.1) HOK.out.2 hoki (by omega) (by omega)
      clear hrr hxs hcs hmem hov
      go_wp2_with fail
      with_reducible refine hEx.mono ?_
      intro en w6 hq6
      obtain ⟨A6, c6, rfl, ho6, hm6⟩ := RetI.get hq6
      clear hq6 hEx p1
      have hel := expand_len (fun xs hx => (F1.out.2.2.2 xs hx).2.2.1) HOK.out.2 xw
      obtain ⟨b, hb⟩ := bool_of (expand d xw = xw)
      have HB := Lib.hid hb
      have hE := impl_EqualWords A6 Aw (expand d xw) xw c6 cw w6 _ _ (owns_rv ho6).rs (hrv.mid hm6 (Or.inl (Nat.zero_le _))).rs (by omega) b hb
      have hs6 := hm6.size
      have B6 := B0.mid hm6 (Or.inr (Nat.zero_le _))
      have HS6 := Lib.hid (HS.out.mid hm6)
      have HRV6 := Lib.hid (HRV.out.mid hm6 (Or.inl (Nat.zero_le _)))
      have hm7 := hm.trans hm6
      clear hb hm6 hm HS HRV B0 hrv ho6
      go_wp2_with fail
      with_reducible refine hE.mono ?_
      rintro en w7 ⟨rfl, nd, rfl⟩
      have hmd := (Mid.refl 0 0 w6).drewN nd
      have B7 := B6.mid hmd (Or.inr (Nat.zero_le _))
      have HS7 := Lib.hid (HS6.out.mid hmd)
      have HRV7 := Lib.hid (HRV6.out.mid hmd (Or.inl (Nat.zero_le _)))
      replace hm7 := hm7.trans hmd
      have hs7 := hmd.size
      generalize w6.drewN nd = w7 at B7 HS7 HRV7 hm7 hs7 ⊢
      clear hE B6 HS6 HRV6 hmd
      cases b with
      | true =>
        have hq := HB.out.1 rfl
        have htk : rowsW.take (k + 1) = rowsW.take k ++ [⟨Aw, cw, xw⟩] := by
          obtain ⟨h1, h2⟩ := List.getElem?_eq_some_iff.1 HRR.out
          rw [List.take_succ_eq_append_getElem h1, h2]
        have HTK := Lib.hid htk
        have HSB2 : Hid (List.Sublist (rows1 ++ [(⟨Aw, cw, xw⟩ : Row)]) (rowsW.take (k + 1))) := Lib.hid (by rw [htk]; exact HSB.out.append (List.Sublist.refl _))
        have HT2 : Hid (rowsD (rows1 ++ [(⟨Aw, cw, xw⟩ : Row)]) = fixW d (R.take (k + 1))) := Lib.hid (by
          rw [fixW_take HXS.out, if_pos hq, rowsD_append, HT.out]
          simp [rowsD])
        clear htk hq HTK HB
        go_wp2_with (at_builtin; refine MarkerX.to ?_)
        unfold MarkerX
        refine wpList_pushSub rfl _ _ rfl rfl HS7.out ⟨Aw, cw, xw⟩ (.slice Aw xw.length cw) rfl (HSB2.out.trans (List.take_sublist _ _)) rfl (by omega) (by omega) ?_
        intro A8 c8 w8 hS8 hgr hat
        have HS8 := Lib.hid hS8
        have HRV8 := Lib.hid (HRV7.out.grown hgr HD.out)
        have hlo : ∀ g, Value.ownBlock (.slice A1 n1 c1) = some g → w.heap.size + 1 ≤ g := fun g hg => (HS7.out.out.lt g hg).1
        have B8 := B7.grown hgr (by intro h0; have := hlo _ h0; omega)
        have hm8 := hm7.grownNew hgr (fun g hg => by have := hlo g hg; omega)
        have HD8 : Hid (∀ g, Value.ownBlock (.slice A8 (n1 + 1) c8) = some g → g < Lq ∨ Hq ≤ g) := Lib.hid (by
          intro g hg
          rcases hat with h0 | h0
          · exact HD.out g (h0 ▸ hg)
          · rw [h0] at hg
            injection hg with hg
            have := HRV7.out.1
            omega)
        clear hS8 hgr hat hlo HS7 HRV7 B7 hm7 HD HT HSB
        go_wp2_with fail
        go_roundw
        case rel => exact ⟨k + 1, n1 + 1, _, A8, c8, by go_num, rfl, Lib.hid (by omega), HT2, HSB2, HS8, HRV8, HD8, B8, hm8⟩
        case measure => simp [intOf]; omega
      | false =>
        have hq : ¬ expand d xw = xw := fun h => by have := HB.out.2 h; cases this
        have htk : rowsW.take (k + 1) = rowsW.take k ++ [⟨Aw, cw, xw⟩] := by
          obtain ⟨h1, h2⟩ := List.getElem?_eq_some_iff.1 HRR.out
          rw [List.take_succ_eq_append_getElem h1, h2]
        have HSB2 : Hid (List.Sublist rows1 (rowsW.take (k + 1))) := Lib.hid (by rw [htk]; exact HSB.out.trans (List.sublist_append_left _ _))
        have HT2 : Hid (rowsD rows1 = fixW d (R.take (k + 1))) := Lib.hid (by
          rw [fixW_take HXS.out, if_neg hq, List.append_nil]
          exact HT.out)
        clear htk hq HB
        go_wp2_with fail
        go_roundw
        case rel => exact ⟨k + 1, n1, _, A1, c1, by go_num, rfl, Lib.hid (by omega), HT2, HSB2, HS7, HRV7, HD, B7, hm7⟩
        case measure => simp [intOf]; omega
    · obtain rfl : L = k := by omega
      have hll : ((L : Int) < (L : Int)) = False := by simp
      have htk : R.take L = R := List.take_of_length_le (by rw [HL.out]; exact Nat.le_refl _)
      have hres : rowsD rows1 = res := by rw [HRE.1, ← htk]; exact HT.out
      have hln : res.length = n1 := by rw [← hres, rowsD_len]; exact HS.out.len
      have HQ : Hid (OSS wo w.heap.size wo.heap.size 37 3 A1 c1 res) := Lib.hid (OSS.mk' (owns_base HS.out.out (Nat.le_succ _)) ⟨fun r hr => (HS.out.own.1 r (HS.out.sub.subset hr)).wide (by omega) (Nat.le_refl _) (Nat.le_refl _), HS.out.own.2.sublist HS.out.sub⟩ hres)
      clear htk hres HS HT HRE
      subst hln
      go_wp2_with fail
      go_ret
      exact ⟨_, _, rfl, HQ.out, hm⟩
end Go.Proofs.Ytimmnnncgnnkgaa

/- Regions that draw their order, with cells that every operation but the last ones leaves as they are. -/
namespace Go.Proofs.Ytimmnnncgnnkgaa
set_option linter.unusedVariables false
set_option linter.unusedSimpArgs false
open Go.RowKit

section
variable {P : Program} {ops : Array Oper} {Q : Exit → Act → World → Prop} {md : Region.Mode} {S : World → Prop} {Z : List Nat}

/-- Whatever order is picked from here on; S holds behind every operation but those of Z. -/
def wpAnyZ (P : Program) (md : Region.Mode) (ops : Array Oper) (Q : Exit → Act → World → Prop) (S : World → Prop) (Z : List Nat) : Nat → Array Bool → Act → World → Prop
  | 0, listed, a, w => Region.ready md ops listed = [] ∧ Q .normal a w
  | fuel + 1, listed, a, w =>
    (Region.ready md ops listed = [] → Q .normal a w) ∧
    ∀ i ∈ Region.ready md ops listed, wpOp P ops Q i (fun a' w' => (i ∈ Z ∨ S w') ∧ wpAnyZ P md ops Q S Z fuel (listed.setIfInBounds i true) a' w') a w
theorem wpAny_of_Z : ∀ (fuel : Nat) (listed : Array Bool) (a : Act) (w : World), wpAnyZ P md ops Q S Z fuel listed a w → wpAny P md ops Q fuel listed a w
  | 0, _, _, _, h => h
  | fuel + 1, _, _, _, h => ⟨h.1, fun i hi => wpOp_mono (fun a' w' h' => wpAny_of_Z fuel _ a' w' h'.2) (h.2 i hi)⟩
/-- The last operation does not come up while one that it waits for has not. -/
theorem not_lastZ {z i : Nat} {listed : Array Bool} (hz : Region.waitsFor md ops z i = true) (hun : listed.getD i true = false) : z ∉ Region.ready md ops listed := by
  intro hr
  obtain ⟨-, oz, hoz, hall⟩ := mem_ready.1 hr
  obtain ⟨oz', hoz', e, he, hb, hon⟩ := Region.waitsFor_spec hz
  obtain rfl : oz' = oz := Option.some.inj (hoz'.symm.trans hoz)
  have h1 := hall e he hb
  rw [hon, getD_both hun] at h1
  cases h1
theorem not_lastC {i m : Nat} {C : List Nat} {listed : Array Bool} (hC : ∀ m ∈ C, listed.getD m true = false ∧ ∃ p ∈ i :: C, Region.waitsFor md ops m p = true) (hi : listed.getD i true = false) (hm : m ∈ C) : m ∉ Region.ready md ops listed := by
  obtain ⟨-, p, hp, hw⟩ := hC m hm
  have hun : listed.getD p true = false := by
    rcases List.mem_cons.1 hp with rfl | hp
    · exact hi
    · exact (hC p hp).1
  exact not_lastZ hw hun
theorem wpAnyZ_firstC {i : Nat} {oi : Oper} {v : Value} {C : List Nat} (hi : ops[i]? = some oi) (hsel : ∀ (j : Nat) (o : Oper) cs b, ops[j]? = some o → o.op ≠ .select cs b)
    (hQ : ∀ c a w, Q (.panic c) (a.put oi.dst v) w → Q (.panic c) a w) (hZC : ∀ z ∈ Z, z ∈ C) :
    ∀ (fuel : Nat) (listed : Array Bool) (a : Act) (w : World),
      (∀ j oj, ops[j]? = some oj → j ≠ i → listed.getD j true = false → (∀ e ∈ oj.after, Region.binds md e = true → e.on ≠ i) → oi.apart ops oj = true) →
      (∀ m ∈ C, listed.getD m true = false ∧ ∃ p ∈ i :: C, Region.waitsFor md ops m p = true) →
      i ∈ Region.ready md ops listed → YieldsIf P ops S oi v a → S w →
      wpAnyZ P md ops Q S Z fuel (listed.setIfInBounds i true) (a.put oi.dst v) w → wpAnyZ P md ops Q S Z (fuel + 1) listed a w := by
  intro fuel
  induction fuel with
  | zero =>
    intro listed a w _ _ hr hy hS H
    refine ⟨fun h => (by rw [h] at hr; cases hr), fun j hj => ?_⟩
    by_cases hji : j = i
    · subst hji; exact hy.wpOp hi hS ⟨.inr hS, H⟩
    · have := ready_mono hj hji
      rw [H.1] at this
      cases this
  | succ fuel ih =>
    intro listed a w hfree hC hr hy hS H
    refine ⟨fun h => (by rw [h] at hr; cases hr), fun j hj => ?_⟩
    by_cases hji : j = i
    · subst hji; exact hy.wpOp hi hS ⟨.inr hS, H⟩
    · have hjC : j ∉ C := fun e => not_lastC hC (mem_ready.1 hr).1 e hj
      have hjz : j ∉ Z := fun e => hjC (hZC j e)
      have h1 := H.2 j (ready_mono hj hji)
      obtain ⟨hjun, oj, hoj, hall⟩ := mem_ready.1 hj
      have hnot : ∀ e ∈ oj.after, Region.binds md e = true → e.on ≠ i := fun e he hb heq => by
        have h1 := hall e he hb
        have h0 := (mem_ready.1 hr).1
        rw [heq] at h1
        rcases Nat.lt_or_ge i listed.size with h' | h'
        · simp [h'] at h0 h1; rw [h0] at h1; cases h1
        · simp [Array.getElem?_eq_none h'] at h1
      have h2 := wpOp_putIf hoj (hfree j oj hoj hji hjun hnot) (fun cs b => hsel i oi cs b hi) (fun cs b => hsel j oj cs b hoj) hQ hy h1
      have hfree' : ∀ k ok, ops[k]? = some ok → k ≠ i → (listed.setIfInBounds j true).getD k true = false →
          (∀ e ∈ ok.after, Region.binds md e = true → e.on ≠ i) → oi.apart ops ok = true := fun k ok hk hki hun hno => by
        refine hfree k ok hk hki ?_ hno
        by_cases hjk : j = k
        · subst hjk; exact hjun
        · rw [getD_set_ne true hjk] at hun; exact hun
      have hC' : ∀ m ∈ C, (listed.setIfInBounds j true).getD m true = false ∧ ∃ p ∈ i :: C, Region.waitsFor md ops m p = true := fun m hm => by
        refine ⟨?_, (hC m hm).2⟩
        have hjm : j ≠ m := fun e => hjC (e ▸ hm)
        rw [getD_set_ne true hjm]
        exact (hC m hm).1
      refine wpOp_mono (fun a' w' h3 => ?_) h2
      have hS' : S w' := h3.2.1.resolve_left hjz
      refine ⟨.inr hS', ih (listed.setIfInBounds j true) a' w' hfree' hC' (ready_mono hr (Ne.symm hji)) h3.1 hS' ?_⟩
      rw [Array.setIfInBounds_comm _ _ hji]
      exact h3.2.2
theorem wpAnyZ_takeC (C : List Nat) {i : Nat} {oi : Oper} {v : Value} {fuel : Nat} {listed : Array Bool} {a : Act} {w : World} (hi : ops[i]? = some oi)
    (hs : Region.noSelect ops = true) (hf : Region.free md ops listed i = true) (hr : (Region.ready md ops listed).contains i = true)
    (hz : ((Z.all fun z => C.contains z) && C.all fun m => (listed.getD m true == false) && (i :: C).any fun p => Region.waitsFor md ops m p) = true)
    (hQ : ∀ c a w, Q (.panic c) (a.put oi.dst v) w → Q (.panic c) a w) (hy : YieldsIf P ops S oi v a) (hS : S w)
    (h : wpAnyZ P md ops Q S Z fuel (listed.setIfInBounds i true) (a.put oi.dst v) w) : wpAnyZ P md ops Q S Z (fuel + 1) listed a w := by
  rw [Bool.and_eq_true] at hz
  refine wpAnyZ_firstC hi (Region.noSelect_spec hs) hQ (C := C) (fun z hzm => by simpa using List.all_eq_true.1 hz.1 z hzm) fuel listed a w (Region.free_spec hi hf) (fun m hm => ?_) (by simpa using hr) hy hS h
  have := List.all_eq_true.1 hz.2 m hm
  rw [Bool.and_eq_true] at this
  refine ⟨by simpa using this.1, ?_⟩
  obtain ⟨p, hp, hw⟩ := List.any_eq_true.1 this.2
  exact ⟨p, hp, hw⟩
def AllReadyZ (P : Program) (md : Region.Mode) (ops : Array Oper) (Q : Exit → Act → World → Prop) (S : World → Prop) (Z : List Nat) (fuel : Nat) (listed : Array Bool) (a : Act) (w : World) (rs : List Nat) : Prop :=
  ∀ i ∈ rs, wpOp P ops Q i (fun a' w' => (i ∈ Z ∨ S w') ∧ wpAnyZ P md ops Q S Z fuel (listed.setIfInBounds i true) a' w') a w
theorem AllReadyZ.nil {fuel : Nat} {listed : Array Bool} {a : Act} {w : World} : AllReadyZ P md ops Q S Z fuel listed a w [] := fun _ h => by cases h
theorem AllReadyZ.cons {fuel : Nat} {listed : Array Bool} {a : Act} {w : World} {i : Nat} {o : Oper} {rs : List Nat} (ho : ops[i]? = some o)
    (h : ∀ K' : Act → World → Prop, Shut (∀ a w, (i ∈ Z ∨ S w) → ((i ∈ Z ∨ S w) → wpAnyZ P md ops Q S Z fuel (listed.setIfInBounds i true) a w) → K' a w) → if Region.wanted o (yielded ops a.tmps) = true then Oper.wp P o a w K' Q else K' (a.put o.dst undef) w)
    (hs : AllReadyZ P md ops Q S Z fuel listed a w rs) : AllReadyZ P md ops Q S Z fuel listed a w (i :: rs) := fun j hj => by
  rcases List.mem_cons.1 hj with rfl | hj
  · exact wpOp_step ho (fun K' hK => h K' (fun a w hS hW => hK a w ⟨hS, hW hS⟩))
  · exact hs j hj
theorem wpAnyZ_ready {rs : List Nat} {fuel : Nat} {listed : Array Bool} {a : Act} {w : World} (hr : Region.ready md ops listed = rs) (hne : rs ≠ [])
    (h : AllReadyZ P md ops Q S Z fuel listed a w rs) : wpAnyZ P md ops Q S Z (fuel + 1) listed a w :=
  ⟨fun h0 => absurd (hr.symm.trans h0) hne, fun i hi => h i (hr ▸ hi)⟩
theorem wpAnyZ_done {listed : Array Bool} {a : Act} {w : World} (hr : Region.ready md ops listed = []) (h : Q .normal a w) : ∀ fuel, wpAnyZ P md ops Q S Z fuel listed a w
  | 0 => ⟨hr, h⟩
  | _ + 1 => ⟨fun _ => h, by rw [hr]; simp⟩
theorem wp_region_Z {id : Nat} {a : Act} {w : World} (Z : List Nat) (hm : P.follows .mixedOrders = true) (hS : S w.drew)
    (h : wpAnyZ P .any ops Q S Z ops.size (Array.replicate ops.size false) a w.drew) : (Code.region id ops true).wp P Q a w :=
  wp_region_any hm (wpAny_of_Z _ _ _ _ h)
end
end Go.Proofs.Ytimmnnncgnnkgaa

/- CompleteGraph, the reference. -/
namespace Go.Proofs.Ytimmnnncgnnkgaa
set_option linter.unusedVariables false
set_option linter.unusedSimpArgs false
open Go.RowKit

end Go.Proofs.Ytimmnnncgnnkgaa

/- AddEdge and WholeGroup, the reference. -/
namespace Go.Proofs.Ytimmnnncgnnkgaa
set_option linter.unusedVariables false
set_option linter.unusedSimpArgs false
open Go.RowKit

set_option maxHeartbeats 3200000 in
set_option maxRecDepth 20000 in
theorem spec_AddEdge (r s : Int) (A : Option Addr) (es : List Ed) (c : Nat) (e : Ed) (w : World) (lo hi : Nat) (hr : RG w lo hi A es) (hg : IsGr r s es) (he : edB r s e = true) (hl : es.length < 120) (hne : es.length < (putE e es).length) :
    Calls Try.prog 101 #[graV r s A es.length c, e.v] w fun en w' => ∃ A1 c1, en = .returned (.tuple #[graV r s A1 (putE e es).length c1, .bool true]) ∧ RG w' w.heap.size w'.heap.size A1 (putE e es) ∧ Mid 0 0 w w' := by
  have hm0 : Mid 0 0 w (((w.alloc (.cells #[.int .i64 r, .int .i64 s, .slice A es.length c] 28)).alloc (.cells #[.int .i64 e.a, .int .i64 e.l, .int .i64 e.b] 70)).alloc (.cells #[.int .i64 0, .int .i64 0, .slice none 0 0] 28)) := ((Mid.alloc _ _).trans (Mid.alloc _ _)).trans (Mid.alloc _ _)
  have B0 := ((Box.new w #[.int .i64 r, .int .i64 s, .slice A es.length c] 28).mid (Mid.alloc _ (.cells #[.int .i64 e.a, .int .i64 e.l, .int .i64 e.b] 70)) (Or.inr (Nat.zero_le _))).mid (Mid.alloc _ (.cells #[.int .i64 0, .int .i64 0, .slice none 0 0] 28)) (Or.inr (Nat.zero_le _))
  have B1 := (Box.new (w.alloc (.cells #[.int .i64 r, .int .i64 s, .slice A es.length c] 28)) #[.int .i64 e.a, .int .i64 e.l, .int .i64 e.b] 70).mid (Mid.alloc _ (.cells #[.int .i64 0, .int .i64 0, .slice none 0 0] 28)) (Or.inr (Nat.zero_le _))
  have B2 := Box.new ((w.alloc (.cells #[.int .i64 r, .int .i64 s, .slice A es.length c] 28)).alloc (.cells #[.int .i64 e.a, .int .i64 e.l, .int .i64 e.b] 70)) #[.int .i64 0, .int .i64 0, .slice none 0 0] 28
  simp only [World.size_alloc] at B1 B2
  have HG := Lib.hid hg
  clear hg
  go_enter Try.func101, Try.ntmps101
  go_wp2_with fail
  generalize ((w.alloc (.cells #[.int .i64 r, .int .i64 s, .slice A es.length c] 28)).alloc (.cells #[.int .i64 e.a, .int .i64 e.l, .int .i64 e.b] 70)).alloc (.cells #[.int .i64 0, .int .i64 0, .slice none 0 0] 28) = w1 at hm0 B0 B1 B2 ⊢
  have hs1 : w.heap.size + 1 + 1 < w1.heap.size := B2.1
  with_reducible refine (spec_l4Copy r s A es c _ _ _ (hr.mid hm0 (Or.inl (Nat.zero_le _))) (by omega)).mono ?_
  rintro en w2 ⟨A1, c1, rfl, ho2, hm2⟩
  have hal := Mid.alloc w2 (.cells #[.int .i64 r, .int .i64 s, .slice A1 es.length c1] 28)
  have Y3 := Box.new w2 #[.int .i64 r, .int .i64 s, .slice A1 es.length c1] 28
  have hs2 := hm2.size
  replace B0 := B0.mid hm2 (Or.inr (Nat.zero_le _))
  replace B1 := B1.mid hm2 (Or.inr (Nat.zero_le _))
  replace B2 := B2.mid hm2 (Or.inr (Nat.zero_le _))
  replace hm0 := hm0.trans hm2
  replace B0 := B0.mid hal (Or.inr (Nat.zero_le _))
  replace B1 := B1.mid hal (Or.inr (Nat.zero_le _))
  replace B2 := B2.mid hal (Or.inr (Nat.zero_le _))
  replace hm0 := hm0.trans hal
  have p0 := B0.cell 0 rfl
  have p1 := B0.cell 1 rfl
  have p2 := B0.cell 2 rfl
  go_wp2_with fail
  generalize w2.alloc (.cells #[.int .i64 r, .int .i64 s, .slice A1 es.length c1] 28) = w3 at hm0 B0 B1 B2 Y3 p0 p1 p2 ⊢
  have hG3 : w2.heap.size < w3.heap.size := Y3.1
  with_reducible refine (spec_IsGraph r s A es c _ _ _ (hr.mid hm0 (Or.inl (Nat.zero_le _))).rv (by omega) true (iff_of_true rfl HG.out)).mono ?_
  rintro en w4 ⟨rfl, hm4⟩
  replace B0 := B0.mid hm4 (Or.inr (Nat.zero_le _))
  replace B1 := B1.mid hm4 (Or.inr (Nat.zero_le _))
  replace B2 := B2.mid hm4 (Or.inr (Nat.zero_le _))
  replace Y3 := Y3.mid hm4 (Or.inr (Nat.zero_le _))
  replace hm0 := hm0.trans hm4
  have hs4 := hm4.size
  clear p0 p1 p2 hm4 ho2 hal
  have p0 := B0.cell 0 rfl
  have p1 := B0.cell 1 rfl
  have p2 := B0.cell 2 rfl
  have k0 := B1.cell 0 rfl
  have k1 := B1.cell 1 rfl
  have k2 := B1.cell 2 rfl
  go_wp2_with fail
  have hEd := spec_l4Edge r s A es.length c e w4
  rw [he] at hEd
  with_reducible refine hEd.mono ?_
  rintro en w5 ⟨rfl, hm5⟩
  replace B0 := B0.mid hm5 (Or.inr (Nat.zero_le _))
  replace B1 := B1.mid hm5 (Or.inr (Nat.zero_le _))
  replace B2 := B2.mid hm5 (Or.inr (Nat.zero_le _))
  replace Y3 := Y3.mid hm5 (Or.inr (Nat.zero_le _))
  replace hm0 := hm0.trans hm5
  have hs5 := hm5.size
  clear p0 p1 p2 k0 k1 k2 hm5 hEd
  have p0 := B0.cell 0 rfl
  have p1 := B0.cell 1 rfl
  have p2 := B0.cell 2 rfl
  have k0 := B1.cell 0 rfl
  have k1 := B1.cell 1 rfl
  have k2 := B1.cell 2 rfl
  have d1 : decide ((120 : Int) ≤ (es.length : Int)) = false := by simp; omega
  go_wp2_with fail
  with_reducible refine (spec_l4Put A es c e w5 _ _ (hr.mid hm0 (Or.inl (Nat.zero_le _))) (by omega)).mono ?_
  rintro en w6 ⟨A6, c6, rfl, ho6, hm6⟩
  replace B0 := B0.mid hm6 (Or.inr (Nat.zero_le _))
  replace B1 := B1.mid hm6 (Or.inr (Nat.zero_le _))
  replace B2 := B2.mid hm6 (Or.inr (Nat.zero_le _))
  replace Y3 := Y3.mid hm6 (Or.inr (Nat.zero_le _))
  replace hm0 := hm0.trans hm6
  have hs6 := hm6.size
  clear p0 p1 p2 k0 k1 k2 hm6
  obtain ⟨P, hP⟩ : ∃ P, putE e es = P := ⟨_, rfl⟩
  rw [hP] at hne ho6 ⊢
  have hst := Mid.setCell w6 (lo := w2.heap.size) (hi := w2.heap.size + 1) (p := ⟨w2.heap.size, 2, none⟩) (.slice A6 P.length c6) (Nat.le_refl _) (Nat.lt_succ_self _)
  have qf := Y3.2.2
  have q2 := Y3.cell 2 rfl
  have hG6 : w2.heap.size < w6.heap.size := Y3.1
  have Y4 := Y3.set 2 (.slice A6 P.length c6) (by simp) rfl
  simp only [List.set_cons_succ, List.set_cons_zero] at Y4
  have B0s := B0.mid hst (Or.inl (by omega))
  have B2s := B2.mid hst (Or.inl (by omega))
  have hm9 := hm0.storeNew (p := ⟨w2.heap.size, 2, none⟩) (by show w.heap.size ≤ w2.heap.size; omega) (.slice A6 P.length c6)
  have ho9 := (OG.rg ho6).mid hst (Or.inl (by omega))
  have hs9 := hst.size
  go_wp2_with fail
  generalize w6.setCell ⟨w2.heap.size, 2, none⟩ (.slice A6 P.length c6) = w9 at Y4 B0s B2s hm9 ho9 hs9 ⊢
  have hmd := Mid.drew1 w9
  clear B0 B2 Y3 hm0 ho6 hst B1
  have hsd : w9.heap.size ≤ w9.drew.heap.size := Nat.le_refl _
  replace B0s := B0s.mid hmd (Or.inr (Nat.zero_le _))
  replace B2s := B2s.mid hmd (Or.inr (Nat.zero_le _))
  replace Y4 := Y4.mid hmd (Or.inr (Nat.zero_le _))
  replace ho9 := ho9.mid hmd (Or.inl (Nat.zero_le _))
  replace hm9 := hm9.trans hmd
  have p0 := B0s.cell 0 rfl
  have p1 := B0s.cell 1 rfl
  have p2 := B0s.cell 2 rfl
  have q0 := Y4.cell 0 rfl
  have q1 := Y4.cell 1 rfl
  have q2 := Y4.cell 2 rfl
  have d2 : decide ((es.length : Int) < (P.length : Int)) = true := by simp; omega
  clear qf q2
  have hb2 : w.heap.size + 1 + 1 < w2.heap.size := by omega
  clear q0 q1 q2 p0 p1 p2
  have q0 := Y4.cell 0 rfl
  have q1 := Y4.cell 1 rfl
  have q2 := Y4.cell 2 rfl
  have p0 := B0s.cell 0 rfl
  have p1 := B0s.cell 1 rfl
  have p2 := B0s.cell 2 rfl
  refine wp_region_Z (S := (fun w' => (w'.cell? ⟨w2.heap.size, 0, none⟩ = some (.int .i64 r) ∧ w'.cell? ⟨w2.heap.size, 1, none⟩ = some (.int .i64 s) ∧ w'.cell? ⟨w2.heap.size, 2, none⟩ = some (.slice A6 P.length c6)) ∧ w'.cell? ⟨w.heap.size, 2, none⟩ = some (.slice A es.length c))) [] (by kernel_rfl) ⟨⟨q0, q1, q2⟩, p2⟩ ?_
  generalize World.drew w9 = wz at Y4 B0s B2s hm9 ho9 hsd q0 q1 q2 p2 ⊢
  have hS : (wz.cell? ⟨w2.heap.size, 0, none⟩ = some (.int .i64 r) ∧ wz.cell? ⟨w2.heap.size, 1, none⟩ = some (.int .i64 s) ∧ wz.cell? ⟨w2.heap.size, 2, none⟩ = some (.slice A6 P.length c6)) ∧ wz.cell? ⟨w.heap.size, 2, none⟩ = some (.slice A es.length c) := ⟨⟨q0, q1, q2⟩, p2⟩
  refine wpAnyZ_takeC [] (i := 0) (v := ?_) rfl (by kernel_rfl) (by kernel_rfl) (by kernel_rfl) (by kernel_rfl) (fun _ _ _ h => h) (Or.inl ⟨by rfl, ?_⟩) hS ?_
  rotate_left
  focus (intro w hSw; (try dsimp only at hSw); go_simp; try with_reducible rfl)
  try simp only [Act.put, List.setIfInBounds_toArray, List.set_cons_zero, List.set_cons_succ, List.getElem_toArray, List.getElem_cons_zero, List.getElem_cons_succ]
  refine wpAnyZ_takeC [] (i := 1) (v := ?_) rfl (by kernel_rfl) (by kernel_rfl) (by kernel_rfl) (by kernel_rfl) (fun _ _ _ h => h) (Or.inl ⟨by rfl, ?_⟩) hS ?_
  rotate_left
  focus (intro w hSw; (try dsimp only at hSw); go_simp; try with_reducible rfl)
  try simp only [Act.put, List.setIfInBounds_toArray, List.set_cons_zero, List.set_cons_succ, List.getElem_toArray, List.getElem_cons_zero, List.getElem_cons_succ]
  refine wpAnyZ_takeC [] (i := 2) (v := ?_) rfl (by kernel_rfl) (by kernel_rfl) (by kernel_rfl) (by kernel_rfl) (fun _ _ _ h => h) (Or.inl ⟨by rfl, ?_⟩) hS ?_
  rotate_left
  focus (intro w hSw; (try dsimp only at hSw); go_simp; try with_reducible rfl)
  try simp only [Act.put, List.setIfInBounds_toArray, List.set_cons_zero, List.set_cons_succ, List.getElem_toArray, List.getElem_cons_zero, List.getElem_cons_succ]
  refine wpAnyZ_takeC [] (i := 3) (v := ?_) rfl (by kernel_rfl) (by kernel_rfl) (by kernel_rfl) (by kernel_rfl) (fun _ _ _ h => h) (Or.inl ⟨by rfl, ?_⟩) hS ?_
  rotate_left
  focus (intro w hSw; (try dsimp only at hSw); go_simp; try with_reducible rfl)
  try simp only [Act.put, List.setIfInBounds_toArray, List.set_cons_zero, List.set_cons_succ, List.getElem_toArray, List.getElem_cons_zero, List.getElem_cons_succ]
  refine wpAnyZ_takeC [] (i := 4) (v := ?_) rfl (by kernel_rfl) (by kernel_rfl) (by kernel_rfl) (by kernel_rfl) (fun _ _ _ h => h) (Or.inl ⟨by rfl, ?_⟩) hS ?_
  rotate_left
  focus (intro w hSw; (try dsimp only at hSw); go_simp; try with_reducible rfl)
  try simp only [Act.put, List.setIfInBounds_toArray, List.set_cons_zero, List.set_cons_succ, List.getElem_toArray, List.getElem_cons_zero, List.getElem_cons_succ]
  refine wpAnyZ_takeC [] (i := 5) (v := ?_) rfl (by kernel_rfl) (by kernel_rfl) (by kernel_rfl) (by kernel_rfl) (fun _ _ _ h => h) (Or.inl ⟨by rfl, ?_⟩) hS ?_
  rotate_left
  focus (intro w hSw; (try dsimp only at hSw); go_simp; try with_reducible rfl)
  try simp only [Act.put, List.setIfInBounds_toArray, List.set_cons_zero, List.set_cons_succ, List.getElem_toArray, List.getElem_cons_zero, List.getElem_cons_succ]
  refine wpAnyZ_takeC [] (i := 6) (v := ?_) rfl (by kernel_rfl) (by kernel_rfl) (by kernel_rfl) (by kernel_rfl) (fun _ _ _ h => h) (Or.inl ⟨by rfl, ?_⟩) hS ?_
  rotate_left
  focus (intro w hSw; (try dsimp only at hSw); go_simp; try with_reducible rfl)
  try simp only [Act.put, List.setIfInBounds_toArray, List.set_cons_zero, List.set_cons_succ, List.getElem_toArray, List.getElem_cons_zero, List.getElem_cons_succ]
  refine wpAnyZ_takeC [] (i := 7) (v := ?_) rfl (by kernel_rfl) (by kernel_rfl) (by kernel_rfl) (by kernel_rfl) (fun _ _ _ h => h) (Or.inl ⟨by rfl, ?_⟩) hS ?_
  rotate_left
  focus (intro w hSw; (try dsimp only at hSw); go_simp; try with_reducible rfl)
  try simp only [Act.put, List.setIfInBounds_toArray, List.set_cons_zero, List.set_cons_succ, List.getElem_toArray, List.getElem_cons_zero, List.getElem_cons_succ]
  have hst := ((Mid.setCell wz (lo := w.heap.size + 1 + 1) (hi := w.heap.size + 1 + 1 + 1) (p := ⟨w.heap.size + 1 + 1, 0, none⟩) (.int .i64 r) (Nat.le_refl _) (Nat.lt_succ_self _)).trans (Mid.setCell _ (lo := w.heap.size + 1 + 1) (hi := w.heap.size + 1 + 1 + 1) (p := ⟨w.heap.size + 1 + 1, 1, none⟩) (.int .i64 s) (Nat.le_refl _) (Nat.lt_succ_self _))).trans (Mid.setCell _ (lo := w.heap.size + 1 + 1) (hi := w.heap.size + 1 + 1 + 1) (p := ⟨w.heap.size + 1 + 1, 2, none⟩) (.slice A6 P.length c6) (Nat.le_refl _) (Nat.lt_succ_self _))
  have Y5 := Y4.mid hst (Or.inr (by omega))
  have B5 := B0s.mid hst (Or.inl (by omega))
  have V2 := ((B2s.set 0 (.int .i64 r) (by simp) rfl).set 1 (.int .i64 s) (by simp) rfl).set 2 (.slice A6 P.length c6) (by simp) rfl
  simp only [List.set_cons_succ, List.set_cons_zero] at V2
  have ho10 := ho9.mid hst (Or.inl (by omega))
  have hm10 := ((hm9.storeNew (p := ⟨w.heap.size + 1 + 1, 0, none⟩) (by show w.heap.size ≤ w.heap.size + 1 + 1; omega) (.int .i64 r)).storeNew (p := ⟨w.heap.size + 1 + 1, 1, none⟩) (by show w.heap.size ≤ w.heap.size + 1 + 1; omega) (.int .i64 s)).storeNew (p := ⟨w.heap.size + 1 + 1, 2, none⟩) (by show w.heap.size ≤ w.heap.size + 1 + 1; omega) (.slice A6 P.length c6)
  have hsz := hst.size
  have a0 := B2s.cell 0 rfl
  have a1 := B2s.cell 1 rfl
  have a2 := B2s.cell 2 rfl
  have af := B2s.2.2
  have hbz : w.heap.size + 1 + 1 < wz.heap.size := B2s.1
  refine wpAnyZ_ready (rs := [8]) (by kernel_rfl) (by simp) (AllReadyZ.cons rfl (fun K hK => ?_) AllReadyZ.nil)
  go_simp
  refine hK.out _ _ (Or.inr ⟨⟨Y5.cell 0 rfl, Y5.cell 1 rfl, Y5.cell 2 rfl⟩, B5.cell 2 rfl⟩) (fun _ => ?_)
  clear hK K
  try simp only [Act.put, List.setIfInBounds_toArray, List.set_cons_zero, List.set_cons_succ, List.getElem_toArray, List.getElem_cons_zero, List.getElem_cons_succ]
  refine wpAnyZ_ready (rs := [9]) (by kernel_rfl) (by simp) (AllReadyZ.cons rfl (fun K hK => ?_) AllReadyZ.nil)
  go_simp
  refine hK.out _ _ (Or.inr ⟨⟨Y5.cell 0 rfl, Y5.cell 1 rfl, Y5.cell 2 rfl⟩, B5.cell 2 rfl⟩) (fun _ => ?_)
  clear hK K
  try simp only [Act.put, List.setIfInBounds_toArray, List.set_cons_zero, List.set_cons_succ, List.getElem_toArray, List.getElem_cons_zero, List.getElem_cons_succ]
  refine wpAnyZ_done (by kernel_rfl) ?_ _
  clear hS q0 q1 q2 p0 p1 p2 a0 a1 a2 af hst Y4 B0s B2s ho9 hm9
  generalize ((wz.setCell ⟨w.heap.size + 1 + 1, 0, none⟩ (.int .i64 r)).setCell ⟨w.heap.size + 1 + 1, 1, none⟩ (.int .i64 s)).setCell ⟨w.heap.size + 1 + 1, 2, none⟩ (.slice A6 P.length c6) = w11 at V2 Y5 B5 ho10 hm10 hsz ⊢
  have a0 := V2.cell 0 rfl
  have a1 := V2.cell 1 rfl
  have a2 := V2.cell 2 rfl
  have af := V2.2.2
  subst hP
  go_wp2_with fail
  refine bodyPost_ret (v := .tuple #[.agg #[.int .i64 r, .int .i64 s, .slice A6 (putE e es).length c6], .bool true]) (by simp [results, Try.results101, go_sem, a0, a1, a2, af]) rfl ⟨A6, c6, rfl, ?_, ?_⟩
  · exact RV.wide ho10 (by omega) (by omega) (Nat.le_refl _)
  · exact hm10

theorem inB_rk {x : Int} {b : Bool} (hb : b = true ↔ 1 ≤ x ∧ x ≤ 3) : inB x 1 3 = b := by
  unfold inB
  cases b with
  | true => have := hb.1 rfl; simp; omega
  | false =>
    have h : ¬ (1 ≤ x ∧ x ≤ 3) := fun h => by have := hb.2 h; cases this
    simp
    omega
set_option maxHeartbeats 800000 in
theorem spec_NewGraphA (rank : Int) (w : World) (h : 1 ≤ rank ∧ rank ≤ 3) :
    Calls Try.prog 100 #[.int .i64 rank] w fun e w' => e = .returned (.tuple #[graV rank 1 none 0 0, .bool true]) ∧ Mid 0 0 w w' := by
  have hm0 : Mid 0 0 w (w.alloc (.cells #[.int .i64 0, .int .i64 0, .slice none 0 0] 28)) := Mid.alloc _ _
  have b2 := Box.new w #[.int .i64 0, .int .i64 0, .slice none 0 0] 28
  have hi1 : inB rank 1 3 = true := inB_rk (iff_of_true rfl h)
  go_enter Try.func100, Try.ntmps100
  go_wp2_with fail
  generalize w.alloc (.cells #[.int .i64 0, .int .i64 0, .slice none 0 0] 28) = w1 at hm0 b2 ⊢
  have hs1 : w.heap.size < w1.heap.size := b2.1
  with_reducible refine (l1In_at hi1 _).mono ?_
  rintro en w2 ⟨rfl, rfl⟩
  have z0 := b2.cell 0 rfl
  have z1 := b2.cell 1 rfl
  have z2 := b2.cell 2 rfl
  have zf := b2.2.2
  go_wp2_with fail
  refine bodyPost_ret (v := .tuple #[.agg #[.int .i64 rank, .int .i64 1, .slice none 0 0], .bool true]) (by simp [results, Try.results100, go_sem, z0, z1, z2, zf]) rfl ⟨rfl, ?_⟩
  repeat (first | exact hm0 | refine Mid.storeNew ?_ (by simp; try omega) _)
set_option maxHeartbeats 800000 in
theorem spec_NewGraphN (rank : Int) (w : World) (h : ¬ (1 ≤ rank ∧ rank ≤ 3)) :
    Calls Try.prog 100 #[.int .i64 rank] w fun e w' => e = .returned (.tuple #[graV 0 0 none 0 0, .bool false]) ∧ Mid 0 0 w w' := by
  have hm0 : Mid 0 0 w (w.alloc (.cells #[.int .i64 0, .int .i64 0, .slice none 0 0] 28)) := Mid.alloc _ _
  have b2 := Box.new w #[.int .i64 0, .int .i64 0, .slice none 0 0] 28
  have hi1 : inB rank 1 3 = false := inB_rk (iff_of_false Bool.false_ne_true h)
  go_enter Try.func100, Try.ntmps100
  go_wp2_with fail
  generalize w.alloc (.cells #[.int .i64 0, .int .i64 0, .slice none 0 0] 28) = w1 at hm0 b2 ⊢
  have hs1 : w.heap.size < w1.heap.size := b2.1
  with_reducible refine (l1In_at hi1 _).mono ?_
  rintro en w2 ⟨rfl, rfl⟩
  have z0 := b2.cell 0 rfl
  have z1 := b2.cell 1 rfl
  have z2 := b2.cell 2 rfl
  have zf := b2.2.2
  go_wp2_with fail
  refine bodyPost_ret (v := .tuple #[.agg #[.int .i64 0, .int .i64 0, .slice none 0 0], .bool false]) (by simp [results, Try.results100, go_sem, z0, z1, z2, zf]) rfl ⟨rfl, ?_⟩
  repeat (first | exact hm0 | refine Mid.storeNew ?_ (by simp; try omega) _)

def whG (k : Nat) : List Ed := (List.range k).map fun (i : Nat) => (⟨0, (i : Int) + 1, 0⟩ : Ed)
theorem whG_len (k : Nat) : (whG k).length = k := by simp [whG]
theorem whG_put {k : Nat} (h : k ≤ 2) : putE ⟨0, (k : Int) + 1, 0⟩ (whG k) = whG (k + 1) := by
  rcases k with _ | _ | _ | k
  · decide
  · decide
  · decide
  · omega
theorem whG_gr {r k : Nat} (h : k ≤ r) (h1 : 1 ≤ r) (h3 : r ≤ 3) : IsGr r 1 (whG k) := by
  refine ⟨by omega, by omega, by rw [whG_len]; omega, ?_, ?_⟩
  · intro e he
    simp only [whG, List.mem_map, List.mem_range] at he
    obtain ⟨i, hi, rfl⟩ := he
    unfold InG
    simp only
    omega
  · have h33 : k ≤ 3 := by omega
    unfold Asc
    rcases k with _ | _ | _ | _ | k
    · exact List.Pairwise.nil
    · simp [whG, List.range_succ]
    · simp [whG, List.range_succ, LtE]
    · simp [whG, List.range_succ, LtE]
    · omega

set_option maxHeartbeats 3200000 in
set_option maxRecDepth 20000 in
theorem spec_WholeGroup (rn : Nat) (w : World) (hr1 : 1 ≤ rn) (hr3 : rn ≤ 3) :
    Calls Try.prog 72 #[.int .i64 rn] w fun e w' => ∃ A1 c1, e = .returned (.tuple #[graV rn 1 A1 rn c1, .bool true]) ∧ RG w' w.heap.size w'.heap.size A1 (whG rn) ∧ Mid 0 0 w w' := by
  have hm0 : Mid 0 0 w (w.alloc (.cells #[.int .i64 0, .int .i64 0, .slice none 0 0] 28)) := Mid.alloc _ _
  have B2 := Box.new w #[.int .i64 0, .int .i64 0, .slice none 0 0] 28
  go_enter Try.func72, Try.ntmps72
  go_wp2_with fail
  generalize w.alloc (.cells #[.int .i64 0, .int .i64 0, .slice none 0 0] 28) = w1 at hm0 B2 ⊢
  have hs1 : w.heap.size < w1.heap.size := B2.1
  with_reducible refine (spec_NewGraphA rn _ (by omega)).mono ?_
  rintro en w2 ⟨rfl, hm2⟩
  have hs2 := hm2.size
  have hal := Mid.alloc w2 (.cells #[.int .i64 rn, .int .i64 1, .slice none 0 0] 28)
  have Y4 := Box.new w2 #[.int .i64 rn, .int .i64 1, .slice none 0 0] 28
  replace B2 := B2.mid hm2 (Or.inr (Nat.zero_le _))
  replace hm0 := hm0.trans hm2
  replace B2 := B2.mid hal (Or.inr (Nat.zero_le _))
  replace hm0 := hm0.trans hal
  go_wp2_with fail
  generalize w2.alloc (.cells #[.int .i64 rn, .int .i64 1, .slice none 0 0] 28) = w3 at hm0 B2 Y4 ⊢
  clear hm2 hal
  generalize hGb : w2.heap.size = Gb at Y4 ⊢
  have HG0 : Hid (RG w3 (Gb + 1) w3.heap.size none (whG 0)) := Lib.hid ⟨Nat.le_refl _, fun hn => absurd rfl hn⟩
  have hgb : w.heap.size < Gb := by omega
  clear hGb
  go_loopw [6] (fun iv wr => ∃ (k : Nat) (A1 : Option Addr) (c1 : Nat), iv = .int .i64 ((k : Int) + 1) ∧ Hid (k ≤ rn) ∧ Hid (RG wr (Gb + 1) wr.heap.size A1 (whG k)) ∧ Box wr Gb [.int .i64 rn, .int .i64 1, .slice A1 k c1] ∧ Box wr w.heap.size [.int .i64 0, .int .i64 0, .slice none 0 0] ∧ Mid 0 0 w wr) (fun iv _ => rn - ((intOf iv).toNat - 1))
  case atStart => exact ⟨0, none, 0, rfl, Lib.hid (Nat.zero_le _), HG0, Y4, B2, hm0⟩
  case round =>
    clear HG0 Y4 B2 hm0
    obtain ⟨k, A1, c1, rfl, HK, HG, Y4, B2, hm⟩ := hrel
    have hkr := HK.out
    by_cases hlt : k < rn
    · have hk1 : ((k : Int) + 1 ≤ (rn : Int)) := by omega
      have d1 : decide ((k : Int) + 1 ≤ (rn : Int)) = true := by simp; omega
      have hw2 : IntKind.i64.wrap ((k : Int) + 1 + 1) = (k : Int) + 1 + 1 := IntWalk.i64_in _ (by omega)
      have hE := spec_AddEdge rn 1 A1 (whG k) c1 ⟨0, (k : Int) + 1, 0⟩ wr _ _ HG.out (whG_gr hkr hr1 hr3) (by unfold edB inB; simp [wrap64]; omega) (by rw [whG_len]; omega) (by rw [whG_put (by omega), whG_len, whG_len]; omega)
      rw [whG_put (by omega), whG_len, whG_len] at hE
      have p0 := Y4.cell 0 rfl
      have p1 := Y4.cell 1 rfl
      have p2 := Y4.cell 2 rfl
      go_wp2_with fail
      with_reducible refine hE.mono ?_
      rintro en w5 ⟨A5, c5, rfl, h5, hm5⟩
      have hs5 := hm5.size
      have hGw : Gb < wr.heap.size := Y4.1
      replace Y4 := Y4.mid hm5 (Or.inr (Nat.zero_le _))
      replace B2 := B2.mid hm5 (Or.inr (Nat.zero_le _))
      replace hm := hm.trans hm5
      have hG5 : Gb < w5.heap.size := Y4.1
      have s0 := Y4.cell 0 rfl
      have s1 := Y4.cell 1 rfl
      have s2 := Y4.cell 2 rfl
      have sf := Y4.2.2
      have hst := ((Mid.setCell w5 (lo := Gb) (hi := Gb + 1) (p := ⟨Gb, 0, none⟩) (.int .i64 rn) (Nat.le_refl _) (Nat.lt_succ_self _)).trans (Mid.setCell _ (lo := Gb) (hi := Gb + 1) (p := ⟨Gb, 1, none⟩) (.int .i64 1) (Nat.le_refl _) (Nat.lt_succ_self _))).trans (Mid.setCell _ (lo := Gb) (hi := Gb + 1) (p := ⟨Gb, 2, none⟩) (.slice A5 (k + 1) c5) (Nat.le_refl _) (Nat.lt_succ_self _))
      have V4 := ((Y4.set 0 (.int .i64 rn) (by simp) rfl).set 1 (.int .i64 1) (by simp) rfl).set 2 (.slice A5 (k + 1) c5) (by simp) rfl
      simp only [List.set_cons_succ, List.set_cons_zero] at V4
      have V2 := B2.mid hst (Or.inl (by omega))
      have hm9 := ((hm.storeNew (p := ⟨Gb, 0, none⟩) (Nat.le_of_lt hgb) (.int .i64 rn)).storeNew (p := ⟨Gb, 1, none⟩) (Nat.le_of_lt hgb) (.int .i64 1)).storeNew (p := ⟨Gb, 2, none⟩) (Nat.le_of_lt hgb) (.slice A5 (k + 1) c5)
      have HG9 := Lib.hid (RV.mid h5 hst (Or.inl hGw))
      clear p0 p1 p2 hE hm5 h5 HG Y4 B2 hm
      go_wp2_with fail
      generalize ((w5.setCell ⟨Gb, 0, none⟩ (.int .i64 rn)).setCell ⟨Gb, 1, none⟩ (.int .i64 1)).setCell ⟨Gb, 2, none⟩ (.slice A5 (k + 1) c5) = w9 at V4 V2 HG9 hm9 hst ⊢
      have hal := Mid.alloc w9 (.cells #[.int .i64 rn, .int .i64 1, .slice A5 (k + 1) c5] 28)
      generalize w9.alloc (.cells #[.int .i64 rn, .int .i64 1, .slice A5 (k + 1) c5] 28) = w10 at hal ⊢
      have hs9 := hst.size
      have hs10 := hal.size
      replace V4 := V4.mid hal (Or.inr (Nat.zero_le _))
      replace V2 := V2.mid hal (Or.inr (Nat.zero_le _))
      replace hm9 := hm9.trans hal
      have HG10 : Hid (RG w10 (Gb + 1) w10.heap.size A5 (whG (k + 1))) := Lib.hid (RV.wide (RV.mid HG9.out hal (Or.inl (Nat.zero_le _))) hGw (Nat.le_trans hs9 hs10) (Nat.le_refl _))
      clear HG9 hst hal sf s0 s1 s2 hs5 hs9 hs10
      go_roundw
      case rel => exact ⟨k + 1, A5, c5, by go_num, Lib.hid hlt, HG10, V4, V2, hm9⟩
      case measure => simp [intOf]; omega
    · obtain rfl : rn = k := by omega
      have hk1 : ¬ ((rn : Int) + 1 ≤ (rn : Int)) := by omega
      have d1 : decide ((rn : Int) + 1 ≤ (rn : Int)) = false := by simp; omega
      have p0 := Y4.cell 0 rfl
      have p1 := Y4.cell 1 rfl
      have p2 := Y4.cell 2 rfl
      have a0 := B2.cell 0 rfl
      have a1 := B2.cell 1 rfl
      have a2 := B2.cell 2 rfl
      have af := B2.2.2
      have hGw : Gb < wr.heap.size := Y4.1
      have hGb : w.heap.size < wr.heap.size := B2.1
      go_wp2_with fail
      refine bodyPost_ret (v := .tuple #[.agg #[.int .i64 rn, .int .i64 1, .slice A1 rn c1], .bool true]) (by simp [results, Try.results72, go_sem, a0, a1, a2, af]) rfl ⟨A1, ⟨c1, rfl⟩, ?_, ?_⟩
      · have hst := ((Mid.setCell wr (lo := w.heap.size) (hi := w.heap.size + 1) (p := ⟨w.heap.size, 0, none⟩) (.int .i64 rn) (Nat.le_refl _) (Nat.lt_succ_self _)).trans (Mid.setCell _ (lo := w.heap.size) (hi := w.heap.size + 1) (p := ⟨w.heap.size, 1, none⟩) (.int .i64 1) (Nat.le_refl _) (Nat.lt_succ_self _))).trans (Mid.setCell _ (lo := w.heap.size) (hi := w.heap.size + 1) (p := ⟨w.heap.size, 2, none⟩) (.slice A1 rn c1) (Nat.le_refl _) (Nat.lt_succ_self _))
        exact RV.wide (RV.mid HG.out hst (Or.inl (by omega))) (by omega) hst.size (Nat.le_refl _)
      · repeat (first | exact hm | refine Mid.storeNew ?_ (by simp; try omega) _)

set_option maxHeartbeats 1600000 in
set_option maxRecDepth 20000 in
theorem spec_WholeGroupN (rank : Int) (w : World) (h : ¬ (1 ≤ rank ∧ rank ≤ 3)) :
    Calls Try.prog 72 #[.int .i64 rank] w fun e w' => e = .returned (.tuple #[graV 0 0 none 0 0, .bool false]) ∧ Mid 0 0 w w' := by
  have hm0 : Mid 0 0 w (w.alloc (.cells #[.int .i64 0, .int .i64 0, .slice none 0 0] 28)) := Mid.alloc _ _
  have B2 := Box.new w #[.int .i64 0, .int .i64 0, .slice none 0 0] 28
  go_enter Try.func72, Try.ntmps72
  go_wp2_with fail
  generalize w.alloc (.cells #[.int .i64 0, .int .i64 0, .slice none 0 0] 28) = w1 at hm0 B2 ⊢
  have hs1 : w.heap.size < w1.heap.size := B2.1
  with_reducible refine (spec_NewGraphN rank _ h).mono ?_
  rintro en w2 ⟨rfl, hm2⟩
  have hs2 := hm2.size
  have hal := Mid.alloc w2 (.cells #[.int .i64 0, .int .i64 0, .slice none 0 0] 28)
  have Y4 := Box.new w2 #[.int .i64 0, .int .i64 0, .slice none 0 0] 28
  replace B2 := B2.mid hm2 (Or.inr (Nat.zero_le _))
  replace hm0 := hm0.trans hm2
  replace B2 := B2.mid hal (Or.inr (Nat.zero_le _))
  replace hm0 := hm0.trans hal
  go_wp2_with fail
  generalize w2.alloc (.cells #[.int .i64 0, .int .i64 0, .slice none 0 0] 28) = w3 at hm0 B2 Y4 ⊢
  clear hm2 hal
  generalize hGb : w2.heap.size = Gb at Y4 ⊢
  have hgb : w.heap.size < Gb := by omega
  clear hGb
  go_loopw [6] (fun iv wr => iv = .int .i64 1 ∧ Box wr Gb [.int .i64 0, .int .i64 0, .slice none 0 0] ∧ Box wr w.heap.size [.int .i64 0, .int .i64 0, .slice none 0 0] ∧ Mid 0 0 w wr) (fun iv _ => 0)
  case atStart => exact ⟨rfl, Y4, B2, hm0⟩
  case round =>
    clear Y4 B2 hm0
    obtain ⟨rfl, Y4, B2, hm⟩ := hrel
    have p0 := Y4.cell 0 rfl
    have p1 := Y4.cell 1 rfl
    have p2 := Y4.cell 2 rfl
    have a0 := B2.cell 0 rfl
    have a1 := B2.cell 1 rfl
    have a2 := B2.cell 2 rfl
    have af := B2.2.2
    have hGw : Gb < wr.heap.size := Y4.1
    have hGb : w.heap.size < wr.heap.size := B2.1
    by_cases h1 : 1 ≤ rank
    · have d1 : decide ((1 : Int) ≤ rank) = true := by simpa using h1
      go_wp2_with fail
      refine bodyPost_ret (v := .tuple #[.agg #[.int .i64 0, .int .i64 0, .slice none 0 0], .bool false]) (by simp [results, Try.results72, go_sem, a0, a1, a2, af]) rfl ⟨rfl, ?_⟩
      repeat (first | exact hm | refine Mid.storeNew ?_ (by simp; try omega) _)
    · have d1 : decide ((1 : Int) ≤ rank) = false := by simpa using h1
      go_wp2_with fail
      refine bodyPost_ret (v := .tuple #[.agg #[.int .i64 0, .int .i64 0, .slice none 0 0], .bool false]) (by simp [results, Try.results72, go_sem, a0, a1, a2, af]) rfl ⟨rfl, ?_⟩
      repeat (first | exact hm | refine Mid.storeNew ?_ (by simp; try omega) _)
end Go.Proofs.Ytimmnnncgnnkgaa

/- Lists of rows of the call's own, side by side. -/
namespace Go.Proofs.Ytimmnnncgnnkgaa
set_option linter.unusedVariables false
set_option linter.unusedSimpArgs false
open Go.RowKit

abbrev obS (A : Option Addr) (n c : Nat) : Option Nat := Value.ownBlock (.slice A n c)
structure Own1 (w : World) (lo : Nat) (A : Option Addr) (n c : Nat) (rows : List Row) : Prop where
  out : w.ownsRow lo 37 1 (.slice A n c) n (rowsV rows)
  rows : OwnRows w lo w.heap.size 3 rows
section
variable {w w' : World} {lo : Nat} {A A2 : Option Addr} {n c n2 c2 : Nat} {rows rows2 : List Row}
theorem Own1.mid (h : Own1 w lo A n c rows) (m : Mid 0 0 w w') : Own1 w' lo A n c rows :=
  ⟨owns_mid h.out m (Or.inl (Nat.zero_le _)), (h.rows.mid m (Or.inl (Nat.zero_le _))).wide (Nat.le_refl _) m.size (Nat.le_refl _)⟩
theorem Own1.len (h : Own1 w lo A n c rows) : rows.length = n := by
  have := h.out.1
  rw [rowsV_len] at this
  omega
theorem Own1.lt (h : Own1 w lo A n c rows) {g : Nat} (hg : obS A n c = some g) : lo ≤ g ∧ g < w.heap.size := h.out.lt g hg
theorem Own1.oss (h : Own1 w lo A n c rows) {xss : List (List Int)} (hd : rowsD rows = xss) : OSS w lo w.heap.size 37 3 A c xss := OSS.mk' h.out h.rows hd
theorem Own1.base {lo' : Nat} (h : Own1 w lo A n c rows) (hl : lo' ≤ lo) : Own1 w lo' A n c rows := ⟨owns_base h.out hl, h.rows.wide hl (Nat.le_refl _) (Nat.le_refl _)⟩
/-- Another list has grown. -/
theorem Own1.other (h : Own1 w lo A n c rows) (h2 : Own1 w lo A2 n2 c2 rows2) (hd : ∀ g, obS A n c = some g → obS A2 n2 c2 ≠ some g) (hg : w.grownBy w' (obS A2 n2 c2)) : Own1 w' lo A n c rows := by
  refine ⟨h.out.kept hg ?_, (h.rows.grown h2.out (by decide) hg).wide (Nat.le_refl _) hg.size (Nat.le_refl _)⟩
  cases hv : Value.ownBlock (.slice A n c) with
  | none => exact .inl rfl
  | some j => exact .inr fun e => hd j hv e.symm
theorem Own1.row (h : Own1 w lo A n c rows) {k : Nat} {r : Row} (hk : rows[k]? = some r) : ∃ b, A = some ⟨b, 0, none⟩ ∧ lo ≤ b ∧ b < w.heap.size ∧ w.cell? ⟨b, k, none⟩ = some r.v ∧ RV w lo w.heap.size r.A (ints r.xs) ∧ r.xs.length ≤ r.c := by
  have hl := (List.getElem?_eq_some_iff.1 hk).1
  obtain ⟨b, hA, h1, h2⟩ := owns_addr h.out (show 0 < n by have := h.len; omega)
  subst hA
  have hm := h.rows.1 r (List.mem_of_getElem? hk)
  exact ⟨b, rfl, h1, h2, (h.out.cellAt k (by have := h.len; omega)).trans (by simp [rowsV, hk]), OV.rv hm, owns_cap hm.2.1⟩
/-- The list itself has grown by a row that was made since w. -/
theorem Own1.push {W W' : World} {A' : Option Addr} {c' : Nat} {r : Row} (h : Own1 w lo A n c rows) (m : Mid 0 0 w W) (hl : lo ≤ w.heap.size) (hrow : W.ownsRow w.heap.size 3 1 r.v r.xs.length (ints r.xs))
    (h1 : W'.ownsRow lo 37 1 (.slice A' (n + 1) c') (n + 1) (rowsV rows ++ [r.v])) (h2 : W.grownBy W' (obS A n c)) : Own1 W' lo A' (n + 1) c' (rows ++ [r]) := by
  refine ⟨by rw [rowsV_append]; exact h1, ?_⟩
  have k1 := (h.rows.mid m (Or.inl (Nat.zero_le _))).push (r := r) (base := w.heap.size) (hi' := W.heap.size) hrow (Nat.le_refl _) hl m.size (Nat.le_refl _) (fun g hg => (hrow.lt g hg).2)
  exact (k1.grown (h.mid m).out (by decide) h2).wide (Nat.le_refl _) h2.size (Nat.le_refl _)
end
theorem Own1.empty (w : World) : Own1 (w.alloc (.cells #[] 37)) w.heap.size (some ⟨w.heap.size, 0, none⟩) 0 0 [] := ⟨owns_empty w 37 1, OwnRows.nil⟩
/-- Apart: two slices own no block together. -/
def Apart (A : Option Addr) (n c : Nat) (A2 : Option Addr) (n2 c2 : Nat) : Prop := ∀ g, obS A n c = some g → obS A2 n2 c2 ≠ some g
theorem Apart.symm {A A2 : Option Addr} {n c n2 c2 : Nat} (h : Apart A n c A2 n2 c2) : Apart A2 n2 c2 A n c := fun g hg e => h g e hg
theorem Apart.push {W : World} {lo : Nat} {A A' A2 : Option Addr} {n c n' c' n2 c2 : Nat} {rows2 : List Row} (h : Apart A n c A2 n2 c2) (hat : obS A' n' c' = obS A n c ∨ obS A' n' c' = some (W.heap.size + 1)) (h2 : Own1 W lo A2 n2 c2 rows2) : Apart A' n' c' A2 n2 c2 := by
  intro g hg e
  rcases hat with hat | hat
  · exact h g (hat ▸ hg) e
  · rw [hat] at hg
    injection hg with hg
    have := h2.lt e
    omega
theorem rs_one {w : World} {p : Nat} {v : Value} (h : w.cell? ⟨p, 0, none⟩ = some v) : Rs w (p + 1) (some ⟨p, 0, none⟩) [v] := fun _ => ⟨p, 0, rfl, Nat.lt_succ_self _, fun j u hu => by
  rcases j with _ | j
  · rw [← hu]; exact h
  · simp at hu⟩
theorem cell_grown {w w' : World} {row : Option Nat} {b i : Nat} {v : Value} (hg : w.grownBy w' row) (hb : b < w.heap.size) (hn : some b ≠ row) (h : w.cell? ⟨b, i, none⟩ = some v) : w'.cell? ⟨b, i, none⟩ = some v :=
  (World.cell?_of_block (hg.block b hb hn)).trans h
theorem own_ne {b g n c : Nat} (h : b ≠ g) : some b ≠ Value.ownBlock (.slice (some ⟨g, 0, none⟩) n c) := fun e => by
  have e' : some b = some g := e
  injection e' with e'
  exact h e'
section
variable {W : World} {ops : Array Oper} {rest : List Oper} {o : Oper} {ac : Act} {Q : Exit → Act → World → Prop}
theorem wpList_push1 {w : World} {lo : Nat} {A : Option Addr} {n c : Nat} {rows : List Row} (hgd : o.guard = none) (s x : Operand)
    (ho : o.op = .call { callee := .builtin .append, args := #[s, x], argTypes := #[48, 48] }) (hs : ac.eval s = .slice A n c)
    (h : Own1 w lo A n c rows) (m : Mid 0 0 w W) (r : Row) (u : Value) (hu : r.v = u) (hrow : W.ownsRow w.heap.size 3 1 r.v r.xs.length (ints r.xs)) (hx : ac.eval x = .slice (some ⟨W.heap.size, 0, none⟩) 1 1) (hn : n ≤ 1048576) (hb : lo ≤ w.heap.size)
    (hk : ∀ A' c' w', Own1 w' lo A' (n + 1) c' (rows ++ [r]) → W.grownBy w' (obS A n c) → (obS A' (n + 1) c' = obS A n c ∨ obS A' (n + 1) c' = some (W.heap.size + 1)) → wpList Try.prog ops Q rest (ac.put o.dst (.slice A' (n + 1) c')) w') :
    wpList Try.prog ops Q (o :: rest) ac (W.alloc (.cells #[u] 37)) := by
  subst hu
  have hms := m.size
  refine wpList_push (news := [r.v]) hgd s x 48 ho lo 37 (.slice none 0 0) 1 24 undSSI infoSI rfl (by decide) (.slice A n c) n (rowsV rows) hs (h.mid m).out 1 hx rfl ?_ (by unfold maxLen; omega) (by omega) (by omega) ?_
  · intro u hu
    simp at hu
    subst hu
    rfl
  · intro v' w' h1 h2 h3
    obtain ⟨A', c', rfl, -, -⟩ := owns_shape h1
    exact hk A' c' w' (h.push m hb hrow h1 h2) h2 h3
theorem step_push1 {K : Act → World → Prop} {E : Prop} {w : World} {lo : Nat} {A : Option Addr} {n c : Nat} {rows : List Row} (hgd : o.guard = none) (s x : Operand)
    (ho : o.op = .call { callee := .builtin .append, args := #[s, x], argTypes := #[48, 48] }) (hs : ac.eval s = .slice A n c)
    (h : Own1 w lo A n c rows) (m : Mid 0 0 w W) (r : Row) (u : Value) (hu : r.v = u) (hrow : W.ownsRow w.heap.size 3 1 r.v r.xs.length (ints r.xs)) (hx : ac.eval x = .slice (some ⟨W.heap.size, 0, none⟩) 1 1) (hn : n ≤ 1048576) (hb : lo ≤ w.heap.size)
    (hk : ∀ A' c' w', Own1 w' lo A' (n + 1) c' (rows ++ [r]) → W.grownBy w' (obS A n c) → (obS A' (n + 1) c' = obS A n c ∨ obS A' (n + 1) c' = some (W.heap.size + 1)) → K (ac.put o.dst (.slice A' (n + 1) c')) w') :
    if Region.wanted o (yielded ops ac.tmps) = true then Oper.wp Try.prog o ac (W.alloc (.cells #[u] 37)) K Q else E := by
  subst hu
  have hms := m.size
  refine step_cat (w := W.alloc (.cells #[r.v] 37)) hgd s x 48 ho lo 37 (.slice none 0 0) 1 24 undSSI infoSI rfl (by decide) (.slice A n c) n (rowsV rows) hs ((h.mid m).out.alloc _) (some ⟨W.heap.size, 0, none⟩) 1 1 (W.heap.size + 1) [r.v] hx (fun _ => ⟨W.heap.size, 0, rfl, Nat.lt_succ_self _, fun j u hu => (World.cell?_alloc_at _ _ _ _ rfl).trans (by simpa using hu)⟩) rfl ?_ (by unfold maxLen; omega) (by omega) (by simp; omega) ?_
  · intro u hu
    simp at hu
    subst hu
    rfl
  · intro v' w' h1 h2 h3
    obtain ⟨A', c', rfl, -, -⟩ := owns_shape h1
    have h2' := grown_trans (World.grownBy_alloc W _ _) h2
    exact hk A' c' w' (h.push m hb hrow h1 h2') h2' (by simpa using h3)
end
end Go.Proofs.Ytimmnnncgnnkgaa

/- read, WalkWord, WordPermutation; the law's data. -/
namespace Go.Proofs.Ytimmnnncgnnkgaa
set_option linter.unusedVariables false
set_option linter.unusedSimpArgs false
open Go.RowKit

/-- Where a list of letters leads. -/
def goV (es : List Ed) : Int → List Int → Option Int
  | v, [] => some v
  | v, x :: t => if nextV es v x < 0 then none else goV es (nextV es v x) t
theorem goV_app (es : List Ed) : ∀ (a b : List Int) (v : Int), goV es v (a ++ b) = (goV es v a).bind fun u => goV es u b
  | [], b, v => rfl
  | x :: a, b, v => by
    rw [List.cons_append, goV, goV]
    split
    · rfl
    · exact goV_app es a b _
theorem goV_one (es : List Ed) (v x : Int) : goV es v [x] = if nextV es v x < 0 then none else some (nextV es v x) := by
  rw [goV]
  rfl
theorem goV_stop {es : List Ed} {v u x : Int} {w : List Int} {k : Nat} (h : goV es v (w.take k) = some u) (hx : w[k]? = some x) (hn : nextV es u x < 0) : goV es v w = none := by
  have h1 : w = w.take k ++ (x :: w.drop (k + 1)) := by rw [← drop_of w hx, List.take_append_drop]
  rw [h1, goV_app, h, Option.bind_some, goV, if_pos hn]
theorem goV_next {es : List Ed} {v u x : Int} {w : List Int} {k : Nat} (h : goV es v (w.take k) = some u) (hx : w[k]? = some x) (hn : ¬ nextV es u x < 0) : goV es v (w.take (k + 1)) = some (nextV es u x) := by
  rw [take_snocI hx, goV_app, h, Option.bind_some, goV_one, if_neg hn]

set_option maxHeartbeats 3200000 in
theorem spec_WalkWord (r n v : Nat) (A : Option Addr) (es : List Ed) (c : Nat) (Aw : Option Addr) (wd : List Int) (cw : Nat) (w : World) (lo hi lo' hi' : Nat) (hr : RG w lo hi A es) (hw : RV w lo' hi' Aw (ints wd)) (hf : IsFol r n es) (hv : v < n) (hwl : wd.length ≤ 1048576) (hok : OkI wd) :
    Calls Try.prog 102 #[graV r n A es.length c, .int .i64 v, .slice Aw wd.length cw] w fun e w' => ∃ (u : Int) (b : Bool), e = .returned (.tuple #[.int .i64 u, .bool b]) ∧ (b = true → goV es v wd = some u) ∧ (b = false → goV es v wd = none) ∧ Mid 0 0 w w' := by
  have hg := hf.gr
  have hl := hg.len
  have hn40 : n ≤ 40 := by have := hg.size; omega
  have HGL := Lib.hid (show ∀ e ∈ es, 1 ≤ e.l ∧ e.l ≤ 3 from fun e he => by have := hg.all e he; have := hg.rank; unfold InG at *; omega)
  have HF := Lib.hid hf
  have HOK := Lib.hid hok
  have hm0 : Mid 0 0 w (w.alloc (.cells #[.int .i64 r, .int .i64 n, .slice A es.length c] 28)) := Mid.alloc _ _
  have b0 := Box.new w #[.int .i64 r, .int .i64 n, .slice A es.length c] 28
  have hib : inB (v : Int) 0 ((n : Int) - 1) = true := by unfold inB; simp; omega
  clear hg hok hf
  go_enter Try.func102, Try.ntmps102
  go_wp2_with fail
  with_reducible refine (spec_IsFolded r n A es c _ _ _ (hr.mid hm0 (Or.inl (Nat.zero_le _))) (by omega) true (iff_of_true rfl HF.out)).mono ?_
  rintro en w1 ⟨rfl, hm1⟩
  replace b0 := b0.mid hm1 (Or.inr (Nat.zero_le _))
  replace hm0 := hm0.trans hm1
  have p0 := b0.cell 0 rfl
  have p1 := b0.cell 1 rfl
  have p2 := b0.cell 2 rfl
  go_wp2_with fail
  with_reducible refine (l1In_at hib _).mono ?_
  rintro en w2 ⟨rfl, rfl⟩
  go_wp2_with fail
  clear p0 p1 p2 hm1
  go_loopw [1, 8] (fun vv iv wr => ∃ (k : Nat) (u : Int), k ≤ wd.length ∧ iv = .int .i64 k ∧ vv = .int .i64 u ∧ Hid (goV es v (wd.take k) = some u) ∧ Box wr w.heap.size [.int .i64 r, .int .i64 n, .slice A es.length c] ∧ Mid 0 0 w wr) (fun _ i _ => wd.length - (intOf i).toNat)
  case atStart => exact ⟨0, v, Nat.zero_le _, rfl, rfl, Lib.hid rfl, b0, hm0⟩
  case round =>
    clear b0 hm0
    obtain ⟨k, u, hk, rfl, rfl, HV, b0, hm⟩ := hrel
    by_cases hlt : k < wd.length
    · obtain ⟨B, off, x, rfl, hbh, hx, hcx⟩ := (hw.mid hm (Or.inl (Nat.zero_le _))).at hlt
      have hxr := HOK.out x (List.mem_of_getElem? hx)
      have hk1 : (k : Int) < (wd.length : Int) := by omega
      have hk0 : (0 : Int) ≤ (k : Int) := by omega
      have HX := Lib.hid hx
      have hBs : B < wr.heap.size := by have := hw.1; have := hm.size; omega
      have k0 := wg_cell b0.1 (b0.cell 0 rfl)
      have k1 := wg_cell b0.1 (b0.cell 1 rfl)
      have k2 := wg_cell b0.1 (b0.cell 2 rfl)
      have k4 := wg_cell hBs hcx
      have hA := fun m os => spec_NextVertex r n A es c u x (wg wr m os) lo hi (hr.mid (hm.trans (Mid.ofWg wr m os)) (Or.inl (Nat.zero_le _))) (by omega) HGL.out (by omega) (by omega)
      clear hx hcx
      go_wp2_with fail
      refine wp_region_quiet_wg (by kernel_rfl) (by kernel_rfl) ?_
      repeat
        (with_reducible refine wpQuiet_step (fun K hK => ?_))
        go_simp
        first
          | ((with_reducible refine hK _ ?_); clear hK K)
          | (rw [if_neg (by decide)]; (with_reducible refine hK _ ?_); clear hK K)
          | (apply Exists.intro; refine ⟨fun _ => ?_, hK _ ?_⟩; ((go_at_call 44; exact Calls.wg_of (hA _ _))); clear hK K)
      with_reducible refine wpQuiet_nil ?_
      intro _ hw'
      obtain ⟨⟨nq, osq⟩, hw''⟩ := hw'
      subst hw''
      have hwg := Mid.ofWg wr nq osq
      generalize wg wr nq osq = w6 at hwg ⊢
      replace b0 := b0.mid hwg (Or.inr (Nat.zero_le _))
      replace hm := hm.trans hwg
      generalize htx : nextV es u x = t
      clear k0 k1 k2 k4 hA
      by_cases ht : t < 0
      · have d1 : decide (t < 0) = true := by simpa using ht
        have HN := Lib.hid (goV_stop HV.out HX.out (by rw [htx]; exact ht))
        clear ht htx
        go_wp2_with fail
        go_ret2
        exact ⟨-1, false, rfl, (fun h => nomatch h), fun _ => HN.out, hm⟩
      · have d1 : decide (t < 0) = false := by simpa using ht
        have HN := Lib.hid (goV_next HV.out HX.out (by rw [htx]; exact ht))
        rw [htx] at HN
        clear ht htx
        go_wp2_with fail
        go_roundw
        case rel => exact ⟨k + 1, t, by omega, by go_num, rfl, HN, b0, hm⟩
        case measure => simp [intOf]; omega
    · obtain rfl : k = wd.length := by omega
      rw [List.take_length] at HV
      go_wp2_with fail
      go_ret2
      exact ⟨u, true, rfl, fun _ => HV.out, (fun h => nomatch h), hm⟩

/-- Where the word leads from each vertex, if it leads on from all below k. -/
def permTo (es : List Ed) (wd : List Int) (k : Nat) : List Int := (List.range k).map fun (v : Nat) => (goV es v wd).getD 0
open Classical in
noncomputable def wordP (r s : Int) (es : List Ed) (wd : List Int) : List Int := if IsFin r s es ∧ ∀ v : Nat, v < s.toNat → goV es v wd ≠ none then permTo es wd s.toNat else []
def WordPermutationIs (r0 s0 : Int) (d0 : List Ed) (d1 : List Int) (res0 : List Int) : Prop := res0 = wordP r0 s0 d0 d1
end Go.Proofs.Ytimmnnncgnnkgaa

/- LoopWords of the whole group, the reference. -/
namespace Go.Proofs.Ytimmnnncgnnkgaa
set_option linter.unusedVariables false
set_option linter.unusedSimpArgs false
open Go.RowKit

theorem whG_fol {r : Nat} (h1 : 1 ≤ r) (h3 : r ≤ 3) : IsFol r 1 (whG r) := by
  refine ⟨whG_gr (Nat.le_refl _) h1 h3, ?_⟩
  rcases r with _ | _ | _ | _ | r
  · omega
  · decide
  · decide
  · decide
  · omega
theorem whG_next {r : Nat} (h3 : r ≤ 3) : ∀ x ∈ lets r, nextV (whG r) 0 x = 0 := by
  rcases r with _ | _ | _ | _ | r
  · decide
  · decide
  · decide
  · decide
  · omega
theorem whG_go {r : Nat} (h3 : r ≤ 3) : ∀ w : List Int, (∀ x ∈ w, x ∈ lets r) → goV (whG r) 0 w = some 0
  | [], _ => rfl
  | x :: t, h => by
    have h1 := whG_next h3 x (h x (by simp))
    rw [goV, h1, if_neg (by omega)]
    exact whG_go h3 t fun y hy => h y (by simp [hy])

set_option maxHeartbeats 6400000 in
set_option maxRecDepth 100000 in
theorem spec_LoopWords (r n : Nat) (A : Option Addr) (c : Nat) (w : World) (lo hi : Nat) (hr : RG w lo hi A (whG r)) (hr1 : 1 ≤ r) (hr3 : r ≤ 3) (hn : n ≤ 4) :
    Calls Try.prog 73 #[graV r 1 A r c, .int .i64 0, .int .i64 n] w fun e w' => ∃ A1 c1, e = .returned (.slice A1 (pre okB (lets r) (n + 1)).length c1) ∧ OSS w' w.heap.size w'.heap.size 37 3 A1 c1 (pre okB (lets r) (n + 1)) ∧ Mid 0 0 w w' := by
  have hLL : (lets r).length ≤ 6 := by rw [lets_len]; omega
  have HLB := Lib.hid (fun k (hk : k ≤ 5) => lay_b (f := okB) hLL hk)
  have HPB := Lib.hid (fun k (hk : k ≤ 6) => pre_b (f := okB) hLL hk)
  have hm0 : Mid 0 0 w ((w.alloc (.cells #[.int .i64 r, .int .i64 1, .slice A r c] 28)).alloc (.cells #[] 37)) := (Mid.alloc _ _).trans (Mid.alloc _ _)
  have B0 := (Box.new w #[.int .i64 r, .int .i64 1, .slice A r c] 28).mid (Mid.alloc _ (.cells #[] 37)) (Or.inr (Nat.zero_le _))
  have O1 := Own1.empty (w.alloc (.cells #[.int .i64 r, .int .i64 1, .slice A r c] 28))
  simp only [World.size_alloc] at O1
  have hfo := whG_fol hr1 hr3
  have hIF := fun W h => spec_IsFolded r 1 A (whG r) c W lo hi h (by rw [whG_len]; omega) true (iff_of_true rfl hfo)
  rw [whG_len] at hIF
  have HIF := Lib.hid hIF
  have HFO := Lib.hid hfo
  clear hIF hfo
  have hib : inB 0 0 0 = true := rfl
  have hib4 : inB (n : Int) 0 4 = true := by unfold inB; simp; omega
  go_enter Try.func73, Try.ntmps73
  go_wp2_with fail
  generalize (w.alloc (.cells #[.int .i64 r, .int .i64 1, .slice A r c] 28)).alloc (.cells #[] 37) = w1 at hm0 B0 O1 ⊢
  have hs1 : w.heap.size + 1 < w1.heap.size := (O1.lt rfl).2
  with_reducible refine (HIF.out _ (hr.mid hm0 (Or.inl (Nat.zero_le _)))).mono ?_
  rintro en w2 ⟨rfl, hm2⟩
  have hs2 := hm2.size
  replace O1 := O1.mid hm2
  replace B0 := B0.mid hm2 (Or.inr (Nat.zero_le _))
  replace hm0 := hm0.trans hm2
  clear hm2
  have p0 := B0.cell 0 rfl
  have p1 := B0.cell 1 rfl
  have p2 := B0.cell 2 rfl
  have hw1 : IntKind.i64.wrap ((1 : Int) - 1) = 0 := by decide
  go_wp2_with fail
  with_reducible refine (l1In_at hib _).mono ?_
  rintro en w3 ⟨rfl, rfl⟩
  have hb1 : w.heap.size < w2.heap.size := B0.1
  have hb1' : w.heap.size < w2.heap.size + 1 := by omega
  have P0 := (owns_empty w2 3 1).alloc (.cells #[.slice (some ⟨w2.heap.size, 0, none⟩) 0 0] 37)
  have P1 := owns_lit (w2.alloc (.cells #[] 3)) 37 (.slice (some ⟨w2.heap.size, 0, none⟩) 0 0)
  simp only [World.size_alloc] at P1
  have hsw : (w2.alloc (.cells #[] 3)).heap.size ≤ ((w2.alloc (.cells #[] 3)).alloc (.cells #[.slice (some ⟨w2.heap.size, 0, none⟩) 0 0] 37)).heap.size := by simp
  have hL0 : Own1 ((w2.alloc (.cells #[] 3)).alloc (.cells #[.slice (some ⟨w2.heap.size, 0, none⟩) 0 0] 37)) w2.heap.size (some ⟨w2.heap.size + 1, 0, none⟩) 1 1 [⟨some ⟨w2.heap.size, 0, none⟩, 0, []⟩] :=
    ⟨owns_base P1 (Nat.le_succ _), ⟨fun r hr => by rw [List.mem_singleton] at hr; subst hr; exact ⟨Nat.le_refl _, P0, fun g hg => (P0.lt g hg).2⟩, by simp⟩⟩
  have hal : Mid 0 0 w2 ((w2.alloc (.cells #[] 3)).alloc (.cells #[.slice (some ⟨w2.heap.size, 0, none⟩) 0 0] 37)) := (Mid.alloc _ _).trans (Mid.alloc _ _)
  go_wp2_with fail
  with_reducible refine (l1In_at hib4 _).mono ?_
  rintro en w3 ⟨rfl, rfl⟩
  go_wp2_with fail
  generalize (w2.alloc (.cells #[] 3)).alloc (.cells #[.slice (some ⟨w2.heap.size, 0, none⟩) 0 0] 37) = w3 at hL0 hal ⊢
  replace O1 := O1.mid hal
  replace B0 := B0.mid hal (Or.inr (Nat.zero_le _))
  replace hm0 := hm0.trans hal
  have hs3 := hal.size
  have hap0 : Apart (some ⟨w.heap.size + 1, 0, none⟩) 0 0 (some ⟨w2.heap.size + 1, 0, none⟩) 1 1 := fun g hg e => by
    injection hg with hg
    injection e with e
    simp only at hg e
    omega
  have HL0 := Lib.hid (hL0.base (show w.heap.size + 1 ≤ w2.heap.size by omega))
  have HO0 := Lib.hid O1
  have HAP0 := Lib.hid hap0
  have HD0 : Hid (rowsD [(⟨some ⟨w2.heap.size, 0, none⟩, 0, []⟩ : Row)] = lay okB (lets r) 0) := Lib.hid rfl
  generalize [(⟨some ⟨w2.heap.size, 0, none⟩, 0, []⟩ : Row)] = rowsL0 at HL0 HD0
  clear O1 hL0 hap0 P0 P1 p0 p1 p2 hal hw1 hsw hb1'
  generalize (some (⟨w.heap.size + 1, 0, none⟩ : Addr)) = AO at HO0 HAP0 ⊢
  generalize (some (⟨w2.heap.size + 1, 0, none⟩ : Addr)) = AL at HL0 HAP0 ⊢
  with_reducible refine (spec_l5LettersO r _ (by omega)).mono ?_
  rintro en w4 ⟨A8, c8, rfl, hL8, hm4⟩
  have hs4 := hm4.size
  replace HO0 := Lib.hid (HO0.out.mid hm4)
  replace HL0 := Lib.hid (HL0.out.mid hm4)
  replace B0 := B0.mid hm4 (Or.inr (Nat.zero_le _))
  replace hm0 := hm0.trans hm4
  obtain ⟨LL, hLe⟩ : ∃ LL, (lets r).length = LL := ⟨_, rfl⟩
  rw [hLe] at hL8 ⊢
  have hLL6 : LL ≤ 6 := by omega
  have hLpl : w.heap.size < w3.heap.size := by omega
  have HLe := Lib.hid hLe
  have HLT := Lib.hid hL8
  generalize w3.heap.size = Lp at HLT hLpl
  clear hL8 hm4 hLe
  go_wp2_with fail
  go_loopw [7, 8, 10] (fun ov lv nv wr => ∃ (k no nl : Nat) (rowsO rowsL : List Row) (A1 A2 : Option Addr) (c1 c2 : Nat), nv = .int .i64 k ∧ ov = .slice A1 no c1 ∧ lv = .slice A2 nl c2 ∧ Hid (k ≤ n + 1) ∧ Hid (rowsD rowsO = pre okB (lets r) k) ∧ Hid (rowsD rowsL = lay okB (lets r) k) ∧ Hid (Own1 wr (w.heap.size + 1) A1 no c1 rowsO) ∧ Hid (Own1 wr (w.heap.size + 1) A2 nl c2 rowsL) ∧ Hid (Apart A1 no c1 A2 nl c2) ∧ Hid (wr.ownsRow Lp 3 1 (.slice A8 LL c8) LL (ints (lets r))) ∧ Box wr w.heap.size [.int .i64 r, .int .i64 1, .slice A r c] ∧ Mid 0 0 w wr) (fun _ _ nv _ => n + 1 - (intOf nv).toNat)
  case atStart => exact ⟨0, 0, 1, [], rowsL0, AO, AL, 0, 1, rfl, rfl, rfl, Lib.hid (Nat.zero_le _), Lib.hid rfl, HD0, HO0, HL0, HAP0, HLT, B0, hm0⟩
  case round =>
    clear HD0 HO0 HL0 HAP0 HLT B0 hm0
    obtain ⟨wo, hwo⟩ : ∃ wo, wo = wr := ⟨_, rfl⟩
    subst hwo
    obtain ⟨k, no, nl, rowsO, rowsL, A1, A2, c1, c2, rfl, rfl, rfl, HK, HDO, HDL, HO, HL, HAP, HLT, B0, hm⟩ := hrel
    have hkn := HK.out
    by_cases hlt : k < n + 1
    · have d1 : decide ((k : Int) ≤ (n : Int)) = true := by simp; omega
      have hk1 : (k : Int) ≤ (n : Int) := by omega
      have hlb : nl ≤ 7776 := by have h1 := HLB.out k (by omega); have h2 := HL.out.len; rw [← HDL.out, rowsD_len] at h1; omega
      have hob : no ≤ 40000 := by have h1 := HPB.out k (by omega); have h2 := HO.out.len; rw [← HDO.out, rowsD_len] at h1; omega
      have hws : w.heap.size + 1 ≤ wo.heap.size := B0.1
      have hal := Mid.alloc wo (.cells #[] 37)
      have hN0 := (Own1.empty wo).base hws
      have hapO : Apart A1 no c1 (some ⟨wo.heap.size, 0, none⟩) 0 0 := fun g hg e => by
        injection e with e
        have := HO.out.lt hg
        simp only at e
        omega
      have hapL : Apart A2 nl c2 (some ⟨wo.heap.size, 0, none⟩) 0 0 := fun g hg e => by
        injection e with e
        have := HL.out.lt hg
        simp only at e
        omega
      have HN1 := Lib.hid hN0
      have HAPO := Lib.hid hapO
      have HAPL := Lib.hid hapL
      have HO1 := Lib.hid (HO.out.mid hal)
      have HL1 := Lib.hid (HL.out.mid hal)
      have HLT1 := Lib.hid (owns_mid HLT.out hal (Or.inl (Nat.zero_le _)))
      have B1 := B0.mid hal (Or.inr (Nat.zero_le _))
      have hm1 := hm.trans hal
      clear hN0 hapO hapL HO HL HLT B0
      go_wp2_with fail
      generalize wo.alloc (.cells #[] 37) = w5 at hal HN1 HO1 HL1 HLT1 B1 hm1 ⊢
      generalize (some (⟨wo.heap.size, 0, none⟩ : Addr)) = AN at HN1 HAPO HAPL ⊢
      have HDN1 : Hid (rowsD ([] : List Row) = layStep okB (lets r) ((lay okB (lets r) k).take 0)) := Lib.hid rfl
      have HDO1 : Hid (rowsD rowsO = pre okB (lets r) k ++ (lay okB (lets r) k).take 0) := Lib.hid (by rw [HDO.out]; simp)
      clear hal HDO hm
      go_loopw [7, 11, 12] (fun ov xv iv wr => ∃ (i no1 nn : Nat) (rowsO1 rowsN : List Row) (A3 A4 : Option Addr) (c3 c4 : Nat), iv = .int .i64 i ∧ ov = .slice A3 no1 c3 ∧ xv = .slice A4 nn c4 ∧ Hid (i ≤ nl) ∧ Hid (rowsD rowsO1 = pre okB (lets r) k ++ (lay okB (lets r) k).take i) ∧ Hid (rowsD rowsN = layStep okB (lets r) ((lay okB (lets r) k).take i)) ∧ Hid (Own1 wr (w.heap.size + 1) A3 no1 c3 rowsO1) ∧ Hid (Own1 wr (w.heap.size + 1) A2 nl c2 rowsL) ∧ Hid (Own1 wr (w.heap.size + 1) A4 nn c4 rowsN) ∧ Hid (Apart A3 no1 c3 A2 nl c2) ∧ Hid (Apart A3 no1 c3 A4 nn c4) ∧ Hid (Apart A2 nl c2 A4 nn c4) ∧ Hid (wr.ownsRow Lp 3 1 (.slice A8 LL c8) LL (ints (lets r))) ∧ Box wr w.heap.size [.int .i64 r, .int .i64 1, .slice A r c] ∧ Mid 0 0 w wr) (fun _ _ iv _ => nl - (intOf iv).toNat)
      case atStart => exact ⟨0, no, 0, rowsO, [], A1, AN, c1, 0, rfl, rfl, rfl, Lib.hid (Nat.zero_le _), HDO1, HDN1, HO1, HL1, HN1, HAP, HAPO, HAPL, HLT1, B1, hm1⟩
      case round =>
        clear HDO1 HDN1 HO1 HL1 HN1 HAP HAPO HAPL HLT1 B1 hm1 hws
        obtain ⟨wp, hwp⟩ : ∃ wp, wp = wr := ⟨_, rfl⟩
        subst hwp
        obtain ⟨i, no1, nn, rowsO1, rowsN, A3, A4, c3, c4, rfl, rfl, rfl, HI, HDO, HDN, HO, HL, HN, HAP, HAPO, HAPL, HLT, B0, hm⟩ := hrel
        have hin := HI.out
        by_cases hlt2 : i < nl
        · obtain ⟨rr, hrr⟩ := get_of_lt rowsL (show i < rowsL.length by rw [HL.out.len]; exact hlt2)
          have hxs : (lay okB (lets r) k)[i]? = some rr.xs := by rw [← HDL.out]; simp [rowsD, hrr]
          obtain ⟨b2, hA2, hb2l, hb2, hce, hrv, hcap⟩ := HL.out.row hrr
          obtain ⟨hwk, hwl⟩ := lay_ok (List.mem_of_getElem? hxs)
          have HRR := Lib.hid hrr
          have HXS := Lib.hid hxs
          have HWL := Lib.hid hwl
          obtain ⟨Aw, cw, xw⟩ := rr
          simp only [Row.v] at hce hrv hcap hwk hwl
          simp only at HXS HWL
          have hok : OkI xw := fun x hx => by have := mem_lets.1 (hwl x hx); omega
          have hgo := whG_go hr3 xw hwl
          have hWW : Calls Try.prog 102 #[graV r 1 A r c, .int .i64 0, .slice Aw xw.length cw] wp fun e w' => e = .returned (.tuple #[.int .i64 0, .bool true]) ∧ Mid 0 0 wp w' := by
            have h1 := spec_WalkWord r 1 0 A (whG r) c Aw xw cw wp lo hi _ _ (hr.mid hm (Or.inl (Nat.zero_le _))) hrv HFO.out (by omega) (by omega) hok
            rw [whG_len] at h1
            refine Calls.mono h1 ?_
            rintro e w' ⟨u, b, rfl, h2, h3, h4⟩
            have hgo' : goV (whG r) ((0 : Nat) : Int) xw = some 0 := hgo
            cases b with
            | true =>
              have h5 := h2 rfl
              rw [hgo'] at h5
              injection h5 with h5
              subst h5
              exact ⟨rfl, h4⟩
            | false =>
              have h5 := h3 rfl
              rw [hgo'] at h5
              cases h5
          rw [hwk] at hWW
          have HWK := Lib.hid hwk
          have HRV := Lib.hid hrv
          have HGO := Lib.hid hgo
          have p0 := B0.cell 0 rfl
          have p1 := B0.cell 1 rfl
          have p2 := B0.cell 2 rfl
          have hi0 : (0 : Int) ≤ (i : Int) := by omega
          have hi1 : (i : Int) < (nl : Int) := by omega
          have hwc : w.heap.size < wp.heap.size := B0.1
          rw [hwk] at hce
          have hHL := HL
          clear hrr hxs hwl hgo hok hrv
          subst hA2
          go_wp2_with fail
          with_reducible refine hWW.mono ?_
          rintro en w6 ⟨rfl, hm6⟩
          have hs6 := hm6.size
          have HO6 := Lib.hid (HO.out.mid hm6)
          have HL6 := Lib.hid (HL.out.mid hm6)
          have HN6 := Lib.hid (HN.out.mid hm6)
          have HLT6 := Lib.hid (owns_mid HLT.out hm6 (Or.inl (Nat.zero_le _)))
          have hrv6 := HRV.out.mid hm6 (Or.inl (Nat.zero_le _))
          have B6 := B0.mid hm6 (Or.inr (Nat.zero_le _))
          replace hm := hm.trans hm6
          clear HO HL HN HLT HRV B0 hm6 p0 p1 p2 hHL hce hWW
          have hoe := owns_empty w6 3 1
          have hal := Mid.alloc w6 (.cells #[] 3)
          have hra := (hrv6.mid hal (Or.inl (Nat.zero_le _))).rs
          have hla : (ints xw).length = k * 1 := by rw [ints_len, hwk]; omega
          go_wp2_with (at_builtin; refine wpList_cat rfl _ _ 37 rfl w6.heap.size 3 (.int .i64 0) 1 8 undSI infoI rfl (by decide) _ _ _ rfl hoe Aw k cw _ (ints xw) rfl hra hla (one_of_ints _) ?c4 ?c5 ?c6 ?next)
          case c4 => unfold maxLen; omega
          case c5 => omega
          case c6 => simp
          case next =>
          intro v7 w7 ho7 hgr7 hat7
          obtain ⟨A7, c7, rfl, -, -⟩ := owns_shape ho7
          try rw [Nat.zero_add, List.nil_append] at ho7
          try rw [Nat.zero_add]
          have hm7 : Mid 0 0 w6 w7 := hal.transNew (Mid.of_grownRow hoe hgr7) (Or.inl (Nat.le_refl _))
          have hs7 := hm7.size
          have HR7 : Hid (w7.ownsRow w6.heap.size 3 1 (Row.v ⟨A7, c7, xw⟩) xw.length (ints xw)) := Lib.hid (by unfold Row.v; rw [hwk]; exact ho7)
          have HU7 : Hid (Row.v ⟨A7, c7, xw⟩ = .slice A7 k c7) := Lib.hid (by unfold Row.v; rw [hwk])
          clear ho7 hgr7 hat7 hoe hal hra hla
          have hno1 : no1 ≤ 50000 := by
            have h1 := HO6.out.len
            have h2 := congrArg List.length HDO.out
            have h3 := HPB.out k (by omega)
            have h4 := HLB.out k (by omega)
            rw [rowsD_len, List.length_append, List.length_take] at h2
            omega
          go_wp2_with (at_builtin; refine MarkerX.to ?_)
          unfold MarkerX
          refine wpList_push1 rfl _ _ rfl rfl HO6.out hm7 ⟨A7, c7, xw⟩ (.slice A7 k c7) HU7.out HR7.out rfl (by omega) (by omega) ?_
          intro A9 c9 w9 hO9 hgr9 hat9
          have hO7 := HO6.out.mid hm7
          have hL7 := HL6.out.mid hm7
          have hN7 := HN6.out.mid hm7
          have hLT7 := owns_mid HLT6.out hm7 (Or.inl (Nat.zero_le _))
          have B7 := B6.mid hm7 (Or.inr (Nat.zero_le _))
          have hm7' := hm.trans hm7
          have hlo : ∀ g, obS A3 no1 c3 = some g → w.heap.size + 1 ≤ g := fun g hg => (hO7.lt hg).1
          have HO9 := Lib.hid hO9
          have HL9 := Lib.hid (hL7.other hO7 HAP.out.symm hgr9)
          have HN9 := Lib.hid (hN7.other hO7 HAPO.out.symm hgr9)
          have HLT9 := Lib.hid (hLT7.kept hgr9 (owns_ne hLT7 hO7.out (by decide)))
          have B9 := B7.grown hgr9 (by intro h0; have := hlo _ h0; omega)
          have hm9 := hm7'.grownNew hgr9 (fun g hg => by have := hlo g hg; omega)
          have HAP9 := Lib.hid (HAP.out.push hat9 hL7)
          have HAPO9 := Lib.hid (HAPO.out.push hat9 hN7)
          have HDO9 : Hid (rowsD (rowsO1 ++ [(⟨A7, c7, xw⟩ : Row)]) = pre okB (lets r) k ++ (lay okB (lets r) k).take (i + 1)) := Lib.hid (by
            obtain ⟨h1, h2⟩ := List.getElem?_eq_some_iff.1 HXS.out
            rw [rowsD_append, HDO.out, List.take_succ_eq_append_getElem h1, h2, List.append_assoc]
            rfl)
          have HDN9 : Hid (rowsD rowsN = layStep okB (lets r) ((lay okB (lets r) k).take i) ++ oneW okB ((lets r).take 0) xw) := Lib.hid (by rw [HDN.out]; simp [oneW])
          have HLS := Lib.hid (layStep_take (f := okB) (L := lets r) HXS.out)
          have hs9 := hm9.size
          clear hO9 hgr9 hat9 hO7 hL7 hN7 hLT7 B7 hm7' hlo HO6 HL6 HN6 HLT6 B6 HAP HAPO HDO HDN hm hm7 hrv6 HU7 HR7
          go_wp2_with fail
          go_loopw [11, 16] (fun xv jv wr => ∃ (j nn1 : Nat) (rowsN1 : List Row) (A5 : Option Addr) (c5 : Nat), jv = .int .i64 j ∧ xv = .slice A5 nn1 c5 ∧ Hid (j ≤ LL) ∧ Hid (rowsD rowsN1 = layStep okB (lets r) ((lay okB (lets r) k).take i) ++ oneW okB ((lets r).take j) xw) ∧ Hid (Own1 wr (w.heap.size + 1) A9 (no1 + 1) c9 (rowsO1 ++ [(⟨A7, c7, xw⟩ : Row)])) ∧ Hid (Own1 wr (w.heap.size + 1) (some ⟨b2, 0, none⟩) nl c2 rowsL) ∧ Hid (Own1 wr (w.heap.size + 1) A5 nn1 c5 rowsN1) ∧ Hid (Apart A9 (no1 + 1) c9 A5 nn1 c5) ∧ Hid (Apart (some ⟨b2, 0, none⟩) nl c2 A5 nn1 c5) ∧ Hid (wr.ownsRow Lp 3 1 (.slice A8 LL c8) LL (ints (lets r))) ∧ Box wr w.heap.size [.int .i64 r, .int .i64 1, .slice A r c] ∧ Mid 0 0 w wr) (fun _ jv _ => LL - (intOf jv).toNat)
          case atStart => exact ⟨0, nn, rowsN, A4, c4, rfl, rfl, Lib.hid (Nat.zero_le _), HDN9, HO9, HL9, HN9, HAPO9, HAPL, HLT9, B9, hm9⟩
          case round =>
            clear HDN9 HO9 HL9 HN9 HAPO9 HAPL HLT9 B9 hm9 hs9
            obtain ⟨wq, hwq⟩ : ∃ wq, wq = wr := ⟨_, rfl⟩
            subst hwq
            obtain ⟨j, nn1, rowsN1, A5, c5, rfl, rfl, HJ, HDN, HO, HL, HN, HAPO, HAPL, HLT, B0, hm⟩ := hrel
            have hjl := HJ.out
            by_cases hlt3 : j < LL
            · obtain ⟨x, hx⟩ := get_of_lt (lets r) (show j < (lets r).length by rw [HLe.out]; exact hlt3)
              have hxm := mem_lets.1 (List.mem_of_getElem? hx)
              have hnx := whG_next hr3 x (List.mem_of_getElem? hx)
              have HX := Lib.hid hx
              obtain ⟨g8, hA8, hg8, hg8s⟩ := owns_addr HLT.out (show 0 < LL by omega)
              subst hA8
              have hcx : wq.cell? ⟨g8, j, none⟩ = some (.int .i64 x) := (HLT.out.cellAt j (by omega)).trans (by rw [ints_get, hx]; rfl)
              have hj0 : (0 : Int) ≤ (j : Int) := by omega
              have hj1 : (j : Int) < (LL : Int) := by omega
              have hrd := HL.out.row HRR.out
              obtain ⟨b2', hA2', -, hb2', hce', hrv', hcap'⟩ := hrd
              simp only at hrv' hcap'
              have hA := fun m os => spec_NextVertex r 1 A (whG r) c 0 x (wg wq m os) lo hi (hr.mid (hm.trans (Mid.ofWg wq m os)) (Or.inl (Nat.zero_le _))) (by rw [whG_len]; omega) (fun e he => by have := HFO.out.gr.all e he; unfold InG at this; omega) (by omega) (by omega)
              rw [whG_len, hnx] at hA
              have k0 := wg_cell B0.1 (B0.cell 0 rfl)
              have k1 := wg_cell B0.1 (B0.cell 1 rfl)
              have k2 := wg_cell B0.1 (B0.cell 2 rfl)
              have k4 := wg_cell hg8s hcx
              have HCX := Lib.hid hcx
              clear hx hcx hce' hA2' hb2' hnx
              rcases List.eq_nil_or_concat xw with hnil | ⟨ws, y, hcc⟩
              · have hk0 : k = 0 := by have := HWK.out; rw [hnil] at this; exact this.symm
                have hkb : ((k : Int) == 0) = true := by simp [hk0]
                have hokb : okB xw x = true := by rw [hnil]; rfl
                clear hnil hk0
                go_wp2_with fail
                refine wp_region_quiet_wg (by kernel_rfl) (by kernel_rfl) ?_
                repeat
                  (with_reducible refine wpQuiet_step (fun K hK => ?_))
                  go_simp
                  first
                    | ((with_reducible refine hK _ ?_); clear hK K)
                    | (rw [if_neg (by decide)]; (with_reducible refine hK _ ?_); clear hK K)
                    | (apply Exists.intro; refine ⟨fun _ => ?_, hK _ ?_⟩; ((go_at_call 44; exact Calls.wg_of (hA _ _))); clear hK K)
                with_reducible refine wpQuiet_nil ?_
                intro _ hw'
                obtain ⟨⟨nq, osq⟩, hw''⟩ := hw'
                subst hw''
                have hwg := Mid.ofWg wq nq osq
                generalize wg wq nq osq = wx at hwg ⊢
                have hmz := hwg.trans (Mid.drew1 wx)
                have hsz := hmz.size
                have HO2 := Lib.hid (HO.out.mid hmz)
                have HL2 := Lib.hid (HL.out.mid hmz)
                have HN2 := Lib.hid (HN.out.mid hmz)
                have HLT2 := Lib.hid (owns_mid HLT.out hmz (Or.inl (Nat.zero_le _)))
                have B2 := B0.mid hmz (Or.inr (Nat.zero_le _))
                have hm2 := hm.trans hmz
                have hrv2 := hrv'.mid hmz (Or.inl (Nat.zero_le _))
                have kz := cell_keep hmz hg8s (Or.inr (Nat.zero_le _)) HCX.out
                have hg8z : g8 < (World.drew wx).heap.size := Nat.lt_of_lt_of_le hg8s hsz
                have hlw : w.heap.size < wq.heap.size := B0.1
                have hlwz : w.heap.size + 1 ≤ (World.drew wx).heap.size := Nat.le_trans hlw hsz
                have hla : (ints xw).length = k * 1 := by rw [ints_len, HWK.out]; omega
                have hnn : nn1 ≤ 1048576 := by
                  have h1 := HN.out.len
                  have h2 := congrArg List.length HDN.out
                  have h4 := layStep_len (f := okB) (L := lets r) ((lay okB (lets r) k).take i)
                  have h5 : ((lay okB (lets r) k).take i).length ≤ 1296 := by
                    have h6 := lay_len (f := okB) hLL k
                    have h7 : 6 ^ k ≤ 6 ^ 4 := Nat.pow_le_pow_right (by omega) (by omega)
                    rw [List.length_take]
                    omega
                  have h8 : ((lay okB (lets r) k).take i).length * (lets r).length ≤ 1296 * 6 := Nat.mul_le_mul h5 hLL
                  have h9 := oneW_len (f := okB) (L := (lets r).take j) xw
                  have h10 : ((lets r).take j).length ≤ 6 := by rw [List.length_take]; omega
                  rw [rowsD_len, List.length_append] at h2
                  omega
                have hone1 : ∀ u ∈ [Value.int .i64 x], u.oneCell' = true := by
                  intro u hu
                  simp at hu
                  subst hu
                  rfl
                have hmx : k + 1 ≤ maxLen := by unfold maxLen; omega
                have hby : (k + 1) * 8 ≤ 140737488355328 := by omega
                have hmx3 : 0 + k ≤ maxLen := by unfold maxLen; omega
                have hby3 : (0 + k) * 8 ≤ 140737488355328 := by omega
                have HDN4 : Hid (∀ R : Row, R.xs = xw ++ [x] → rowsD (rowsN1 ++ [R]) = layStep okB (lets r) ((lay okB (lets r) k).take i) ++ oneW okB ((lets r).take (j + 1)) xw) := Lib.hid (by
                  intro R hR
                  rw [oneW_yes HX.out hokb, rowsD_append, HDN.out]
                  simp [rowsD, hR])
                clear HO HL HN HLT B0 hm hrv' hwg hsz hlw hokb HDN k0 k1 k2 k4 hA hg8s 
                go_wp2_with fail
                refine wp_region_Z (S := (fun w' => w'.cell? ⟨g8, j, none⟩ = some (.int .i64 x))) [11, 12] (by kernel_rfl) kz ?_
                generalize World.drew wx = wz at HO2 HL2 HN2 HLT2 B2 hm2 hrv2 kz hg8z hlwz hmz ⊢
                refine wpAnyZ_takeC [11, 12] (i := 0) (v := ?_) rfl (by kernel_rfl) (by kernel_rfl) (by kernel_rfl) (by kernel_rfl) (fun _ _ _ h => h) (Or.inl ⟨by rfl, ?_⟩) kz ?_
                rotate_left
                focus (intro w hSw; (try dsimp only at hSw); go_simp; try with_reducible rfl)
                try simp only [Act.put, List.setIfInBounds_toArray, List.set_cons_zero, List.set_cons_succ, List.getElem_toArray, List.getElem_cons_zero, List.getElem_cons_succ]
                refine wpAnyZ_takeC [3, 9, 10, 11, 12] (i := 2) (v := ?_) rfl (by kernel_rfl) (by kernel_rfl) (by kernel_rfl) (by kernel_rfl) (fun _ _ _ h => h) (Or.inl ⟨by rfl, ?_⟩) kz ?_
                rotate_left
                focus (intro w hSw; (try dsimp only at hSw); go_simp; try with_reducible rfl)
                try simp only [Act.put, List.setIfInBounds_toArray, List.set_cons_zero, List.set_cons_succ, List.getElem_toArray, List.getElem_cons_zero, List.getElem_cons_succ]
                refine wpAnyZ_takeC [6, 7, 8, 9, 10, 11, 12] (i := 4) (v := ?_) rfl (by kernel_rfl) (by kernel_rfl) (by kernel_rfl) (by kernel_rfl) (fun _ _ _ h => h) (Or.inl ⟨by rfl, ?_⟩) kz ?_
                rotate_left
                focus (intro w hSw; (try dsimp only at hSw); go_simp; try with_reducible rfl)
                try simp only [Act.put, List.setIfInBounds_toArray, List.set_cons_zero, List.set_cons_succ, List.getElem_toArray, List.getElem_cons_zero, List.getElem_cons_succ]
                refine wpAnyZ_takeC [6, 7, 8, 9, 10, 11, 12] (i := 5) (v := ?_) rfl (by kernel_rfl) (by kernel_rfl) (by kernel_rfl) (by kernel_rfl) (fun _ _ _ h => h) (Or.inl ⟨by rfl, ?_⟩) kz ?_
                rotate_left
                focus (intro w hSw; (try dsimp only at hSw); go_simp; try with_reducible rfl)
                try simp only [Act.put, List.setIfInBounds_toArray, List.set_cons_zero, List.set_cons_succ, List.getElem_toArray, List.getElem_cons_zero, List.getElem_cons_succ]
                refine wpAnyZ_takeC [7, 8, 9, 10, 11, 12] (i := 6) (v := ?_) rfl (by kernel_rfl) (by kernel_rfl) (by kernel_rfl) (by kernel_rfl) (fun _ _ _ h => h) (Or.inl ⟨by rfl, ?_⟩) kz ?_
                rotate_left
                focus (intro w hSw; (try dsimp only at hSw); go_simp; try with_reducible rfl)
                try simp only [Act.put, List.setIfInBounds_toArray, List.set_cons_zero, List.set_cons_succ, List.getElem_toArray, List.getElem_cons_zero, List.getElem_cons_succ]
                refine wpAnyZ_takeC [8, 9, 10, 11, 12] (i := 7) (v := ?_) rfl (by kernel_rfl) (by kernel_rfl) (by kernel_rfl) (by kernel_rfl) (fun _ _ _ h => h) (Or.inl ⟨by rfl, ?_⟩) kz ?_
                rotate_left
                focus (intro w hSw; (try dsimp only at hSw); go_simp; try with_reducible rfl)
                try simp only [Act.put, List.setIfInBounds_toArray, List.set_cons_zero, List.set_cons_succ, List.getElem_toArray, List.getElem_cons_zero, List.getElem_cons_succ]
                refine wpAnyZ_ready (rs := [1,8]) (by kernel_rfl) (by simp) (AllReadyZ.cons rfl (fun K hK => ?_) (AllReadyZ.cons rfl (fun K hK => ?_) AllReadyZ.nil))
                · go_simp
                  refine hK.out _ _ (Or.inr (cell_keep (Mid.alloc wz (.cells #[] 3)) hg8z (Or.inr (Nat.zero_le _)) kz)) (fun _ => ?_)
                  clear hK K
                  try simp only [Act.put, List.setIfInBounds_toArray, List.set_cons_zero, List.set_cons_succ, List.getElem_toArray, List.getElem_cons_zero, List.getElem_cons_succ]
                  have hal1 := Mid.alloc wz (.cells #[] 3)
                  have e1 := owns_empty wz 3 1
                  have hr1 := hrv2.mid hal1 (Or.inl (Nat.zero_le _))
                  have k1 := cell_keep hal1 hg8z (Or.inr (Nat.zero_le _)) kz
                  have hs1 : (wz.alloc (.cells #[] 3)).heap.size = wz.heap.size + 1 := by simp
                  generalize wz.alloc (.cells #[] 3) = wa at hal1 e1 hr1 k1 hs1 ⊢
                  have hg8a : g8 < wa.heap.size := by omega
                  have hbs3 : wz.heap.size ≤ wa.heap.size := by omega
                  have hlt1 : wz.heap.size < wa.heap.size := by omega
                  clear hs1
                  refine wpAnyZ_ready (rs := [3,8]) (by kernel_rfl) (by simp) (AllReadyZ.cons rfl (fun K hK => ?_) (AllReadyZ.cons rfl (fun K hK => ?_) AllReadyZ.nil))
                  · (refine step_cat (by rfl) (.tmp 106) (.tmp 107) 37 (by rfl) wz.heap.size 3 (.int .i64 0) 1 8 undSI infoI rfl (by decide) _ 0 _ (by rfl) e1 Aw k cw _ (ints xw) (by rfl) hr1.rs hla (one_of_ints _) hmx3 hby3 hbs3 ?_; intro v3 w3 ho3 hgr3 hat3; obtain ⟨A3x, c3x, rfl, -, -⟩ := owns_shape ho3)
                    refine hK.out _ _ (Or.inr (cell_keep (Mid.of_grownRow e1 hgr3) hg8a (Or.inl hg8z) k1)) (fun _ => ?_)
                    clear hK K
                    try simp only [Act.put, List.setIfInBounds_toArray, List.set_cons_zero, List.set_cons_succ, List.getElem_toArray, List.getElem_cons_zero, List.getElem_cons_succ]
                    try rw [Nat.zero_add, List.nil_append] at ho3
                    try rw [Nat.zero_add]
                    have k3 := cell_keep (Mid.of_grownRow e1 hgr3) hg8a (Or.inl hg8z) k1
                    have hm3 := hal1.transNew (Mid.of_grownRow e1 hgr3) (Or.inl (Nat.le_refl _))
                    have hg83 : g8 < w3.heap.size := Nat.lt_of_lt_of_le hg8z hm3.size
                    clear hal1 e1 hr1 k1 hgr3 hat3 hbs3
                    refine wpAnyZ_ready (rs := [8]) (by kernel_rfl) (by simp) (AllReadyZ.cons rfl (fun K hK => ?_) AllReadyZ.nil)
                    go_simp
                    refine hK.out _ _ (Or.inr (cell_keep (Mid.alloc w3 (.cells #[.int .i64 x] 3)) hg83 (Or.inr (Nat.zero_le _)) k3)) (fun _ => ?_)
                    clear hK K
                    try simp only [Act.put, List.setIfInBounds_toArray, List.set_cons_zero, List.set_cons_succ, List.getElem_toArray, List.getElem_cons_zero, List.getElem_cons_succ]
                    have hal8 := Mid.alloc w3 (.cells #[.int .i64 x] 3)
                    have kc := cell_keep hal8 hg83 (Or.inr (Nat.zero_le _)) k3
                    have hmc := hm3.trans hal8
                    have hrow := ho3.alloc (.cells #[.int .i64 x] 3)
                    have hone := rs_one (w := w3.alloc (.cells #[.int .i64 x] 3)) (p := w3.heap.size) (v := .int .i64 x) (World.cell?_alloc_at _ _ _ _ rfl)
                    generalize w3.alloc (.cells #[.int .i64 x] 3) = wc at hal8 kc hmc hrow hone ⊢
                    clear hal8 ho3 hm3 k3
                    have hg8c : g8 < wc.heap.size := Nat.lt_of_lt_of_le hg8z hmc.size
                    refine wpAnyZ_ready (rs := [9]) (by kernel_rfl) (by simp) (AllReadyZ.cons rfl (fun K hK => ?_) AllReadyZ.nil)
                    (refine step_cat (by rfl) (.tmp 108) (.tmp 113) 37 (by rfl) wz.heap.size 3 (.int .i64 0) 1 8 undSI infoI rfl (by decide) (.slice A3x k c3x) k _ (by rfl) hrow (some ⟨w3.heap.size, 0, none⟩) 1 1 _ [.int .i64 x] (by rfl) hone rfl hone1 hmx hby hmc.size ?_; intro v9 w9 ho9 hgr9 hat9; obtain ⟨A9x, c9x, rfl, -, -⟩ := owns_shape ho9)
                    refine hK.out _ _ (Or.inr (cell_keep (Mid.of_grownRow hrow hgr9) hg8c (Or.inl hg8z) kc)) (fun _ => ?_)
                    clear hK K
                    try simp only [Act.put, List.setIfInBounds_toArray, List.set_cons_zero, List.set_cons_succ, List.getElem_toArray, List.getElem_cons_zero, List.getElem_cons_succ]
                    have k9 := cell_keep (Mid.of_grownRow hrow hgr9) hg8c (Or.inl hg8z) kc
                    have hm9 := hmc.transNew (Mid.of_grownRow hrow hgr9) (Or.inl (Nat.le_refl _))
                    have hg89 : g8 < w9.heap.size := Nat.lt_of_lt_of_le hg8z hm9.size
                    have hrow9 : w9.ownsRow wz.heap.size 3 1 (Row.v ⟨A9x, c9x, xw ++ [x]⟩) (xw ++ [x]).length (ints (xw ++ [x])) := pushE (by rw [ints_append]; exact ho9) HWK.out
                    have hu9 : Row.v ⟨A9x, c9x, xw ++ [x]⟩ = .slice A9x (k + 1) c9x := by simp only [Row.v, List.length_append, HWK.out, List.length_singleton]
                    clear ho9 hgr9 hat9 hrow hone hmc kc
                    refine wpAnyZ_ready (rs := [10]) (by kernel_rfl) (by simp) (AllReadyZ.cons rfl (fun K hK => ?_) AllReadyZ.nil)
                    go_simp
                    refine hK.out _ _ (Or.inr (cell_keep (Mid.alloc w9 (.cells #[.slice A9x (k + 1) c9x] 37)) hg89 (Or.inr (Nat.zero_le _)) k9)) (fun _ => ?_)
                    clear hK K
                    try simp only [Act.put, List.setIfInBounds_toArray, List.set_cons_zero, List.set_cons_succ, List.getElem_toArray, List.getElem_cons_zero, List.getElem_cons_succ]
                    refine wpAnyZ_ready (rs := [11]) (by kernel_rfl) (by simp) (AllReadyZ.cons rfl (fun K hK => ?_) AllReadyZ.nil)
                    (refine step_push1 (by rfl) (.tmp 105) (.tmp 115) (by rfl) (by rfl) HN2.out hm9 ⟨A9x, c9x, xw ++ [x]⟩ (.slice A9x (k + 1) c9x) hu9 hrow9 (by rfl) hnn hlwz ?_; intro A11 c11 w11 hN11 hgr11 hat11)
                    refine hK.out _ _ (Or.inl (by simp)) (fun _ => ?_)
                    clear hK K
                    try simp only [Act.put, List.setIfInBounds_toArray, List.set_cons_zero, List.set_cons_succ, List.getElem_toArray, List.getElem_cons_zero, List.getElem_cons_succ]
                    have hO9 := HO2.out.mid hm9
                    have hL9 := HL2.out.mid hm9
                    have hN9 := HN2.out.mid hm9
                    have hLT9 := owns_mid HLT2.out hm9 (Or.inl (Nat.zero_le _))
                    have B9 := B2.mid hm9 (Or.inr (Nat.zero_le _))
                    have hm9' := hm2.trans hm9
                    have hlo : ∀ g, obS A5 nn1 c5 = some g → w.heap.size + 1 ≤ g := fun g hg => (hN9.lt hg).1
                    have HO11 := Lib.hid (hO9.other hN9 HAPO.out hgr11)
                    have HL11 := Lib.hid (hL9.other hN9 HAPL.out hgr11)
                    have HN11 := Lib.hid hN11
                    have HLT11 := Lib.hid (hLT9.kept hgr11 (owns_ne hLT9 hN9.out (by decide)))
                    have B11 := B9.grown hgr11 (by intro h0; have := hlo _ h0; omega)
                    have hm11 := hm9'.grownNew hgr11 (fun g hg => by have := hlo g hg; omega)
                    have HAPO11 := Lib.hid ((HAPO.out.symm.push hat11 hO9).symm)
                    have HAPL11 := Lib.hid ((HAPL.out.symm.push hat11 hL9).symm)
                    have HDN11 := Lib.hid (HDN4.out ⟨A9x, c9x, xw ++ [x]⟩ rfl)
                    clear hN11 hgr11 hat11 hO9 hL9 hN9 hLT9 B9 hm9' hlo HO2 HL2 HN2 HLT2 B2 hm2 hm9 hmz HAPO HAPL HDN4 hrow9 hu9 hrv2 kz k9
                    refine wpAnyZ_ready (rs := [12]) (by kernel_rfl) (by simp) (AllReadyZ.cons rfl (fun K hK => ?_) AllReadyZ.nil)
                    go_simp
                    refine hK.out _ _ (Or.inl (by simp)) (fun _ => ?_)
                    clear hK K
                    try simp only [Act.put, List.setIfInBounds_toArray, List.set_cons_zero, List.set_cons_succ, List.getElem_toArray, List.getElem_cons_zero, List.getElem_cons_succ]
                    refine wpAnyZ_done (by kernel_rfl) ?_ _
                    go_wp2_with fail
                    go_roundw
                    case rel => exact ⟨j + 1, nn1 + 1, _, A11, c11, by go_num, rfl, Lib.hid (by omega), HDN11, HO11, HL11, HN11, HAPO11, HAPL11, HLT11, B11, hm11⟩
                    case measure => simp [intOf]; omega
                  · go_simp
                    refine hK.out _ _ (Or.inr (cell_keep (Mid.alloc wa (.cells #[.int .i64 x] 3)) hg8a (Or.inr (Nat.zero_le _)) k1)) (fun _ => ?_)
                    clear hK K
                    try simp only [Act.put, List.setIfInBounds_toArray, List.set_cons_zero, List.set_cons_succ, List.getElem_toArray, List.getElem_cons_zero, List.getElem_cons_succ]
                    have hal8 := Mid.alloc wa (.cells #[.int .i64 x] 3)
                    have k8 := cell_keep hal8 hg8a (Or.inr (Nat.zero_le _)) k1
                    have hm8 := hal1.trans hal8
                    replace e1 := e1.alloc (.cells #[.int .i64 x] 3)
                    replace hr1 := hr1.mid hal8 (Or.inl (Nat.zero_le _))
                    have c8 : (wa.alloc (.cells #[.int .i64 x] 3)).cell? ⟨wa.heap.size, 0, none⟩ = some (.int .i64 x) := World.cell?_alloc_at _ _ _ _ rfl
                    have hs8 : (wa.alloc (.cells #[.int .i64 x] 3)).heap.size = wa.heap.size + 1 := by simp
                    generalize wa.alloc (.cells #[.int .i64 x] 3) = w8 at hal8 k8 hm8 e1 hr1 c8 hs8 ⊢
                    have hg88 : g8 < w8.heap.size := by omega
                    replace hbs3 : wz.heap.size ≤ w8.heap.size := by omega
                    have hlt8 : wa.heap.size < w8.heap.size := by omega
                    clear k1 hal1 hal8 hs8
                    refine wpAnyZ_ready (rs := [3]) (by kernel_rfl) (by simp) (AllReadyZ.cons rfl (fun K hK => ?_) AllReadyZ.nil)
                    (refine step_cat (by rfl) (.tmp 106) (.tmp 107) 37 (by rfl) wz.heap.size 3 (.int .i64 0) 1 8 undSI infoI rfl (by decide) _ 0 _ (by rfl) e1 Aw k cw _ (ints xw) (by rfl) hr1.rs hla (one_of_ints _) hmx3 hby3 hbs3 ?_; intro v3 w3 ho3 hgr3 hat3; obtain ⟨A3x, c3x, rfl, -, -⟩ := owns_shape ho3)
                    refine hK.out _ _ (Or.inr (cell_keep (Mid.of_grownRow e1 hgr3) hg88 (Or.inl hg8z) k8)) (fun _ => ?_)
                    clear hK K
                    try simp only [Act.put, List.setIfInBounds_toArray, List.set_cons_zero, List.set_cons_succ, List.getElem_toArray, List.getElem_cons_zero, List.getElem_cons_succ]
                    try rw [Nat.zero_add, List.nil_append] at ho3
                    try rw [Nat.zero_add]
                    have kc := cell_keep (Mid.of_grownRow e1 hgr3) hg88 (Or.inl hg8z) k8
                    have hmc := hm8.transNew (Mid.of_grownRow e1 hgr3) (Or.inl (Nat.le_refl _))
                    have hrow := ho3
                    have hone := rs_one (cell_grown hgr3 (show wa.heap.size < w8.heap.size by omega) (own_ne (by omega)) c8)
                    generalize w3 = wc at kc hmc hrow hone ⊢
                    clear hm8 k8 e1 hr1 c8 hgr3 hat3 ho3
                    have hg8c : g8 < wc.heap.size := Nat.lt_of_lt_of_le hg8z hmc.size
                    refine wpAnyZ_ready (rs := [9]) (by kernel_rfl) (by simp) (AllReadyZ.cons rfl (fun K hK => ?_) AllReadyZ.nil)
                    (refine step_cat (by rfl) (.tmp 108) (.tmp 113) 37 (by rfl) wz.heap.size 3 (.int .i64 0) 1 8 undSI infoI rfl (by decide) (.slice A3x k c3x) k _ (by rfl) hrow (some ⟨wa.heap.size, 0, none⟩) 1 1 _ [.int .i64 x] (by rfl) hone rfl hone1 hmx hby hmc.size ?_; intro v9 w9 ho9 hgr9 hat9; obtain ⟨A9x, c9x, rfl, -, -⟩ := owns_shape ho9)
                    refine hK.out _ _ (Or.inr (cell_keep (Mid.of_grownRow hrow hgr9) hg8c (Or.inl hg8z) kc)) (fun _ => ?_)
                    clear hK K
                    try simp only [Act.put, List.setIfInBounds_toArray, List.set_cons_zero, List.set_cons_succ, List.getElem_toArray, List.getElem_cons_zero, List.getElem_cons_succ]
                    have k9 := cell_keep (Mid.of_grownRow hrow hgr9) hg8c (Or.inl hg8z) kc
                    have hm9 := hmc.transNew (Mid.of_grownRow hrow hgr9) (Or.inl (Nat.le_refl _))
                    have hg89 : g8 < w9.heap.size := Nat.lt_of_lt_of_le hg8z hm9.size
                    have hrow9 : w9.ownsRow wz.heap.size 3 1 (Row.v ⟨A9x, c9x, xw ++ [x]⟩) (xw ++ [x]).length (ints (xw ++ [x])) := pushE (by rw [ints_append]; exact ho9) HWK.out
                    have hu9 : Row.v ⟨A9x, c9x, xw ++ [x]⟩ = .slice A9x (k + 1) c9x := by simp only [Row.v, List.length_append, HWK.out, List.length_singleton]
                    clear ho9 hgr9 hat9 hrow hone hmc kc
                    refine wpAnyZ_ready (rs := [10]) (by kernel_rfl) (by simp) (AllReadyZ.cons rfl (fun K hK => ?_) AllReadyZ.nil)
                    go_simp
                    refine hK.out _ _ (Or.inr (cell_keep (Mid.alloc w9 (.cells #[.slice A9x (k + 1) c9x] 37)) hg89 (Or.inr (Nat.zero_le _)) k9)) (fun _ => ?_)
                    clear hK K
                    try simp only [Act.put, List.setIfInBounds_toArray, List.set_cons_zero, List.set_cons_succ, List.getElem_toArray, List.getElem_cons_zero, List.getElem_cons_succ]
                    refine wpAnyZ_ready (rs := [11]) (by kernel_rfl) (by simp) (AllReadyZ.cons rfl (fun K hK => ?_) AllReadyZ.nil)
                    (refine step_push1 (by rfl) (.tmp 105) (.tmp 115) (by rfl) (by rfl) HN2.out hm9 ⟨A9x, c9x, xw ++ [x]⟩ (.slice A9x (k + 1) c9x) hu9 hrow9 (by rfl) hnn hlwz ?_; intro A11 c11 w11 hN11 hgr11 hat11)
                    refine hK.out _ _ (Or.inl (by simp)) (fun _ => ?_)
                    clear hK K
                    try simp only [Act.put, List.setIfInBounds_toArray, List.set_cons_zero, List.set_cons_succ, List.getElem_toArray, List.getElem_cons_zero, List.getElem_cons_succ]
                    have hO9 := HO2.out.mid hm9
                    have hL9 := HL2.out.mid hm9
                    have hN9 := HN2.out.mid hm9
                    have hLT9 := owns_mid HLT2.out hm9 (Or.inl (Nat.zero_le _))
                    have B9 := B2.mid hm9 (Or.inr (Nat.zero_le _))
                    have hm9' := hm2.trans hm9
                    have hlo : ∀ g, obS A5 nn1 c5 = some g → w.heap.size + 1 ≤ g := fun g hg => (hN9.lt hg).1
                    have HO11 := Lib.hid (hO9.other hN9 HAPO.out hgr11)
                    have HL11 := Lib.hid (hL9.other hN9 HAPL.out hgr11)
                    have HN11 := Lib.hid hN11
                    have HLT11 := Lib.hid (hLT9.kept hgr11 (owns_ne hLT9 hN9.out (by decide)))
                    have B11 := B9.grown hgr11 (by intro h0; have := hlo _ h0; omega)
                    have hm11 := hm9'.grownNew hgr11 (fun g hg => by have := hlo g hg; omega)
                    have HAPO11 := Lib.hid ((HAPO.out.symm.push hat11 hO9).symm)
                    have HAPL11 := Lib.hid ((HAPL.out.symm.push hat11 hL9).symm)
                    have HDN11 := Lib.hid (HDN4.out ⟨A9x, c9x, xw ++ [x]⟩ rfl)
                    clear hN11 hgr11 hat11 hO9 hL9 hN9 hLT9 B9 hm9' hlo HO2 HL2 HN2 HLT2 B2 hm2 hm9 hmz HAPO HAPL HDN4 hrow9 hu9 hrv2 kz k9
                    refine wpAnyZ_ready (rs := [12]) (by kernel_rfl) (by simp) (AllReadyZ.cons rfl (fun K hK => ?_) AllReadyZ.nil)
                    go_simp
                    refine hK.out _ _ (Or.inl (by simp)) (fun _ => ?_)
                    clear hK K
                    try simp only [Act.put, List.setIfInBounds_toArray, List.set_cons_zero, List.set_cons_succ, List.getElem_toArray, List.getElem_cons_zero, List.getElem_cons_succ]
                    refine wpAnyZ_done (by kernel_rfl) ?_ _
                    go_wp2_with fail
                    go_roundw
                    case rel => exact ⟨j + 1, nn1 + 1, _, A11, c11, by go_num, rfl, Lib.hid (by omega), HDN11, HO11, HL11, HN11, HAPO11, HAPL11, HLT11, B11, hm11⟩
                    case measure => simp [intOf]; omega
                · go_simp
                  refine hK.out _ _ (Or.inr (cell_keep (Mid.alloc wz (.cells #[.int .i64 x] 3)) hg8z (Or.inr (Nat.zero_le _)) kz)) (fun _ => ?_)
                  clear hK K
                  try simp only [Act.put, List.setIfInBounds_toArray, List.set_cons_zero, List.set_cons_succ, List.getElem_toArray, List.getElem_cons_zero, List.getElem_cons_succ]
                  have hal8 := Mid.alloc wz (.cells #[.int .i64 x] 3)
                  have k8 := cell_keep hal8 hg8z (Or.inr (Nat.zero_le _)) kz
                  have hr8 := hrv2.mid hal8 (Or.inl (Nat.zero_le _))
                  have c8 : (wz.alloc (.cells #[.int .i64 x] 3)).cell? ⟨wz.heap.size, 0, none⟩ = some (.int .i64 x) := World.cell?_alloc_at _ _ _ _ rfl
                  have hs8 : (wz.alloc (.cells #[.int .i64 x] 3)).heap.size = wz.heap.size + 1 := by simp
                  generalize wz.alloc (.cells #[.int .i64 x] 3) = w8 at hal8 k8 hr8 c8 hs8 ⊢
                  have hg88 : g8 < w8.heap.size := by omega
                  have hlt8 : wz.heap.size < w8.heap.size := by omega
                  clear hs8
                  refine wpAnyZ_ready (rs := [1]) (by kernel_rfl) (by simp) (AllReadyZ.cons rfl (fun K hK => ?_) AllReadyZ.nil)
                  go_simp
                  refine hK.out _ _ (Or.inr (cell_keep (Mid.alloc w8 (.cells #[] 3)) hg88 (Or.inr (Nat.zero_le _)) k8)) (fun _ => ?_)
                  clear hK K
                  try simp only [Act.put, List.setIfInBounds_toArray, List.set_cons_zero, List.set_cons_succ, List.getElem_toArray, List.getElem_cons_zero, List.getElem_cons_succ]
                  have hal1 := Mid.alloc w8 (.cells #[] 3)
                  have e1 := owns_empty w8 3 1
                  have hr1 := hr8.mid hal1 (Or.inl (Nat.zero_le _))
                  have c1 := cell_keep hal1 (show wz.heap.size < w8.heap.size by omega) (Or.inr (Nat.zero_le _)) c8
                  have k1 := cell_keep hal1 hg88 (Or.inr (Nat.zero_le _)) k8
                  have hm1' := hal8.trans hal1
                  have hs1 : (w8.alloc (.cells #[] 3)).heap.size = w8.heap.size + 1 := by simp
                  generalize w8.alloc (.cells #[] 3) = wa at hal1 e1 hr1 c1 k1 hm1' hs1 ⊢
                  have hg8a : g8 < wa.heap.size := by omega
                  have hbs3 : w8.heap.size ≤ wa.heap.size := by omega
                  have hlt1 : w8.heap.size < wa.heap.size := by omega
                  clear hal8 hal1 k8 hr8 c8 hs1
                  refine wpAnyZ_ready (rs := [3]) (by kernel_rfl) (by simp) (AllReadyZ.cons rfl (fun K hK => ?_) AllReadyZ.nil)
                  (refine step_cat (by rfl) (.tmp 106) (.tmp 107) 37 (by rfl) w8.heap.size 3 (.int .i64 0) 1 8 undSI infoI rfl (by decide) _ 0 _ (by rfl) e1 Aw k cw _ (ints xw) (by rfl) hr1.rs hla (one_of_ints _) hmx3 hby3 hbs3 ?_; intro v3 w3 ho3 hgr3 hat3; obtain ⟨A3x, c3x, rfl, -, -⟩ := owns_shape ho3)
                  refine hK.out _ _ (Or.inr (cell_keep (Mid.of_grownRow e1 hgr3) hg8a (Or.inl hg88) k1)) (fun _ => ?_)
                  clear hK K
                  try simp only [Act.put, List.setIfInBounds_toArray, List.set_cons_zero, List.set_cons_succ, List.getElem_toArray, List.getElem_cons_zero, List.getElem_cons_succ]
                  try rw [Nat.zero_add, List.nil_append] at ho3
                  try rw [Nat.zero_add]
                  have kc := cell_keep (Mid.of_grownRow e1 hgr3) hg8a (Or.inl hg88) k1
                  have hmc := hm1'.transNew (Mid.of_grownRow e1 hgr3) (Or.inl (by omega))
                  have hrow := owns_base ho3 (show wz.heap.size ≤ w8.heap.size by omega)
                  have hone := rs_one (cell_grown hgr3 (show wz.heap.size < wa.heap.size by omega) (own_ne (by omega)) c1)
                  generalize w3 = wc at kc hmc hrow hone ⊢
                  clear e1 hr1 c1 k1 hm1' hgr3 hat3 ho3
                  have hg8c : g8 < wc.heap.size := Nat.lt_of_lt_of_le hg8z hmc.size
                  refine wpAnyZ_ready (rs := [9]) (by kernel_rfl) (by simp) (AllReadyZ.cons rfl (fun K hK => ?_) AllReadyZ.nil)
                  (refine step_cat (by rfl) (.tmp 108) (.tmp 113) 37 (by rfl) wz.heap.size 3 (.int .i64 0) 1 8 undSI infoI rfl (by decide) (.slice A3x k c3x) k _ (by rfl) hrow (some ⟨wz.heap.size, 0, none⟩) 1 1 _ [.int .i64 x] (by rfl) hone rfl hone1 hmx hby hmc.size ?_; intro v9 w9 ho9 hgr9 hat9; obtain ⟨A9x, c9x, rfl, -, -⟩ := owns_shape ho9)
                  refine hK.out _ _ (Or.inr (cell_keep (Mid.of_grownRow hrow hgr9) hg8c (Or.inl hg8z) kc)) (fun _ => ?_)
                  clear hK K
                  try simp only [Act.put, List.setIfInBounds_toArray, List.set_cons_zero, List.set_cons_succ, List.getElem_toArray, List.getElem_cons_zero, List.getElem_cons_succ]
                  have k9 := cell_keep (Mid.of_grownRow hrow hgr9) hg8c (Or.inl hg8z) kc
                  have hm9 := hmc.transNew (Mid.of_grownRow hrow hgr9) (Or.inl (Nat.le_refl _))
                  have hg89 : g8 < w9.heap.size := Nat.lt_of_lt_of_le hg8z hm9.size
                  have hrow9 : w9.ownsRow wz.heap.size 3 1 (Row.v ⟨A9x, c9x, xw ++ [x]⟩) (xw ++ [x]).length (ints (xw ++ [x])) := pushE (by rw [ints_append]; exact ho9) HWK.out
                  have hu9 : Row.v ⟨A9x, c9x, xw ++ [x]⟩ = .slice A9x (k + 1) c9x := by simp only [Row.v, List.length_append, HWK.out, List.length_singleton]
                  clear ho9 hgr9 hat9 hrow hone hmc kc
                  refine wpAnyZ_ready (rs := [10]) (by kernel_rfl) (by simp) (AllReadyZ.cons rfl (fun K hK => ?_) AllReadyZ.nil)
                  go_simp
                  refine hK.out _ _ (Or.inr (cell_keep (Mid.alloc w9 (.cells #[.slice A9x (k + 1) c9x] 37)) hg89 (Or.inr (Nat.zero_le _)) k9)) (fun _ => ?_)
                  clear hK K
                  try simp only [Act.put, List.setIfInBounds_toArray, List.set_cons_zero, List.set_cons_succ, List.getElem_toArray, List.getElem_cons_zero, List.getElem_cons_succ]
                  refine wpAnyZ_ready (rs := [11]) (by kernel_rfl) (by simp) (AllReadyZ.cons rfl (fun K hK => ?_) AllReadyZ.nil)
                  (refine step_push1 (by rfl) (.tmp 105) (.tmp 115) (by rfl) (by rfl) HN2.out hm9 ⟨A9x, c9x, xw ++ [x]⟩ (.slice A9x (k + 1) c9x) hu9 hrow9 (by rfl) hnn hlwz ?_; intro A11 c11 w11 hN11 hgr11 hat11)
                  refine hK.out _ _ (Or.inl (by simp)) (fun _ => ?_)
                  clear hK K
                  try simp only [Act.put, List.setIfInBounds_toArray, List.set_cons_zero, List.set_cons_succ, List.getElem_toArray, List.getElem_cons_zero, List.getElem_cons_succ]
                  have hO9 := HO2.out.mid hm9
                  have hL9 := HL2.out.mid hm9
                  have hN9 := HN2.out.mid hm9
                  have hLT9 := owns_mid HLT2.out hm9 (Or.inl (Nat.zero_le _))
                  have B9 := B2.mid hm9 (Or.inr (Nat.zero_le _))
                  have hm9' := hm2.trans hm9
                  have hlo : ∀ g, obS A5 nn1 c5 = some g → w.heap.size + 1 ≤ g := fun g hg => (hN9.lt hg).1
                  have HO11 := Lib.hid (hO9.other hN9 HAPO.out hgr11)
                  have HL11 := Lib.hid (hL9.other hN9 HAPL.out hgr11)
                  have HN11 := Lib.hid hN11
                  have HLT11 := Lib.hid (hLT9.kept hgr11 (owns_ne hLT9 hN9.out (by decide)))
                  have B11 := B9.grown hgr11 (by intro h0; have := hlo _ h0; omega)
                  have hm11 := hm9'.grownNew hgr11 (fun g hg => by have := hlo g hg; omega)
                  have HAPO11 := Lib.hid ((HAPO.out.symm.push hat11 hO9).symm)
                  have HAPL11 := Lib.hid ((HAPL.out.symm.push hat11 hL9).symm)
                  have HDN11 := Lib.hid (HDN4.out ⟨A9x, c9x, xw ++ [x]⟩ rfl)
                  clear hN11 hgr11 hat11 hO9 hL9 hN9 hLT9 B9 hm9' hlo HO2 HL2 HN2 HLT2 B2 hm2 hm9 hmz HAPO HAPL HDN4 hrow9 hu9 hrv2 kz k9
                  refine wpAnyZ_ready (rs := [12]) (by kernel_rfl) (by simp) (AllReadyZ.cons rfl (fun K hK => ?_) AllReadyZ.nil)
                  go_simp
                  refine hK.out _ _ (Or.inl (by simp)) (fun _ => ?_)
                  clear hK K
                  try simp only [Act.put, List.setIfInBounds_toArray, List.set_cons_zero, List.set_cons_succ, List.getElem_toArray, List.getElem_cons_zero, List.getElem_cons_succ]
                  refine wpAnyZ_done (by kernel_rfl) ?_ _
                  go_wp2_with fail
                  go_roundw
                  case rel => exact ⟨j + 1, nn1 + 1, _, A11, c11, by go_num, rfl, Lib.hid (by omega), HDN11, HO11, HL11, HN11, HAPO11, HAPL11, HLT11, B11, hm11⟩
                  case measure => simp [intOf]; omega
              · have hkm : k = ws.length + 1 := by have := HWK.out; rw [hcc, List.length_concat] at this; exact this.symm
                have hkb : ((k : Int) == 0) = false := by simp; omega
                obtain ⟨m, hm'⟩ : ∃ m, ws.length = m := ⟨_, rfl⟩
                have hk1 : (k : Int) - 1 = (m : Int) := by omega
                have hym : y ∈ xw := by rw [hcc]; simp
                have hyl := mem_lets.1 (HWL.out y hym)
                have hgx : xw[m]? = some y := by rw [hcc, List.concat_eq_append, List.getElem?_append_right (by omega), ← hm']; simp
                obtain ⟨bw, ow, y', hAw, hbw, hgy, hcy⟩ := hrv'.at (k := m) (by rw [HWK.out]; omega)
                subst hAw
                rw [hgx] at hgy
                injection hgy with hgy
                subst hgy
                have hbws : bw < wq.heap.size := Nat.lt_of_lt_of_le hbw hrv'.1
                have hm0 : (0 : Int) ≤ (m : Int) := by omega
                have hm1 : (m : Int) < (k : Int) := by omega
                have k5 := wg_cell hbws hcy
                have hwk1 : IntKind.i64.wrap (m : Int) = (m : Int) := IntWalk.i64_in _ (by omega)
                have hwn : IntKind.i64.wrap (-y) = -y := IntWalk.i64_in _ (by omega)
                obtain ⟨bb, hbb⟩ : ∃ bb, (x == -y) = bb := ⟨_, rfl⟩
                have hyx : (y == -x) = bb := by
                  rw [← hbb]
                  by_cases h : x = -y
                  · have h2 : y = -x := by omega
                    rw [beq_iff_eq.2 h, beq_iff_eq.2 h2]
                  · have h2 : ¬ y = -x := by omega
                    rw [beq_eq_false_iff_ne.2 h, beq_eq_false_iff_ne.2 h2]
                have hokb : okB xw x = !bb := by rw [hcc, List.concat_eq_append, okB_snoc, hyx]
                have hbn : (x != -y) = !bb := by rw [← hbb]; rfl
                clear hcc hym hgx hm' hkm hcy hyx
                cases bb with
                | true =>
                  have HDN4 : Hid (rowsD rowsN1 = layStep okB (lets r) ((lay okB (lets r) k).take i) ++ oneW okB ((lets r).take (j + 1)) xw) := Lib.hid (by rw [oneW_no HX.out hokb]; exact HDN.out)
                  clear hokb HDN
                  go_wp2_with fail
                  refine wp_region_quiet_wg (by kernel_rfl) (by kernel_rfl) ?_
                  repeat
                    (with_reducible refine wpQuiet_step (fun K hK => ?_))
                    go_simp
                    first
                      | ((with_reducible refine hK _ ?_); clear hK K)
                      | (rw [if_neg (by decide)]; (with_reducible refine hK _ ?_); clear hK K)
                      | (apply Exists.intro; refine ⟨fun _ => ?_, hK _ ?_⟩; ((go_at_call 44; exact Calls.wg_of (hA _ _))); clear hK K)
                  with_reducible refine wpQuiet_nil ?_
                  intro _ hw'
                  obtain ⟨⟨nq, osq⟩, hw''⟩ := hw'
                  subst hw''
                  have hwg := Mid.ofWg wq nq osq
                  generalize wg wq nq osq = wx at hwg ⊢
                  have HO2 := Lib.hid (HO.out.mid hwg)
                  have HL2 := Lib.hid (HL.out.mid hwg)
                  have HN2 := Lib.hid (HN.out.mid hwg)
                  have HLT2 := Lib.hid (owns_mid HLT.out hwg (Or.inl (Nat.zero_le _)))
                  have B2 := B0.mid hwg (Or.inr (Nat.zero_le _))
                  have hm2 := hm.trans hwg
                  clear HO HL HN HLT B0 hm hwg hrv' k0 k1 k2 k4 k5 hA
                  go_wp2_with fail
                  go_roundw
                  case rel => exact ⟨j + 1, nn1, rowsN1, A5, c5, by go_num, rfl, Lib.hid (by omega), HDN4, HO2, HL2, HN2, HAPO, HAPL, HLT2, B2, hm2⟩
                  case measure => simp [intOf]; omega
                | false =>
                  go_wp2_with fail
                  refine wp_region_quiet_wg (by kernel_rfl) (by kernel_rfl) ?_
                  repeat
                    (with_reducible refine wpQuiet_step (fun K hK => ?_))
                    go_simp
                    first
                      | ((with_reducible refine hK _ ?_); clear hK K)
                      | (rw [if_neg (by decide)]; (with_reducible refine hK _ ?_); clear hK K)
                      | (apply Exists.intro; refine ⟨fun _ => ?_, hK _ ?_⟩; ((go_at_call 44; exact Calls.wg_of (hA _ _))); clear hK K)
                  with_reducible refine wpQuiet_nil ?_
                  intro _ hw'
                  obtain ⟨⟨nq, osq⟩, hw''⟩ := hw'
                  subst hw''
                  have hwg := Mid.ofWg wq nq osq
                  generalize wg wq nq osq = wx at hwg ⊢
                  have hmz := hwg.trans (Mid.drew1 wx)
                  have hsz := hmz.size
                  have HO2 := Lib.hid (HO.out.mid hmz)
                  have HL2 := Lib.hid (HL.out.mid hmz)
                  have HN2 := Lib.hid (HN.out.mid hmz)
                  have HLT2 := Lib.hid (owns_mid HLT.out hmz (Or.inl (Nat.zero_le _)))
                  have B2 := B0.mid hmz (Or.inr (Nat.zero_le _))
                  have hm2 := hm.trans hmz
                  have hrv2 := hrv'.mid hmz (Or.inl (Nat.zero_le _))
                  have kz := cell_keep hmz hg8s (Or.inr (Nat.zero_le _)) HCX.out
                  have hg8z : g8 < (World.drew wx).heap.size := Nat.lt_of_lt_of_le hg8s hsz
                  have hlw : w.heap.size < wq.heap.size := B0.1
                  have hlwz : w.heap.size + 1 ≤ (World.drew wx).heap.size := Nat.le_trans hlw hsz
                  have hla : (ints xw).length = k * 1 := by rw [ints_len, HWK.out]; omega
                  have hnn : nn1 ≤ 1048576 := by
                    have h1 := HN.out.len
                    have h2 := congrArg List.length HDN.out
                    have h4 := layStep_len (f := okB) (L := lets r) ((lay okB (lets r) k).take i)
                    have h5 : ((lay okB (lets r) k).take i).length ≤ 1296 := by
                      have h6 := lay_len (f := okB) hLL k
                      have h7 : 6 ^ k ≤ 6 ^ 4 := Nat.pow_le_pow_right (by omega) (by omega)
                      rw [List.length_take]
                      omega
                    have h8 : ((lay okB (lets r) k).take i).length * (lets r).length ≤ 1296 * 6 := Nat.mul_le_mul h5 hLL
                    have h9 := oneW_len (f := okB) (L := (lets r).take j) xw
                    have h10 : ((lets r).take j).length ≤ 6 := by rw [List.length_take]; omega
                    rw [rowsD_len, List.length_append] at h2
                    omega
                  have hone1 : ∀ u ∈ [Value.int .i64 x], u.oneCell' = true := by
                    intro u hu
                    simp at hu
                    subst hu
                    rfl
                  have hmx : k + 1 ≤ maxLen := by unfold maxLen; omega
                  have hby : (k + 1) * 8 ≤ 140737488355328 := by omega
                  have hmx3 : 0 + k ≤ maxLen := by unfold maxLen; omega
                  have hby3 : (0 + k) * 8 ≤ 140737488355328 := by omega
                  have HDN4 : Hid (∀ R : Row, R.xs = xw ++ [x] → rowsD (rowsN1 ++ [R]) = layStep okB (lets r) ((lay okB (lets r) k).take i) ++ oneW okB ((lets r).take (j + 1)) xw) := Lib.hid (by
                    intro R hR
                    rw [oneW_yes HX.out hokb, rowsD_append, HDN.out]
                    simp [rowsD, hR])
                  clear HO HL HN HLT B0 hm hrv' hwg hsz hlw hokb HDN k0 k1 k2 k4 hA hg8s k5
                  go_wp2_with fail
                  refine wp_region_Z (S := (fun w' => w'.cell? ⟨g8, j, none⟩ = some (.int .i64 x))) [11, 12] (by kernel_rfl) kz ?_
                  generalize World.drew wx = wz at HO2 HL2 HN2 HLT2 B2 hm2 hrv2 kz hg8z hlwz hmz ⊢
                  refine wpAnyZ_takeC [11, 12] (i := 0) (v := ?_) rfl (by kernel_rfl) (by kernel_rfl) (by kernel_rfl) (by kernel_rfl) (fun _ _ _ h => h) (Or.inl ⟨by rfl, ?_⟩) kz ?_
                  rotate_left
                  focus (intro w hSw; (try dsimp only at hSw); go_simp; try with_reducible rfl)
                  try simp only [Act.put, List.setIfInBounds_toArray, List.set_cons_zero, List.set_cons_succ, List.getElem_toArray, List.getElem_cons_zero, List.getElem_cons_succ]
                  refine wpAnyZ_takeC [3, 9, 10, 11, 12] (i := 2) (v := ?_) rfl (by kernel_rfl) (by kernel_rfl) (by kernel_rfl) (by kernel_rfl) (fun _ _ _ h => h) (Or.inl ⟨by rfl, ?_⟩) kz ?_
                  rotate_left
                  focus (intro w hSw; (try dsimp only at hSw); go_simp; try with_reducible rfl)
                  try simp only [Act.put, List.setIfInBounds_toArray, List.set_cons_zero, List.set_cons_succ, List.getElem_toArray, List.getElem_cons_zero, List.getElem_cons_succ]
                  refine wpAnyZ_takeC [6, 7, 8, 9, 10, 11, 12] (i := 4) (v := ?_) rfl (by kernel_rfl) (by kernel_rfl) (by kernel_rfl) (by kernel_rfl) (fun _ _ _ h => h) (Or.inl ⟨by rfl, ?_⟩) kz ?_
                  rotate_left
                  focus (intro w hSw; (try dsimp only at hSw); go_simp; try with_reducible rfl)
                  try simp only [Act.put, List.setIfInBounds_toArray, List.set_cons_zero, List.set_cons_succ, List.getElem_toArray, List.getElem_cons_zero, List.getElem_cons_succ]
                  refine wpAnyZ_takeC [6, 7, 8, 9, 10, 11, 12] (i := 5) (v := ?_) rfl (by kernel_rfl) (by kernel_rfl) (by kernel_rfl) (by kernel_rfl) (fun _ _ _ h => h) (Or.inl ⟨by rfl, ?_⟩) kz ?_
                  rotate_left
                  focus (intro w hSw; (try dsimp only at hSw); go_simp; try with_reducible rfl)
                  try simp only [Act.put, List.setIfInBounds_toArray, List.set_cons_zero, List.set_cons_succ, List.getElem_toArray, List.getElem_cons_zero, List.getElem_cons_succ]
                  refine wpAnyZ_takeC [7, 8, 9, 10, 11, 12] (i := 6) (v := ?_) rfl (by kernel_rfl) (by kernel_rfl) (by kernel_rfl) (by kernel_rfl) (fun _ _ _ h => h) (Or.inl ⟨by rfl, ?_⟩) kz ?_
                  rotate_left
                  focus (intro w hSw; (try dsimp only at hSw); go_simp; try with_reducible rfl)
                  try simp only [Act.put, List.setIfInBounds_toArray, List.set_cons_zero, List.set_cons_succ, List.getElem_toArray, List.getElem_cons_zero, List.getElem_cons_succ]
                  refine wpAnyZ_takeC [8, 9, 10, 11, 12] (i := 7) (v := ?_) rfl (by kernel_rfl) (by kernel_rfl) (by kernel_rfl) (by kernel_rfl) (fun _ _ _ h => h) (Or.inl ⟨by rfl, ?_⟩) kz ?_
                  rotate_left
                  focus (intro w hSw; (try dsimp only at hSw); go_simp; try with_reducible rfl)
                  try simp only [Act.put, List.setIfInBounds_toArray, List.set_cons_zero, List.set_cons_succ, List.getElem_toArray, List.getElem_cons_zero, List.getElem_cons_succ]
                  refine wpAnyZ_ready (rs := [1,8]) (by kernel_rfl) (by simp) (AllReadyZ.cons rfl (fun K hK => ?_) (AllReadyZ.cons rfl (fun K hK => ?_) AllReadyZ.nil))
                  · go_simp
                    refine hK.out _ _ (Or.inr (cell_keep (Mid.alloc wz (.cells #[] 3)) hg8z (Or.inr (Nat.zero_le _)) kz)) (fun _ => ?_)
                    clear hK K
                    try simp only [Act.put, List.setIfInBounds_toArray, List.set_cons_zero, List.set_cons_succ, List.getElem_toArray, List.getElem_cons_zero, List.getElem_cons_succ]
                    have hal1 := Mid.alloc wz (.cells #[] 3)
                    have e1 := owns_empty wz 3 1
                    have hr1 := hrv2.mid hal1 (Or.inl (Nat.zero_le _))
                    have k1 := cell_keep hal1 hg8z (Or.inr (Nat.zero_le _)) kz
                    have hs1 : (wz.alloc (.cells #[] 3)).heap.size = wz.heap.size + 1 := by simp
                    generalize wz.alloc (.cells #[] 3) = wa at hal1 e1 hr1 k1 hs1 ⊢
                    have hg8a : g8 < wa.heap.size := by omega
                    have hbs3 : wz.heap.size ≤ wa.heap.size := by omega
                    have hlt1 : wz.heap.size < wa.heap.size := by omega
                    clear hs1
                    refine wpAnyZ_ready (rs := [3,8]) (by kernel_rfl) (by simp) (AllReadyZ.cons rfl (fun K hK => ?_) (AllReadyZ.cons rfl (fun K hK => ?_) AllReadyZ.nil))
                    · (refine step_cat (by rfl) (.tmp 106) (.tmp 107) 37 (by rfl) wz.heap.size 3 (.int .i64 0) 1 8 undSI infoI rfl (by decide) _ 0 _ (by rfl) e1 (some ⟨bw, ow, none⟩) k cw _ (ints xw) (by rfl) hr1.rs hla (one_of_ints _) hmx3 hby3 hbs3 ?_; intro v3 w3 ho3 hgr3 hat3; obtain ⟨A3x, c3x, rfl, -, -⟩ := owns_shape ho3)
                      refine hK.out _ _ (Or.inr (cell_keep (Mid.of_grownRow e1 hgr3) hg8a (Or.inl hg8z) k1)) (fun _ => ?_)
                      clear hK K
                      try simp only [Act.put, List.setIfInBounds_toArray, List.set_cons_zero, List.set_cons_succ, List.getElem_toArray, List.getElem_cons_zero, List.getElem_cons_succ]
                      try rw [Nat.zero_add, List.nil_append] at ho3
                      try rw [Nat.zero_add]
                      have k3 := cell_keep (Mid.of_grownRow e1 hgr3) hg8a (Or.inl hg8z) k1
                      have hm3 := hal1.transNew (Mid.of_grownRow e1 hgr3) (Or.inl (Nat.le_refl _))
                      have hg83 : g8 < w3.heap.size := Nat.lt_of_lt_of_le hg8z hm3.size
                      clear hal1 e1 hr1 k1 hgr3 hat3 hbs3
                      refine wpAnyZ_ready (rs := [8]) (by kernel_rfl) (by simp) (AllReadyZ.cons rfl (fun K hK => ?_) AllReadyZ.nil)
                      go_simp
                      refine hK.out _ _ (Or.inr (cell_keep (Mid.alloc w3 (.cells #[.int .i64 x] 3)) hg83 (Or.inr (Nat.zero_le _)) k3)) (fun _ => ?_)
                      clear hK K
                      try simp only [Act.put, List.setIfInBounds_toArray, List.set_cons_zero, List.set_cons_succ, List.getElem_toArray, List.getElem_cons_zero, List.getElem_cons_succ]
                      have hal8 := Mid.alloc w3 (.cells #[.int .i64 x] 3)
                      have kc := cell_keep hal8 hg83 (Or.inr (Nat.zero_le _)) k3
                      have hmc := hm3.trans hal8
                      have hrow := ho3.alloc (.cells #[.int .i64 x] 3)
                      have hone := rs_one (w := w3.alloc (.cells #[.int .i64 x] 3)) (p := w3.heap.size) (v := .int .i64 x) (World.cell?_alloc_at _ _ _ _ rfl)
                      generalize w3.alloc (.cells #[.int .i64 x] 3) = wc at hal8 kc hmc hrow hone ⊢
                      clear hal8 ho3 hm3 k3
                      have hg8c : g8 < wc.heap.size := Nat.lt_of_lt_of_le hg8z hmc.size
                      refine wpAnyZ_ready (rs := [9]) (by kernel_rfl) (by simp) (AllReadyZ.cons rfl (fun K hK => ?_) AllReadyZ.nil)
                      (refine step_cat (by rfl) (.tmp 108) (.tmp 113) 37 (by rfl) wz.heap.size 3 (.int .i64 0) 1 8 undSI infoI rfl (by decide) (.slice A3x k c3x) k _ (by rfl) hrow (some ⟨w3.heap.size, 0, none⟩) 1 1 _ [.int .i64 x] (by rfl) hone rfl hone1 hmx hby hmc.size ?_; intro v9 w9 ho9 hgr9 hat9; obtain ⟨A9x, c9x, rfl, -, -⟩ := owns_shape ho9)
                      refine hK.out _ _ (Or.inr (cell_keep (Mid.of_grownRow hrow hgr9) hg8c (Or.inl hg8z) kc)) (fun _ => ?_)
                      clear hK K
                      try simp only [Act.put, List.setIfInBounds_toArray, List.set_cons_zero, List.set_cons_succ, List.getElem_toArray, List.getElem_cons_zero, List.getElem_cons_succ]
                      have k9 := cell_keep (Mid.of_grownRow hrow hgr9) hg8c (Or.inl hg8z) kc
                      have hm9 := hmc.transNew (Mid.of_grownRow hrow hgr9) (Or.inl (Nat.le_refl _))
                      have hg89 : g8 < w9.heap.size := Nat.lt_of_lt_of_le hg8z hm9.size
                      have hrow9 : w9.ownsRow wz.heap.size 3 1 (Row.v ⟨A9x, c9x, xw ++ [x]⟩) (xw ++ [x]).length (ints (xw ++ [x])) := pushE (by rw [ints_append]; exact ho9) HWK.out
                      have hu9 : Row.v ⟨A9x, c9x, xw ++ [x]⟩ = .slice A9x (k + 1) c9x := by simp only [Row.v, List.length_append, HWK.out, List.length_singleton]
                      clear ho9 hgr9 hat9 hrow hone hmc kc
                      refine wpAnyZ_ready (rs := [10]) (by kernel_rfl) (by simp) (AllReadyZ.cons rfl (fun K hK => ?_) AllReadyZ.nil)
                      go_simp
                      refine hK.out _ _ (Or.inr (cell_keep (Mid.alloc w9 (.cells #[.slice A9x (k + 1) c9x] 37)) hg89 (Or.inr (Nat.zero_le _)) k9)) (fun _ => ?_)
                      clear hK K
                      try simp only [Act.put, List.setIfInBounds_toArray, List.set_cons_zero, List.set_cons_succ, List.getElem_toArray, List.getElem_cons_zero, List.getElem_cons_succ]
                      refine wpAnyZ_ready (rs := [11]) (by kernel_rfl) (by simp) (AllReadyZ.cons rfl (fun K hK => ?_) AllReadyZ.nil)
                      (refine step_push1 (by rfl) (.tmp 105) (.tmp 115) (by rfl) (by rfl) HN2.out hm9 ⟨A9x, c9x, xw ++ [x]⟩ (.slice A9x (k + 1) c9x) hu9 hrow9 (by rfl) hnn hlwz ?_; intro A11 c11 w11 hN11 hgr11 hat11)
                      refine hK.out _ _ (Or.inl (by simp)) (fun _ => ?_)
                      clear hK K
                      try simp only [Act.put, List.setIfInBounds_toArray, List.set_cons_zero, List.set_cons_succ, List.getElem_toArray, List.getElem_cons_zero, List.getElem_cons_succ]
                      have hO9 := HO2.out.mid hm9
                      have hL9 := HL2.out.mid hm9
                      have hN9 := HN2.out.mid hm9
                      have hLT9 := owns_mid HLT2.out hm9 (Or.inl (Nat.zero_le _))
                      have B9 := B2.mid hm9 (Or.inr (Nat.zero_le _))
                      have hm9' := hm2.trans hm9
                      have hlo : ∀ g, obS A5 nn1 c5 = some g → w.heap.size + 1 ≤ g := fun g hg => (hN9.lt hg).1
                      have HO11 := Lib.hid (hO9.other hN9 HAPO.out hgr11)
                      have HL11 := Lib.hid (hL9.other hN9 HAPL.out hgr11)
                      have HN11 := Lib.hid hN11
                      have HLT11 := Lib.hid (hLT9.kept hgr11 (owns_ne hLT9 hN9.out (by decide)))
                      have B11 := B9.grown hgr11 (by intro h0; have := hlo _ h0; omega)
                      have hm11 := hm9'.grownNew hgr11 (fun g hg => by have := hlo g hg; omega)
                      have HAPO11 := Lib.hid ((HAPO.out.symm.push hat11 hO9).symm)
                      have HAPL11 := Lib.hid ((HAPL.out.symm.push hat11 hL9).symm)
                      have HDN11 := Lib.hid (HDN4.out ⟨A9x, c9x, xw ++ [x]⟩ rfl)
                      clear hN11 hgr11 hat11 hO9 hL9 hN9 hLT9 B9 hm9' hlo HO2 HL2 HN2 HLT2 B2 hm2 hm9 hmz HAPO HAPL HDN4 hrow9 hu9 hrv2 kz k9
                      refine wpAnyZ_ready (rs := [12]) (by kernel_rfl) (by simp) (AllReadyZ.cons rfl (fun K hK => ?_) AllReadyZ.nil)
                      go_simp
                      refine hK.out _ _ (Or.inl (by simp)) (fun _ => ?_)
                      clear hK K
                      try simp only [Act.put, List.setIfInBounds_toArray, List.set_cons_zero, List.set_cons_succ, List.getElem_toArray, List.getElem_cons_zero, List.getElem_cons_succ]
                      refine wpAnyZ_done (by kernel_rfl) ?_ _
                      go_wp2_with fail
                      go_roundw
                      case rel => exact ⟨j + 1, nn1 + 1, _, A11, c11, by go_num, rfl, Lib.hid (by omega), HDN11, HO11, HL11, HN11, HAPO11, HAPL11, HLT11, B11, hm11⟩
                      case measure => simp [intOf]; omega
                    · go_simp
                      refine hK.out _ _ (Or.inr (cell_keep (Mid.alloc wa (.cells #[.int .i64 x] 3)) hg8a (Or.inr (Nat.zero_le _)) k1)) (fun _ => ?_)
                      clear hK K
                      try simp only [Act.put, List.setIfInBounds_toArray, List.set_cons_zero, List.set_cons_succ, List.getElem_toArray, List.getElem_cons_zero, List.getElem_cons_succ]
                      have hal8 := Mid.alloc wa (.cells #[.int .i64 x] 3)
                      have k8 := cell_keep hal8 hg8a (Or.inr (Nat.zero_le _)) k1
                      have hm8 := hal1.trans hal8
                      replace e1 := e1.alloc (.cells #[.int .i64 x] 3)
                      replace hr1 := hr1.mid hal8 (Or.inl (Nat.zero_le _))
                      have c8 : (wa.alloc (.cells #[.int .i64 x] 3)).cell? ⟨wa.heap.size, 0, none⟩ = some (.int .i64 x) := World.cell?_alloc_at _ _ _ _ rfl
                      have hs8 : (wa.alloc (.cells #[.int .i64 x] 3)).heap.size = wa.heap.size + 1 := by simp
                      generalize wa.alloc (.cells #[.int .i64 x] 3) = w8 at hal8 k8 hm8 e1 hr1 c8 hs8 ⊢
                      have hg88 : g8 < w8.heap.size := by omega
                      replace hbs3 : wz.heap.size ≤ w8.heap.size := by omega
                      have hlt8 : wa.heap.size < w8.heap.size := by omega
                      clear k1 hal1 hal8 hs8
                      refine wpAnyZ_ready (rs := [3]) (by kernel_rfl) (by simp) (AllReadyZ.cons rfl (fun K hK => ?_) AllReadyZ.nil)
                      (refine step_cat (by rfl) (.tmp 106) (.tmp 107) 37 (by rfl) wz.heap.size 3 (.int .i64 0) 1 8 undSI infoI rfl (by decide) _ 0 _ (by rfl) e1 (some ⟨bw, ow, none⟩) k cw _ (ints xw) (by rfl) hr1.rs hla (one_of_ints _) hmx3 hby3 hbs3 ?_; intro v3 w3 ho3 hgr3 hat3; obtain ⟨A3x, c3x, rfl, -, -⟩ := owns_shape ho3)
                      refine hK.out _ _ (Or.inr (cell_keep (Mid.of_grownRow e1 hgr3) hg88 (Or.inl hg8z) k8)) (fun _ => ?_)
                      clear hK K
                      try simp only [Act.put, List.setIfInBounds_toArray, List.set_cons_zero, List.set_cons_succ, List.getElem_toArray, List.getElem_cons_zero, List.getElem_cons_succ]
                      try rw [Nat.zero_add, List.nil_append] at ho3
                      try rw [Nat.zero_add]
                      have kc := cell_keep (Mid.of_grownRow e1 hgr3) hg88 (Or.inl hg8z) k8
                      have hmc := hm8.transNew (Mid.of_grownRow e1 hgr3) (Or.inl (Nat.le_refl _))
                      have hrow := ho3
                      have hone := rs_one (cell_grown hgr3 (show wa.heap.size < w8.heap.size by omega) (own_ne (by omega)) c8)
                      generalize w3 = wc at kc hmc hrow hone ⊢
                      clear hm8 k8 e1 hr1 c8 hgr3 hat3 ho3
                      have hg8c : g8 < wc.heap.size := Nat.lt_of_lt_of_le hg8z hmc.size
                      refine wpAnyZ_ready (rs := [9]) (by kernel_rfl) (by simp) (AllReadyZ.cons rfl (fun K hK => ?_) AllReadyZ.nil)
                      (refine step_cat (by rfl) (.tmp 108) (.tmp 113) 37 (by rfl) wz.heap.size 3 (.int .i64 0) 1 8 undSI infoI rfl (by decide) (.slice A3x k c3x) k _ (by rfl) hrow (some ⟨wa.heap.size, 0, none⟩) 1 1 _ [.int .i64 x] (by rfl) hone rfl hone1 hmx hby hmc.size ?_; intro v9 w9 ho9 hgr9 hat9; obtain ⟨A9x, c9x, rfl, -, -⟩ := owns_shape ho9)
                      refine hK.out _ _ (Or.inr (cell_keep (Mid.of_grownRow hrow hgr9) hg8c (Or.inl hg8z) kc)) (fun _ => ?_)
                      clear hK K
                      try simp only [Act.put, List.setIfInBounds_toArray, List.set_cons_zero, List.set_cons_succ, List.getElem_toArray, List.getElem_cons_zero, List.getElem_cons_succ]
                      have k9 := cell_keep (Mid.of_grownRow hrow hgr9) hg8c (Or.inl hg8z) kc
                      have hm9 := hmc.transNew (Mid.of_grownRow hrow hgr9) (Or.inl (Nat.le_refl _))
                      have hg89 : g8 < w9.heap.size := Nat.lt_of_lt_of_le hg8z hm9.size
                      have hrow9 : w9.ownsRow wz.heap.size 3 1 (Row.v ⟨A9x, c9x, xw ++ [x]⟩) (xw ++ [x]).length (ints (xw ++ [x])) := pushE (by rw [ints_append]; exact ho9) HWK.out
                      have hu9 : Row.v ⟨A9x, c9x, xw ++ [x]⟩ = .slice A9x (k + 1) c9x := by simp only [Row.v, List.length_append, HWK.out, List.length_singleton]
                      clear ho9 hgr9 hat9 hrow hone hmc kc
                      refine wpAnyZ_ready (rs := [10]) (by kernel_rfl) (by simp) (AllReadyZ.cons rfl (fun K hK => ?_) AllReadyZ.nil)
                      go_simp
                      refine hK.out _ _ (Or.inr (cell_keep (Mid.alloc w9 (.cells #[.slice A9x (k + 1) c9x] 37)) hg89 (Or.inr (Nat.zero_le _)) k9)) (fun _ => ?_)
                      clear hK K
                      try simp only [Act.put, List.setIfInBounds_toArray, List.set_cons_zero, List.set_cons_succ, List.getElem_toArray, List.getElem_cons_zero, List.getElem_cons_succ]
                      refine wpAnyZ_ready (rs := [11]) (by kernel_rfl) (by simp) (AllReadyZ.cons rfl (fun K hK => ?_) AllReadyZ.nil)
                      (refine step_push1 (by rfl) (.tmp 105) (.tmp 115) (by rfl) (by rfl) HN2.out hm9 ⟨A9x, c9x, xw ++ [x]⟩ (.slice A9x (k + 1) c9x) hu9 hrow9 (by rfl) hnn hlwz ?_; intro A11 c11 w11 hN11 hgr11 hat11)
                      refine hK.out _ _ (Or.inl (by simp)) (fun _ => ?_)
                      clear hK K
                      try simp only [Act.put, List.setIfInBounds_toArray, List.set_cons_zero, List.set_cons_succ, List.getElem_toArray, List.getElem_cons_zero, List.getElem_cons_succ]
                      have hO9 := HO2.out.mid hm9
                      have hL9 := HL2.out.mid hm9
                      have hN9 := HN2.out.mid hm9
                      have hLT9 := owns_mid HLT2.out hm9 (Or.inl (Nat.zero_le _))
                      have B9 := B2.mid hm9 (Or.inr (Nat.zero_le _))
                      have hm9' := hm2.trans hm9
                      have hlo : ∀ g, obS A5 nn1 c5 = some g → w.heap.size + 1 ≤ g := fun g hg => (hN9.lt hg).1
                      have HO11 := Lib.hid (hO9.other hN9 HAPO.out hgr11)
                      have HL11 := Lib.hid (hL9.other hN9 HAPL.out hgr11)
                      have HN11 := Lib.hid hN11
                      have HLT11 := Lib.hid (hLT9.kept hgr11 (owns_ne hLT9 hN9.out (by decide)))
                      have B11 := B9.grown hgr11 (by intro h0; have := hlo _ h0; omega)
                      have hm11 := hm9'.grownNew hgr11 (fun g hg => by have := hlo g hg; omega)
                      have HAPO11 := Lib.hid ((HAPO.out.symm.push hat11 hO9).symm)
                      have HAPL11 := Lib.hid ((HAPL.out.symm.push hat11 hL9).symm)
                      have HDN11 := Lib.hid (HDN4.out ⟨A9x, c9x, xw ++ [x]⟩ rfl)
                      clear hN11 hgr11 hat11 hO9 hL9 hN9 hLT9 B9 hm9' hlo HO2 HL2 HN2 HLT2 B2 hm2 hm9 hmz HAPO HAPL HDN4 hrow9 hu9 hrv2 kz k9
                      refine wpAnyZ_ready (rs := [12]) (by kernel_rfl) (by simp) (AllReadyZ.cons rfl (fun K hK => ?_) AllReadyZ.nil)
                      go_simp
                      refine hK.out _ _ (Or.inl (by simp)) (fun _ => ?_)
                      clear hK K
                      try simp only [Act.put, List.setIfInBounds_toArray, List.set_cons_zero, List.set_cons_succ, List.getElem_toArray, List.getElem_cons_zero, List.getElem_cons_succ]
                      refine wpAnyZ_done (by kernel_rfl) ?_ _
                      go_wp2_with fail
                      go_roundw
                      case rel => exact ⟨j + 1, nn1 + 1, _, A11, c11, by go_num, rfl, Lib.hid (by omega), HDN11, HO11, HL11, HN11, HAPO11, HAPL11, HLT11, B11, hm11⟩
                      case measure => simp [intOf]; omega
                  · go_simp
                    refine hK.out _ _ (Or.inr (cell_keep (Mid.alloc wz (.cells #[.int .i64 x] 3)) hg8z (Or.inr (Nat.zero_le _)) kz)) (fun _ => ?_)
                    clear hK K
                    try simp only [Act.put, List.setIfInBounds_toArray, List.set_cons_zero, List.set_cons_succ, List.getElem_toArray, List.getElem_cons_zero, List.getElem_cons_succ]
                    have hal8 := Mid.alloc wz (.cells #[.int .i64 x] 3)
                    have k8 := cell_keep hal8 hg8z (Or.inr (Nat.zero_le _)) kz
                    have hr8 := hrv2.mid hal8 (Or.inl (Nat.zero_le _))
                    have c8 : (wz.alloc (.cells #[.int .i64 x] 3)).cell? ⟨wz.heap.size, 0, none⟩ = some (.int .i64 x) := World.cell?_alloc_at _ _ _ _ rfl
                    have hs8 : (wz.alloc (.cells #[.int .i64 x] 3)).heap.size = wz.heap.size + 1 := by simp
                    generalize wz.alloc (.cells #[.int .i64 x] 3) = w8 at hal8 k8 hr8 c8 hs8 ⊢
                    have hg88 : g8 < w8.heap.size := by omega
                    have hlt8 : wz.heap.size < w8.heap.size := by omega
                    clear hs8
                    refine wpAnyZ_ready (rs := [1]) (by kernel_rfl) (by simp) (AllReadyZ.cons rfl (fun K hK => ?_) AllReadyZ.nil)
                    go_simp
                    refine hK.out _ _ (Or.inr (cell_keep (Mid.alloc w8 (.cells #[] 3)) hg88 (Or.inr (Nat.zero_le _)) k8)) (fun _ => ?_)
                    clear hK K
                    try simp only [Act.put, List.setIfInBounds_toArray, List.set_cons_zero, List.set_cons_succ, List.getElem_toArray, List.getElem_cons_zero, List.getElem_cons_succ]
                    have hal1 := Mid.alloc w8 (.cells #[] 3)
                    have e1 := owns_empty w8 3 1
                    have hr1 := hr8.mid hal1 (Or.inl (Nat.zero_le _))
                    have c1 := cell_keep hal1 (show wz.heap.size < w8.heap.size by omega) (Or.inr (Nat.zero_le _)) c8
                    have k1 := cell_keep hal1 hg88 (Or.inr (Nat.zero_le _)) k8
                    have hm1' := hal8.trans hal1
                    have hs1 : (w8.alloc (.cells #[] 3)).heap.size = w8.heap.size + 1 := by simp
                    generalize w8.alloc (.cells #[] 3) = wa at hal1 e1 hr1 c1 k1 hm1' hs1 ⊢
                    have hg8a : g8 < wa.heap.size := by omega
                    have hbs3 : w8.heap.size ≤ wa.heap.size := by omega
                    have hlt1 : w8.heap.size < wa.heap.size := by omega
                    clear hal8 hal1 k8 hr8 c8 hs1
                    refine wpAnyZ_ready (rs := [3]) (by kernel_rfl) (by simp) (AllReadyZ.cons rfl (fun K hK => ?_) AllReadyZ.nil)
                    (refine step_cat (by rfl) (.tmp 106) (.tmp 107) 37 (by rfl) w8.heap.size 3 (.int .i64 0) 1 8 undSI infoI rfl (by decide) _ 0 _ (by rfl) e1 (some ⟨bw, ow, none⟩) k cw _ (ints xw) (by rfl) hr1.rs hla (one_of_ints _) hmx3 hby3 hbs3 ?_; intro v3 w3 ho3 hgr3 hat3; obtain ⟨A3x, c3x, rfl, -, -⟩ := owns_shape ho3)
                    refine hK.out _ _ (Or.inr (cell_keep (Mid.of_grownRow e1 hgr3) hg8a (Or.inl hg88) k1)) (fun _ => ?_)
                    clear hK K
                    try simp only [Act.put, List.setIfInBounds_toArray, List.set_cons_zero, List.set_cons_succ, List.getElem_toArray, List.getElem_cons_zero, List.getElem_cons_succ]
                    try rw [Nat.zero_add, List.nil_append] at ho3
                    try rw [Nat.zero_add]
                    have kc := cell_keep (Mid.of_grownRow e1 hgr3) hg8a (Or.inl hg88) k1
                    have hmc := hm1'.transNew (Mid.of_grownRow e1 hgr3) (Or.inl (by omega))
                    have hrow := owns_base ho3 (show wz.heap.size ≤ w8.heap.size by omega)
                    have hone := rs_one (cell_grown hgr3 (show wz.heap.size < wa.heap.size by omega) (own_ne (by omega)) c1)
                    generalize w3 = wc at kc hmc hrow hone ⊢
                    clear e1 hr1 c1 k1 hm1' hgr3 hat3 ho3
                    have hg8c : g8 < wc.heap.size := Nat.lt_of_lt_of_le hg8z hmc.size
                    refine wpAnyZ_ready (rs := [9]) (by kernel_rfl) (by simp) (AllReadyZ.cons rfl (fun K hK => ?_) AllReadyZ.nil)
                    (refine step_cat (by rfl) (.tmp 108) (.tmp 113) 37 (by rfl) wz.heap.size 3 (.int .i64 0) 1 8 undSI infoI rfl (by decide) (.slice A3x k c3x) k _ (by rfl) hrow (some ⟨wz.heap.size, 0, none⟩) 1 1 _ [.int .i64 x] (by rfl) hone rfl hone1 hmx hby hmc.size ?_; intro v9 w9 ho9 hgr9 hat9; obtain ⟨A9x, c9x, rfl, -, -⟩ := owns_shape ho9)
                    refine hK.out _ _ (Or.inr (cell_keep (Mid.of_grownRow hrow hgr9) hg8c (Or.inl hg8z) kc)) (fun _ => ?_)
                    clear hK K
                    try simp only [Act.put, List.setIfInBounds_toArray, List.set_cons_zero, List.set_cons_succ, List.getElem_toArray, List.getElem_cons_zero, List.getElem_cons_succ]
                    have k9 := cell_keep (Mid.of_grownRow hrow hgr9) hg8c (Or.inl hg8z) kc
                    have hm9 := hmc.transNew (Mid.of_grownRow hrow hgr9) (Or.inl (Nat.le_refl _))
                    have hg89 : g8 < w9.heap.size := Nat.lt_of_lt_of_le hg8z hm9.size
                    have hrow9 : w9.ownsRow wz.heap.size 3 1 (Row.v ⟨A9x, c9x, xw ++ [x]⟩) (xw ++ [x]).length (ints (xw ++ [x])) := pushE (by rw [ints_append]; exact ho9) HWK.out
                    have hu9 : Row.v ⟨A9x, c9x, xw ++ [x]⟩ = .slice A9x (k + 1) c9x := by simp only [Row.v, List.length_append, HWK.out, List.length_singleton]
                    clear ho9 hgr9 hat9 hrow hone hmc kc
                    refine wpAnyZ_ready (rs := [10]) (by kernel_rfl) (by simp) (AllReadyZ.cons rfl (fun K hK => ?_) AllReadyZ.nil)
                    go_simp
                    refine hK.out _ _ (Or.inr (cell_keep (Mid.alloc w9 (.cells #[.slice A9x (k + 1) c9x] 37)) hg89 (Or.inr (Nat.zero_le _)) k9)) (fun _ => ?_)
                    clear hK K
                    try simp only [Act.put, List.setIfInBounds_toArray, List.set_cons_zero, List.set_cons_succ, List.getElem_toArray, List.getElem_cons_zero, List.getElem_cons_succ]
                    refine wpAnyZ_ready (rs := [11]) (by kernel_rfl) (by simp) (AllReadyZ.cons rfl (fun K hK => ?_) AllReadyZ.nil)
                    (refine step_push1 (by rfl) (.tmp 105) (.tmp 115) (by rfl) (by rfl) HN2.out hm9 ⟨A9x, c9x, xw ++ [x]⟩ (.slice A9x (k + 1) c9x) hu9 hrow9 (by rfl) hnn hlwz ?_; intro A11 c11 w11 hN11 hgr11 hat11)
                    refine hK.out _ _ (Or.inl (by simp)) (fun _ => ?_)
                    clear hK K
                    try simp only [Act.put, List.setIfInBounds_toArray, List.set_cons_zero, List.set_cons_succ, List.getElem_toArray, List.getElem_cons_zero, List.getElem_cons_succ]
                    have hO9 := HO2.out.mid hm9
                    have hL9 := HL2.out.mid hm9
                    have hN9 := HN2.out.mid hm9
                    have hLT9 := owns_mid HLT2.out hm9 (Or.inl (Nat.zero_le _))
                    have B9 := B2.mid hm9 (Or.inr (Nat.zero_le _))
                    have hm9' := hm2.trans hm9
                    have hlo : ∀ g, obS A5 nn1 c5 = some g → w.heap.size + 1 ≤ g := fun g hg => (hN9.lt hg).1
                    have HO11 := Lib.hid (hO9.other hN9 HAPO.out hgr11)
                    have HL11 := Lib.hid (hL9.other hN9 HAPL.out hgr11)
                    have HN11 := Lib.hid hN11
                    have HLT11 := Lib.hid (hLT9.kept hgr11 (owns_ne hLT9 hN9.out (by decide)))
                    have B11 := B9.grown hgr11 (by intro h0; have := hlo _ h0; omega)
                    have hm11 := hm9'.grownNew hgr11 (fun g hg => by have := hlo g hg; omega)
                    have HAPO11 := Lib.hid ((HAPO.out.symm.push hat11 hO9).symm)
                    have HAPL11 := Lib.hid ((HAPL.out.symm.push hat11 hL9).symm)
                    have HDN11 := Lib.hid (HDN4.out ⟨A9x, c9x, xw ++ [x]⟩ rfl)
                    clear hN11 hgr11 hat11 hO9 hL9 hN9 hLT9 B9 hm9' hlo HO2 HL2 HN2 HLT2 B2 hm2 hm9 hmz HAPO HAPL HDN4 hrow9 hu9 hrv2 kz k9
                    refine wpAnyZ_ready (rs := [12]) (by kernel_rfl) (by simp) (AllReadyZ.cons rfl (fun K hK => ?_) AllReadyZ.nil)
                    go_simp
                    refine hK.out _ _ (Or.inl (by simp)) (fun _ => ?_)
                    clear hK K
                    try simp only [Act.put, List.setIfInBounds_toArray, List.set_cons_zero, List.set_cons_succ, List.getElem_toArray, List.getElem_cons_zero, List.getElem_cons_succ]
                    refine wpAnyZ_done (by kernel_rfl) ?_ _
                    go_wp2_with fail
                    go_roundw
                    case rel => exact ⟨j + 1, nn1 + 1, _, A11, c11, by go_num, rfl, Lib.hid (by omega), HDN11, HO11, HL11, HN11, HAPO11, HAPL11, HLT11, B11, hm11⟩
                    case measure => simp [intOf]; omega
            · obtain rfl : LL = j := by omega
              have htk : (lets r).take LL = lets r := List.take_of_length_le (by rw [HLe.out]; exact Nat.le_refl _)
              have HDN2 : Hid (rowsD rowsN1 = layStep okB (lets r) ((lay okB (lets r) k).take (i + 1))) := Lib.hid (by rw [HLS.out, HDN.out, htk])
              have hw2 : IntKind.i64.wrap ((i : Int) + 1) = (i : Int) + 1 := IntWalk.i64_in _ (by omega)
              clear htk HDN
              go_wp2_with fail
              go_roundw
              case rel =>
                exact ⟨i + 1, no1 + 1, nn1, _, rowsN1, A9, A5, c9, c5, by go_num, rfl, rfl, Lib.hid (by omega), HDO9, HDN2, HO, HL, HN, HAP9, HAPO, HAPL, HLT, B0, hm⟩
              case measure => simp [intOf]; omega
        · obtain rfl : nl = i := by omega
          have htk : (lay okB (lets r) k).take nl = lay okB (lets r) k := List.take_of_length_le (by rw [← HDL.out, rowsD_len, HL.out.len]; exact Nat.le_refl _)
          have HDO2 : Hid (rowsD rowsO1 = pre okB (lets r) (k + 1)) := Lib.hid (by rw [HDO.out, htk]; rfl)
          have HDN2 : Hid (rowsD rowsN = lay okB (lets r) (k + 1)) := Lib.hid (by rw [HDN.out, htk]; rfl)
          have hw2 : IntKind.i64.wrap ((k : Int) + 1) = (k : Int) + 1 := IntWalk.i64_in _ (by omega)
          clear htk HDO HDN
          go_wp2_with fail
          go_roundw
          case rel => exact ⟨k + 1, no1, nn, rowsO1, rowsN, A3, A4, c3, c4, by go_num, rfl, rfl, Lib.hid (by omega), HDO2, HDN2, HO, HN, HAPO, HLT, B0, hm⟩
          case measure => simp [intOf]; omega
    · obtain rfl : k = n + 1 := by omega
      have hk1 : ¬ (((n + 1 : Nat) : Int) ≤ (n : Int)) := by omega
      have d1 : decide (((n + 1 : Nat) : Int) ≤ (n : Int)) = false := by simp; omega
      have hln : (pre okB (lets r) (n + 1)).length = no := by rw [← HDO.out, rowsD_len]; exact HO.out.len
      have HQ : Hid (OSS wo w.heap.size wo.heap.size 37 3 A1 c1 (pre okB (lets r) (n + 1))) := Lib.hid ((HO.out.base (Nat.le_succ _)).oss HDO.out)
      subst hln
      clear HDO HDL HO HL HAP HLT HLB HPB HFO
      go_wp2_with fail
      go_ret
      exact ⟨_, _, rfl, HQ.out, hm⟩
end Go.Proofs.Ytimmnnncgnnkgaa

/- FixedWords, the reference: its walk. -/
namespace Go.Proofs.Ytimmnnncgnnkgaa
set_option linter.unusedVariables false
set_option linter.unusedSimpArgs false
open Go.RowKit

set_option maxHeartbeats 6400000 in
set_option maxRecDepth 100000 in
theorem spec_FixedWords (rk : Int) (A : Option Addr) (d : List (List Int)) (c : Nat) (most : Int) (w : World) (lo hi : Nat) (hr : RSS w lo hi A d) (hok : OkSS d) (hl : d.length + sumL d ≤ 1048576) (res : List (List Int)) (hres : FixIs rk d most res) :
    Calls Try.prog 33 #[.agg #[.int .i64 rk, .slice A d.length c], .int .i64 most] w fun e w' => ∃ A1 c1, e = .returned (.slice A1 res.length c1) ∧ OSS w' w.heap.size w'.heap.size 37 3 A1 c1 res ∧ Mid 0 0 w w' := by
  have HR := Lib.hid hres
  have HOK := Lib.hid hok
  clear hres hok
  obtain ⟨b1, hb1⟩ := bool_of (IsMor rk d)
  have H1 := Lib.hid hb1
  have hIM := fun W h => spec_IsMorphism rk A d c W lo hi h HOK.out hl b1 hb1
  have HIM := Lib.hid hIM
  clear hb1 hIM
  have hm0 : Mid 0 0 w ((w.alloc (.cells #[.int .i64 rk, .slice A d.length c] 53)).alloc (.cells #[] 37)) := (Mid.alloc _ _).trans (Mid.alloc _ _)
  have B0 := (Box.new w #[.int .i64 rk, .slice A d.length c] 53).mid (Mid.alloc _ (.cells #[] 37)) (Or.inr (Nat.zero_le _))
  have O0 := owns_empty (w.alloc (.cells #[.int .i64 rk, .slice A d.length c] 53)) 37 1
  simp only [World.size_alloc] at O0
  have p0 := B0.cell 0 rfl
  have p1 := B0.cell 1 rfl
  go_enter Try.func33, Try.ntmps33
  go_wp2_with fail
  generalize hw1 : ((w.alloc (.cells #[.int .i64 rk, .slice A d.length c] 53)).alloc (.cells #[] 37)) = w1 at hm0 B0 O0 p0 p1 ⊢
  have hs1 : w.heap.size + 1 < w1.heap.size := (O0.lt _ rfl).2
  clear hw1
  rcases (Decidable.em (1 ≤ rk ∧ rk ≤ 3)).symm with hrk | hrk
  · obtain rfl : b1 = false := by
      cases b1 with
      | false => rfl
      | true => have h := H1.out.1 rfl; exact absurd ⟨h.1, h.2.1⟩ hrk
    with_reducible refine (spec_WholeGroupN rk _ hrk).mono ?_
    rintro en w2 ⟨rfl, hm2⟩
    clear p0 p1
    replace B0 := B0.mid hm2 (Or.inr (Nat.zero_le _))
    replace O0 := owns_mid O0 hm2 (Or.inl (Nat.zero_le _))
    replace hm0 := hm0.trans hm2
    have hs2 := hm2.size
    have hal := Mid.alloc w2 (.cells #[.int .i64 0, .int .i64 0, .slice none 0 0] 28)
    replace B0 := B0.mid hal (Or.inr (Nat.zero_le _))
    replace O0 := owns_mid O0 hal (Or.inl (Nat.zero_le _))
    replace hm0 := hm0.trans hal
    have p0 := B0.cell 0 rfl
    have p1 := B0.cell 1 rfl
    have hno : ¬ FixOk rk d most := fun h => hrk ⟨h.1.1, h.1.2.1⟩
    go_wp2_with fail
    generalize w2.alloc (.cells #[.int .i64 0, .int .i64 0, .slice none 0 0] 28) = w3 at B0 O0 hm0 p0 p1 hal ⊢
    have hs3 := hal.size
    with_reducible refine (HIM.out _ (hr.mid hm0 (Or.inl (Nat.zero_le _)))).mono ?_
    rintro en w4 ⟨rfl, hm4⟩
    clear p0 p1
    replace B0 := B0.mid hm4 (Or.inr (Nat.zero_le _))
    replace O0 := owns_mid O0 hm4 (Or.inl (Nat.zero_le _))
    replace hm0 := hm0.trans hm4
    have hs4 := hm4.size
    obtain rfl := HR.out.no hno
    go_wp2_with fail
    go_ret
    exact ⟨_, _, rfl, OSS.mk' (owns_base O0 (by omega)) OwnRows.nil rfl, hm0⟩
  obtain ⟨rn, rfl⟩ : ∃ n : Nat, rk = n := ⟨rk.toNat, by omega⟩
  have hrn1 : 1 ≤ rn := by omega
  have hrn3 : rn ≤ 3 := by omega
  with_reducible refine (spec_WholeGroup rn _ hrn1 hrn3).mono ?_
  rintro en w2 ⟨AG, cG, rfl, hG, hm2⟩
  clear p0 p1
  replace B0 := B0.mid hm2 (Or.inr (Nat.zero_le _))
  replace O0 := owns_mid O0 hm2 (Or.inl (Nat.zero_le _))
  replace hm0 := hm0.trans hm2
  have hs2 := hm2.size
  have hal := Mid.alloc w2 (.cells #[.int .i64 rn, .int .i64 1, .slice AG rn cG] 28)
  have BG := Box.new w2 #[.int .i64 rn, .int .i64 1, .slice AG rn cG] 28
  replace B0 := B0.mid hal (Or.inr (Nat.zero_le _))
  replace O0 := owns_mid O0 hal (Or.inl (Nat.zero_le _))
  replace hG := hG.mid hal (Or.inl (Nat.zero_le _))
  replace hm0 := hm0.trans hal
  have p0 := B0.cell 0 rfl
  have p1 := B0.cell 1 rfl
  go_wp2_with fail
  generalize w2.alloc (.cells #[.int .i64 rn, .int .i64 1, .slice AG rn cG] 28) = w3 at B0 BG O0 hG hm0 p0 p1 hal ⊢
  have hs3 := hal.size
  with_reducible refine (HIM.out _ (hr.mid hm0 (Or.inl (Nat.zero_le _)))).mono ?_
  rintro en w4 ⟨rfl, hm4⟩
  clear p0 p1 hal hm2
  replace B0 := B0.mid hm4 (Or.inr (Nat.zero_le _))
  replace BG := BG.mid hm4 (Or.inr (Nat.zero_le _))
  replace O0 := owns_mid O0 hm4 (Or.inl (Nat.zero_le _))
  replace hG := hG.mid hm4 (Or.inl (Nat.zero_le _))
  replace hm0 := hm0.trans hm4
  have hs4 := hm4.size
  clear hm4
  cases b1 with
  | false =>
    have hno : ¬ FixOk rn d most := fun h => by have := H1.out.2 h.1; cases this
    obtain rfl := HR.out.no hno
    go_wp2_with fail
    go_ret
    exact ⟨_, _, rfl, OSS.mk' (owns_base O0 (by omega)) OwnRows.nil rfl, hm0⟩
  | true =>
  have F1 := Lib.hid (H1.out.1 rfl)
  clear H1 HIM
  rcases (Decidable.em (0 ≤ most ∧ most ≤ 4)).symm with hmo | hmo
  · have hib : inB most 0 4 = false := by unfold inB; simp; omega
    have hno : ¬ FixOk rn d most := fun h => hmo h.2
    go_wp2_with fail
    with_reducible refine (l1In_at hib _).mono ?_
    rintro en w5 ⟨rfl, rfl⟩
    obtain rfl := HR.out.no hno
    go_wp2_with fail
    go_ret
    exact ⟨_, _, rfl, OSS.mk' (owns_base O0 (by omega)) OwnRows.nil rfl, hm0⟩
  have hib : inB most 0 4 = true := by unfold inB; simp; omega
  go_wp2_with fail
  with_reducible refine (l1In_at hib _).mono ?_
  rintro en w5 ⟨rfl, rfl⟩
  have hre := HR.out.yes ⟨F1.out, hmo.1, hmo.2⟩
  obtain ⟨mn, rfl⟩ : ∃ n : Nat, most = n := ⟨most.toNat, by omega⟩
  rw [Int.toNat_natCast, Int.toNat_natCast] at hre
  have hmn : mn ≤ 4 := by omega
  have q0 := BG.cell 0 rfl
  have q1 := BG.cell 1 rfl
  have q2 := BG.cell 2 rfl
  have hbg : w2.heap.size < w4.heap.size := BG.1
  clear hib HR
  go_wp2_with fail
  with_reducible refine (spec_LoopWords rn mn AG cG _ _ _ hG hrn1 hrn3 hmn).mono ?_
  rintro en w5 ⟨A5, c5, rfl, ho5, hm5⟩
  have hLL : (lets rn).length ≤ 6 := by rw [lets_len]; omega
  have hpb := pre_b (f := okB) hLL (n := mn + 1) (by omega)
  have hpo : ∀ v ∈ pre okB (lets rn) (mn + 1), v.length ≤ 4 ∧ ∀ x ∈ v, -3 ≤ x ∧ x ≤ 3 := fun v hv => by
    have h1 := pre_ok hv
    refine ⟨by omega, fun x hx => ?_⟩
    have h2 := mem_lets.1 (h1.2 x hx)
    omega
  obtain ⟨R, hR⟩ : ∃ R, pre okB (lets rn) (mn + 1) = R := ⟨_, rfl⟩
  rw [hR] at hre hpb hpo ho5 ⊢
  have HRE : Sec (res = fixW d R) := ⟨hre⟩
  have HPO := Lib.hid hpo
  have hs5 := hm5.size
  have hO3 : ∀ g, Value.ownBlock (.slice (some (⟨w.heap.size + 1, 0, none⟩ : Addr)) 0 0) = some g → g < w4.heap.size ∨ w5.heap.size ≤ g := fun g hg => Or.inl (O0.lt g hg).2
  clear q0 q1 q2 hG BG
  replace B0 := B0.mid hm5 (Or.inr (Nat.zero_le _))
  replace O0 := owns_mid O0 hm5 (Or.inl (Nat.zero_le _))
  replace hm0 := hm0.trans hm5
  obtain ⟨-, rowsW, hRD, hOV, hOwn⟩ := ho5
  have HRV := Lib.hid hOV.rv
  have HS0 : Hid (SubR w5 (w.heap.size + 1) w4.heap.size (some ⟨w.heap.size + 1, 0, none⟩) 0 0 [] rowsW) := Lib.hid ⟨O0, hOwn, List.nil_sublist _⟩
  have HD0 := Lib.hid hO3
  have HRD := Lib.hid hRD
  obtain ⟨L, hL⟩ : ∃ L, R.length = L := ⟨_, rfl⟩
  have HL := Lib.hid hL
  have hLb : L ≤ 40000 := by omega
  have hbL : w.heap.size + 1 ≤ w4.heap.size := by omega
  have HRL : Hid (rowsW.length = L) := Lib.hid (by rw [← hL, ← hRD, rowsD_len])
  rw [hL]
  have HT0 : Hid (rowsD ([] : List Row) = fixW d (R.take 0)) := Lib.hid rfl
  have HSB0 : Hid (List.Sublist ([] : List Row) (rowsW.take 0)) := Lib.hid (List.nil_sublist _)
  generalize (some (⟨w.heap.size + 1, 0, none⟩ : Addr)) = AO at HS0 HD0 ⊢
  generalize w4.heap.size = Lq at HRV HS0 HD0 hs5 hbL
  generalize w5.heap.size = Hq at HRV HD0 hs5
  clear hre hpo hpb hR hOV hOwn hRD hO3 hL O0 hm5 hLL hbg
  go_wp2_with fail
  go_loopw [5, 9] (fun ov iv wr => ∃ (k n1 : Nat) (rows1 : List Row) (A1 : Option Addr) (c1 : Nat), iv = .int .i64 k ∧ ov = .slice A1 n1 c1 ∧ Hid (k ≤ L) ∧ Hid (rowsD rows1 = fixW d (R.take k)) ∧ Hid (List.Sublist rows1 (rowsW.take k)) ∧ Hid (SubR wr (w.heap.size + 1) Lq A1 n1 c1 rows1 rowsW) ∧ Hid (RV wr Lq Hq A5 (rowsV rowsW)) ∧ Hid (∀ g, Value.ownBlock (.slice A1 n1 c1) = some g → g < Lq ∨ Hq ≤ g) ∧ Box wr w.heap.size [.int .i64 rn, .slice A d.length c] ∧ Mid 0 0 w wr) (fun _ iv _ => L - (intOf iv).toNat)
  case atStart => exact ⟨0, 0, [], AO, 0, rfl, rfl, Lib.hid (Nat.zero_le _), HT0, HSB0, HS0, HRV, HD0, B0, hm0⟩
  case round =>
    clear HT0 HSB0 HS0 HRV HD0 B0 hm0
    obtain ⟨wo, hwo⟩ : ∃ wo, wo = wr := ⟨_, rfl⟩
    subst hwo
    obtain ⟨k, n1, rows1, A1, c1, rfl, rfl, HK, HT, HSB, HS, HRV, HD, B0, hm⟩ := hrel
    have hkL := HK.out
    have hn1 : n1 ≤ 40000 := by have h1 := HS.out.len; have h2 := HSB.out.length_le; rw [List.length_take] at h2; omega
    by_cases hlt : k < L
    · obtain ⟨rr, hrr⟩ := get_of_lt rowsW (show k < rowsW.length by rw [HRL.out]; exact hlt)
      have hxs : R[k]? = some rr.xs := by rw [← HRD.out]; simp [rowsD, hrr]
      have hmd := Mid.drew1 wo
      have HSd := Lib.hid (HS.out.mid hmd)
      have HRVd := Lib.hid (HRV.out.mid hmd (Or.inl (Nat.zero_le _)))
      have Bd := B0.mid hmd (Or.inr (Nat.zero_le _))
      have hmm := hm.trans hmd
      obtain ⟨g5, o5, hA5, hg5l, hg5, hcs⟩ := HRVd.out.2 (by intro h0; have := congrArg List.length h0; rw [rowsV_len, HRL.out] at this; simp at this; omega)
      subst hA5
      have hce := hcs k rr.v (by simp [rowsV, hrr])
      have hmem := List.mem_of_getElem? hrr
      have hov := HSd.out.own.1 rr hmem
      have hrv := OV.rv hov
      have hcap := owns_cap hov.2.1
      obtain ⟨hwl, hwb⟩ := HPO.out rr.xs (List.mem_of_getElem? hxs)
      have HXS := Lib.hid hxs
      have HRR := Lib.hid hrr
      obtain ⟨Aw, cw, xw⟩ := rr
      simp only [Row.v] at hce hrv hcap hwl hwb
      simp only at HXS
      have hk0 : (0 : Int) ≤ (k : Int) := by omega
      have hk1 : (k : Int) < (L : Int) := by omega
      have hg5s : g5 < (World.drew wo).heap.size := Nat.lt_of_lt_of_le hg5 HRVd.out.1
      have p1 := Bd.cell 1 rfl
      have hoki : OkI xw := fun x hx => by have := hwb x hx; omega
      have hEx := spec_ExpandBy A d c Aw xw cw (World.drew wo) lo hi (hr.mid hmm (Or.inl (Nat.zero_le _))) hrv.rsS (fun xs hx => (F1.out.2.2.2 xs hx).2.2.1) HOK.out.2 hoki (by omega) (by omega)
      have hbwd : w.heap.size < (World.drew wo).heap.size := Bd.1
      clear hrr hxs hcs hmem hov HS HRV B0 hm
      go_wp2_with fail
      refine wp_region_Z (S := (fun w' => w'.cell? ⟨w.heap.size, 1, none⟩ = some (.slice A d.length c) ∧ w'.cell? ⟨g5, o5 + k, none⟩ = some (.slice Aw xw.length cw))) [11] (by kernel_rfl) ⟨p1, hce⟩ ?_
      generalize World.drew wo = wz at HSd HRVd Bd hmm hce hrv hg5s p1 hEx hmd hbwd ⊢
      have hS : wz.cell? ⟨w.heap.size, 1, none⟩ = some (.slice A d.length c) ∧ wz.cell? ⟨g5, o5 + k, none⟩ = some (.slice Aw xw.length cw) := ⟨p1, hce⟩
      refine wpAnyZ_takeC [1, 6, 11] (i := 0) (v := ?_) rfl (by kernel_rfl) (by kernel_rfl) (by kernel_rfl) (by kernel_rfl) (fun _ _ _ h => h) (Or.inl ⟨by rfl, ?_⟩) hS ?_
      rotate_left
      focus (intro w hSw; (try dsimp only at hSw); go_simp; try with_reducible rfl)
      try simp only [Act.put, List.setIfInBounds_toArray, List.set_cons_zero, List.set_cons_succ, List.getElem_toArray, List.getElem_cons_zero, List.getElem_cons_succ]
      refine wpAnyZ_takeC [6, 11] (i := 1) (v := ?_) rfl (by kernel_rfl) (by kernel_rfl) (by kernel_rfl) (by kernel_rfl) (fun _ _ _ h => h) (Or.inl ⟨by rfl, ?_⟩) hS ?_
      rotate_left
      focus (intro w hSw; (try dsimp only at hSw); go_simp; try with_reducible rfl)
      try simp only [Act.put, List.setIfInBounds_toArray, List.set_cons_zero, List.set_cons_succ, List.getElem_toArray, List.getElem_cons_zero, List.getElem_cons_succ]
      refine wpAnyZ_takeC [4, 5, 6, 11] (i := 2) (v := ?_) rfl (by kernel_rfl) (by kernel_rfl) (by kernel_rfl) (by kernel_rfl) (fun _ _ _ h => h) (Or.inl ⟨by rfl, ?_⟩) hS ?_
      rotate_left
      focus (intro w hSw; (try dsimp only at hSw); go_simp; try with_reducible rfl)
      try simp only [Act.put, List.setIfInBounds_toArray, List.set_cons_zero, List.set_cons_succ, List.getElem_toArray, List.getElem_cons_zero, List.getElem_cons_succ]
      refine wpAnyZ_takeC [4, 5, 6, 11] (i := 3) (v := ?_) rfl (by kernel_rfl) (by kernel_rfl) (by kernel_rfl) (by kernel_rfl) (fun _ _ _ h => h) (Or.inl ⟨by rfl, ?_⟩) hS ?_
      rotate_left
      focus (intro w hSw; (try dsimp only at hSw); go_simp; try with_reducible rfl)
      try simp only [Act.put, List.setIfInBounds_toArray, List.set_cons_zero, List.set_cons_succ, List.getElem_toArray, List.getElem_cons_zero, List.getElem_cons_succ]
      refine wpAnyZ_takeC [5, 6, 11] (i := 4) (v := ?_) rfl (by kernel_rfl) (by kernel_rfl) (by kernel_rfl) (by kernel_rfl) (fun _ _ _ h => h) (Or.inl ⟨by rfl, ?_⟩) hS ?_
      rotate_left
      focus (intro w hSw; (try dsimp only at hSw); go_simp; try with_reducible rfl)
      try simp only [Act.put, List.setIfInBounds_toArray, List.set_cons_zero, List.set_cons_succ, List.getElem_toArray, List.getElem_cons_zero, List.getElem_cons_succ]
      refine wpAnyZ_takeC [6, 11] (i := 5) (v := ?_) rfl (by kernel_rfl) (by kernel_rfl) (by kernel_rfl) (by kernel_rfl) (fun _ _ _ h => h) (Or.inl ⟨by rfl, ?_⟩) hS ?_
      rotate_left
      focus (intro w hSw; (try dsimp only at hSw); go_simp; try with_reducible rfl)
      try simp only [Act.put, List.setIfInBounds_toArray, List.set_cons_zero, List.set_cons_succ, List.getElem_toArray, List.getElem_cons_zero, List.getElem_cons_succ]
      refine wpAnyZ_takeC [9, 10, 11] (i := 7) (v := ?_) rfl (by kernel_rfl) (by kernel_rfl) (by kernel_rfl) (by kernel_rfl) (fun _ _ _ h => h) (Or.inl ⟨by rfl, ?_⟩) hS ?_
      rotate_left
      focus (intro w hSw; (try dsimp only at hSw); go_simp; try with_reducible rfl)
      try simp only [Act.put, List.setIfInBounds_toArray, List.set_cons_zero, List.set_cons_succ, List.getElem_toArray, List.getElem_cons_zero, List.getElem_cons_succ]
      refine wpAnyZ_takeC [9, 10, 11] (i := 8) (v := ?_) rfl (by kernel_rfl) (by kernel_rfl) (by kernel_rfl) (by kernel_rfl) (fun _ _ _ h => h) (Or.inl ⟨by rfl, ?_⟩) hS ?_
      rotate_left
      focus (intro w hSw; (try dsimp only at hSw); go_simp; try with_reducible rfl)
      try simp only [Act.put, List.setIfInBounds_toArray, List.set_cons_zero, List.set_cons_succ, List.getElem_toArray, List.getElem_cons_zero, List.getElem_cons_succ]
      refine wpAnyZ_takeC [10, 11] (i := 9) (v := ?_) rfl (by kernel_rfl) (by kernel_rfl) (by kernel_rfl) (by kernel_rfl) (fun _ _ _ h => h) (Or.inl ⟨by rfl, ?_⟩) hS ?_
      rotate_left
      focus (intro w hSw; (try dsimp only at hSw); go_simp; try with_reducible rfl)
      try simp only [Act.put, List.setIfInBounds_toArray, List.set_cons_zero, List.set_cons_succ, List.getElem_toArray, List.getElem_cons_zero, List.getElem_cons_succ]
      refine wpAnyZ_takeC [11] (i := 10) (v := ?_) rfl (by kernel_rfl) (by kernel_rfl) (by kernel_rfl) (by kernel_rfl) (fun _ _ _ h => h) (Or.inl ⟨by rfl, ?_⟩) hS ?_
      rotate_left
      focus (intro w hSw; (try dsimp only at hSw); go_simp; try with_reducible rfl)
      try simp only [Act.put, List.setIfInBounds_toArray, List.set_cons_zero, List.set_cons_succ, List.getElem_toArray, List.getElem_cons_zero, List.getElem_cons_succ]
      refine wpAnyZ_ready (rs := [6]) (by kernel_rfl) (by simp) (AllReadyZ.cons rfl (fun K hK => ?_) AllReadyZ.nil)
      (go_simp; (with_reducible refine hEx.mono ?_); intro en w6 hq6; obtain ⟨A6, c6, rfl, ho6, hm6⟩ := RetI.get hq6; go_wp2_with fail)
      refine hK.out _ _ (Or.inr ⟨(Bd.mid hm6 (Or.inr (Nat.zero_le _))).cell 1 rfl, cell_keep hm6 hg5s (Or.inr (Nat.zero_le _)) hce⟩) (fun _ => ?_)
      clear hK K
      try simp only [Act.put, List.setIfInBounds_toArray, List.set_cons_zero, List.set_cons_succ, List.getElem_toArray, List.getElem_cons_zero, List.getElem_cons_succ]
      have hel := expand_len (fun xs hx => (F1.out.2.2.2 xs hx).2.2.1) HOK.out.2 xw
      obtain ⟨b, hb⟩ := bool_of (expand d xw = xw)
      have HB := Lib.hid hb
      have hE := spec_EqualWords A6 Aw (expand d xw) xw c6 cw w6 _ _ (owns_rv ho6).rs (hrv.mid hm6 (Or.inl (Nat.zero_le _))).rs (by omega) b hb
      have hs6 := hm6.size
      have B6 := Bd.mid hm6 (Or.inr (Nat.zero_le _))
      have HS6 := Lib.hid (HSd.out.mid hm6)
      have HRV6 := Lib.hid (HRVd.out.mid hm6 (Or.inl (Nat.zero_le _)))
      have hm7 := hmm.trans hm6
      have hce6 := cell_keep hm6 hg5s (Or.inr (Nat.zero_le _)) hce
      have hg56 : g5 < w6.heap.size := Nat.lt_of_lt_of_le hg5s hs6
      clear hb hm6 hmm HSd HRVd Bd hrv ho6 hS p1 hce hEx hmd hq6
      refine wpAnyZ_ready (rs := [11]) (by kernel_rfl) (by simp) (AllReadyZ.cons rfl (fun K hK => ?_) AllReadyZ.nil)
      (go_simp; (with_reducible refine hE.mono ?_); rintro en w7 ⟨rfl, nd, rfl⟩; go_wp2_with fail)
      refine hK.out _ _ (Or.inl (by simp)) (fun _ => ?_)
      clear hK K
      try simp only [Act.put, List.setIfInBounds_toArray, List.set_cons_zero, List.set_cons_succ, List.getElem_toArray, List.getElem_cons_zero, List.getElem_cons_succ]
      have hmd := (Mid.refl 0 0 w6).drewN nd
      have B7 := B6.mid hmd (Or.inr (Nat.zero_le _))
      have HS7 := Lib.hid (HS6.out.mid hmd)
      have HRV7 := Lib.hid (HRV6.out.mid hmd (Or.inl (Nat.zero_le _)))
      replace hm7 := hm7.trans hmd
      have hs7 := hmd.size
      have hce7 := cell_keep hmd hg56 (Or.inr (Nat.zero_le _)) hce6
      generalize w6.drewN nd = w7 at B7 HS7 HRV7 hm7 hs7 hce7 hmd ⊢
      have hg57 : g5 < w7.heap.size := Nat.lt_of_lt_of_le hg56 hs7
      clear hE B6 HS6 HRV6 hmd hce6
      refine wpAnyZ_done (by kernel_rfl) ?_ _
      cases b with
      | true =>
        have hq := HB.out.1 rfl
        have htk : rowsW.take (k + 1) = rowsW.take k ++ [⟨Aw, cw, xw⟩] := by
          obtain ⟨h1, h2⟩ := List.getElem?_eq_some_iff.1 HRR.out
          rw [List.take_succ_eq_append_getElem h1, h2]
        have HTK := Lib.hid htk
        have HSB2 : Hid (List.Sublist (rows1 ++ [(⟨Aw, cw, xw⟩ : Row)]) (rowsW.take (k + 1))) := Lib.hid (by rw [htk]; exact HSB.out.append (List.Sublist.refl _))
        have HT2 : Hid (rowsD (rows1 ++ [(⟨Aw, cw, xw⟩ : Row)]) = fixW d (R.take (k + 1))) := Lib.hid (by
          rw [fixW_take HXS.out, if_pos hq, rowsD_append, HT.out]
          simp [rowsD])
        clear htk hq HTK HB
        go_wp2_with (at_builtin; refine MarkerX.to ?_)
        unfold MarkerX
        refine wpList_pushSub rfl _ _ rfl rfl HS7.out ⟨Aw, cw, xw⟩ (.slice Aw xw.length cw) rfl (HSB2.out.trans (List.take_sublist _ _)) rfl (by omega) (by omega) ?_
        intro A8 c8 w8 hS8 hgr hat
        have HS8 := Lib.hid hS8
        have HRV8 := Lib.hid (HRV7.out.grown hgr HD.out)
        have hlo : ∀ g, Value.ownBlock (.slice A1 n1 c1) = some g → w.heap.size + 1 ≤ g := fun g hg => (HS7.out.out.lt g hg).1
        have B8 := B7.grown hgr (by intro h0; have := hlo _ h0; omega)
        have hm8 := hm7.grownNew hgr (fun g hg => by have := hlo g hg; omega)
        have HD8 : Hid (∀ g, Value.ownBlock (.slice A8 (n1 + 1) c8) = some g → g < Lq ∨ Hq ≤ g) := Lib.hid (by
          intro g hg
          rcases hat with h0 | h0
          · exact HD.out g (h0 ▸ hg)
          · rw [h0] at hg
            injection hg with hg
            have := HRV7.out.1
            omega)
        clear hS8 hgr hat hlo HS7 HRV7 B7 hm7 HD HT HSB hce7
        go_wp2_with fail
        go_roundw
        case rel => exact ⟨k + 1, n1 + 1, _, A8, c8, by go_num, rfl, Lib.hid (by omega), HT2, HSB2, HS8, HRV8, HD8, B8, hm8⟩
        case measure => simp [intOf]; omega
      | false =>
        have hq : ¬ expand d xw = xw := fun h => by have := HB.out.2 h; cases this
        have htk : rowsW.take (k + 1) = rowsW.take k ++ [⟨Aw, cw, xw⟩] := by
          obtain ⟨h1, h2⟩ := List.getElem?_eq_some_iff.1 HRR.out
          rw [List.take_succ_eq_append_getElem h1, h2]
        have HSB2 : Hid (List.Sublist rows1 (rowsW.take (k + 1))) := Lib.hid (by rw [htk]; exact HSB.out.trans (List.sublist_append_left _ _))
        have HT2 : Hid (rowsD rows1 = fixW d (R.take (k + 1))) := Lib.hid (by
          rw [fixW_take HXS.out, if_neg hq, List.append_nil]
          exact HT.out)
        clear htk hq HB hce7
        go_wp2_with fail
        go_roundw
        case rel => exact ⟨k + 1, n1, _, A1, c1, by go_num, rfl, Lib.hid (by omega), HT2, HSB2, HS7, HRV7, HD, B7, hm7⟩
        case measure => simp [intOf]; omega
    · obtain rfl : L = k := by omega
      have hll : ((L : Int) < (L : Int)) = False := by simp
      have htk : R.take L = R := List.take_of_length_le (by rw [HL.out]; exact Nat.le_refl _)
      have hres : rowsD rows1 = res := by rw [HRE.1, ← htk]; exact HT.out
      have hln : res.length = n1 := by rw [← hres, rowsD_len]; exact HS.out.len
      have HQ : Hid (OSS wo w.heap.size wo.heap.size 37 3 A1 c1 res) := Lib.hid (OSS.mk' (owns_base HS.out.out (Nat.le_succ _)) ⟨fun r hr => (HS.out.own.1 r (HS.out.sub.subset hr)).wide (by omega) (Nat.le_refl _) (Nat.le_refl _), HS.out.own.2.sublist HS.out.sub⟩ hres)
      clear htk hres HS HT HRE
      subst hln
      go_wp2_with fail
      go_ret
      exact ⟨_, _, rfl, HQ.out, hm⟩
end Go.Proofs.Ytimmnnncgnnkgaa

/- The law on FixedWords: its data. -/
namespace Go.Proofs.Ytimmnnncgnnkgaa
set_option linter.unusedVariables false
open Go.RowKit
def FixedWordsIs (r0 : Int) (d0 : List (List Int)) (x1 : Int) (res0 : List (List Int)) : Prop := FixIs r0 d0 x1 res0
theorem FixedWordsIs_ex (r0 : Int) (d0 : List (List Int)) (x1 : Int) (b0 : (Lit.int .i64 r0).wf = true) (o0 : OkSS d0) (hl0 : d0.length + sumL d0 ≤ 1048576) : ∃ res0, FixedWordsIs r0 d0 x1 res0 := FixIs_ex r0 d0 x1
theorem FixedWordsIs_len {r0 : Int} {d0 : List (List Int)} {x1 : Int} {res0 : List (List Int)} (h : FixedWordsIs r0 d0 x1 res0) (b0 : (Lit.int .i64 r0).wf = true) (o0 : OkSS d0) (hl0 : d0.length + sumL d0 ≤ 1048576) : res0.length + sumL res0 ≤ 1048576 := FixIs.lens h
theorem sspec_FixedWords (r0 : Int) (A0 : Option Addr) (d0 : List (List Int)) (c0 : Nat) (x1 : Int) (w : World) (lo0 hi0 : Nat) (h0 : OSS w lo0 hi0 37 3 A0 c0 d0) (b0 : (Lit.int .i64 r0).wf = true) (o0 : OkSS d0) (hl0 : d0.length + sumL d0 ≤ 1048576) (o1 : (Lit.int .i64 x1).wf = true) (res0 : List (List Int)) (h : FixedWordsIs r0 d0 x1 res0) :
    Calls Try.prog 33 #[.agg #[.int .i64 r0, .slice A0 d0.length c0], .int .i64 x1] w fun e w' => ∃ (A : Option Addr) (c : Nat), e = .returned (.slice A res0.length c) ∧ OSS w' w.heap.size w'.heap.size 37 3 A c res0 ∧ Mid 0 0 w w' :=
  spec_FixedWords r0 A0 d0 c0 x1 w lo0 hi0 h0.rss o0 hl0 res0 h
theorem simpl_FixedWords (r0 : Int) (A0 : Option Addr) (d0 : List (List Int)) (c0 : Nat) (x1 : Int) (w : World) (lo0 hi0 : Nat) (h0 : OSS w lo0 hi0 37 3 A0 c0 d0) (b0 : (Lit.int .i64 r0).wf = true) (o0 : OkSS d0) (hl0 : d0.length + sumL d0 ≤ 1048576) (o1 : (Lit.int .i64 x1).wf = true) (res0 : List (List Int)) (h : FixedWordsIs r0 d0 x1 res0) :
    Calls Try.prog 34 #[.agg #[.int .i64 r0, .slice A0 d0.length c0], .int .i64 x1] w fun e w' => ∃ (A : Option Addr) (c : Nat), e = .returned (.slice A res0.length c) ∧ OSS w' w.heap.size w'.heap.size 37 3 A c res0 ∧ Mid 0 0 w w' :=
  impl_FixedWords r0 A0 d0 c0 x1 w lo0 hi0 h0.rss o0 hl0 res0 h
end Go.Proofs.Ytimmnnncgnnkgaa

/- Opening of a morphism that came in. -/
namespace Go.Proofs.Ytimmnnncgnnkgaa
set_option linter.unusedVariables false
open Go.ChangeShapes Go.WideShapes Go.ChangeAt Go.RowKit
open Go.Joins
theorem cellsSI : Try.prog.cellsOf 37 = 1 := by kernel_rfl
set_option maxRecDepth 100000 in
theorem open_morph {H : Type} {enc : TypeId × Value → H} {W : World} {r : Reach} {base : Nat} {v : Value} {d : DataW H} {ps : List MemPlace}
    (hok : Value.okWide Try.prog W r base 50 v) (h : DataW.Trod enc Try.prog W 0 (fun _ => true) true 50 v d ps) :
    ∃ m A xss c, v = .agg #[.int .i64 m, .slice A (List.length xss) c] ∧ (Lit.int .i64 m).wf = true ∧ RSS W 0 W.heap.size A xss ∧ OkSS xss := by
  obtain ⟨v0, v1, y0, y1, n, rfl, -, -, h0, h1⟩ := open_agg2 Try.underlying50 (by kernel_rfl) (by kernel_rfl) hok h
  have h0' : DataW.trod enc Try.prog W 0 (fun _ => true) true n 3 [v0] = some y0 := h0
  have h1' : DataW.trod enc Try.prog W 0 (fun _ => true) true n 48 [v1] = some y1 := h1
  clear h0 h1
  obtain ⟨m, hm, -, hw⟩ := DataW.trod_int undI h0'
  obtain ⟨A, l, c, hs⟩ := slice_form undSSI h1'
  simp at hm hs
  subst hm hs
  obtain ⟨xss, rfl, ha, hb⟩ := rss_of_cells undSSI undSI undI cellsSI cellsI h1'
  exact ⟨m, A, xss, c, rfl, hw, ha, hb⟩
end Go.Proofs.Ytimmnnncgnnkgaa
