/- Contracts and lemmas of this seat, many texts in one: see the words ahead of each. No condition beyond those typed in each lemma. -/
import Derived.Test.YtimmnnncgnnkgaaPk3
import Derived.Test.YtimmnnncgnnkgaaPk2
import Derived.Test.YtimmnnncgnnkgaaPk1
import Derived.Deep.Slices
import Derived.Deep.Fields
import Derived.ChangeSame

/- PullbackAt, the program. -/
namespace Go.Proofs.Ytimmnnncgnnkgaa
set_option linter.unusedVariables false
set_option linter.unusedSimpArgs false
open Go.RowKit

set_option maxHeartbeats 6400000 in
set_option maxRecDepth 100000 in
theorem impl_PullbackAt (r s : Int) (A : Option Addr) (es : List Ed) (c : Nat) (r' s' : Int) (B : Option Addr) (es' : List Ed) (d : Nat) (u v : Int) (w : World) (lo hi lo2 hi2 : Nat)
    (hr : RG w lo hi A es) (hr2 : RG w lo2 hi2 B es') (hl : es.length ≤ 1048576) (hl2 : es'.length ≤ 1048576) (hcl : es.length ≤ c) (hcl2 : es'.length ≤ d) (rr rs : Int) (res : List Ed) (b : Bool) (hres : PullIs r s es r' s' es' u v rr rs res b) :
    Calls Try.prog 12 #[graV r s A es.length c, graV r' s' B es'.length d, .int .i64 u, .int .i64 v] w fun e w' => ∃ A1 c1, e = .returned (.tuple #[graV rr rs A1 res.length c1, .bool b]) ∧ OG w' w.heap.size w'.heap.size A1 c1 res ∧ Mid 0 0 w w' := by
  have HR := Lib.hid hres
  clear hres
  obtain ⟨b1, hb1⟩ := bool_of (IsFol r s es)
  have H1 := Lib.hid hb1
  obtain ⟨b2, hb2⟩ := bool_of (IsFol r' s' es')
  have H2 := Lib.hid hb2
  clear hb1 hb2
  have hm0 : Mid 0 0 w (((w.alloc (.cells #[.int .i64 r, .int .i64 s, .slice A es.length c] 28)).alloc (.cells #[.int .i64 r', .int .i64 s', .slice B es'.length d] 28)).alloc (.cells #[.int .i64 0, .int .i64 0, .slice none 0 0] 28)) := ((Mid.alloc _ _).trans (Mid.alloc _ _)).trans (Mid.alloc _ _)
  have B0 := ((Box.new w #[.int .i64 r, .int .i64 s, .slice A es.length c] 28).mid (Mid.alloc _ (.cells #[.int .i64 r', .int .i64 s', .slice B es'.length d] 28)) (Or.inr (Nat.zero_le _))).mid (Mid.alloc _ (.cells #[.int .i64 0, .int .i64 0, .slice none 0 0] 28)) (Or.inr (Nat.zero_le _))
  have B1 := (Box.new (w.alloc (.cells #[.int .i64 r, .int .i64 s, .slice A es.length c] 28)) #[.int .i64 r', .int .i64 s', .slice B es'.length d] 28).mid (Mid.alloc _ (.cells #[.int .i64 0, .int .i64 0, .slice none 0 0] 28)) (Or.inr (Nat.zero_le _))
  have B2 := Box.new ((w.alloc (.cells #[.int .i64 r, .int .i64 s, .slice A es.length c] 28)).alloc (.cells #[.int .i64 r', .int .i64 s', .slice B es'.length d] 28)) #[.int .i64 0, .int .i64 0, .slice none 0 0] 28
  simp only [World.size_alloc] at B1 B2
  go_enter Try.func12, Try.ntmps12
  go_wp2_with fail
  generalize hw1 : ((w.alloc (.cells #[.int .i64 r, .int .i64 s, .slice A es.length c] 28)).alloc (.cells #[.int .i64 r', .int .i64 s', .slice B es'.length d] 28)).alloc (.cells #[.int .i64 0, .int .i64 0, .slice none 0 0] 28) = w1 at hm0 B0 B1 B2 ⊢
  have hs1 : w1.heap.size = w.heap.size + 1 + 1 + 1 := by rw [← hw1]; simp
  have HS := Lib.hid hs1
  clear hw1 hs1
  with_reducible refine (impl_IsFolded r s A es c _ _ _ (hr.mid hm0 (Or.inl (Nat.zero_le _))) hl hcl b1 H1.out).mono ?_
  rintro en w2 ⟨rfl, hm2⟩
  replace B0 := B0.mid hm2 (Or.inr (Nat.zero_le _))
  replace B1 := B1.mid hm2 (Or.inr (Nat.zero_le _))
  replace B2 := B2.mid hm2 (Or.inr (Nat.zero_le _))
  replace hm0 := hm0.trans hm2
  have p0 := B0.cell 0 rfl
  have p1 := B0.cell 1 rfl
  have p2 := B0.cell 2 rfl
  have k0 := B1.cell 0 rfl
  have k1 := B1.cell 1 rfl
  have k2 := B1.cell 2 rfl
  have z0 := B2.cell 0 rfl
  have z1 := B2.cell 1 rfl
  have z2 := B2.cell 2 rfl
  have zf := B2.2.2
  cases b1 with
  | false =>
    have hno : ¬ PullOk r s es r' s' es' u v := fun h => by
      have := H1.out.2 h.f1; cases this
    obtain ⟨rfl, rfl, rfl, rfl⟩ := HR.out.no hno
    go_wp2_with fail
    refine bodyPost_ret (v := .tuple #[.agg #[.int .i64 0, .int .i64 0, .slice none 0 0], .bool false]) (by simp [results, Try.results12, go_sem, z0, z1, z2, zf]) rfl ⟨none, 0, rfl, OG.nil, ?_⟩
    repeat (first | exact hm0 | refine Mid.storeNew ?_ (by simp; try omega) _)
  | true =>
  have F1 := Lib.hid (H1.out.1 rfl)
  clear H1
  go_wp2_with fail
  with_reducible refine (impl_IsFolded r' s' B es' d _ _ _ (hr2.mid hm0 (Or.inl (Nat.zero_le _))) hl2 hcl2 b2 H2.out).mono ?_
  rintro en w3 ⟨rfl, hm3⟩
  replace B0 := B0.mid hm3 (Or.inr (Nat.zero_le _))
  replace B1 := B1.mid hm3 (Or.inr (Nat.zero_le _))
  replace B2 := B2.mid hm3 (Or.inr (Nat.zero_le _))
  replace hm0 := hm0.trans hm3
  clear p0 p1 p2 k0 k1 k2 z0 z1 z2 zf
  have p0 := B0.cell 0 rfl
  have p1 := B0.cell 1 rfl
  have p2 := B0.cell 2 rfl
  have k0 := B1.cell 0 rfl
  have k1 := B1.cell 1 rfl
  have k2 := B1.cell 2 rfl
  have z0 := B2.cell 0 rfl
  have z1 := B2.cell 1 rfl
  have z2 := B2.cell 2 rfl
  have zf := B2.2.2
  cases b2 with
  | false =>
    have hno : ¬ PullOk r s es r' s' es' u v := fun h => by
      have := H2.out.2 h.f2; cases this
    obtain ⟨rfl, rfl, rfl, rfl⟩ := HR.out.no hno
    go_wp2_with fail
    refine bodyPost_ret (v := .tuple #[.agg #[.int .i64 0, .int .i64 0, .slice none 0 0], .bool false]) (by simp [results, Try.results12, go_sem, z0, z1, z2, zf]) rfl ⟨none, 0, rfl, OG.nil, ?_⟩
    repeat (first | exact hm0 | refine Mid.storeNew ?_ (by simp; try omega) _)
  | true =>
  have F2 := Lib.hid (H2.out.1 rfl)
  have g1 := F1.out.gr.rank
  have g2 := F1.out.gr.size
  have g3 := F2.out.gr.size
  have g4 := F1.out.gr.len
  have g5 := F2.out.gr.len
  clear H2
  have hws : wrap64 (s - 1) = s - 1 := by unfold wrap64; omega
  have hwt : wrap64 (s' - 1) = s' - 1 := by unfold wrap64; omega
  rcases (Decidable.em (r = r')).symm with hrk | hrk
  · have h1a : (r != r') = true := by simpa using hrk
    have hrk' := Lib.hid hrk
    have hno : ¬ PullOk r s es r' s' es' u v := fun h => by
      exact hrk'.out h.rk
    obtain ⟨rfl, rfl, rfl, rfl⟩ := HR.out.no hno
    go_wp2_with fail
    refine bodyPost_ret (v := .tuple #[.agg #[.int .i64 0, .int .i64 0, .slice none 0 0], .bool false]) (by simp [results, Try.results12, go_sem, z0, z1, z2, zf]) rfl ⟨none, 0, rfl, OG.nil, ?_⟩
    repeat (first | exact hm0 | refine Mid.storeNew ?_ (by simp; try omega) _)
  subst hrk
  rcases (Decidable.em (0 ≤ u ∧ u < s)).symm with hu | hu
  · have hib : inB u 0 (wrap64 (s - 1)) = false := by rw [hws]; unfold inB; simp; omega
    have HU := Lib.hid hu
    clear hu
    go_wp2_with fail
    with_reducible refine (impl_has r s A es.length c u _ false hib).mono ?_
    rintro en w4 ⟨rfl, hm4⟩
    replace B2 := B2.mid hm4 (Or.inr (Nat.zero_le _))
    replace hm0 := hm0.trans hm4
    clear p0 p1 p2 k0 k1 k2 z0 z1 z2 zf
    have z0 := B2.cell 0 rfl
    have z1 := B2.cell 1 rfl
    have z2 := B2.cell 2 rfl
    have zf := B2.2.2
    have hno : ¬ PullOk r s es r s' es' u v := fun h => by
      exact HU.out h.u0
    obtain ⟨rfl, rfl, rfl, rfl⟩ := HR.out.no hno
    go_wp2_with fail
    refine bodyPost_ret (v := .tuple #[.agg #[.int .i64 0, .int .i64 0, .slice none 0 0], .bool false]) (by simp [results, Try.results12, go_sem, z0, z1, z2, zf]) rfl ⟨none, 0, rfl, OG.nil, ?_⟩
    repeat (first | exact hm0 | refine Mid.storeNew ?_ (by simp; try omega) _)
  have hib : inB u 0 (wrap64 (s - 1)) = true := by rw [hws]; unfold inB; simp; omega
  go_wp2_with fail
  with_reducible refine (impl_has r s A es.length c u _ true hib).mono ?_
  rintro en w4 ⟨rfl, hm4⟩
  replace B0 := B0.mid hm4 (Or.inr (Nat.zero_le _))
  replace B1 := B1.mid hm4 (Or.inr (Nat.zero_le _))
  replace B2 := B2.mid hm4 (Or.inr (Nat.zero_le _))
  replace hm0 := hm0.trans hm4
  clear p0 p1 p2 k0 k1 k2 z0 z1 z2 zf
  have p0 := B0.cell 0 rfl
  have p1 := B0.cell 1 rfl
  have p2 := B0.cell 2 rfl
  have k0 := B1.cell 0 rfl
  have k1 := B1.cell 1 rfl
  have k2 := B1.cell 2 rfl
  rcases (Decidable.em (0 ≤ v ∧ v < s')).symm with hv | hv
  · have hib2 : inB v 0 (wrap64 (s' - 1)) = false := by rw [hwt]; unfold inB; simp; omega
    have HV := Lib.hid hv
    clear hv
    go_wp2_with fail
    with_reducible refine (impl_has r s' B es'.length d v _ false hib2).mono ?_
    rintro en w5 ⟨rfl, hm5⟩
    replace B2 := B2.mid hm5 (Or.inr (Nat.zero_le _))
    replace hm0 := hm0.trans hm5
    clear p0 p1 p2 k0 k1 k2
    have z0 := B2.cell 0 rfl
    have z1 := B2.cell 1 rfl
    have z2 := B2.cell 2 rfl
    have zf := B2.2.2
    have hno : ¬ PullOk r s es r s' es' u v := fun h => by
      exact HV.out h.v0
    obtain ⟨rfl, rfl, rfl, rfl⟩ := HR.out.no hno
    go_wp2_with fail
    refine bodyPost_ret (v := .tuple #[.agg #[.int .i64 0, .int .i64 0, .slice none 0 0], .bool false]) (by simp [results, Try.results12, go_sem, z0, z1, z2, zf]) rfl ⟨none, 0, rfl, OG.nil, ?_⟩
    repeat (first | exact hm0 | refine Mid.storeNew ?_ (by simp; try omega) _)
  have hib2 : inB v 0 (wrap64 (s' - 1)) = true := by rw [hwt]; unfold inB; simp; omega
  go_wp2_with fail
  with_reducible refine (impl_has r s' B es'.length d v _ true hib2).mono ?_
  rintro en w5 ⟨rfl, hm5⟩
  replace B0 := B0.mid hm5 (Or.inr (Nat.zero_le _))
  replace B1 := B1.mid hm5 (Or.inr (Nat.zero_le _))
  replace B2 := B2.mid hm5 (Or.inr (Nat.zero_le _))
  replace hm0 := hm0.trans hm5
  clear p0 p1 p2 k0 k1 k2
  clear hib hib2 hws hwt
  obtain ⟨rn, rfl⟩ : ∃ n : Nat, r = n := ⟨r.toNat, by omega⟩
  obtain ⟨sn, rfl⟩ : ∃ n : Nat, s = n := ⟨s.toNat, by omega⟩
  obtain ⟨tn, rfl⟩ : ∃ n : Nat, s' = n := ⟨s'.toNat, by omega⟩
  obtain ⟨un, rfl⟩ : ∃ n : Nat, u = n := ⟨u.toNat, by omega⟩
  obtain ⟨vn, rfl⟩ : ∃ n : Nat, v = n := ⟨v.toNat, by omega⟩
  have hun : un < sn := by omega
  have hvn : vn < tn := by omega
  have hp0 : PIn sn tn ((un : Int), (vn : Int)) := ⟨Int.natCast_nonneg _, Int.ofNat_lt.2 hun, Int.natCast_nonneg _, Int.ofNat_lt.2 hvn⟩
  have hpk0 := pair_ok (by omega) (by omega) hp0
  have HP0 := Lib.hid hp0
  have hs5 : w.heap.size + 3 ≤ w5.heap.size := by have h1 := HS.out; have h2 := hm2.size; have h3 := hm3.size; have h4 := hm4.size; have h5 := hm5.size; omega
  clear hm2 hm3 hm4 hm5 HS hp0
  have p0 := B0.cell 0 rfl
  have p1 := B0.cell 1 rfl
  have p2 := B0.cell 2 rfl
  have hmm := @run_makeMap Try.prog
  have hM0 := PMap.made w5
  have haM := Mid.alloc w5 (.map #[] 0)
  have hW0 : w.heap.size + 1 + 1 < w5.heap.size := B2.1
  go_wp2_with (first | (refine wpList_pmIns rfl _ _ _ rfl rfl hM0 ((un : Int), (vn : Int)) hpk0 (by simp) 0 rfl (by omega) rfl rfl ?_; intro w6 hM1 hm6; have hs6 := hm6.size; have B06 := (B0.mid haM (Or.inr (Nat.zero_le _))).mid hm6 (Or.inl (by omega)); have p06 := B06.cell 0 rfl; have hb6 := B06.1))
  have hord := owns_litP w6 ((un : Int), (vn : Int))
  have hsM := haM.size
  have hm7 := ((hm0.trans haM).transNew hm6 (Or.inl (by omega))).trans ((Mid.alloc w6 (.cells #[.int .i64 un, .int .i64 vn] 73)).trans (Mid.alloc _ (.cells #[.int .i64 rn, .int .i64 0, .slice none 0 0] 28)))
  have hmB := (Mid.alloc w6 (.cells #[.int .i64 un, .int .i64 vn] 73)).trans (Mid.alloc _ (.cells #[.int .i64 rn, .int .i64 0, .slice none 0 0] 28))
  have C0 := B06.mid hmB (Or.inr (Nat.zero_le _))
  have C1 := ((B1.mid haM (Or.inr (Nat.zero_le _))).mid hm6 (Or.inl (by omega))).mid hmB (Or.inr (Nat.zero_le _))
  have C2 := ((B2.mid haM (Or.inr (Nat.zero_le _))).mid hm6 (Or.inl (by omega))).mid hmB (Or.inr (Nat.zero_le _))
  have hGbox := Box.new (w6.alloc (.cells #[.int .i64 un, .int .i64 vn] 73)) #[.int .i64 rn, .int .i64 0, .slice none 0 0] 28
  have hPB0 : PB ((w6.alloc (.cells #[.int .i64 un, .int .i64 vn] 73)).alloc (.cells #[.int .i64 rn, .int .i64 0, .slice none 0 0] 28)) rn w6.heap.size w5.heap.size (w6.alloc (.cells #[.int .i64 un, .int .i64 vn] 73)).heap.size (some ⟨w6.heap.size, 0, none⟩) 1 1 [((un : Int), (vn : Int))] [((un : Int), (vn : Int))] none 0 0 [] :=
    ⟨owns_mid hord (Mid.alloc _ _) (Or.inl (Nat.zero_le _)), hM1.mid hmB (Or.inr (Nat.zero_le _)), ⟨rfl, .inl ⟨rfl, rfl⟩⟩, hGbox, by simp [Value.ownBlock], hM1.lt, by simp⟩
  generalize hw7 : (w6.alloc (.cells #[.int .i64 un, .int .i64 vn] 73)).alloc (.cells #[.int .i64 rn, .int .i64 0, .slice none 0 0] 28) = w7 at hm7 C0 C1 C2 hPB0 ⊢
  simp only [World.size_alloc] at hPB0
  generalize hG : w6.heap.size + 1 = G at hPB0 ⊢
  generalize hBo : w6.heap.size = Bo at hPB0 ⊢
  generalize hMM : w5.heap.size = M at hPB0 ⊢
  have hMw : w.heap.size + 3 ≤ M := by omega
  have hG1 : M < G := by omega
  clear hGbox hord hmB hw7 hG hBo hMM B06 p06 hb6 hs6 hsM haM hm6 hM1 hM0 hmm hW0 hs5 B0 B1 B2 hm0 p0 p1 p2
  obtain ⟨P, hPP⟩ : ∃ P, pairsOf es es' (lets rn) ((un : Int), (vn : Int)) = P := ⟨_, rfl⟩
  have HPP : Sec (pairsOf es es' (lets rn) ((un : Int), (vn : Int)) = P) := ⟨hPP⟩
  have hs0 : pbSt es es' (lets rn) ((un : Int), (vn : Int)) 0 = [((un : Int), (vn : Int))] := rfl
  have HGL : Hid (∀ e ∈ es, 1 ≤ e.l ∧ e.l ≤ 3) := Lib.hid (fun e he => by have := F1.out.gr.all e he; unfold InG at this; omega)
  have HGL2 : Hid (∀ e ∈ es', 1 ≤ e.l ∧ e.l ≤ 3) := Lib.hid (fun e he => by have := F2.out.gr.all e he; unfold InG at this; omega)
  clear hPP
  rw [← hs0] at hPB0
  clear hs0
  generalize (some (⟨Bo, 0, none⟩ : Addr)) = A0 at hPB0 ⊢
  go_loopw [11, 13] (fun ov iv wr => ∃ (i n1 : Nat) (A1 : Option Addr) (c1 n2 : Nat) (A2 : Option Addr) (c2 : Nat) (xs : List Ed), iv = .int .i64 i ∧ ov = .slice A1 n1 c1 ∧ Hid (i ≤ n1) ∧ Hid (xs = pbAll es es' rn P i) ∧ Hid (PB wr rn Bo M G A1 n1 c1 (pbSt es es' (lets rn) ((un : Int), (vn : Int)) i) (pbSt es es' (lets rn) ((un : Int), (vn : Int)) i) A2 n2 c2 xs) ∧ Box wr w.heap.size [.int .i64 rn, .int .i64 sn, .slice A es.length c] ∧ Box wr (w.heap.size + 1) [.int .i64 rn, .int .i64 tn, .slice B es'.length d] ∧ Box wr (w.heap.size + 1 + 1) [.int .i64 0, .int .i64 0, .slice none 0 0] ∧ Mid 0 0 w wr) (fun _ iv _ => 1601 - (intOf iv).toNat)
  case atStart => exact ⟨0, 1, A0, 1, 0, none, 0, [], rfl, rfl, Lib.hid (Nat.zero_le _), Lib.hid rfl, Lib.hid hPB0, C0, C1, C2, hm7⟩
  case round =>
    clear hPB0 C0 C1 C2 hm7
    obtain ⟨wo, hwo⟩ : ∃ wo, wo = wr := ⟨_, rfl⟩
    subst hwo
    obtain ⟨i, n1, A1, c1, n2, A2, c2, xs, rfl, rfl, HI, HX, HPB, B0, B1, B2, hm⟩ := hrel
    have hn1 := HPB.out.ln1
    have hn16 : n1 ≤ 1600 := by rw [← hn1]; exact pb_len (lets rn) F1.out.gr F2.out.gr HP0.out i
    have hin1 := HI.out
    by_cases hlt : i < n1
    · obtain ⟨p, hp⟩ := get_of_lt (pbSt es es' (lets rn) ((un : Int), (vn : Int)) i) (show i < _ by rw [hn1]; exact hlt)
      obtain ⟨a, b', rfl, ha, hb⟩ : ∃ a b' : Nat, p = ((a : Int), (b' : Int)) ∧ a < sn ∧ b' < tn := by
        obtain ⟨x, y⟩ := p
        obtain ⟨i1, i2, i3, i4⟩ := (pbSt_ok (lets rn) F1.out.gr.all F2.out.gr.all HP0.out i).rng _ (List.mem_of_getElem? hp)
        simp only at i1 i2 i3 i4
        exact ⟨x.toNat, y.toNat, Prod.ext (by simp only; omega) (by simp only; omega), by omega, by omega⟩
      have HPT := Lib.hid hp
      have hPi : P[i]? = some ((a : Int), (b' : Int)) := by rw [← HPP.out]; exact prefix_get (pbSt_prefix F1.out.gr F2.out.gr HP0.out (by rw [hn1]; exact hin1)) hp
      have HSU := Lib.hid (pbAll_succ (ea := es) (eb := es') (r := rn) hPi)
      have HSS := Lib.hid (pbSt_succ hp)
      have hi1 : (i : Int) < (n1 : Int) := by omega
      clear hp hPi hn1
      have p0 := B0.cell 0 rfl
      have p1 := B0.cell 1 rfl
      have p2 := B0.cell 2 rfl
      go_wp2_with fail
      with_reducible refine (impl_letters rn _ (by omega)).mono ?_
      rintro en w8 ⟨A8, c8, rfl, hL8, hm8⟩
      have hs8 := hm8.size
      have hd1 : ∀ g, Value.ownBlock (.slice A1 n1 c1) = some g → g < wo.heap.size ∨ w8.heap.size ≤ g := fun g hg => Or.inl (HPB.out.ord.lt g hg).2
      have hd2 : ∀ g, Value.ownBlock (.slice A2 n2 c2) = some g → g < wo.heap.size ∨ w8.heap.size ≤ g := fun g hg => Or.inl (HPB.out.edg.lt g hg).2
      have hGw : G < wo.heap.size := HPB.out.box.1
      have HPB8 := Lib.hid (HPB.out.mid hm8)
      replace B0 := B0.mid hm8 (Or.inr (Nat.zero_le _))
      replace B1 := B1.mid hm8 (Or.inr (Nat.zero_le _))
      replace B2 := B2.mid hm8 (Or.inr (Nat.zero_le _))
      replace hm := hm.trans hm8
      have HL8 := Lib.hid hL8
      have HD1 := Lib.hid hd1
      have HD2 := Lib.hid hd2
      obtain ⟨LL, hLL⟩ : ∃ n, (lets rn).length = n := ⟨_, rfl⟩
      have hL6 : LL ≤ 6 := by rw [← hLL, lets_len]; omega
      have HLL := Lib.hid hLL
      have hst0 : pbRow es es' ((lets rn).take 0) ((a : Int), (b' : Int)) (pbSt es es' (lets rn) ((un : Int), (vn : Int)) i) = pbSt es es' (lets rn) ((un : Int), (vn : Int)) i := rfl
      rw [← hst0] at HPB8
      rw [hLL]
      clear p0 p1 p2 hm8 hL8 hd1 hd2 hLL hst0 HPB
      generalize wo.heap.size = L8 at HL8 HD1 HD2 hGw hs8
      generalize w8.heap.size = H8 at HL8 HD1 HD2 hs8
      go_wp2_with fail
      go_loopw [11, 70] (fun ov jv wr => ∃ (j n1 : Nat) (A1 : Option Addr) (c1 n2 : Nat) (A2 : Option Addr) (c2 : Nat) (xs : List Ed), jv = .int .i64 j ∧ ov = .slice A1 n1 c1 ∧ j ≤ LL ∧ Hid (xs = pbAll es es' rn P i ++ pbEs es es' P i ((a : Int), (b' : Int)) ((j + 1) / 2)) ∧
          Hid (PB wr rn Bo M G A1 n1 c1 (pbRow es es' ((lets rn).take j) ((a : Int), (b' : Int)) (pbSt es es' (lets rn) ((un : Int), (vn : Int)) i)) (pbRow es es' ((lets rn).take j) ((a : Int), (b' : Int)) (pbSt es es' (lets rn) ((un : Int), (vn : Int)) i)) A2 n2 c2 xs) ∧
          Hid (RV wr L8 H8 A8 (ints (lets rn))) ∧ Hid (∀ g, Value.ownBlock (.slice A1 n1 c1) = some g → g < L8 ∨ H8 ≤ g) ∧ Hid (∀ g, Value.ownBlock (.slice A2 n2 c2) = some g → g < L8 ∨ H8 ≤ g) ∧ Box wr w.heap.size [.int .i64 rn, .int .i64 sn, .slice A es.length c] ∧ Box wr (w.heap.size + 1) [.int .i64 rn, .int .i64 tn, .slice B es'.length d] ∧ Box wr (w.heap.size + 1 + 1) [.int .i64 0, .int .i64 0, .slice none 0 0] ∧ Mid 0 0 w wr) (fun _ jv _ => LL - (intOf jv).toNat)
      case atStart => exact ⟨0, n1, A1, c1, n2, A2, c2, xs, rfl, rfl, Nat.zero_le _, Lib.hid (by rw [HX.out]; simp [pbEs]), HPB8, HL8, HD1, HD2, B0, B1, B2, hm⟩
      case round =>
        clear HPB8 HL8 HD1 HD2 B0 B1 B2 hm HX
        obtain ⟨wp, hwp⟩ : ∃ wp, wp = wr := ⟨_, rfl⟩
        subst hwp
        obtain ⟨j, n1, A1, c1, n2, A2, c2, xs, rfl, rfl, hj, HX, HPB, HL8, HD1, HD2, B0, B1, B2, hm⟩ := hrel
        obtain ⟨stj, hstj⟩ : ∃ st, pbRow es es' ((lets rn).take j) ((a : Int), (b' : Int)) (pbSt es es' (lets rn) ((un : Int), (vn : Int)) i) = st := ⟨_, rfl⟩
        have hokj : PbOk sn tn stj := by rw [← hstj]; exact PbOk.row F1.out.gr.all F2.out.gr.all _ _ (pbSt_ok (lets rn) F1.out.gr.all F2.out.gr.all HP0.out i)
        have hpj : stj[i]? = some ((a : Int), (b' : Int)) := by rw [← hstj]; exact prefix_get (pbRow_pre _ _ _ _ _) HPT.out
        rw [hstj] at HPB
        have hn1 := HPB.out.ln1
        have hn2 := HPB.out.ln2
        have hn1b : n1 ≤ 1600 := by
          rw [← hn1, ← hstj]
          have h1 := (pb_next_prefix F1.out.gr F2.out.gr HP0.out (j := j) HPT.out).length_le
          have h2 := pairs_len (lets rn) F1.out.gr F2.out.gr HP0.out
          omega
        have hn2b : n2 ≤ 4900 := by
          rw [← hn2, HX.out, List.length_append]
          have h2 := pbAll_len es es' rn P i
          have h3 := pbEs_len es es' P i ((a : Int), (b' : Int)) ((j + 1) / 2)
          have h4 : i * rn ≤ 1600 * 3 := Nat.mul_le_mul (by omega) (by omega)
          omega
        by_cases hlt2 : j < LL
        · obtain ⟨B4, o4, x, hA8, hB4, hx, hcx⟩ := HL8.out.at (k := j) (by rw [HLL.out]; exact hlt2)
          subst hA8
          have hxm := lets_le (List.mem_of_getElem? hx)
          have hnx := pbRow_take (ea := es) (eb := es') (p := ((a : Int), (b' : Int))) (st := pbSt es es' (lets rn) ((un : Int), (vn : Int)) i) hx
          rw [hstj] at hnx
          have hpar := lets_at hx
          have hpfx : pbRow es es' ((lets rn).take (j + 1)) ((a : Int), (b' : Int)) (pbSt es es' (lets rn) ((un : Int), (vn : Int)) i) <+: P := by rw [← HPP.out]; exact pb_next_prefix F1.out.gr F2.out.gr HP0.out HPT.out
          rw [hnx] at hpfx
          have HPFX := Lib.hid hpfx
          have HNX := Lib.hid hnx
          have HPAR := Lib.hid hpar
          have HOJ := Lib.hid hokj
          have hj0 : (0 : Int) ≤ (j : Int) := by omega
          have hj1 : (j : Int) < (LL : Int) := by omega
          have hi1' : (i : Int) < (n1 : Int) := by have h1 := (List.getElem?_eq_some_iff.1 hpj).1; omega
          have hi0 : (0 : Int) ≤ (i : Int) := by omega
          obtain ⟨g1, hA1, hg1, hg1s⟩ := owns_addr HPB.out.ord (show 0 < n1 by omega)
          subst hA1
          have hrvo := owns_rv HPB.out.ord
          have hc0 := hrvo.atI (prI_at hpj).1
          have hc1 := hrvo.atI (prI_at hpj).2
          rw [Nat.zero_add] at hc0 hc1
          have hB4s : B4 < wp.heap.size := Nat.lt_of_lt_of_le hB4 HL8.out.1
          have hGp : G < wp.heap.size := HPB.out.box.1
          clear hx hnx hpar hpfx hokj hpj hrvo
          have k0 := wg_cell B0.1 (B0.cell 0 rfl)
          have k1 := wg_cell B0.1 (B0.cell 1 rfl)
          have k2 := wg_cell B0.1 (B0.cell 2 rfl)
          have k3 := wg_cell hc0.1 hc0.2
          have k4 := wg_cell hc1.1 hc1.2
          have l0 := wg_cell B1.1 (B1.cell 0 rfl)
          have l1 := wg_cell B1.1 (B1.cell 1 rfl)
          have l2 := wg_cell B1.1 (B1.cell 2 rfl)
          have hA := fun m os => impl_NextVertex rn sn A es c a x (wg wp m os) lo hi (hr.mid (hm.trans (Mid.ofWg wp m os)) (Or.inl (Nat.zero_le _))) (by omega) HGL.out (by omega) (by omega)
          have hB := fun m os => impl_NextVertex rn tn B es' d b' x (wg wp m os) lo2 hi2 (hr2.mid (hm.trans (Mid.ofWg wp m os)) (Or.inl (Nat.zero_le _))) (by omega) HGL2.out (by omega) (by omega)
          go_wp2_with fail
          refine wp_region_quiet_wg (by kernel_rfl) (by kernel_rfl) ?_
          repeat
            (with_reducible refine wpQuiet_step (fun K hK => ?_))
            go_simp
            first
              | ((with_reducible refine hK _ ?_); clear hK K)
              | (rw [if_neg (by decide)]; (with_reducible refine hK _ ?_); clear hK K)
              | (apply Exists.intro; refine ⟨fun _ => ?_, hK _ ?_⟩; ((first | (go_at_call 50; with_reducible exact Calls.wg_of (hA _ _)) | (go_at_call 50; with_reducible exact Calls.wg_of (hB _ _)))); clear hK K)
          with_reducible refine wpQuiet_nil ?_
          intro _ hw'
          obtain ⟨⟨nq, osq⟩, hw''⟩ := hw'
          subst hw''
          have hwg := Mid.ofWg wp nq osq
          generalize wg wp nq osq = w9 at hwg ⊢
          replace HPB := Lib.hid (HPB.out.mid hwg)
          replace HL8 := Lib.hid (HL8.out.mid hwg (Or.inl (Nat.zero_le _)))
          replace B0 := B0.mid hwg (Or.inr (Nat.zero_le _))
          replace B1 := B1.mid hwg (Or.inr (Nat.zero_le _))
          replace B2 := B2.mid hwg (Or.inr (Nat.zero_le _))
          replace hm := hm.trans hwg
          have hG9 : G < w9.heap.size := HPB.out.box.1
          clear k0 k1 k2 k3 k4 l0 l1 l2 hA hB hc0 hc1 hcx hwg hB4 hB4s hg1 hg1s hGp
          by_cases ht1 : nextV es a x < 0
          · have d1 : decide (nextV es a x < 0) = true := by simpa using ht1
            have HNS := Lib.hid (pbStep_no1 (ea := es) (eb := es') (p := ((a : Int), (b' : Int))) (st := stj) ht1)
            have HPE : Hid (pbEs es es' P i ((a : Int), (b' : Int)) ((j + 1) / 2) = pbEs es es' P i ((a : Int), (b' : Int)) ((j + 1 + 1) / 2)) := Lib.hid (pbEs_half_no HPAR.out (Or.inl ht1)).symm
            clear ht1
            go_wp2_with fail
            go_roundw
            case rel => exact ⟨j + 1, n1, _, c1, n2, A2, c2, xs, by go_num, rfl, by omega, Lib.hid (by rw [HX.out, HPE.out]), by rw [HNX.out, HNS.out]; exact HPB, HL8, HD1, HD2, B0, B1, B2, hm⟩
            case measure => simp [intOf]; omega
          · have d1 : decide (nextV es a x < 0) = false := by simpa using ht1
            by_cases ht2 : nextV es' b' x < 0
            · have d2 : decide (nextV es' b' x < 0) = true := by simpa using ht2
              have HNS := Lib.hid (pbStep_no2 (ea := es) (eb := es') (p := ((a : Int), (b' : Int))) (st := stj) ht2)
              have HPE : Hid (pbEs es es' P i ((a : Int), (b' : Int)) ((j + 1) / 2) = pbEs es es' P i ((a : Int), (b' : Int)) ((j + 1 + 1) / 2)) := Lib.hid (pbEs_half_no HPAR.out (Or.inr ht2)).symm
              clear ht1 ht2
              go_wp2_with fail
              go_roundw
              case rel => exact ⟨j + 1, n1, _, c1, n2, A2, c2, xs, by go_num, rfl, by omega, Lib.hid (by rw [HX.out, HPE.out]), by rw [HNX.out, HNS.out]; exact HPB, HL8, HD1, HD2, B0, B1, B2, hm⟩
              case measure => simp [intOf]; omega
            · have d2 : decide (nextV es' b' x < 0) = false := by simpa using ht2
              have hpin2 := pbNext_in F1.out.gr.all F2.out.gr.all ((a : Int), (b' : Int)) ht1 ht2
              obtain ⟨x', y', hpe⟩ : ∃ x' y' : Nat, pbNext es es' ((a : Int), (b' : Int)) x = ((x' : Int), (y' : Int)) := by
                obtain ⟨i1, i2, i3, i4⟩ := hpin2
                exact ⟨(nextV es a x).toNat, (nextV es' b' x).toNat, Prod.ext (by simp only [pbNext] at i1 ⊢; omega) (by simp only [pbNext] at i3 ⊢; omega)⟩
              have hpok : PairOk ((x' : Int), (y' : Int)) := pair_ok (sa := sn) (sb := tn) (by omega) (by omega) (by rw [← hpe]; exact hpin2)
              have htx : nextV es a x = (x' : Int) := congrArg Prod.fst hpe
              have hty : nextV es' b' x = (y' : Int) := congrArg Prod.snd hpe
              have HT1 := Lib.hid ht1
              have HT2 := Lib.hid ht2
              have HPN := Lib.hid hpe
              simp only [htx, hty] at d1 d2 ⊢
              clear ht1 ht2 htx hty hpe hpin2
              by_cases hmem : ((x' : Int), (y' : Int)) ∈ stj
              · obtain ⟨kI, hkI⟩ : ∃ n : Nat, stj.idxOf ((x' : Int), (y' : Int)) = n := ⟨_, rfl⟩
                have HNS := Lib.hid (pbStep_no3 (ea := es) (eb := es') (p := ((a : Int), (b' : Int))) (st := stj) (x := x) (by rw [HPN.out]; exact hmem))
                have HKI : Hid (P.idxOf (pbNext es es' ((a : Int), (b' : Int)) x) = kI) := Lib.hid (by
                  rw [HPN.out, ← hkI]
                  have h1 := HPFX.out
                  rw [HNS.out] at h1
                  exact idx_prefix hmem h1)
                rcases HPAR.out with ⟨hev, hxv⟩ | ⟨hod, hxv⟩
                · have d3 : decide (0 < x) = true := by simp; omega
                  have HPE : Hid (pbEs es es' P i ((a : Int), (b' : Int)) ((j + 1) / 2) ++ [⟨i, x, kI⟩] = pbEs es es' P i ((a : Int), (b' : Int)) ((j + 1 + 1) / 2)) := Lib.hid (pbEs_half_yes hev hxv HT1.out HT2.out HKI.out).symm
                  clear hev hxv
                  go_wp2_with (first | (at_lookup; refine wpList_pmLookT rfl _ _ rfl rfl HPB.out.map ((x' : Int), (y' : Int)) hpok hmem kI hkI rfl ?_))
                  clear hmem hkI hpok
                  have hmd := Mid.drew1 w9
                  have hPBu := HPB.out.mid hmd
                  replace HL8 := Lib.hid (HL8.out.mid hmd (Or.inl (Nat.zero_le _)))
                  replace B0 := B0.mid hmd (Or.inr (Nat.zero_le _))
                  replace B1 := B1.mid hmd (Or.inr (Nat.zero_le _))
                  replace B2 := B2.mid hmd (Or.inr (Nat.zero_le _))
                  replace hm := hm.trans hmd
                  have g2 := hPBu.box.cell 2 rfl
                  have hP1 := fun W => impl_step (i : Int) x kI W (by omega) (by omega)
                  clear HPB hmd
                  refine wp_region_T (S := (fun w' => w'.cell? ⟨G, 2, none⟩ = some (.slice A2 n2 c2))) 9 (by kernel_rfl) g2 ?_
                  generalize World.drew w9 = wz at hPBu HL8 B0 B1 B2 hm g2 ⊢
                  refine wpAnyT_take (i := 0) (v := ?_) rfl (by kernel_rfl) (by kernel_rfl) (by kernel_rfl) (by kernel_rfl) (fun _ _ _ h => h) (Or.inl ⟨by rfl, ?_⟩) g2 ?_
                  rotate_left
                  focus (intro w hSw; (try dsimp only at hSw); go_simp; try with_reducible rfl)
                  try simp only [Act.put, List.setIfInBounds_toArray, List.set_cons_zero, List.set_cons_succ, List.getElem_toArray, List.getElem_cons_zero, List.getElem_cons_succ]
                  refine wpAnyT_take (i := 1) (v := ?_) rfl (by kernel_rfl) (by kernel_rfl) (by kernel_rfl) (by kernel_rfl) (fun _ _ _ h => h) (Or.inl ⟨by rfl, ?_⟩) g2 ?_
                  rotate_left
                  focus (intro w hSw; (try dsimp only at hSw); go_simp; try with_reducible rfl)
                  try simp only [Act.put, List.setIfInBounds_toArray, List.set_cons_zero, List.set_cons_succ, List.getElem_toArray, List.getElem_cons_zero, List.getElem_cons_succ]
                  refine wpAnyT_take (i := 2) (v := ?_) rfl (by kernel_rfl) (by kernel_rfl) (by kernel_rfl) (by kernel_rfl) (fun _ _ _ h => h) (Or.inl ⟨by rfl, ?_⟩) g2 ?_
                  rotate_left
                  focus (intro w hSw; (try dsimp only at hSw); go_simp; try with_reducible rfl)
                  try simp only [Act.put, List.setIfInBounds_toArray, List.set_cons_zero, List.set_cons_succ, List.getElem_toArray, List.getElem_cons_zero, List.getElem_cons_succ]
                  refine wpAnyT_take (i := 3) (v := ?_) rfl (by kernel_rfl) (by kernel_rfl) (by kernel_rfl) (by kernel_rfl) (fun _ _ _ h => h) (Or.inl ⟨by rfl, ?_⟩) g2 ?_
                  rotate_left
                  focus (intro w hSw; (try dsimp only at hSw); go_simp; try with_reducible rfl)
                  try simp only [Act.put, List.setIfInBounds_toArray, List.set_cons_zero, List.set_cons_succ, List.getElem_toArray, List.getElem_cons_zero, List.getElem_cons_succ]
                  refine wpAnyT_take (i := 4) (v := ?_) rfl (by kernel_rfl) (by kernel_rfl) (by kernel_rfl) (by kernel_rfl) (fun _ _ _ h => h) (Or.inl ⟨by rfl, ?_⟩) g2 ?_
                  rotate_left
                  focus (intro w hSw; (try dsimp only at hSw); go_simp; try with_reducible rfl)
                  try simp only [Act.put, List.setIfInBounds_toArray, List.set_cons_zero, List.set_cons_succ, List.getElem_toArray, List.getElem_cons_zero, List.getElem_cons_succ]
                  refine wpAnyT_ready (rs := [5]) (by kernel_rfl) (by simp) (AllReadyT.cons rfl (fun K hK => ?_) AllReadyT.nil)
                  (go_simp; (with_reducible refine (hP1 _).mono ?_); rintro en w15 ⟨rfl, hm15⟩; have U3' := hPBu.box.mid hm15 (Or.inr (Nat.zero_le _)); go_wp2_with fail)
                  refine hK.out _ _ (Or.inr (U3'.cell 2 rfl)) (fun _ => ?_)
                  clear hK K
                  try simp only [Act.put, List.setIfInBounds_toArray, List.set_cons_zero, List.set_cons_succ, List.getElem_toArray, List.getElem_cons_zero, List.getElem_cons_succ]
                  have hPB15 := hPBu.mid hm15
                  replace HL8 := Lib.hid (HL8.out.mid hm15 (Or.inl (Nat.zero_le _)))
                  have hH15 : H8 ≤ w15.heap.size := HL8.out.1
                  replace B0 := B0.mid hm15 (Or.inr (Nat.zero_le _))
                  replace B1 := B1.mid hm15 (Or.inr (Nat.zero_le _))
                  replace B2 := B2.mid hm15 (Or.inr (Nat.zero_le _))
                  replace hm := hm.trans hm15
                  clear hPBu g2 hP1 hm15 U3'
                  have hse : stepE (i : Int) x kI = ⟨i, x, kI⟩ := by unfold stepE; rw [if_neg (by have := of_decide_eq_true d3; omega)]
                  have HSE := Lib.hid hse
                  generalize stepE (i : Int) x kI = ed at HSE ⊢
                  clear hse
                  have haz := Mid.alloc w15 (.cells #[.int .i64 ed.a, .int .i64 ed.l, .int .i64 ed.b] 70)
                  have hPBt := hPB15.mid haz
                  replace HL8 := Lib.hid (HL8.out.mid haz (Or.inl (Nat.zero_le _)))
                  replace B0 := B0.mid haz (Or.inr (Nat.zero_le _))
                  replace B1 := B1.mid haz (Or.inr (Nat.zero_le _))
                  replace B2 := B2.mid haz (Or.inr (Nat.zero_le _))
                  replace hm := hm.trans haz
                  have hS2 := hPBt.box.cell 2 rfl
                  have hrs : Rs (w15.alloc (.cells #[.int .i64 ed.a, .int .i64 ed.l, .int .i64 ed.b] 70)) (w15.heap.size + 1) (some ⟨w15.heap.size, 0, none⟩) [.int .i64 ed.a, .int .i64 ed.l, .int .i64 ed.b] := fun _ => ⟨w15.heap.size, 0, rfl, Nat.lt_succ_self _, fun j u hu => (World.cell?_alloc_at _ _ _ _ rfl).trans (by simpa using hu)⟩
                  have hone : ∀ u ∈ [Value.int .i64 ed.a, .int .i64 ed.l, .int .i64 ed.b], u.oneCell' = true := by
                    intro u hu
                    simp at hu
                    rcases hu with rfl | rfl | rfl <;> rfl
                  have hmxl : n2 + 1 ≤ maxLen := by unfold maxLen; omega
                  have hbyt : (n2 + 1) * 24 ≤ 140737488355328 := by omega
                  have hG15 : G < w15.heap.size := hPB15.box.1
                  have hbas : G + 1 ≤ (w15.alloc (.cells #[.int .i64 ed.a, .int .i64 ed.l, .int .i64 ed.b] 70)).heap.size := by simp; omega
                  have HO := Lib.hid hone
                  clear hone hPB15 haz
                  refine wpAnyT_ready (rs := [6]) (by kernel_rfl) (by simp) (AllReadyT.cons rfl (fun K hK => ?_) AllReadyT.nil)
                  go_simp
                  refine hK.out _ _ (Or.inr hS2) (fun _ => ?_)
                  clear hK K
                  try simp only [Act.put, List.setIfInBounds_toArray, List.set_cons_zero, List.set_cons_succ, List.getElem_toArray, List.getElem_cons_zero, List.getElem_cons_succ]
                  generalize hwt : w15.alloc (.cells #[.int .i64 ed.a, .int .i64 ed.l, .int .i64 ed.b] 70) = wt at hPBt HL8 B0 B1 B2 hm hS2 hrs hbas ⊢
                  have hszt : wt.heap.size = w15.heap.size + 1 := by rw [← hwt]; simp
                  have HZT := Lib.hid hszt
                  have hnG : Value.ownBlock (.slice A2 n2 c2) ≠ some G := fun e => by have := (hPBt.edg.lt G e).1; omega
                  have HNG := Lib.hid hnG
                  clear hwt hszt hnG
                  refine wpAnyT_ready (rs := [7]) (by kernel_rfl) (by simp) (AllReadyT.cons rfl (fun K hK => ?_) AllReadyT.nil)
                  (refine step_cat (by rfl) (.tmp 122) (.tmp 127) 26 (by rfl) (G + 1) 70 (.agg #[.int .i64 0, .int .i64 0, .int .i64 0]) 3 24 undSE infoE rfl (by decide) (.slice A2 n2 c2) n2 _ (by rfl) hPBt.edg (some ⟨w15.heap.size, 0, none⟩) 1 1 _ [.int .i64 ed.a, .int .i64 ed.l, .int .i64 ed.b] (by rfl) hrs rfl HO.out hmxl hbyt hbas ?_; intro v2 w16 ho8 hgr8 hat8; obtain ⟨A3, c3, rfl, -, -⟩ := owns_shape ho8)
                  refine hK.out _ _ (Or.inr ((hPBt.box.grown hgr8 HNG.out).cell 2 rfl)) (fun _ => ?_)
                  clear hK K
                  try simp only [Act.put, List.setIfInBounds_toArray, List.set_cons_zero, List.set_cons_succ, List.getElem_toArray, List.getElem_cons_zero, List.getElem_cons_succ]
                  have hm16 := Mid.of_grownRow hPBt.edg hgr8
                  have hS3 := (hPBt.box.grown hgr8 HNG.out).cell 2 rfl
                  have hrf := (hPBt.box.grown hgr8 HNG.out).2.2
                  have ho8' : w16.ownsRow (G + 1) 70 3 (.slice A3 (n2 + 1) c3) (n2 + 1) (ints (edI (xs ++ [ed]))) := by
                    rw [edI_append, ints_append, edI_one]
                    exact ho8
                  have hPBn := hPBt.edge ho8' hgr8
                  have hst := Mid.setCell w16 (lo := G) (hi := G + 1) (p := ⟨G, 2, none⟩) (.slice A3 (n2 + 1) c3) (Nat.le_refl _) (Nat.lt_succ_self _)
                  have HL9 := Lib.hid ((HL8.out.grown hgr8 HD2.out).mid hst (Or.inl (by omega)))
                  have HD9 : Hid (∀ g, Value.ownBlock (.slice A3 (n2 + 1) c3) = some g → g < L8 ∨ H8 ≤ g) := Lib.hid (by
                    intro g hg
                    rcases hat8 with h | h
                    · exact HD2.out g (h.symm.trans hg)
                    · rw [h] at hg
                      injection hg with hg
                      have := HZT.out
                      omega)
                  have HPB9 := Lib.hid hPBn
                  have R0 := (B0.mid hm16 (Or.inl (by omega))).mid hst (Or.inl (by omega))
                  have R1 := (B1.mid hm16 (Or.inl (by omega))).mid hst (Or.inl (by omega))
                  have R2 := (B2.mid hm16 (Or.inl (by omega))).mid hst (Or.inl (by omega))
                  have hm17 := (hm.transNew hm16 (Or.inl (by omega))).storeNew (p := ⟨G, 2, none⟩) (by show w.heap.size ≤ G; omega) (.slice A3 (n2 + 1) c3)
                  clear hat8 hS2 hrs hPBt hPBn ho8 ho8' hst hm16 hgr8 HL8 B0 B1 B2 hm
                  refine wpAnyT_take (i := 8) (v := ?_) rfl (by kernel_rfl) (by kernel_rfl) (by kernel_rfl) (by kernel_rfl) (fun _ _ _ h => h) (Or.inl ⟨by rfl, ?_⟩) hS3 ?_
                  rotate_left
                  focus (intro w hSw; (try dsimp only at hSw); go_simp; try with_reducible rfl)
                  try simp only [Act.put, List.setIfInBounds_toArray, List.set_cons_zero, List.set_cons_succ, List.getElem_toArray, List.getElem_cons_zero, List.getElem_cons_succ]
                  refine wpAnyT_ready (rs := [9]) (by kernel_rfl) (by simp) (AllReadyT.cons rfl (fun K hK => ?_) AllReadyT.nil)
                  (go_simp)
                  refine hK.out _ _ (Or.inl rfl) (fun _ => ?_)
                  clear hK K
                  try simp only [Act.put, List.setIfInBounds_toArray, List.set_cons_zero, List.set_cons_succ, List.getElem_toArray, List.getElem_cons_zero, List.getElem_cons_succ]
                  refine wpAnyT_done (by kernel_rfl) ?_ _
                  go_wp2_with fail
                  go_roundw
                  case rel => exact ⟨j + 1, n1, _, c1, n2 + 1, A3, c3, xs ++ [ed], by go_num, rfl, by omega, Lib.hid (by rw [HX.out, List.append_assoc, HSE.out, HPE.out]), by rw [HNX.out, HNS.out]; exact HPB9, HL9, HD1, HD9, R0, R1, R2, hm17⟩
                  case measure => simp [intOf]; omega
                · have d3 : decide (0 < x) = false := by simp; omega
                  have HPE : Hid (pbEs es es' P i ((a : Int), (b' : Int)) ((j + 1) / 2) = pbEs es es' P i ((a : Int), (b' : Int)) ((j + 1 + 1) / 2)) := Lib.hid (by rw [show (j + 1 + 1) / 2 = (j + 1) / 2 by omega])
                  clear hod hxv
                  go_wp2_with (first | (at_lookup; refine wpList_pmLookT rfl _ _ rfl rfl HPB.out.map ((x' : Int), (y' : Int)) hpok hmem kI hkI rfl ?_))
                  go_roundw
                  case rel => exact ⟨j + 1, n1, _, c1, n2, A2, c2, xs, by go_num, rfl, by omega, Lib.hid (by rw [HX.out, HPE.out]), by rw [HNX.out, HNS.out]; exact HPB, HL8, HD1, HD2, B0, B1, B2, hm⟩
                  case measure => simp [intOf]; omega
              · have HNS : Hid (pbStep es es' ((a : Int), (b' : Int)) stj x = stj ++ [((x' : Int), (y' : Int))]) := Lib.hid (by rw [pbStep_yes HT1.out HT2.out (by rw [HPN.out]; exact hmem), HPN.out])
                have HKI : Hid (P.idxOf (pbNext es es' ((a : Int), (b' : Int)) x) = n1) := Lib.hid (by
                  rw [HPN.out, ← hn1, ← idxOf_new hmem]
                  have h1 := HPFX.out
                  rw [HNS.out] at h1
                  exact idx_prefix (by simp) h1)
                have HMEM := Lib.hid hmem
                have hn1m : n1 ≤ 1048576 := by omega
                rcases HPAR.out with ⟨hev, hxv⟩ | ⟨hod, hxv⟩
                · have d3 : decide (0 < x) = true := by simp; omega
                  have HPE : Hid (pbEs es es' P i ((a : Int), (b' : Int)) ((j + 1) / 2) ++ [⟨i, x, n1⟩] = pbEs es es' P i ((a : Int), (b' : Int)) ((j + 1 + 1) / 2)) := Lib.hid (pbEs_half_yes hev hxv HT1.out HT2.out HKI.out).symm
                  clear hev hxv
                  go_wp2_with (first | (at_lookup; refine wpList_pmLookF rfl _ _ rfl rfl HPB.out.map ((x' : Int), (y' : Int)) hpok HMEM.out rfl ?_; intro c0) | (at_mapUpdate; refine wpList_pmPut rfl _ _ _ rfl rfl HPB.out.map ((x' : Int), (y' : Int)) hpok HMEM.out n1 hn1 hn1m rfl rfl ?_; intro w11 hM11 hm11; have HPB11 := Lib.hid (HPB.out.put hM11 hm11); have hBo11 : Bo ≤ w11.heap.size := by (have h1 := HPB11.out.le; have h2 := HPB11.out.box.1; omega)) | (at_builtin; refine wpList_pushP rfl _ _ rfl _ _ n1 _ stj rfl HPB11.out.ord ((x' : Int), (y' : Int)) rfl hn1m hBo11 ?_; intro A12 c12 w12 ho12 hgr12 hat12))
                  have hm12 := Mid.of_grownRow HPB11.out.ord hgr12
                  have HPB12 := Lib.hid (HPB11.out.push ho12 hgr12 hat12)
                  have hs11 := hm11.size
                  have hs12 := hm12.size
                  have hH8 : H8 ≤ w9.heap.size := HL8.out.1
                  have hMB := HPB.out.lt
                  have HL12 := Lib.hid ((HL8.out.mid hm11 (Or.inl (by omega))).grown hgr12 HD1.out)
                  have HD12 : Hid (∀ g, Value.ownBlock (.slice A12 (n1 + 1) c12) = some g → g < L8 ∨ H8 ≤ g) := Lib.hid (by
                    intro g hg
                    rcases hat12 with h | h
                    · exact HD1.out g (h.symm.trans hg)
                    · rw [h] at hg
                      injection hg with hg
                      omega)
                  replace B0 := (B0.mid hm11 (Or.inl (by omega))).mid hm12 (Or.inl (by omega))
                  replace B1 := (B1.mid hm11 (Or.inl (by omega))).mid hm12 (Or.inl (by omega))
                  replace B2 := (B2.mid hm11 (Or.inl (by omega))).mid hm12 (Or.inl (by omega))
                  replace hm := (hm.transNew hm11 (Or.inl (by omega))).transNew hm12 (Or.inl (by omega))
                  clear HPB HPB11 HL8 hm11 hm12 hM11 ho12 hgr12 hat12
                  have HPB := HPB12
                  have HL8 := HL12
                  clear HPB12 HL12
                  have hmd := Mid.drew1 w12
                  have hPBu := HPB.out.mid hmd
                  replace HL8 := Lib.hid (HL8.out.mid hmd (Or.inl (Nat.zero_le _)))
                  replace B0 := B0.mid hmd (Or.inr (Nat.zero_le _))
                  replace B1 := B1.mid hmd (Or.inr (Nat.zero_le _))
                  replace B2 := B2.mid hmd (Or.inr (Nat.zero_le _))
                  replace hm := hm.trans hmd
                  have g2 := hPBu.box.cell 2 rfl
                  have hP1 := fun W => impl_step (i : Int) x n1 W (by omega) (by omega)
                  clear HPB hmd
                  refine wp_region_T (S := (fun w' => w'.cell? ⟨G, 2, none⟩ = some (.slice A2 n2 c2))) 9 (by kernel_rfl) g2 ?_
                  generalize World.drew w12 = wz at hPBu HL8 B0 B1 B2 hm g2 ⊢
                  refine wpAnyT_take (i := 0) (v := ?_) rfl (by kernel_rfl) (by kernel_rfl) (by kernel_rfl) (by kernel_rfl) (fun _ _ _ h => h) (Or.inl ⟨by rfl, ?_⟩) g2 ?_
                  rotate_left
                  focus (intro w hSw; (try dsimp only at hSw); go_simp; try with_reducible rfl)
                  try simp only [Act.put, List.setIfInBounds_toArray, List.set_cons_zero, List.set_cons_succ, List.getElem_toArray, List.getElem_cons_zero, List.getElem_cons_succ]
                  refine wpAnyT_take (i := 1) (v := ?_) rfl (by kernel_rfl) (by kernel_rfl) (by kernel_rfl) (by kernel_rfl) (fun _ _ _ h => h) (Or.inl ⟨by rfl, ?_⟩) g2 ?_
                  rotate_left
                  focus (intro w hSw; (try dsimp only at hSw); go_simp; try with_reducible rfl)
                  try simp only [Act.put, List.setIfInBounds_toArray, List.set_cons_zero, List.set_cons_succ, List.getElem_toArray, List.getElem_cons_zero, List.getElem_cons_succ]
                  refine wpAnyT_take (i := 2) (v := ?_) rfl (by kernel_rfl) (by kernel_rfl) (by kernel_rfl) (by kernel_rfl) (fun _ _ _ h => h) (Or.inl ⟨by rfl, ?_⟩) g2 ?_
                  rotate_left
                  focus (intro w hSw; (try dsimp only at hSw); go_simp; try with_reducible rfl)
                  try simp only [Act.put, List.setIfInBounds_toArray, List.set_cons_zero, List.set_cons_succ, List.getElem_toArray, List.getElem_cons_zero, List.getElem_cons_succ]
                  refine wpAnyT_take (i := 3) (v := ?_) rfl (by kernel_rfl) (by kernel_rfl) (by kernel_rfl) (by kernel_rfl) (fun _ _ _ h => h) (Or.inl ⟨by rfl, ?_⟩) g2 ?_
                  rotate_left
                  focus (intro w hSw; (try dsimp only at hSw); go_simp; try with_reducible rfl)
                  try simp only [Act.put, List.setIfInBounds_toArray, List.set_cons_zero, List.set_cons_succ, List.getElem_toArray, List.getElem_cons_zero, List.getElem_cons_succ]
                  refine wpAnyT_take (i := 4) (v := ?_) rfl (by kernel_rfl) (by kernel_rfl) (by kernel_rfl) (by kernel_rfl) (fun _ _ _ h => h) (Or.inl ⟨by rfl, ?_⟩) g2 ?_
                  rotate_left
                  focus (intro w hSw; (try dsimp only at hSw); go_simp; try with_reducible rfl)
                  try simp only [Act.put, List.setIfInBounds_toArray, List.set_cons_zero, List.set_cons_succ, List.getElem_toArray, List.getElem_cons_zero, List.getElem_cons_succ]
                  refine wpAnyT_ready (rs := [5]) (by kernel_rfl) (by simp) (AllReadyT.cons rfl (fun K hK => ?_) AllReadyT.nil)
                  (go_simp; (with_reducible refine (hP1 _).mono ?_); rintro en w15 ⟨rfl, hm15⟩; have U3' := hPBu.box.mid hm15 (Or.inr (Nat.zero_le _)); go_wp2_with fail)
                  refine hK.out _ _ (Or.inr (U3'.cell 2 rfl)) (fun _ => ?_)
                  clear hK K
                  try simp only [Act.put, List.setIfInBounds_toArray, List.set_cons_zero, List.set_cons_succ, List.getElem_toArray, List.getElem_cons_zero, List.getElem_cons_succ]
                  have hPB15 := hPBu.mid hm15
                  replace HL8 := Lib.hid (HL8.out.mid hm15 (Or.inl (Nat.zero_le _)))
                  have hH15 : H8 ≤ w15.heap.size := HL8.out.1
                  replace B0 := B0.mid hm15 (Or.inr (Nat.zero_le _))
                  replace B1 := B1.mid hm15 (Or.inr (Nat.zero_le _))
                  replace B2 := B2.mid hm15 (Or.inr (Nat.zero_le _))
                  replace hm := hm.trans hm15
                  clear hPBu g2 hP1 hm15 U3'
                  have hse : stepE (i : Int) x n1 = ⟨i, x, n1⟩ := by unfold stepE; rw [if_neg (by have := of_decide_eq_true d3; omega)]
                  have HSE := Lib.hid hse
                  generalize stepE (i : Int) x n1 = ed at HSE ⊢
                  clear hse
                  have haz := Mid.alloc w15 (.cells #[.int .i64 ed.a, .int .i64 ed.l, .int .i64 ed.b] 70)
                  have hPBt := hPB15.mid haz
                  replace HL8 := Lib.hid (HL8.out.mid haz (Or.inl (Nat.zero_le _)))
                  replace B0 := B0.mid haz (Or.inr (Nat.zero_le _))
                  replace B1 := B1.mid haz (Or.inr (Nat.zero_le _))
                  replace B2 := B2.mid haz (Or.inr (Nat.zero_le _))
                  replace hm := hm.trans haz
                  have hS2 := hPBt.box.cell 2 rfl
                  have hrs : Rs (w15.alloc (.cells #[.int .i64 ed.a, .int .i64 ed.l, .int .i64 ed.b] 70)) (w15.heap.size + 1) (some ⟨w15.heap.size, 0, none⟩) [.int .i64 ed.a, .int .i64 ed.l, .int .i64 ed.b] := fun _ => ⟨w15.heap.size, 0, rfl, Nat.lt_succ_self _, fun j u hu => (World.cell?_alloc_at _ _ _ _ rfl).trans (by simpa using hu)⟩
                  have hone : ∀ u ∈ [Value.int .i64 ed.a, .int .i64 ed.l, .int .i64 ed.b], u.oneCell' = true := by
                    intro u hu
                    simp at hu
                    rcases hu with rfl | rfl | rfl <;> rfl
                  have hmxl : n2 + 1 ≤ maxLen := by unfold maxLen; omega
                  have hbyt : (n2 + 1) * 24 ≤ 140737488355328 := by omega
                  have hG15 : G < w15.heap.size := hPB15.box.1
                  have hbas : G + 1 ≤ (w15.alloc (.cells #[.int .i64 ed.a, .int .i64 ed.l, .int .i64 ed.b] 70)).heap.size := by simp; omega
                  have HO := Lib.hid hone
                  clear hone hPB15 haz
                  refine wpAnyT_ready (rs := [6]) (by kernel_rfl) (by simp) (AllReadyT.cons rfl (fun K hK => ?_) AllReadyT.nil)
                  go_simp
                  refine hK.out _ _ (Or.inr hS2) (fun _ => ?_)
                  clear hK K
                  try simp only [Act.put, List.setIfInBounds_toArray, List.set_cons_zero, List.set_cons_succ, List.getElem_toArray, List.getElem_cons_zero, List.getElem_cons_succ]
                  generalize hwt : w15.alloc (.cells #[.int .i64 ed.a, .int .i64 ed.l, .int .i64 ed.b] 70) = wt at hPBt HL8 B0 B1 B2 hm hS2 hrs hbas ⊢
                  have hszt : wt.heap.size = w15.heap.size + 1 := by rw [← hwt]; simp
                  have HZT := Lib.hid hszt
                  have hnG : Value.ownBlock (.slice A2 n2 c2) ≠ some G := fun e => by have := (hPBt.edg.lt G e).1; omega
                  have HNG := Lib.hid hnG
                  clear hwt hszt hnG
                  refine wpAnyT_ready (rs := [7]) (by kernel_rfl) (by simp) (AllReadyT.cons rfl (fun K hK => ?_) AllReadyT.nil)
                  (refine step_cat (by rfl) (.tmp 122) (.tmp 127) 26 (by rfl) (G + 1) 70 (.agg #[.int .i64 0, .int .i64 0, .int .i64 0]) 3 24 undSE infoE rfl (by decide) (.slice A2 n2 c2) n2 _ (by rfl) hPBt.edg (some ⟨w15.heap.size, 0, none⟩) 1 1 _ [.int .i64 ed.a, .int .i64 ed.l, .int .i64 ed.b] (by rfl) hrs rfl HO.out hmxl hbyt hbas ?_; intro v2 w16 ho8 hgr8 hat8; obtain ⟨A3, c3, rfl, -, -⟩ := owns_shape ho8)
                  refine hK.out _ _ (Or.inr ((hPBt.box.grown hgr8 HNG.out).cell 2 rfl)) (fun _ => ?_)
                  clear hK K
                  try simp only [Act.put, List.setIfInBounds_toArray, List.set_cons_zero, List.set_cons_succ, List.getElem_toArray, List.getElem_cons_zero, List.getElem_cons_succ]
                  have hm16 := Mid.of_grownRow hPBt.edg hgr8
                  have hS3 := (hPBt.box.grown hgr8 HNG.out).cell 2 rfl
                  have hrf := (hPBt.box.grown hgr8 HNG.out).2.2
                  have ho8' : w16.ownsRow (G + 1) 70 3 (.slice A3 (n2 + 1) c3) (n2 + 1) (ints (edI (xs ++ [ed]))) := by
                    rw [edI_append, ints_append, edI_one]
                    exact ho8
                  have hPBn := hPBt.edge ho8' hgr8
                  have hst := Mid.setCell w16 (lo := G) (hi := G + 1) (p := ⟨G, 2, none⟩) (.slice A3 (n2 + 1) c3) (Nat.le_refl _) (Nat.lt_succ_self _)
                  have HL9 := Lib.hid ((HL8.out.grown hgr8 HD2.out).mid hst (Or.inl (by omega)))
                  have HD9 : Hid (∀ g, Value.ownBlock (.slice A3 (n2 + 1) c3) = some g → g < L8 ∨ H8 ≤ g) := Lib.hid (by
                    intro g hg
                    rcases hat8 with h | h
                    · exact HD2.out g (h.symm.trans hg)
                    · rw [h] at hg
                      injection hg with hg
                      have := HZT.out
                      omega)
                  have HPB9 := Lib.hid hPBn
                  have R0 := (B0.mid hm16 (Or.inl (by omega))).mid hst (Or.inl (by omega))
                  have R1 := (B1.mid hm16 (Or.inl (by omega))).mid hst (Or.inl (by omega))
                  have R2 := (B2.mid hm16 (Or.inl (by omega))).mid hst (Or.inl (by omega))
                  have hm17 := (hm.transNew hm16 (Or.inl (by omega))).storeNew (p := ⟨G, 2, none⟩) (by show w.heap.size ≤ G; omega) (.slice A3 (n2 + 1) c3)
                  clear hat8 hS2 hrs hPBt hPBn ho8 ho8' hst hm16 hgr8 HL8 B0 B1 B2 hm
                  refine wpAnyT_take (i := 8) (v := ?_) rfl (by kernel_rfl) (by kernel_rfl) (by kernel_rfl) (by kernel_rfl) (fun _ _ _ h => h) (Or.inl ⟨by rfl, ?_⟩) hS3 ?_
                  rotate_left
                  focus (intro w hSw; (try dsimp only at hSw); go_simp; try with_reducible rfl)
                  try simp only [Act.put, List.setIfInBounds_toArray, List.set_cons_zero, List.set_cons_succ, List.getElem_toArray, List.getElem_cons_zero, List.getElem_cons_succ]
                  refine wpAnyT_ready (rs := [9]) (by kernel_rfl) (by simp) (AllReadyT.cons rfl (fun K hK => ?_) AllReadyT.nil)
                  (go_simp)
                  refine hK.out _ _ (Or.inl rfl) (fun _ => ?_)
                  clear hK K
                  try simp only [Act.put, List.setIfInBounds_toArray, List.set_cons_zero, List.set_cons_succ, List.getElem_toArray, List.getElem_cons_zero, List.getElem_cons_succ]
                  refine wpAnyT_done (by kernel_rfl) ?_ _
                  go_wp2_with fail
                  go_roundw
                  case rel => exact ⟨j + 1, n1 + 1, A12, c12, n2 + 1, A3, c3, xs ++ [ed], by go_num, rfl, by omega, Lib.hid (by rw [HX.out, List.append_assoc, HSE.out, HPE.out]), by rw [HNX.out, HNS.out]; exact HPB9, HL9, HD12, HD9, R0, R1, R2, hm17⟩
                  case measure => simp [intOf]; omega
                · have d3 : decide (0 < x) = false := by simp; omega
                  have HPE : Hid (pbEs es es' P i ((a : Int), (b' : Int)) ((j + 1) / 2) = pbEs es es' P i ((a : Int), (b' : Int)) ((j + 1 + 1) / 2)) := Lib.hid (by rw [show (j + 1 + 1) / 2 = (j + 1) / 2 by omega])
                  clear hod hxv
                  go_wp2_with (first | (at_lookup; refine wpList_pmLookF rfl _ _ rfl rfl HPB.out.map ((x' : Int), (y' : Int)) hpok HMEM.out rfl ?_; intro c0) | (at_mapUpdate; refine wpList_pmPut rfl _ _ _ rfl rfl HPB.out.map ((x' : Int), (y' : Int)) hpok HMEM.out n1 hn1 hn1m rfl rfl ?_; intro w11 hM11 hm11; have HPB11 := Lib.hid (HPB.out.put hM11 hm11); have hBo11 : Bo ≤ w11.heap.size := by (have h1 := HPB11.out.le; have h2 := HPB11.out.box.1; omega)) | (at_builtin; refine wpList_pushP rfl _ _ rfl _ _ n1 _ stj rfl HPB11.out.ord ((x' : Int), (y' : Int)) rfl hn1m hBo11 ?_; intro A12 c12 w12 ho12 hgr12 hat12))
                  have hm12 := Mid.of_grownRow HPB11.out.ord hgr12
                  have HPB12 := Lib.hid (HPB11.out.push ho12 hgr12 hat12)
                  have hs11 := hm11.size
                  have hs12 := hm12.size
                  have hH8 : H8 ≤ w9.heap.size := HL8.out.1
                  have hMB := HPB.out.lt
                  have HL12 := Lib.hid ((HL8.out.mid hm11 (Or.inl (by omega))).grown hgr12 HD1.out)
                  have HD12 : Hid (∀ g, Value.ownBlock (.slice A12 (n1 + 1) c12) = some g → g < L8 ∨ H8 ≤ g) := Lib.hid (by
                    intro g hg
                    rcases hat12 with h | h
                    · exact HD1.out g (h.symm.trans hg)
                    · rw [h] at hg
                      injection hg with hg
                      omega)
                  replace B0 := (B0.mid hm11 (Or.inl (by omega))).mid hm12 (Or.inl (by omega))
                  replace B1 := (B1.mid hm11 (Or.inl (by omega))).mid hm12 (Or.inl (by omega))
                  replace B2 := (B2.mid hm11 (Or.inl (by omega))).mid hm12 (Or.inl (by omega))
                  replace hm := (hm.transNew hm11 (Or.inl (by omega))).transNew hm12 (Or.inl (by omega))
                  clear HPB HPB11 HL8 hm11 hm12 hM11 ho12 hgr12 hat12
                  have HPB := HPB12
                  have HL8 := HL12
                  clear HPB12 HL12
                  go_roundw
                  case rel => exact ⟨j + 1, n1 + 1, A12, c12, n2, A2, c2, xs, by go_num, rfl, by omega, Lib.hid (by rw [HX.out, HPE.out]), by rw [HNX.out, HNS.out]; exact HPB, HL8, HD12, HD2, B0, B1, B2, hm⟩
                  case measure => simp [intOf]; omega
        · obtain rfl : j = LL := by omega
          have htk : (lets rn).take j = lets rn := List.take_of_length_le (by rw [HLL.out]; exact Nat.le_refl _)
          rw [htk] at hstj
          have hj2 : (j + 1) / 2 = rn := by have h1 := HLL.out; rw [lets_len] at h1; omega
          rw [hj2, ← HSU.out] at HX
          have hst2 : pbSt es es' (lets rn) ((un : Int), (vn : Int)) (i + 1) = stj := HSS.out.trans hstj
          have HST := Lib.hid hst2
          have hi1' : i < n1 := by have h1 := (List.getElem?_eq_some_iff.1 hpj).1; omega
          clear hst2 hstj htk hpj hokj
          go_wp2_with fail
          go_roundw
          case rel => exact ⟨i + 1, n1, A1, c1, n2, A2, c2, xs, by go_num, rfl, Lib.hid hi1', HX, by rw [HST.out]; exact HPB, B0, B1, B2, hm⟩
          case measure => simp [intOf]; omega
    · obtain rfl : i = n1 := by omega
      have hPeq := pairs_eq F1.out.gr F2.out.gr HP0.out hn1
      rw [HPP.out] at hPeq
      have hPL : P.length = i := by rw [hPeq]; exact hn1
      have HPL := Lib.hid hPL
      clear hPeq hn1
      have hGs : G < wo.heap.size := HPB.out.box.1
      have hln2 := HPB.out.ln2
      have hn2 : n2 ≤ 4900 := by
        have h2 := pbAll_len es es' rn P i
        have h3 := congrArg List.length HX.out
        have h4 : i * rn ≤ 1600 * 3 := Nat.mul_le_mul hn16 (by omega)
        omega
      have HLN2 := Lib.hid hln2
      have hcl : (w.heap.size + 1 + 1 == G) = false := by simp; omega
      have hcl2 : (G == w.heap.size + 1 + 1) = false := by simp; omega
      have hst := Mid.setCell wo (lo := G) (hi := G + 1) (p := ⟨G, 1, none⟩) (.int .i64 (i : Int)) (Nat.le_refl _) (Nat.lt_succ_self _)
      have hrg : RG (wo.setCell ⟨G, 1, none⟩ (.int .i64 (i : Int))) (G + 1) wo.heap.size A2 xs := RG.mid (OV.rv (e := 70) (size := 3) (c := c2) (n := n2) ⟨Nat.le_refl _, HPB.out.edg, fun g hg => (HPB.out.edg.lt g hg).2⟩) hst (Or.inl (Nat.le_refl _))
      have Z3 := HPB.out.box.set 1 (.int .i64 (i : Int)) (by simp) rfl
      have Z2 := B2.mid hst (Or.inl (by omega))
      have hmz := hm.storeNew (p := ⟨G, 1, none⟩) (by show w.heap.size ≤ G; omega) (.int .i64 (i : Int))
      have g1 := HPB.out.box.cell 1 rfl
      have g2 := HPB.out.box.cell 2 rfl
      have gf := HPB.out.box.2.2
      have y2 := Z3.cell 2 rfl
      have y1 := Z3.cell 1 rfl
      clear hln2
      rcases (Decidable.em (i ≤ 40)).symm with hsz | hsz
      · have b3 : decide (40 < (i : Int)) = true := by simp; omega
        have hno : ¬ PullOk (rn : Int) (sn : Int) es (rn : Int) (tn : Int) es' (un : Int) (vn : Int) := fun h => by
          have h1 := h.sz; rw [Int.toNat_natCast, HPP.out, HPL.out] at h1; omega
        obtain ⟨rfl, rfl, rfl, rfl⟩ := HR.out.no hno
        have z0 := Z2.cell 0 rfl
        have z1 := Z2.cell 1 rfl
        have z2 := Z2.cell 2 rfl
        have zf := Z2.2.2
        clear HPB hno
        go_wp2_with fail
        refine bodyPost_ret (v := .tuple #[.agg #[.int .i64 0, .int .i64 0, .slice none 0 0], .bool false]) (by simp [results, Try.results12, go_sem, z0, z1, z2, zf]) rfl ⟨none, 0, rfl, OG.nil, ?_⟩
        repeat (first | exact hmz | refine Mid.storeNew ?_ (by simp; try omega) _)
      have b3 : decide (40 < (i : Int)) = false := by simp; omega
      rcases (Decidable.em (n2 ≤ 120)).symm with hln | hln
      · have b4 : decide (120 < (n2 : Int)) = true := by simp; omega
        have hno : ¬ PullOk (rn : Int) (sn : Int) es (rn : Int) (tn : Int) es' (un : Int) (vn : Int) := fun h => by
          have h1 := h.ln; rw [Int.toNat_natCast, HPP.out, HPL.out] at h1; have h2 := congrArg List.length HX.out; have h3 := HLN2.out; omega
        obtain ⟨rfl, rfl, rfl, rfl⟩ := HR.out.no hno
        have z0 := Z2.cell 0 rfl
        have z1 := Z2.cell 1 rfl
        have z2 := Z2.cell 2 rfl
        have zf := Z2.2.2
        clear HPB hno
        go_wp2_with fail
        refine bodyPost_ret (v := .tuple #[.agg #[.int .i64 0, .int .i64 0, .slice none 0 0], .bool false]) (by simp [results, Try.results12, go_sem, z0, z1, z2, zf]) rfl ⟨none, 0, rfl, OG.nil, ?_⟩
        repeat (first | exact hmz | refine Mid.storeNew ?_ (by simp; try omega) _)
      have b4 : decide (120 < (n2 : Int)) = false := by simp; omega
      have hok : PullOk (rn : Int) (sn : Int) es (rn : Int) (tn : Int) es' (un : Int) (vn : Int) := ⟨F1.out, F2.out, rfl, ⟨HP0.out.1, HP0.out.2.1⟩, ⟨HP0.out.2.2.1, HP0.out.2.2.2⟩, by rw [Int.toNat_natCast, HPP.out, HPL.out]; exact hsz, by rw [Int.toNat_natCast, HPP.out, HPL.out]; have h2 := congrArg List.length HX.out; have h3 := HLN2.out; omega⟩
      obtain ⟨rfl, hrr, hrs, hre⟩ := HR.out.yes hok
      rw [Int.toNat_natCast, HPP.out, HPL.out] at hrs
      unfold pullE at hre
      rw [Int.toNat_natCast, HPP.out, HPL.out, ← HX.out] at hre
      have HRR := Lib.hid hrr
      have HRS := Lib.hid hrs
      have HRE := Lib.hid hre
      clear hrr hrs hre HR HPB hok
      go_wp2_with fail
      have HRG := hrg
      generalize wo.setCell ⟨G, 1, none⟩ (.int .i64 (i : Int)) = ws at HRG hrg Z2 Z3 hmz y1 y2 hst ⊢
      with_reducible refine (impl_sortedN A2 xs n2 c2 _ _ _ HLN2.out HRG (by omega)).mono ?_
      rintro en w6 ⟨A4, c4, rfl, ho6, hm6⟩
      have Q2 := Z2.mid hm6 (Or.inr (Nat.zero_le _))
      have Q3 := Z3.mid hm6 (Or.inr (Nat.zero_le _))
      have hsz6 := hm6.size
      have hszs := hst.size
      clear g1 g2 gf y1 y2 hst hrg HRG Z2 Z3
      have a0 := Q2.cell 0 rfl
      have a1 := Q2.cell 1 rfl
      have a2 := Q2.cell 2 rfl
      have b0 := Q3.cell 0 rfl
      have b1 := Q3.cell 1 rfl
      have b2 := Q3.cell 2 rfl
      have af := Q2.2.2
      have bf := Q3.2.2
      go_wp2_with fail
      refine bodyPost_ret (v := .tuple #[.agg #[.int .i64 rn, .int .i64 i, .slice A4 (canon xs).length c4], .bool true]) (by simp [results, Try.results12, go_sem, a0, a1, a2, b0, b1, b2, af, bf]) rfl ⟨A4, c4, ?_, ?_, ?_⟩
      · rw [HRR.out, HRS.out, HRE.out]
      · rw [HRE.out]
        refine OG.wide (OG.mid ho6 (a := w.heap.size) (b := G + 1) ?_ (Or.inl (by omega))) (by have := hmz.size; omega) (by simp) (Nat.le_refl _)
        repeat (first | exact Mid.refl _ _ _ | refine Mid.stored ?_ _ (by simp; try omega) (by simp; try omega))
      · have h := hmz.trans hm6
        repeat (first | exact h | refine Mid.storeNew ?_ (by simp; try omega) _)
  end Go.Proofs.Ytimmnnncgnnkgaa

/- PullbackAt, both sides: what it gives is always there. -/
namespace Go.Proofs.Ytimmnnncgnnkgaa
set_option linter.unusedVariables false
theorem PullIs_ex (r s : Int) (es : List Ed) (r' s' : Int) (es' : List Ed) (u v : Int) : ∃ rr rs res b, PullIs r s es r' s' es' u v rr rs res b := by
  by_cases h : PullOk r s es r' s' es' u v
  · exact ⟨_, _, _, _, .inl ⟨rfl, h, rfl, rfl, rfl⟩⟩
  · exact ⟨_, _, _, _, .inr ⟨rfl, h, rfl, rfl, rfl⟩⟩
theorem PullIs.lens {r s : Int} {es : List Ed} {r' s' : Int} {es' : List Ed} {u v : Int} {rr rs : Int} {res : List Ed} {b : Bool} (h : PullIs r s es r' s' es' u v rr rs res b) : res.length ≤ 120 := by
  rcases h with ⟨-, h, -, -, e⟩ | ⟨-, -, -, -, e⟩
  · rw [e]
    exact (pull_gr h).len
  · rw [e]
    simp
end Go.Proofs.Ytimmnnncgnnkgaa

/- The law on PullbackAt: its data. -/
namespace Go.Proofs.Ytimmnnncgnnkgaa
set_option linter.unusedVariables false
open Go.RowKit
def PullbackAtIs (r0 s0 : Int) (d0 : List Ed) (r1 s1 : Int) (d1 : List Ed) (x2 : Int) (x3 : Int) (rr0 rs0 : Int) (res0 : List Ed) (res1 : Bool) : Prop := PullIs r0 s0 d0 r1 s1 d1 x2 x3 rr0 rs0 res0 res1
theorem PullbackAtIs_ex (r0 s0 : Int) (d0 : List Ed) (r1 s1 : Int) (d1 : List Ed) (x2 : Int) (x3 : Int) (hl0 : d0.length ≤ 1048576) (hl1 : d1.length ≤ 1048576) : ∃ rr0 rs0 res0 res1, PullbackAtIs r0 s0 d0 r1 s1 d1 x2 x3 rr0 rs0 res0 res1 := PullIs_ex r0 s0 d0 r1 s1 d1 x2 x3
theorem PullbackAtIs_len {r0 s0 : Int} {d0 : List Ed} {r1 s1 : Int} {d1 : List Ed} {x2 : Int} {x3 : Int} {rr0 rs0 : Int} {res0 : List Ed} {res1 : Bool} (h : PullbackAtIs r0 s0 d0 r1 s1 d1 x2 x3 rr0 rs0 res0 res1) (hl0 : d0.length ≤ 1048576) (hl1 : d1.length ≤ 1048576) : res0.length ≤ 1048576 := by
  have := PullIs.lens h
  omega
theorem sspec_PullbackAt (r0 s0 : Int) (A0 : Option Addr) (d0 : List Ed) (c0 : Nat) (r1 s1 : Int) (A1 : Option Addr) (d1 : List Ed) (c1 : Nat) (x2 : Int) (x3 : Int) (w : World) (lo0 hi0 : Nat) (h0 : OG w lo0 hi0 A0 c0 d0) (hl0 : d0.length ≤ 1048576) (lo1 hi1 : Nat) (h1 : OG w lo1 hi1 A1 c1 d1) (hl1 : d1.length ≤ 1048576) (o2 : (Lit.int .i64 x2).wf = true) (o3 : (Lit.int .i64 x3).wf = true) (rr0 rs0 : Int) (res0 : List Ed) (res1 : Bool) (h : PullbackAtIs r0 s0 d0 r1 s1 d1 x2 x3 rr0 rs0 res0 res1) :
    Calls Try.prog 10 #[.agg #[.int .i64 r0, .int .i64 s0, .slice A0 d0.length c0], .agg #[.int .i64 r1, .int .i64 s1, .slice A1 d1.length c1], .int .i64 x2, .int .i64 x3] w fun e w' => ∃ (A : Option Addr) (c : Nat), e = .returned (.tuple #[.agg #[.int .i64 rr0, .int .i64 rs0, .slice A res0.length c], .bool res1]) ∧ OG w' w.heap.size w'.heap.size A c res0 ∧ Mid 0 0 w w' :=
  spec_PullbackAt r0 s0 A0 d0 c0 r1 s1 A1 d1 c1 x2 x3 w lo0 hi0 lo1 hi1 h0.rg h1.rg hl0 hl1 rr0 rs0 res0 res1 h
theorem simpl_PullbackAt (r0 s0 : Int) (A0 : Option Addr) (d0 : List Ed) (c0 : Nat) (r1 s1 : Int) (A1 : Option Addr) (d1 : List Ed) (c1 : Nat) (x2 : Int) (x3 : Int) (w : World) (lo0 hi0 : Nat) (h0 : OG w lo0 hi0 A0 c0 d0) (hl0 : d0.length ≤ 1048576) (lo1 hi1 : Nat) (h1 : OG w lo1 hi1 A1 c1 d1) (hl1 : d1.length ≤ 1048576) (o2 : (Lit.int .i64 x2).wf = true) (o3 : (Lit.int .i64 x3).wf = true) (rr0 rs0 : Int) (res0 : List Ed) (res1 : Bool) (h : PullbackAtIs r0 s0 d0 r1 s1 d1 x2 x3 rr0 rs0 res0 res1) :
    Calls Try.prog 12 #[.agg #[.int .i64 r0, .int .i64 s0, .slice A0 d0.length c0], .agg #[.int .i64 r1, .int .i64 s1, .slice A1 d1.length c1], .int .i64 x2, .int .i64 x3] w fun e w' => ∃ (A : Option Addr) (c : Nat), e = .returned (.tuple #[.agg #[.int .i64 rr0, .int .i64 rs0, .slice A res0.length c], .bool res1]) ∧ OG w' w.heap.size w'.heap.size A c res0 ∧ Mid 0 0 w w' :=
  impl_PullbackAt r0 s0 A0 d0 c0 r1 s1 A1 d1 c1 x2 x3 w lo0 hi0 lo1 hi1 h0.rg h1.rg hl0 hl1 h0.cnt.1 h1.cnt.1 rr0 rs0 res0 res1 h
end Go.Proofs.Ytimmnnncgnnkgaa

/- Opening of a morphism that came in. -/
namespace Go.Proofs.Ytimmnnncgnnkgaa
set_option linter.unusedVariables false
open Go.ChangeShapes Go.WideShapes Go.ChangeAt Go.RowKit
open Go.Joins
theorem cellsSI : Try.prog.cellsOf 37 = 1 := by kernel_rfl
set_option maxRecDepth 100000 in
theorem open_morph {H : Type} {enc : TypeId × Value → H} {W : World} {r : Reach} {base : Nat} {v : Value} {d : DataW H} {ps : List MemPlace}
    (hok : Value.okWide Try.prog W r base 50 v) (h : DataW.Trod enc Try.prog W 0 (fun _ => true) true 50 v d ps) :
    ∃ m A xss c, v = .agg #[.int .i64 m, .slice A (List.length xss) c] ∧ (Lit.int .i64 m).wf = true ∧ RSS W 0 W.heap.size A xss ∧ OkSS xss := by
  obtain ⟨v0, v1, y0, y1, n, rfl, -, -, h0, h1⟩ := open_agg2 Try.underlying50 (by kernel_rfl) (by kernel_rfl) hok h
  have h0' : DataW.trod enc Try.prog W 0 (fun _ => true) true n 3 [v0] = some y0 := h0
  have h1' : DataW.trod enc Try.prog W 0 (fun _ => true) true n 48 [v1] = some y1 := h1
  clear h0 h1
  obtain ⟨m, hm, -, hw⟩ := DataW.trod_int undI h0'
  obtain ⟨A, l, c, hs⟩ := slice_form undSSI h1'
  simp at hm hs
  subst hm hs
  obtain ⟨xss, rfl, ha, hb⟩ := rss_of_cells undSSI undSI undI cellsSI cellsI h1'
  exact ⟨m, A, xss, c, rfl, hw, ha, hb⟩
end Go.Proofs.Ytimmnnncgnnkgaa

/- Opening of a graph that came in: its edges read as a list. -/
namespace Go.Proofs.Ytimmnnncgnnkgaa
set_option linter.unusedVariables false
set_option linter.unusedSimpArgs false
open Go.ChangeShapes Go.WideShapes Go.ChangeAt Go.RowKit
open Go.Joins Go.Deep

abbrev tEL : TypeId := 106
theorem cellsEL : Try.prog.cellsOf 106 = 3 := by kernel_rfl
theorem undSEL : Try.prog.underlying 22 = some (.slice 106) := by kernel_rfl
theorem fields3 {H : Type} {enc : TypeId × Value → H} {P : Program} {w : World} {base : Nat} {spare : Nat → Bool} {held : Bool} {t : TypeId} {fs : Array Field} {fuel : Nat} {cs : List Value} {x : DataW H × List MemPlace}
    (ht : P.underlying t = some (.struct fs)) (hone : oneCellFields P fs = true) (h : DataW.trod enc P w base spare held fuel t cs = some x) (hl : cs.length = fs.size) :
    ∃ n, ∀ (j : Nat) (f : Field), fs[j]? = some f → ∃ v y, cs[j]? = some v ∧ DataW.trod enc P w base spare held n f.type [v] = some y := by
  obtain ⟨ys, n', hn', hy, hlen, hyl, hf⟩ := DataW.trod_struct ht h
  refine ⟨n', fun j f hj => ?_⟩
  obtain ⟨ho, hk⟩ := hone_of hone j f hj
  have hjl : j < fs.size := (Array.getElem?_eq_some_iff.1 hj).1
  have h1 := hf j f hj
  rw [ho, hk] at h1
  have h2 : (cs.drop j).take 1 = [cs[j]] := by
    rw [List.drop_eq_getElem_cons (by omega)]
    rfl
  rw [h2] at h1
  exact ⟨cs[j], ys[j], List.getElem?_eq_getElem (by omega), h1.trans (List.getElem?_eq_getElem (by omega))⟩
set_option maxRecDepth 100000 in
theorem edge_cells {H : Type} {enc : TypeId × Value → H} {W : World} {a : Addr} {n : Nat} {cs : List Value} {x : DataW H × List MemPlace}
    (hc : W.cells? 0 a 3 = some cs) (h : DataW.trod enc Try.prog W 0 (fun _ => true) true n 106 cs = some x) :
    ∃ e : Ed, W.cell? a = some (.int .i64 e.a) ∧ W.cell? (a.add 1) = some (.int .i64 e.l) ∧ W.cell? (a.add 2) = some (.int .i64 e.b) ∧ OkI (edI [e]) := by
  obtain ⟨_, hcl, hat⟩ := World.cells?_some hc
  obtain ⟨n', hf⟩ := fields3 Try.underlying106 (by kernel_rfl) h (by rw [hcl]; rfl)
  have h0 := hf 0 _ rfl
  have h1 := hf 1 _ rfl
  have h2 := hf 2 _ rfl
  obtain ⟨v0, y0, g0, t0⟩ := h0
  obtain ⟨v1, y1, g1, t1⟩ := h1
  obtain ⟨v2, y2, g2, t2⟩ := h2
  obtain ⟨m0, hm0, -, w0⟩ := DataW.trod_int undI t0
  obtain ⟨m1, hm1, -, w1⟩ := DataW.trod_int undI t1
  obtain ⟨m2, hm2, -, w2⟩ := DataW.trod_int undI t2
  simp at hm0 hm1 hm2
  subst hm0 hm1 hm2
  refine ⟨⟨m0, m1, m2⟩, ?_, ?_, ?_, ?_⟩
  · have := hat 0 (by omega)
    rw [show a.add 0 = a by simp [Addr.add]] at this
    rw [this, g0]
  · rw [hat 1 (by omega), g1]
  · rw [hat 2 (by omega), g2]
  · rw [edI_one]
    intro x hx
    simp at hx
    rcases hx with rfl | rfl | rfl
    · exact wf_bounds w0
    · exact wf_bounds w1
    · exact wf_bounds w2
theorem okI_edI {es : List Ed} (h : ∀ e ∈ es, OkI (edI [e])) : OkI (edI es) := by
  induction es with
  | nil => intro x hx; simp [edI] at hx
  | cons e t ih =>
    intro x hx
    rw [show e :: t = [e] ++ t from rfl, edI_append] at hx
    rcases List.mem_append.1 hx with hx | hx
    · exact h e (by simp) x hx
    · exact ih (fun f hf => h f (by simp [hf])) x hx
theorem edges_of_cells {H : Type} {enc : TypeId × Value → H} {W : World} {fuel : Nat} {A : Option Addr} {len c : Nat} {x : DataW H × List MemPlace}
    (h : DataW.trod enc Try.prog W 0 (fun _ => true) true fuel 22 [.slice A len c] = some x) : ∃ es : List Ed, len = es.length ∧ RG W 0 W.heap.size A es ∧ OkI (edI es) ∧ es.length ≤ 9223372036854775807 := by
  rcases open_slice undSEL h with ⟨hcs, _⟩ | ⟨a, len', cap, m, n, D, Pl, hcs, _, hl, hm, hmm, -, hi⟩
  · simp at hcs
    obtain ⟨rfl, rfl, rfl⟩ := hcs
    exact ⟨[], rfl, ⟨Nat.le_refl _, fun hn => absurd rfl hn⟩, fun x hx => by simp [edI] at hx, by simp⟩
  · simp at hcs
    obtain ⟨rfl, rfl, rfl⟩ := hcs
    simp at hmm
    subst hmm
    have hx : ∀ i, ∃ e : Ed, i < len → (W.cell? (a.add (i * 3)) = some (.int .i64 e.a) ∧ W.cell? ((a.add (i * 3)).add 1) = some (.int .i64 e.l) ∧ W.cell? ((a.add (i * 3)).add 2) = some (.int .i64 e.b) ∧ OkI (edI [e])) := by
      intro i
      by_cases hil : i < len
      · obtain ⟨cs', hc, ht'⟩ := hi i (by omega)
        rw [cellsEL] at hc
        obtain ⟨e, he⟩ := edge_cells hc ht'
        exact ⟨e, fun _ => he⟩
      · exact ⟨⟨0, 0, 0⟩, fun h => absurd h hil⟩
    obtain ⟨f, hf⟩ := Classical.axiomOfChoice hx
    refine ⟨(List.range len).map f, by simp, ⟨Nat.le_refl _, fun hne => ?_⟩, ?_, by unfold maxLen at hm; simp; omega⟩
    · have hp : 0 < len := by
        rcases Nat.eq_zero_or_pos len with h0 | h0
        · subst h0
          simp [ints, edI] at hne
        · exact h0
      have h0 := (hf 0 hp).1
      obtain ⟨b, off, spot⟩ := a
      have hspot : spot = none := by simpa [Addr.add] using World.cell?_spot h0
      subst hspot
      refine ⟨b, off, rfl, Nat.zero_le _, ?_, fun j u hu => ?_⟩
      · have := World.block_lt_of_cell? _ _ h0
        simpa [Addr.add] using this
      · have hj : j < len * 3 := by
          have := (List.getElem?_eq_some_iff.1 hu).1
          rw [ints_len, edI_len] at this
          simpa using this
        obtain ⟨k, r, hr, rfl⟩ : ∃ k r, r < 3 ∧ j = k * 3 + r := ⟨j / 3, j % 3, by omega, by omega⟩
        obtain ⟨c0, c1, c2, -⟩ := hf k (by omega)
        have hg : ((List.range len).map f)[k]? = some (f k) := by
          rw [List.getElem?_map, List.getElem?_range (by omega)]
          rfl
        obtain ⟨g0, g1, g2⟩ := edI_at hg
        rw [Addr.add_lit] at c0
        rw [Addr.add_lit, Addr.add_lit] at c1 c2
        rw [ints_get] at hu
        rcases r with _ | _ | _ | r
        · rw [Nat.add_zero, g0] at hu
          rw [Nat.add_zero, c0]
          simpa using hu
        · rw [g1] at hu
          rw [← Nat.add_assoc, c1]
          simpa using hu
        · rw [g2] at hu
          rw [← Nat.add_assoc, c2]
          simpa using hu
        · omega
    · refine okI_edI fun e he => ?_
      obtain ⟨i, hi', rfl⟩ := List.mem_map.1 he
      exact (hf i (by simpa using hi')).2.2.2
set_option maxRecDepth 100000 in
theorem open_graph {H : Type} {enc : TypeId × Value → H} {W : World} {r : Reach} {base : Nat} {v : Value} {d : DataW H} {ps : List MemPlace}
    (hok : Value.okWide Try.prog W r base 24 v) (h : DataW.Trod enc Try.prog W 0 (fun _ => true) true 24 v d ps) :
    ∃ m s A es c, v = .agg #[.int .i64 m, .int .i64 s, .slice A (List.length es) c] ∧ (Lit.int .i64 m).wf = true ∧ (Lit.int .i64 s).wf = true ∧ RG W 0 W.heap.size A es ∧ OkI (edI es) ∧ es.length ≤ 9223372036854775807 := by
  obtain ⟨v0, v1, v2, y0, y1, y2, n, rfl, -, -, h0, h1, h2⟩ := open_agg3 Try.underlying24 (by kernel_rfl) (by kernel_rfl) hok h
  have h0' : DataW.trod enc Try.prog W 0 (fun _ => true) true n 3 [v0] = some y0 := h0
  have h1' : DataW.trod enc Try.prog W 0 (fun _ => true) true n 3 [v1] = some y1 := h1
  have h2' : DataW.trod enc Try.prog W 0 (fun _ => true) true n 22 [v2] = some y2 := h2
  clear h0 h1 h2
  obtain ⟨m, hm, -, hw⟩ := DataW.trod_int undI h0'
  obtain ⟨s, hs, -, hw'⟩ := DataW.trod_int undI h1'
  obtain ⟨A, l, c, hsl⟩ := slice_form undSEL h2'
  simp at hm hs hsl
  subst hm hs hsl
  obtain ⟨es, rfl, ha, hb, hc⟩ := edges_of_cells h2'
  exact ⟨m, s, A, es, c, rfl, hw, hw', ha, hb, hc⟩
end Go.Proofs.Ytimmnnncgnnkgaa
