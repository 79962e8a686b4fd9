
/- CompleteGraph, the program. -/
import Derived.Test.YtkcfbcbkokabdaaG21
import Derived.Test.YtkcfbcbkokabdaaG15
import Derived.Test.YtkcfbcbkokabdaaM14
namespace Go.Proofs.Ytkcfbcbkokabdaa
set_option linter.unusedVariables false
set_option linter.unusedSimpArgs false
open Go.RowKit

/-- Two rows of numbers of the call's own, in two blocks. -/
structure TwoI (w : World) (lo : Nat) (F T : Value) (n m : Nat) (xs ys : List Int) : Prop where
  f : w.ownsRow lo 3 1 F n (ints xs)
  t : w.ownsRow lo 3 1 T m (ints ys)
  ne : F.ownBlock ≠ T.ownBlock
theorem TwoI.swap {w : World} {lo : Nat} {F T : Value} {n m : Nat} {xs ys : List Int} (h : TwoI w lo F T n m xs ys) : TwoI w lo T F m n ys xs := ⟨h.t, h.f, fun e => h.ne e.symm⟩
theorem TwoI.push {w w' : World} {lo : Nat} {F T F' : Value} {n m n' : Nat} {xs ys xs' : List Int} (h : TwoI w lo F T n m xs ys) (ho : w'.ownsRow lo 3 1 F' n' (ints xs')) (hg : w.grownBy w' F.ownBlock) (hb : F'.ownBlock = F.ownBlock ∨ F'.ownBlock = some (w.heap.size + 1)) : TwoI w' lo F' T n' m xs' ys := by
  refine ⟨ho, h.t.kept hg ?_, fun e => ?_⟩
  · cases hT : T.ownBlock with
    | none => exact .inl rfl
    | some j => exact .inr fun e => h.ne (by rw [hT]; exact e.symm)
  · rcases hb with hb | hb
    · exact h.ne (hb.symm.trans e)
    · have := (h.t.lt (w.heap.size + 1) (by rw [← e, hb])).2
      omega
theorem TwoI.mid {w w' : World} {lo a b : Nat} {F T : Value} {n m : Nat} {xs ys : List Int} (h : TwoI w lo F T n m xs ys) (hm : Mid a b w w') (hd : b ≤ lo) : TwoI w' lo F T n m xs ys := ⟨owns_mid h.f hm (Or.inl hd), owns_mid h.t hm (Or.inl hd), h.ne⟩
theorem TwoI.cellF {w : World} {lo b off n c m j : Nat} {T : Value} {xs ys : List Int} {y : Int} (h : TwoI w lo (.slice (some ⟨b, off, none⟩) n c) T n m xs ys) (hj : xs[j]? = some y) : w.cell? ⟨b, off + j, none⟩ = some (.int .i64 y) := by
  obtain ⟨b', off', hA, -, -, hc⟩ := (owns_rv h.f).2 (by intro h0; simp [ints] at h0; subst h0; simp at hj)
  injection hA with hA
  injection hA with h1 h2
  subst h1 h2
  exact hc j _ (by simp [ints, hj])
theorem TwoI.grownE {w w' : World} {lo lo' : Nat} {F T v : Value} {n m k : Nat} {xs ys : List Int} {es : List Ed} (h : TwoI w lo F T n m xs ys) (he : w.ownsRow lo' 48 3 v k (ints (edI es))) (hg : w.grownBy w' v.ownBlock) : TwoI w' lo F T n m xs ys := by
  refine ⟨h.f.kept hg ?_, h.t.kept hg ?_, h.ne⟩
  · rcases owns_ne h.f he (by decide) with h1 | h1
    · exact .inl h1
    · exact .inr h1
  · rcases owns_ne h.t he (by decide) with h1 | h1
    · exact .inl h1
    · exact .inr h1
section
variable {W : World} {ops : Array Oper} {rest : List Oper} {o : Oper} {a : Act} {Q : Exit → Act → World → Prop}
theorem wpList_push2 (hgd : o.guard = none) (s x : Operand)
    (ho : o.op = .call { callee := .builtin .append, args := #[s, x], argTypes := #[41, 41] }) (lo : Nat) (A : Option Addr) (n c : Nat) (xs : List Int) (T : Value) (m : Nat) (ys : List Int) (hs : a.eval s = .slice A n c)
    (h2 : TwoI W lo (.slice A n c) T n m xs ys) (y : Int) (hx : a.eval x = .slice (some ⟨W.heap.size, 0, none⟩) 1 1) (hn : n ≤ 1048576) (hb : lo ≤ W.heap.size)
    (h : ∀ A' c' w', TwoI w' lo (.slice A' (n + 1) c') T (n + 1) m (xs ++ [y]) ys → Mid lo W.heap.size W w' → wpList Try.prog ops Q rest (a.put o.dst (.slice A' (n + 1) c')) w') :
    wpList Try.prog ops Q (o :: rest) a (W.alloc (.cells #[.int .i64 y] 3)) := by
  refine wpList_push (news := [.int .i64 y]) hgd s x 41 ho lo 3 (.int .i64 0) 1 8 undSI infoI rfl (by decide) (.slice A n c) n (ints xs) hs h2.f 1 hx rfl ?_ (by unfold maxLen; omega) (by omega) hb ?_
  · intro u hu
    simp at hu
    subst hu
    rfl
  · intro v' w' h3 h4 h5
    obtain ⟨A', c', rfl, -, -⟩ := owns_shape h3
    refine h A' c' w' (h2.push ?_ h4 h5) (Mid.of_grownRow h2.f h4)
    rw [ints_append]
    exact h3
theorem wpList_pushE2 (hgd : o.guard = none) (s x : Operand)
    (ho : o.op = .call { callee := .builtin .append, args := #[s, x], argTypes := #[27, 27] }) (lo : Nat) (A : Option Addr) (n c : Nat) (es : List Ed) (hs : a.eval s = .slice A n c)
    (hown : W.ownsRow lo 48 3 (.slice A n c) n (ints (edI es))) (e : Ed) (hx : a.eval x = .slice (some ⟨W.heap.size, 0, none⟩) 1 1) (hn : n ≤ 1048576) (hb : lo ≤ W.heap.size)
    (h : ∀ A' c' w', w'.ownsRow lo 48 3 (.slice A' (n + 1) c') (n + 1) (ints (edI (es ++ [e]))) → W.grownBy w' (Value.ownBlock (.slice A n c)) → (Value.ownBlock (.slice A' (n + 1) c') = Value.ownBlock (.slice A n c) ∨ Value.ownBlock (.slice A' (n + 1) c') = some (W.heap.size + 1)) → wpList Try.prog ops Q rest (a.put o.dst (.slice A' (n + 1) c')) w') :
    wpList Try.prog ops Q (o :: rest) a (W.alloc (.cells #[.int .i64 e.a, .int .i64 e.l, .int .i64 e.b] 48)) := by
  refine wpList_push (news := [.int .i64 e.a, .int .i64 e.l, .int .i64 e.b]) hgd s x 27 ho lo 48 (.agg #[.int .i64 0, .int .i64 0, .int .i64 0]) 3 24 undSE infoE rfl (by decide) (.slice A n c) n (ints (edI es)) hs hown 1 hx rfl ?_ (by unfold maxLen; omega) (by omega) hb ?_
  · intro u hu
    simp at hu
    rcases hu with rfl | rfl | rfl <;> rfl
  · intro v' w' h1 h2 h3
    obtain ⟨A', c', rfl, -, -⟩ := owns_shape h1
    refine h A' c' w' ?_ h2 h3
    rw [edI_append, ints_append, edI_one]
    exact h1
end

/-- What CompleteGraph gives. -/
def CompleteIs (r s : Int) (es : List Ed) (rr rs : Int) (res : List Ed) (b : Bool) : Prop :=
  (b = true ∧ IsFol r s es ∧ rr = r ∧ rs = s ∧ res = canon (es ++ addLs s es r.toNat)) ∨ (b = false ∧ ¬ IsFol r s es ∧ rr = 0 ∧ rs = 0 ∧ res = [])
theorem CompleteIs.no {r s : Int} {es : List Ed} {rr rs : Int} {res : List Ed} {b : Bool} (h : CompleteIs r s es rr rs res b) (hn : ¬ IsFol r s es) : b = false ∧ rr = 0 ∧ rs = 0 ∧ res = [] := by
  rcases h with ⟨-, h, -⟩ | ⟨h1, -, h2⟩
  · exact absurd h hn
  · exact ⟨h1, h2⟩
theorem CompleteIs.yes {r s : Int} {es : List Ed} {rr rs : Int} {res : List Ed} {b : Bool} (h : CompleteIs r s es rr rs res b) (hn : IsFol r s es) : b = true ∧ rr = r ∧ rs = s ∧ res = canon (es ++ addLs s es r.toNat) := by
  rcases h with ⟨h1, -, h2⟩ | ⟨-, h, -⟩
  · exact ⟨h1, h2⟩
  · exact absurd hn h

set_option maxHeartbeats 6400000 in
set_option maxRecDepth 100000 in
theorem impl_CompleteGraph (r s : Int) (A : Option Addr) (es : List Ed) (c : Nat) (w : World) (lo hi : Nat)
    (hr : RG w lo hi A es) (hl : es.length ≤ 1048576) (hcl : es.length ≤ c) (rr rs : Int) (res : List Ed) (b : Bool) (hres : CompleteIs r s es rr rs res b) :
    Calls Try.prog 20 #[graV r s A es.length c] w fun e w' => ∃ A1 c1, e = .returned (.tuple #[graV rr rs A1 res.length c1, .bool b]) ∧ OG w' w.heap.size w'.heap.size A1 c1 res ∧ Mid 0 0 w w' := by
  have HR := Lib.hid hres
  clear hres
  obtain ⟨b1, hb1⟩ := bool_of (IsFol r s es)
  have H1 := Lib.hid hb1
  clear hb1
  have hm0 : Mid 0 0 w ((w.alloc (.cells #[.int .i64 r, .int .i64 s, .slice A es.length c] 29)).alloc (.cells #[.int .i64 0, .int .i64 0, .slice none 0 0] 29)) := (Mid.alloc _ _).trans (Mid.alloc _ _)
  have B0 := (Box.new w #[.int .i64 r, .int .i64 s, .slice A es.length c] 29).mid (Mid.alloc _ (.cells #[.int .i64 0, .int .i64 0, .slice none 0 0] 29)) (Or.inr (Nat.zero_le _))
  have B2 := Box.new (w.alloc (.cells #[.int .i64 r, .int .i64 s, .slice A es.length c] 29)) #[.int .i64 0, .int .i64 0, .slice none 0 0] 29
  simp only [World.size_alloc] at B2
  go_enter Try.func20, Try.ntmps20
  go_wp2_with fail
  generalize hw1 : ((w.alloc (.cells #[.int .i64 r, .int .i64 s, .slice A es.length c] 29)).alloc (.cells #[.int .i64 0, .int .i64 0, .slice none 0 0] 29)) = w1 at hm0 B0 B2 ⊢
  have hs1 : w1.heap.size = w.heap.size + 1 + 1 := by rw [← hw1]; simp
  have HS := Lib.hid hs1
  clear hw1 hs1
  with_reducible refine (impl_IsFolded r s A es c _ _ _ (hr.mid hm0 (Or.inl (Nat.zero_le _))) hl hcl b1 H1.out).mono ?_
  rintro en w2 ⟨rfl, hm2⟩
  have C0 := B0.mid hm2 (Or.inr (Nat.zero_le _))
  have C2 := B2.mid hm2 (Or.inr (Nat.zero_le _))
  have p0 := C0.cell 0 rfl
  have p1 := C0.cell 1 rfl
  have p2 := C0.cell 2 rfl
  have z0 := C2.cell 0 rfl
  have z1 := C2.cell 1 rfl
  have z2 := C2.cell 2 rfl
  have zf := C2.2.2
  have hm := hm0.trans hm2
  cases b1 with
  | false =>
    have hno : ¬ IsFol r s es := fun h => by have := H1.out.2 h; cases this
    obtain ⟨rfl, rfl, rfl, rfl⟩ := HR.out.no hno
    go_wp2_with fail
    refine bodyPost_ret (v := .tuple #[.agg #[.int .i64 0, .int .i64 0, .slice none 0 0], .bool false]) (by simp [results, Try.results20, go_sem, z0, z1, z2, zf]) rfl ⟨none, 0, rfl, OG.nil, ?_⟩
    repeat (first | exact hm | refine Mid.storeNew ?_ (by simp; try omega) _)
  | true =>
  have F1 := Lib.hid (H1.out.1 rfl)
  have hg := F1.out.gr
  have g1 := hg.rank
  have g2 := hg.size
  have g3 := hg.len
  obtain ⟨rfl, hrr, hrs, hre⟩ := HR.out.yes F1.out
  have HRR := Lib.hid hrr
  have HRS := Lib.hid hrs
  have HRE := Lib.hid hre
  have hmul : 0 ≤ s * r ∧ s * r ≤ 120 := ⟨Int.mul_nonneg (by omega) (by omega), by have := Int.mul_le_mul (show s ≤ 40 by omega) (show r ≤ 3 by omega) (by omega) (by omega); omega⟩
  have hmd : decide (120 < s * r) = false := by simp; omega
  clear B0 B2 HR H1 hrr hrs hre hg
  go_wp2_with fail
  with_reducible refine (impl_copyGraph r s A es c _ _ _ (hr.mid hm (Or.inl (Nat.zero_le _))) hl).mono ?_
  rintro en w4 ⟨A1, c1, rfl, ho4, hm4⟩
  have E0 := C0.mid hm4 (Or.inr (Nat.zero_le _))
  have E2 := C2.mid hm4 (Or.inr (Nat.zero_le _))
  have hal := Mid.alloc w4 (.cells #[.int .i64 r, .int .i64 s, .slice A1 es.length c1] 29)
  have Y0 := E0.mid hal (Or.inr (Nat.zero_le _))
  have Y2 := E2.mid hal (Or.inr (Nat.zero_le _))
  have Y3 := Box.new w4 #[.int .i64 r, .int .i64 s, .slice A1 es.length c1] 29
  have hzs := hm4.size
  have hmy := (hm.trans hm4).trans hal
  have ho5 := (ho4.mid hal (Or.inl (Nat.zero_le _))).ov.2.1
  have hlt4 := ho4.ov.2.2
  clear p0 p1 p2 z0 z1 z2 zf C0 C2
  have hz0 := E0.1
  have hz2 := E2.1
  clear E0 E2
  have hb4 : Value.ownBlock (.slice A1 es.length c1) ≠ some w4.heap.size := fun h => by have := hlt4 _ h; omega
  have hw2 : w.heap.size ≤ w2.heap.size := hm.size
  have hw22 : w.heap.size + 2 ≤ w2.heap.size := by have h1 := HS.out; have h2 := hm2.size; omega
  go_wp2_with fail
  generalize hw5 : w4.alloc (.cells #[.int .i64 r, .int .i64 s, .slice A1 es.length c1] 29) = w5 at Y0 Y2 Y3 hmy ho5 ⊢
  have hs5 : w4.heap.size + 1 ≤ w5.heap.size := by rw [← hw5]; simp
  clear hw5 hal
  have hGw : w.heap.size + 1 < w4.heap.size := by have := HS.out; have := hm2.size; omega
  have hG2 : w2.heap.size ≤ w4.heap.size := hzs
  generalize hG : w4.heap.size = G at Y3 hb4 hs5 hGw hG2 ⊢
  have hgl : ∀ e ∈ es, 1 ≤ e.l ∧ e.l ≤ 3 := fun e he => by have := F1.out.gr.all e he; unfold InG at this; omega
  clear hG hm2 hm4 hm0 hlt4 hz0 hz2 hzs ho4 HS hm
  go_loopw [5] (fun x wr => ∃ (k : Nat) (A2 : Option Addr) (n2 c2 : Nat), (k : Int) ≤ r ∧ x = .int .i64 ((k : Int) + 1) ∧ Hid ((es ++ addLs s es k).length = n2) ∧
      wr.ownsRow w2.heap.size 48 3 (.slice A2 n2 c2) n2 (ints (edI (es ++ addLs s es k))) ∧ Value.ownBlock (.slice A2 n2 c2) ≠ some G ∧
      Box wr w.heap.size [.int .i64 r, .int .i64 s, .slice A es.length c] ∧ Box wr (w.heap.size + 1) [.int .i64 0, .int .i64 0, .slice none 0 0] ∧
      Box wr G [.int .i64 r, .int .i64 s, .slice A2 n2 c2] ∧ Mid 0 0 w wr) (fun x _ => (r + 1 - intOf x).toNat)
  case atStart => exact ⟨0, A1, es.length, c1, by omega, rfl, Lib.hid (by simp [addLs]), by simpa [addLs] using ho5, hb4, Y0, Y2, Y3, hmy⟩
  case round =>
    obtain ⟨wo, hwo⟩ : ∃ wo, wo = wr := ⟨_, rfl⟩
    subst hwo
    obtain ⟨k, A2, n2, c2, hk, rfl, HN, hown, hbk, Z0, Z2, Z3, hmr⟩ := hrel
    have hGo : G < wo.heap.size := Z3.1
    have p0 := Z0.cell 0 rfl
    have p1 := Z0.cell 1 rfl
    have p2 := Z0.cell 2 rfl
    by_cases hlt : (k : Int) < r
    · have hkx : (k : Int) + 1 ≤ r := by omega
      have hk0 : (0 : Int) < (k : Int) + 1 := by omega
      have hal := (Mid.alloc wo (.cells #[] 3)).trans (Mid.alloc (wo.alloc (.cells #[] 3)) (.cells #[] 3))
      have T0 : TwoI ((wo.alloc (.cells #[] 3)).alloc (.cells #[] 3)) wo.heap.size (.slice (some ⟨wo.heap.size, 0, none⟩) 0 0) (.slice (some ⟨wo.heap.size + 1, 0, none⟩) 0 0) 0 0 [] [] := by
        have O1 := owns_empty wo 3 1
        have O2 := owns_empty (wo.alloc (.cells #[] 3)) 3 1
        rw [World.size_alloc] at O2
        refine ⟨O1.alloc _, owns_base O2 (Nat.le_succ _), ?_⟩
        intro h
        simp [Value.ownBlock] at h
      go_wp2_with fail
      go_loopw [6, 7, 8] (fun f t v wr => ∃ (j : Nat) (AF : Option Addr) (nF cF : Nat) (AT : Option Addr) (nT cT : Nat), (j : Int) ≤ s ∧ v = .int .i64 j ∧ f = .slice AF nF cF ∧ t = .slice AT nT cT ∧ Hid ((freeV es ((k : Int) + 1) j).length = nF) ∧ Hid ((freeV es (-((k : Int) + 1)) j).length = nT) ∧
        Hid (TwoI wr wo.heap.size (.slice AF nF cF) (.slice AT nT cT) nF nT (freeV es ((k : Int) + 1) j) (freeV es (-((k : Int) + 1)) j)) ∧ Mid 0 0 wo wr) (fun _ _ v _ => (s - intOf v).toNat)
      case atStart => exact ⟨0, _, 0, 0, _, 0, 0, by omega, rfl, rfl, rfl, Lib.hid rfl, Lib.hid rfl, Lib.hid T0, hal⟩
      case round =>
        obtain ⟨j, AF, nF, cF, AT, nT, cT, hj, rfl, rfl, rfl, HNF, HNT, HT, hmx⟩ := hrel
        have hnF : nF ≤ 40 := by have h1 := freeV_le es ((k : Int) + 1) j; have h2 := HNF.out; omega
        have hnT : nT ≤ 40 := by have h1 := freeV_le es (-((k : Int) + 1)) j; have h2 := HNT.out; omega
        have X0 := Z0.mid hmx (Or.inr (Nat.zero_le _))
        have q0 := X0.cell 0 rfl
        have q1 := X0.cell 1 rfl
        have q2 := X0.cell 2 rfl
        by_cases hlt2 : (j : Int) < s
        · have hS1 := freeV_succ es ((k : Int) + 1) j
          have hS2 := freeV_succ es (-((k : Int) + 1)) j
          go_wp2_with fail
          with_reducible refine (impl_NextVertex r s A es c j ((k : Int) + 1) _ lo hi (hr.mid (hmr.trans hmx) (Or.inl (Nat.zero_le _))) (by omega) hgl (by omega) (by omega)).mono ?_
          rintro en w6 ⟨rfl, hm6⟩
          generalize hv1 : nextV es (j : Int) ((k : Int) + 1) = v1 at hS1 ⊢
          have X1 := X0.mid hm6 (Or.inr (Nat.zero_le _))
          clear q0 q1 q2
          have q0 := X1.cell 0 rfl
          have q1 := X1.cell 1 rfl
          have q2 := X1.cell 2 rfl
          have hmx6 := hmx.trans hm6
          have hsz6 := hmx6.size
          have HT6 := Lib.hid (HT.out.mid hm6 (Nat.zero_le _))
          have hwo : w.heap.size < wo.heap.size := Z0.1
          by_cases c1 : v1 < 0
          · have b1 : decide (v1 < 0) = true := by simpa using c1
            rw [if_pos c1] at hS1
            go_wp2_with (at_builtin; refine wpList_push2 rfl _ _ rfl wo.heap.size AF nF cF _ _ _ _ rfl HT6.out j rfl (by omega) hsz6 ?_; intro A7 c7 w7 ht7 hm7; have X2 := X1.mid hm7 (Or.inl hwo); have z0 := X2.cell 0 rfl; have z1 := X2.cell 1 rfl; have z2 := X2.cell 2 rfl)
            with_reducible refine (impl_NextVertex r s A es c j (-((k : Int) + 1)) _ lo hi (hr.mid (hmr.trans (hmx6.transNew hm7 (Or.inl (Nat.le_refl _)))) (Or.inl (Nat.zero_le _))) (by omega) hgl (by omega) (by omega)).mono ?_
            rintro en w8 ⟨rfl, hm8⟩
            generalize hv2 : nextV es (j : Int) (-((k : Int) + 1)) = v2 at hS2 ⊢
            have hmx8 := ((hmx6.transNew hm7 (Or.inl (Nat.le_refl _)))).trans hm8
            have hsz8 := hmx8.size
            have HT8 := Lib.hid ((ht7).mid hm8 (Nat.zero_le _))
            by_cases c2 : v2 < 0
            · have b2 : decide (v2 < 0) = true := by simpa using c2
              rw [if_pos c2] at hS2
              clear hv2 c2 hv1
              go_wp2_with (at_builtin; refine wpList_push2 rfl _ _ rfl wo.heap.size AT nT cT _ _ _ _ rfl HT8.out.swap j rfl (by omega) hsz8 ?_; intro A9 c9 w9 ht9 hm9)
              go_roundw
              case rel => exact ⟨j + 1, A7, nF + 1, c7, A9, nT + 1, c9, by omega, by go_num, rfl, rfl, Lib.hid (by rw [hS1, List.length_append, HNF.out]; rfl), Lib.hid (by rw [hS2, List.length_append, HNT.out]; rfl), Lib.hid (by rw [hS1, hS2]; exact ht9.swap), hmx8.transNew hm9 (Or.inl (Nat.le_refl _))⟩
              case measure => simp [intOf]; omega
            · have b2 : decide (v2 < 0) = false := by simpa using c2
              rw [if_neg c2] at hS2
              clear hv2 c2 hv1
              go_wp2_with fail
              go_roundw
              case rel => exact ⟨j + 1, A7, nF + 1, c7, AT, nT, cT, by omega, by go_num, rfl, rfl, Lib.hid (by rw [hS1, List.length_append, HNF.out]; rfl), Lib.hid (by rw [hS2, List.append_nil, HNT.out]), Lib.hid (by rw [hS1, hS2, List.append_nil]; exact HT8.out), hmx8⟩
              case measure => simp [intOf]; omega
          · have b1 : decide (v1 < 0) = false := by simpa using c1
            rw [if_neg c1] at hS1
            have X2 := X1
            clear q0 q1 q2
            have q0 := X2.cell 0 rfl
            have q1 := X2.cell 1 rfl
            have q2 := X2.cell 2 rfl
            go_wp2_with fail
            with_reducible refine (impl_NextVertex r s A es c j (-((k : Int) + 1)) _ lo hi (hr.mid (hmr.trans hmx6) (Or.inl (Nat.zero_le _))) (by omega) hgl (by omega) (by omega)).mono ?_
            rintro en w8 ⟨rfl, hm8⟩
            generalize hv2 : nextV es (j : Int) (-((k : Int) + 1)) = v2 at hS2 ⊢
            have hmx8 := (hmx6).trans hm8
            have hsz8 := hmx8.size
            have HT8 := Lib.hid ((HT6.out).mid hm8 (Nat.zero_le _))
            by_cases c2 : v2 < 0
            · have b2 : decide (v2 < 0) = true := by simpa using c2
              rw [if_pos c2] at hS2
              clear hv2 c2 hv1
              go_wp2_with (at_builtin; refine wpList_push2 rfl _ _ rfl wo.heap.size AT nT cT _ _ _ _ rfl HT8.out.swap j rfl (by omega) hsz8 ?_; intro A9 c9 w9 ht9 hm9)
              go_roundw
              case rel => exact ⟨j + 1, AF, nF, cF, A9, nT + 1, c9, by omega, by go_num, rfl, rfl, Lib.hid (by rw [hS1, List.append_nil, HNF.out]), Lib.hid (by rw [hS2, List.length_append, HNT.out]; rfl), Lib.hid (by rw [hS1, hS2]; rw [List.append_nil]; exact ht9.swap), hmx8.transNew hm9 (Or.inl (Nat.le_refl _))⟩
              case measure => simp [intOf]; omega
            · have b2 : decide (v2 < 0) = false := by simpa using c2
              rw [if_neg c2] at hS2
              clear hv2 c2 hv1
              go_wp2_with fail
              go_roundw
              case rel => exact ⟨j + 1, AF, nF, cF, AT, nT, cT, by omega, by go_num, rfl, rfl, Lib.hid (by rw [hS1, List.append_nil, HNF.out]), Lib.hid (by rw [hS2, List.append_nil, HNT.out]), Lib.hid (by rw [hS1, hS2, List.append_nil]; rw [List.append_nil]; exact HT8.out), hmx8⟩
              case measure => simp [intOf]; omega
        · obtain ⟨wi, hwi⟩ : ∃ wi, wi = wr := ⟨_, rfl⟩
          subst hwi
          obtain rfl : j = s.toNat := by omega
          have hsame := free_same F1.out hk0
          have hall := addL_all F1.out hk0
          have hwo : w.heap.size < wo.heap.size := Z0.1
          have hnf : nF = nT := by rw [← HNF.out, ← HNT.out]; exact hsame
          have X2 := Z2.mid hmx (Or.inr (Nat.zero_le _))
          have X3 := Z3.mid hmx (Or.inr (Nat.zero_le _))
          have hown2 := owns_mid hown hmx (Or.inl (Nat.zero_le _))
          have hmi := hmr.trans hmx
          have HNX := Lib.hid hnf
          go_wp2_with fail
          go_loopw [9, 59] (fun _ i wr => ∃ (m : Nat) (A3 : Option Addr) (n3 c3 : Nat), m ≤ nF ∧ i = .int .i64 m ∧ Hid (((es ++ addLs s es k) ++ (addL s es ((k : Int) + 1)).take m).length = n3) ∧
            wr.ownsRow w2.heap.size 48 3 (.slice A3 n3 c3) n3 (ints (edI ((es ++ addLs s es k) ++ (addL s es ((k : Int) + 1)).take m))) ∧ Value.ownBlock (.slice A3 n3 c3) ≠ some G ∧
            Box wr w.heap.size [.int .i64 r, .int .i64 s, .slice A es.length c] ∧ Box wr (w.heap.size + 1) [.int .i64 0, .int .i64 0, .slice none 0 0] ∧ Box wr G [.int .i64 r, .int .i64 s, .slice A3 n3 c3] ∧
            Hid (TwoI wr wo.heap.size (.slice AF nF cF) (.slice AT nT cT) nF nT (freeV es ((k : Int) + 1) s.toNat) (freeV es (-((k : Int) + 1)) s.toNat)) ∧ Mid 0 0 w wr) (fun _ i _ => nF - (intOf i).toNat)
          case atStart => exact ⟨0, A2, n2, c2, Nat.zero_le _, rfl, Lib.hid (by simpa using HN.out), by simpa using hown2, hbk, X0, X2, X3, HT, hmi⟩
          case round =>
            obtain ⟨m, A3, n3, c3, hm3, rfl, HN3, hown3, hbk3, V0, V2, V3, HT3, hmv⟩ := hrel
            by_cases hlt3 : m < nF
            · obtain ⟨a, b', ha, hb', hab⟩ := addL_at F1.out hk0 (i := m) (by rw [HNF.out]; exact hlt3)
              obtain ⟨BF, oF, f, rfl, hBF, hf, cF0⟩ := (owns_rv HT3.out.f).at (k := m) (by rw [HNF.out]; exact hlt3)
              obtain ⟨BT, oT, t, rfl, hBT, ht, cT0⟩ := (owns_rv HT3.out.t).at (k := m) (by rw [HNT.out]; omega)
              rw [ha] at hf
              rw [hb'] at ht
              injection hf with hf
              injection ht with ht
              subst hf ht
              have HAB := Lib.hid hab
              have hmn : (m : Int) < (nF : Int) := by omega
              have hmt : (m : Int) < (nT : Int) := by omega
              have hm0' : (0 : Int) ≤ (m : Int) := by omega
              have g0 := V3.cell 0 rfl
              have g1 := V3.cell 1 rfl
              have g2 := V3.cell 2 rfl
              have HA1 := Lib.hid ha
              have HA2 := Lib.hid hb'
              clear ha hb' hab
              have hn3 : n3 ≤ 1000 := by
                have h1 := addLs_len s es k
                have h2 := HN3.out
                have h3 := addL_len s es ((k : Int) + 1)
                have h4 : k * s.toNat ≤ 3 * 40 := Nat.mul_le_mul (by omega) (by omega)
                simp at h2
                omega
              have hbase : w2.heap.size ≤ wr.heap.size := by have := V3.1; omega
              go_wp2_with fail
              have hmd := Mid.drew1 wr
              have U0 := V0.mid hmd (Or.inr (Nat.zero_le _))
              have U2 := V2.mid hmd (Or.inr (Nat.zero_le _))
              have U3 := V3.mid hmd (Or.inr (Nat.zero_le _))
              have hownU := owns_mid hown3 hmd (Or.inl (Nat.zero_le _))
              have HT4 := HT3.out.mid hmd (Nat.zero_le _)
              have hmu := hmv.trans hmd
              have f0 := HT4.cellF HA1.out
              have f1 := HT4.swap.cellF HA2.out
              have g2 := U3.cell 2 rfl
              clear V0 V2 V3 hown3 hmv hmd HT3 cF0 cT0 g0 g1
              refine wp_region_T (S := (fun w' => w'.cell? ⟨G, 2, none⟩ = some (.slice A3 n3 c3) ∧ w'.cell? ⟨BF, oF + m, none⟩ = some (.int .i64 a) ∧ w'.cell? ⟨BT, oT + m, none⟩ = some (.int .i64 b'))) 15 (by kernel_rfl) ⟨g2, f0, f1⟩ ?_
              generalize World.drew wr = wz at U0 U2 U3 hownU HT4 hmu f0 f1 g2 ⊢
              have hS : wz.cell? ⟨G, 2, none⟩ = some (.slice A3 n3 c3) ∧ wz.cell? ⟨BF, oF + m, none⟩ = some (.int .i64 a) ∧ wz.cell? ⟨BT, oT + m, none⟩ = some (.int .i64 b') := ⟨g2, f0, f1⟩
              refine wpAnyT_take (i := 0) (v := ?_) rfl (by kernel_rfl) (by kernel_rfl) (by kernel_rfl) (by kernel_rfl) (fun _ _ _ h => h) (Or.inl ⟨by rfl, ?_⟩) hS ?_
              rotate_left
              focus (intro w hSw; (try dsimp only at hSw); go_simp; try with_reducible rfl)
              try simp only [Act.put, List.setIfInBounds_toArray, List.set_cons_zero, List.set_cons_succ, List.getElem_toArray, List.getElem_cons_zero, List.getElem_cons_succ]
              refine wpAnyT_take (i := 1) (v := ?_) rfl (by kernel_rfl) (by kernel_rfl) (by kernel_rfl) (by kernel_rfl) (fun _ _ _ h => h) (Or.inl ⟨by rfl, ?_⟩) hS ?_
              rotate_left
              focus (intro w hSw; (try dsimp only at hSw); go_simp; try with_reducible rfl)
              try simp only [Act.put, List.setIfInBounds_toArray, List.set_cons_zero, List.set_cons_succ, List.getElem_toArray, List.getElem_cons_zero, List.getElem_cons_succ]
              refine wpAnyT_take (i := 2) (v := ?_) rfl (by kernel_rfl) (by kernel_rfl) (by kernel_rfl) (by kernel_rfl) (fun _ _ _ h => h) (Or.inl ⟨by rfl, ?_⟩) hS ?_
              rotate_left
              focus (intro w hSw; (try dsimp only at hSw); go_simp; try with_reducible rfl)
              try simp only [Act.put, List.setIfInBounds_toArray, List.set_cons_zero, List.set_cons_succ, List.getElem_toArray, List.getElem_cons_zero, List.getElem_cons_succ]
              refine wpAnyT_take (i := 3) (v := ?_) rfl (by kernel_rfl) (by kernel_rfl) (by kernel_rfl) (by kernel_rfl) (fun _ _ _ h => h) (Or.inl ⟨by rfl, ?_⟩) hS ?_
              rotate_left
              focus (intro w hSw; (try dsimp only at hSw); go_simp; try with_reducible rfl)
              try simp only [Act.put, List.setIfInBounds_toArray, List.set_cons_zero, List.set_cons_succ, List.getElem_toArray, List.getElem_cons_zero, List.getElem_cons_succ]
              refine wpAnyT_take (i := 4) (v := ?_) rfl (by kernel_rfl) (by kernel_rfl) (by kernel_rfl) (by kernel_rfl) (fun _ _ _ h => h) (Or.inl ⟨by rfl, ?_⟩) hS ?_
              rotate_left
              focus (intro w hSw; (try dsimp only at hSw); go_simp; try with_reducible rfl)
              try simp only [Act.put, List.setIfInBounds_toArray, List.set_cons_zero, List.set_cons_succ, List.getElem_toArray, List.getElem_cons_zero, List.getElem_cons_succ]
              refine wpAnyT_take (i := 5) (v := ?_) rfl (by kernel_rfl) (by kernel_rfl) (by kernel_rfl) (by kernel_rfl) (fun _ _ _ h => h) (Or.inl ⟨by rfl, ?_⟩) hS ?_
              rotate_left
              focus (intro w hSw; (try dsimp only at hSw); go_simp; try with_reducible rfl)
              try simp only [Act.put, List.setIfInBounds_toArray, List.set_cons_zero, List.set_cons_succ, List.getElem_toArray, List.getElem_cons_zero, List.getElem_cons_succ]
              refine wpAnyT_take (i := 6) (v := ?_) rfl (by kernel_rfl) (by kernel_rfl) (by kernel_rfl) (by kernel_rfl) (fun _ _ _ h => h) (Or.inl ⟨by rfl, ?_⟩) hS ?_
              rotate_left
              focus (intro w hSw; (try dsimp only at hSw); go_simp; try with_reducible rfl)
              try simp only [Act.put, List.setIfInBounds_toArray, List.set_cons_zero, List.set_cons_succ, List.getElem_toArray, List.getElem_cons_zero, List.getElem_cons_succ]
              refine wpAnyT_take (i := 7) (v := ?_) rfl (by kernel_rfl) (by kernel_rfl) (by kernel_rfl) (by kernel_rfl) (fun _ _ _ h => h) (Or.inl ⟨by rfl, ?_⟩) hS ?_
              rotate_left
              focus (intro w hSw; (try dsimp only at hSw); go_simp; try with_reducible rfl)
              try simp only [Act.put, List.setIfInBounds_toArray, List.set_cons_zero, List.set_cons_succ, List.getElem_toArray, List.getElem_cons_zero, List.getElem_cons_succ]
              refine wpAnyT_take (i := 8) (v := ?_) rfl (by kernel_rfl) (by kernel_rfl) (by kernel_rfl) (by kernel_rfl) (fun _ _ _ h => h) (Or.inl ⟨by rfl, ?_⟩) hS ?_
              rotate_left
              focus (intro w hSw; (try dsimp only at hSw); go_simp; try with_reducible rfl)
              try simp only [Act.put, List.setIfInBounds_toArray, List.set_cons_zero, List.set_cons_succ, List.getElem_toArray, List.getElem_cons_zero, List.getElem_cons_succ]
              refine wpAnyT_take (i := 9) (v := ?_) rfl (by kernel_rfl) (by kernel_rfl) (by kernel_rfl) (by kernel_rfl) (fun _ _ _ h => h) (Or.inl ⟨by rfl, ?_⟩) hS ?_
              rotate_left
              focus (intro w hSw; (try dsimp only at hSw); go_simp; try with_reducible rfl)
              try simp only [Act.put, List.setIfInBounds_toArray, List.set_cons_zero, List.set_cons_succ, List.getElem_toArray, List.getElem_cons_zero, List.getElem_cons_succ]
              refine wpAnyT_take (i := 10) (v := ?_) rfl (by kernel_rfl) (by kernel_rfl) (by kernel_rfl) (by kernel_rfl) (fun _ _ _ h => h) (Or.inl ⟨by rfl, ?_⟩) hS ?_
              rotate_left
              focus (intro w hSw; (try dsimp only at hSw); go_simp; try with_reducible rfl)
              try simp only [Act.put, List.setIfInBounds_toArray, List.set_cons_zero, List.set_cons_succ, List.getElem_toArray, List.getElem_cons_zero, List.getElem_cons_succ]
              refine wpAnyT_take (i := 11) (v := ?_) rfl (by kernel_rfl) (by kernel_rfl) (by kernel_rfl) (by kernel_rfl) (fun _ _ _ h => h) (Or.inl ⟨by rfl, ?_⟩) hS ?_
              rotate_left
              focus (intro w hSw; (try dsimp only at hSw); go_simp; try with_reducible rfl)
              try simp only [Act.put, List.setIfInBounds_toArray, List.set_cons_zero, List.set_cons_succ, List.getElem_toArray, List.getElem_cons_zero, List.getElem_cons_succ]
              have haz := Mid.alloc wz (.cells #[.int .i64 a, .int .i64 ((k : Int) + 1), .int .i64 b'] 48)
              have T0' := U0.mid haz (Or.inr (Nat.zero_le _))
              have T2' := U2.mid haz (Or.inr (Nat.zero_le _))
              have T3' := U3.mid haz (Or.inr (Nat.zero_le _))
              have hownT := hownU.alloc (.cells #[.int .i64 a, .int .i64 ((k : Int) + 1), .int .i64 b'] 48)
              have HT5 := HT4.mid haz (Nat.zero_le _)
              have hmt := hmu.trans haz
              have hS2 := And.intro (T3'.cell 2 rfl) (And.intro (HT5.cellF HA1.out) (HT5.swap.cellF HA2.out))
              have hrs : Rs (wz.alloc (.cells #[.int .i64 a, .int .i64 ((k : Int) + 1), .int .i64 b'] 48)) (wz.heap.size + 1) (some ⟨wz.heap.size, 0, none⟩) [.int .i64 a, .int .i64 ((k : Int) + 1), .int .i64 b'] := fun _ => ⟨wz.heap.size, 0, rfl, Nat.lt_succ_self _, fun j u hu => (World.cell?_alloc_at _ _ _ _ rfl).trans (by simpa using hu)⟩
              have hone : ∀ u ∈ [Value.int .i64 a, .int .i64 ((k : Int) + 1), .int .i64 b'], u.oneCell' = true := by
                intro u hu
                simp at hu
                rcases hu with rfl | rfl | rfl <;> rfl
              have hmxl : n3 + 1 ≤ maxLen := by unfold maxLen; omega
              have hbyt : (n3 + 1) * 24 ≤ 140737488355328 := by omega
              have hbas : w2.heap.size ≤ (wz.alloc (.cells #[.int .i64 a, .int .i64 ((k : Int) + 1), .int .i64 b'] 48)).heap.size := by have h1 := T3'.1; omega
              have hGz : G < wz.heap.size := U3.1
              have HO := Lib.hid hone
              have HB0 := Lib.hid (fun (g : Nat) (h : Value.ownBlock (.slice A3 n3 c3) = some g) => (hownT.lt g h).1)
              have HBk := Lib.hid hbk3
              clear hone hbk3 U0 U2 U3 hownU f0 f1 g2 hS hmu haz HT4
              refine wpAnyT_ready (rs := [12]) (by kernel_rfl) (by simp) (AllReadyT.cons rfl (fun K hK => ?_) AllReadyT.nil)
              go_simp
              refine hK.out _ _ (Or.inr hS2) (fun _ => ?_)
              clear hK K
              try simp only [Act.put, List.setIfInBounds_toArray, List.set_cons_zero, List.set_cons_succ, List.getElem_toArray, List.getElem_cons_zero, List.getElem_cons_succ]
              generalize hwt : wz.alloc (.cells #[.int .i64 a, .int .i64 ((k : Int) + 1), .int .i64 b'] 48) = wt at T0' T2' T3' hownT HT5 hmt hS2 hrs hbas ⊢
              have hszt : wt.heap.size = wz.heap.size + 1 := by rw [← hwt]; simp
              have HZT := Lib.hid hszt
              clear hwt hszt
              refine wpAnyT_ready (rs := [13]) (by kernel_rfl) (by simp) (AllReadyT.cons rfl (fun K hK => ?_) AllReadyT.nil)
              (refine step_cat (by rfl) (.tmp 63) (.tmp 74) 27 (by rfl) w2.heap.size 48 (.agg #[.int .i64 0, .int .i64 0, .int .i64 0]) 3 24 undSE infoE rfl (by decide) (.slice A3 n3 c3) n3 _ (by rfl) hownT (some ⟨wz.heap.size, 0, none⟩) 1 1 _ [.int .i64 a, .int .i64 ((k : Int) + 1), .int .i64 b'] (by rfl) hrs rfl HO.out hmxl hbyt hbas ?_; intro v9 w9 ho9 hgr9 hat9; obtain ⟨A9, c9, rfl, -, -⟩ := owns_shape ho9)
              refine hK.out _ _ (Or.inr ⟨(T3'.grown hgr9 HBk.out).cell 2 rfl, (HT5.grownE hownT hgr9).cellF HA1.out, (HT5.grownE hownT hgr9).swap.cellF HA2.out⟩) (fun _ => ?_)
              clear hK K
              try simp only [Act.put, List.setIfInBounds_toArray, List.set_cons_zero, List.set_cons_succ, List.getElem_toArray, List.getElem_cons_zero, List.getElem_cons_succ]
              have R3 := T3'.grown hgr9 HBk.out
              have R0 := T0'.grown hgr9 (fun h => by have := HB0.out _ h; omega)
              have R2 := T2'.grown hgr9 (fun h => by have := HB0.out _ h; omega)
              have HT9 := HT5.grownE hownT hgr9
              have hmr9 : Mid 0 0 w w9 := hmt.transNew (Mid.of_grownRow hownT hgr9) (Or.inl hw2)
              have hS3 := And.intro (R3.cell 2 rfl) (And.intro (HT9.cellF HA1.out) (HT9.swap.cellF HA2.out))
              have hne : Value.ownBlock (.slice A9 (n3 + 1) c9) ≠ some G := by
                rcases hat9 with h | h
                · rw [h]; exact HBk.out
                · rw [h]
                  intro he
                  injection he with he
                  have := HZT.out
                  omega
              have HNE := Lib.hid hne
              have hr2 := R3.cell 2 rfl
              have hrf := R3.2.2
              clear hne hat9 hS2 hrs T0' T2' T3' hmt
              refine wpAnyT_take (i := 14) (v := ?_) rfl (by kernel_rfl) (by kernel_rfl) (by kernel_rfl) (by kernel_rfl) (fun _ _ _ h => h) (Or.inl ⟨by rfl, ?_⟩) hS3 ?_
              rotate_left
              focus (intro w hSw; (try dsimp only at hSw); go_simp; try with_reducible rfl)
              try simp only [Act.put, List.setIfInBounds_toArray, List.set_cons_zero, List.set_cons_succ, List.getElem_toArray, List.getElem_cons_zero, List.getElem_cons_succ]
              refine wpAnyT_ready (rs := [15]) (by kernel_rfl) (by simp) (AllReadyT.cons rfl (fun K hK => ?_) AllReadyT.nil)
              (go_simp)
              refine hK.out _ _ (Or.inl rfl) (fun _ => ?_)
              clear hK K
              try simp only [Act.put, List.setIfInBounds_toArray, List.set_cons_zero, List.set_cons_succ, List.getElem_toArray, List.getElem_cons_zero, List.getElem_cons_succ]
              refine wpAnyT_done (by kernel_rfl) ?_ _
              go_wp2_with fail
              go_roundw
              case rel =>
                have hst := Mid.setCell w9 (lo := G) (hi := G + 1) (p := ⟨G, 2, none⟩) (.slice A9 (n3 + 1) c9) (Nat.le_refl _) (Nat.lt_succ_self _)
                have htk : (addL s es ((k : Int) + 1)).take (m + 1) = (addL s es ((k : Int) + 1)).take m ++ [⟨a, (k : Int) + 1, b'⟩] := take_snoc HAB.out
                refine ⟨m + 1, A9, n3 + 1, c9, by omega, by go_num, Lib.hid (by rw [htk, ← List.append_assoc, List.length_append, HN3.out]; rfl), ?_, HNE.out, R0.mid hst (Or.inl (by omega)), R2.mid hst (Or.inl (by omega)), R3.set 2 _ (by simp) rfl, Lib.hid ?_, hmr9.storeNew (by show w.heap.size ≤ G; omega) _⟩
                · have h1 := owns_other ho9 (k := G) (grown_setCell (World.grownBy.refl _ (some G)) 2 (.slice A9 (n3 + 1) c9)) HNE.out
                  rw [htk, ← List.append_assoc, edI_append, ints_append, edI_one]
                  exact h1
                · exact HT9.mid hst (by omega)
              case measure => simp [intOf]; omega
            · obtain rfl : m = nF := by omega
              have hta : (addL s es ((k : Int) + 1)).take m = addL s es ((k : Int) + 1) := List.take_of_length_le (by rw [hall, HNF.out]; exact Nat.le_refl _)
              rw [hta, List.append_assoc, ← addLs_succ] at hown3 HN3
              go_wp2_with fail
              go_roundw
              case rel => exact ⟨k + 1, A3, n3, c3, by omega, by go_num, HN3, hown3, hbk3, V0, V2, V3, hmv⟩
              case measure => simp [intOf]; omega
    · obtain rfl : r = (k : Int) := by omega
      have hn2 : n2 ≤ 1000 := by
        have h1 := addLs_len s es k
        have h2 := HN.out
        have h4 : k * s.toNat ≤ 3 * 40 := Nat.mul_le_mul (by omega) (by omega)
        simp at h2
        omega
      have hrg : RG wo w2.heap.size wo.heap.size A2 (es ++ addLs s es k) := OV.rv (e := 48) (size := 3) (c := c2) (n := n2) ⟨Nat.le_refl _, hown, fun g hg => (hown.lt g hg).2⟩
      have z2 := Z3.cell 2 rfl
      go_wp2_with fail
      with_reducible refine (impl_sortedN A2 (es ++ addLs s es k) n2 c2 _ _ _ HN.out hrg (by omega)).mono ?_
      rintro en w6 ⟨A4, c4, rfl, ho6, hm6⟩
      have Q2 := Z2.mid hm6 (Or.inr (Nat.zero_le _))
      have Q3 := Z3.mid hm6 (Or.inr (Nat.zero_le _))
      have hsz6 := hm6.size
      clear z2 p0 p1 p2
      have a0 := Q2.cell 0 rfl
      have a1 := Q2.cell 1 rfl
      have a2 := Q2.cell 2 rfl
      have b0 := Q3.cell 0 rfl
      have b1 := Q3.cell 1 rfl
      have b2 := Q3.cell 2 rfl
      have af := Q2.2.2
      have bf := Q3.2.2
      go_wp2_with fail
      have hcl : (w.heap.size + 1 == G) = false := by simp; omega
      refine bodyPost_ret (v := .tuple #[.agg #[.int .i64 k, .int .i64 s, .slice A4 (canon (es ++ addLs s es k)).length c4], .bool true]) (by simp [results, Try.results20, go_sem, a0, a1, a2, b0, b1, b2, af, bf]) rfl ⟨A4, c4, ?_, ?_, ?_⟩
      · rw [HRR.out, HRS.out, HRE.out]
        rfl
      · rw [HRE.out]
        refine OG.wide (OG.mid ho6 (a := w.heap.size) (b := G + 1) ?_ (Or.inl hGo)) (by have := hmr.size; omega) (by simp) (Nat.le_refl _)
        repeat (first | exact Mid.refl _ _ _ | refine Mid.stored ?_ _ (by simp; try omega) (by simp; try omega))
      · have h := hmr.trans hm6
        repeat (first | exact h | refine Mid.storeNew ?_ (by simp; try omega) _)
end Go.Proofs.Ytkcfbcbkokabdaa
