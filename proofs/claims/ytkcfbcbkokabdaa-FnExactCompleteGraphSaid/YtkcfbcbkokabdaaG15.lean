
/- GlueAtBase, the program. -/
import Derived.Test.YtkcfbcbkokabdaaG14
import Derived.Test.YtkcfbcbkokabdaaB6
namespace Go.Proofs.Ytkcfbcbkokabdaa
set_option linter.unusedVariables false
set_option linter.unusedSimpArgs false
open Go.RowKit
attribute [local go_sem ↓] Go.wp_at_zero Go.wp_at_succ

/-- A vertex's place behind the glueing. -/
def glueV (s v : Int) : Int := if v = 0 then 0 else s + v - 1
def glueF (s : Int) (e : Ed) : Ed := ⟨glueV s e.a, e.l, glueV s e.b⟩
def glueE (s : Int) (es : List Ed) : List Ed := es.map (glueF s)
structure GlueOk (r s : Int) (es : List Ed) (r' s' : Int) (es' : List Ed) : Prop where
  g1 : IsGr r s es
  g2 : IsGr r' s' es'
  rk : r = r'
  sz : s + s' - 1 ≤ 40
  ln : es.length + es'.length ≤ 120
/-- What GlueAtBase gives. -/
def GlueAtBaseIs (r s : Int) (es : List Ed) (r' s' : Int) (es' : List Ed) (rr rs : Int) (res : List Ed) (b : Bool) : Prop :=
  (b = true ∧ GlueOk r s es r' s' es' ∧ rr = r ∧ rs = s + s' - 1 ∧ res = canon (es ++ glueE s es')) ∨ (b = false ∧ ¬ GlueOk r s es r' s' es' ∧ rr = 0 ∧ rs = 0 ∧ res = [])
theorem GlueAtBaseIs.no {r s : Int} {es : List Ed} {r' s' : Int} {es' : List Ed} {rr rs : Int} {res : List Ed} {b : Bool} (h : GlueAtBaseIs r s es r' s' es' rr rs res b) (hn : ¬ GlueOk r s es r' s' es') : b = false ∧ rr = 0 ∧ rs = 0 ∧ res = [] := by
  rcases h with ⟨-, h, -⟩ | ⟨h1, -, h2⟩
  · exact absurd h hn
  · exact ⟨h1, h2⟩
theorem GlueAtBaseIs.yes {r s : Int} {es : List Ed} {r' s' : Int} {es' : List Ed} {rr rs : Int} {res : List Ed} {b : Bool} (h : GlueAtBaseIs r s es r' s' es' rr rs res b) (hn : GlueOk r s es r' s' es') : b = true ∧ rr = r ∧ rs = s + s' - 1 ∧ res = canon (es ++ glueE s es') := by
  rcases h with ⟨h1, -, h2⟩ | ⟨-, h, -⟩
  · exact ⟨h1, h2⟩
  · exact absurd hn h
set_option maxHeartbeats 400000 in
theorem glue_place (B : Nat) (s v : Int) (w : World) (hc : w.cell? ⟨B, 1, none⟩ = some (.int .i64 s)) (h1 : 0 ≤ s) (h2 : s ≤ 40) (h3 : 0 ≤ v) (h4 : v < 40) :
    Calls Try.prog 40 #[.int .i64 v, .pointer (some ⟨B, 0, none⟩)] w fun e w' => e = .returned (.int .i64 (glueV s v)) ∧ w' = w := by
  by_cases h0 : v = 0
  · subst h0
    go_enter Try.func40, Try.ntmps40
    go_wp2_with fail
    go_ret
    exact ⟨rfl, rfl⟩
  · have hv : glueV s v = s + v - 1 := by simp [glueV, h0]
    have hb : (v == 0) = false := by simpa using h0
    rw [hv]
    clear hv h0
    go_enter Try.func40, Try.ntmps40
    go_wp2_with fail
    go_ret
    exact ⟨rfl, rfl⟩

/-- A row of the call's own, where another block has turned. -/
theorem owns_other {w w' : World} {base : Nat} {e : TypeId} {size : Nat} {v : Value} {n : Nat} {xs : List Value} {k : Nat} (h : w.ownsRow base e size v n xs) (hg : w.grownBy w' (some k)) (hk : v.ownBlock ≠ some k) : w'.ownsRow base e size v n xs :=
  h.kept hg (by
    cases hv : v.ownBlock with
    | none => exact .inl rfl
    | some j => exact .inr fun e => hk (by rw [hv, e]))
theorem Box.grown {w w' : World} {b : Nat} {cs : List Value} {row : Option Nat} (h : Box w b cs) (hg : w.grownBy w' row) (hb : row ≠ some b) : Box w' b cs :=
  ⟨Nat.lt_of_lt_of_le h.1 hg.size, fun i u hu => (World.cell?_of_block (hg.block b h.1 (fun e => hb e.symm))).trans (h.2.1 i u hu), fun i => (World.frozen?_of_block (hg.block b h.1 (fun e => hb e.symm))).trans (h.2.2 i)⟩
set_option maxHeartbeats 6400000 in
set_option maxRecDepth 100000 in
theorem impl_GlueAtBase (r s : Int) (A : Option Addr) (es : List Ed) (c : Nat) (r' s' : Int) (A' : Option Addr) (es' : List Ed) (c' : Nat) (w : World) (lo hi lo' hi' : Nat)
    (hr : RG w lo hi A es) (hr' : RG w lo' hi' A' es') (hl : es.length ≤ 1048576) (hl' : es'.length ≤ 1048576) (rr rs : Int) (res : List Ed) (b : Bool) (hres : GlueAtBaseIs r s es r' s' es' rr rs res b) :
    Calls Try.prog 16 #[graV r s A es.length c, graV r' s' A' es'.length c'] w fun e w' => ∃ A1 c1, e = .returned (.tuple #[graV rr rs A1 res.length c1, .bool b]) ∧ OG w' w.heap.size w'.heap.size A1 c1 res ∧ Mid 0 0 w w' := by
  have HR := Lib.hid hres
  clear hres
  obtain ⟨b1, hb1⟩ := bool_of (IsGr r s es)
  obtain ⟨b2, hb2⟩ := bool_of (IsGr r' s' es')
  have H1 := Lib.hid hb1
  have H2 := Lib.hid hb2
  clear hb1 hb2
  have hm0 : Mid 0 0 w (((w.alloc (.cells #[.int .i64 r, .int .i64 s, .slice A es.length c] 29)).alloc (.cells #[.int .i64 r', .int .i64 s', .slice A' es'.length c'] 29)).alloc (.cells #[.int .i64 0, .int .i64 0, .slice none 0 0] 29)) := ((Mid.alloc _ _).trans (Mid.alloc _ _)).trans (Mid.alloc _ _)
  have B0 := ((Box.new w #[.int .i64 r, .int .i64 s, .slice A es.length c] 29).mid (Mid.alloc _ (.cells #[.int .i64 r', .int .i64 s', .slice A' es'.length c'] 29)) (Or.inr (Nat.zero_le _))).mid (Mid.alloc _ (.cells #[.int .i64 0, .int .i64 0, .slice none 0 0] 29)) (Or.inr (Nat.zero_le _))
  have B1 := (Box.new (w.alloc (.cells #[.int .i64 r, .int .i64 s, .slice A es.length c] 29)) #[.int .i64 r', .int .i64 s', .slice A' es'.length c'] 29).mid (Mid.alloc _ (.cells #[.int .i64 0, .int .i64 0, .slice none 0 0] 29)) (Or.inr (Nat.zero_le _))
  have B2 := Box.new ((w.alloc (.cells #[.int .i64 r, .int .i64 s, .slice A es.length c] 29)).alloc (.cells #[.int .i64 r', .int .i64 s', .slice A' es'.length c'] 29)) #[.int .i64 0, .int .i64 0, .slice none 0 0] 29
  simp only [World.size_alloc] at B1 B2
  go_enter Try.func16, Try.ntmps16
  go_wp2_with fail
  generalize hw1 : (((w.alloc (.cells #[.int .i64 r, .int .i64 s, .slice A es.length c] 29)).alloc (.cells #[.int .i64 r', .int .i64 s', .slice A' es'.length c'] 29)).alloc (.cells #[.int .i64 0, .int .i64 0, .slice none 0 0] 29)) = w1 at hm0 B0 B1 B2 ⊢
  have hs1 : w1.heap.size = w.heap.size + 1 + 1 + 1 := by rw [← hw1]; simp
  have HS := Lib.hid hs1
  clear hw1 hs1
  with_reducible refine (impl_IsGraph r s A es c _ _ _ (hr.mid hm0 (Or.inl (Nat.zero_le _))).rv hl b1 H1.out).mono ?_
  rintro en w2 ⟨rfl, hm2⟩
  have C0 := B0.mid hm2 (Or.inr (Nat.zero_le _))
  have C1 := B1.mid hm2 (Or.inr (Nat.zero_le _))
  have C2 := B2.mid hm2 (Or.inr (Nat.zero_le _))
  have p0 := C0.cell 0 rfl
  have p1 := C0.cell 1 rfl
  have p2 := C0.cell 2 rfl
  have q0 := C1.cell 0 rfl
  have q1 := C1.cell 1 rfl
  have q2 := C1.cell 2 rfl
  have z0 := C2.cell 0 rfl
  have z1 := C2.cell 1 rfl
  have z2 := C2.cell 2 rfl
  have zf := C2.2.2
  have hm := hm0.trans hm2
  cases b1 with
  | false =>
    have hno : ¬ GlueOk r s es r' s' es' := fun h => by have := H1.out.2 h.g1; cases this
    obtain ⟨rfl, rfl, rfl, rfl⟩ := HR.out.no hno
    go_wp2_with fail
    refine bodyPost_ret (v := .tuple #[.agg #[.int .i64 0, .int .i64 0, .slice none 0 0], .bool false]) (by simp [results, Try.results16, go_sem, z0, z1, z2, zf]) rfl ⟨none, 0, rfl, OG.nil, ?_⟩
    repeat (first | exact hm | refine Mid.storeNew ?_ (by simp; try omega) _)
  | true =>
  have G1h := Lib.hid (H1.out.1 rfl)
  clear B0 B1 B2
  go_wp2_with fail
  with_reducible refine (impl_IsGraph r' s' A' es' c' _ _ _ (hr'.mid hm (Or.inl (Nat.zero_le _))).rv hl' b2 H2.out).mono ?_
  rintro en w3 ⟨rfl, hm3⟩
  have D0 := C0.mid hm3 (Or.inr (Nat.zero_le _))
  have D1 := C1.mid hm3 (Or.inr (Nat.zero_le _))
  have D2 := C2.mid hm3 (Or.inr (Nat.zero_le _))
  clear p0 p1 p2 q0 q1 q2 z0 z1 z2 zf C0 C1 C2
  have p0 := D0.cell 0 rfl
  have p1 := D0.cell 1 rfl
  have p2 := D0.cell 2 rfl
  have q0 := D1.cell 0 rfl
  have q1 := D1.cell 1 rfl
  have q2 := D1.cell 2 rfl
  have z0 := D2.cell 0 rfl
  have z1 := D2.cell 1 rfl
  have z2 := D2.cell 2 rfl
  have zf := D2.2.2
  have hmm := hm.trans hm3
  have hw33 : w.heap.size + 3 ≤ w3.heap.size := by have h1 := HS.out; have h2 := hm2.size; have h3 := hm3.size; omega
  clear hm0 hm2 hm hm3
  cases b2 with
  | false =>
    have hno : ¬ GlueOk r s es r' s' es' := fun h => by have := H2.out.2 h.g2; cases this
    obtain ⟨rfl, rfl, rfl, rfl⟩ := HR.out.no hno
    go_wp2_with fail
    refine bodyPost_ret (v := .tuple #[.agg #[.int .i64 0, .int .i64 0, .slice none 0 0], .bool false]) (by simp [results, Try.results16, go_sem, z0, z1, z2, zf]) rfl ⟨none, 0, rfl, OG.nil, ?_⟩
    repeat (first | exact hmm | refine Mid.storeNew ?_ (by simp; try omega) _)
  | true =>
  have G2h := Lib.hid (H2.out.1 rfl)
  clear H1 H2
  have hsz := G1h.out.size
  have hsz' := G2h.out.size
  by_cases hok : GlueOk r s es r' s' es'
  · obtain ⟨rfl, hrr, hrs, hre⟩ := HR.out.yes hok
    have h1a : (r != r') = false := by simpa using hok.rk
    have h2a : decide (40 < s + s' - 1) = false := by have := hok.sz; simp; omega
    have h3a : decide (120 < (es.length : Int) + (es'.length : Int)) = false := by have := hok.ln; simp; omega
    have HRR := Lib.hid hrr
    have HRS := Lib.hid hrs
    have HRE := Lib.hid hre
    have hln := hok.ln
    have HK := Lib.hid hok
    clear hrr hrs hre hok HR
    go_wp2_with fail
    with_reducible refine (impl_copyGraph r s A es c _ _ _ (hr.mid hmm (Or.inl (Nat.zero_le _))) hl).mono ?_
    rintro en w4 ⟨A1, c1, rfl, ho4, hm4⟩
    have E0 := D0.mid hm4 (Or.inr (Nat.zero_le _))
    have E1 := D1.mid hm4 (Or.inr (Nat.zero_le _))
    have E2 := D2.mid hm4 (Or.inr (Nat.zero_le _))
    have hal := Mid.alloc w4 (.cells #[.int .i64 r, .int .i64 (s + s' - 1), .slice A1 es.length c1] 29)
    have Y0 := E0.mid hal (Or.inr (Nat.zero_le _))
    have Y1 := E1.mid hal (Or.inr (Nat.zero_le _))
    have Y2 := E2.mid hal (Or.inr (Nat.zero_le _))
    have Y3 := Box.new w4 #[.int .i64 r, .int .i64 (s + s' - 1), .slice A1 es.length c1] 29
    have hzs := hm4.size
    have hmy := (hmm.trans hm4).trans hal
    have ho5 := (ho4.mid hal (Or.inl (Nat.zero_le _))).ov.2.1
    have hlt4 := ho4.ov.2.2
    clear p0 p1 p2 q0 q1 q2 z0 z1 z2 zf D0 D1 D2
    have p1 := E0.cell 1 rfl
    have q1 := E1.cell 1 rfl
    have q2 := E1.cell 2 rfl
    have hz0 := E0.1
    have hz1 := E1.1
    have hz2 := E2.1
    clear E0 E1 E2
    go_wp2_with fail
    have hb4 : Value.ownBlock (.slice A1 es.length c1) ≠ some w4.heap.size := fun h => by have := hlt4 _ h; omega
    clear p1 q1 q2
    generalize hw5 : w4.alloc (.cells #[.int .i64 r, .int .i64 (s + s' - 1), .slice A1 es.length c1] 29) = w5 at Y0 Y1 Y2 Y3 hmy ho5 ⊢
    have hs5 : w4.heap.size + 1 ≤ w5.heap.size := by rw [← hw5]; simp
    clear hw5 hal
    generalize hG : w4.heap.size = G at Y3 hb4 hs5 hz2 hzs ⊢
    clear hG
    have hGw : w.heap.size + 2 < G := by omega
    have hw3 : w.heap.size ≤ w3.heap.size := hmm.size
    go_loopw [9, 58] (fun _ i wr => ∃ (k : Nat) (A2 : Option Addr) (n2 c2 : Nat), k ≤ es'.length ∧ i = .int .i64 k ∧ Hid (n2 = es.length + k) ∧
      wr.ownsRow w3.heap.size 48 3 (.slice A2 n2 c2) n2 (ints (edI (es ++ glueE s (es'.take k)))) ∧ Value.ownBlock (.slice A2 n2 c2) ≠ some G ∧
      Box wr w.heap.size [.int .i64 r, .int .i64 s, .slice A es.length c] ∧ Box wr (w.heap.size + 1) [.int .i64 r', .int .i64 s', .slice A' es'.length c'] ∧ Box wr (w.heap.size + 1 + 1) [.int .i64 0, .int .i64 0, .slice none 0 0] ∧
      Box wr G [.int .i64 r, .int .i64 (s + s' - 1), .slice A2 n2 c2] ∧ Mid 0 0 w wr) (fun _ i _ => es'.length - (intOf i).toNat)
    case atStart => exact ⟨0, A1, es.length, c1, Nat.zero_le _, rfl, Lib.hid rfl, by simpa [glueE] using ho5, hb4, Y0, Y1, Y2, Y3, hmy⟩
    case round =>
      obtain ⟨k, A2, n2, c2, hk, rfl, HN, hown, hbk, Z0, Z1, Z2, Z3, hmr⟩ := hrel
      have hn2 : n2 = es.length + k := HN.out
      have hn2l : n2 ≤ 240 := by omega
      have HN2 := Lib.hid hn2
      clear hn2
      have p1 := Z0.cell 1 rfl
      have q2 := Z1.cell 2 rfl
      by_cases hlt : k < es'.length
      · obtain ⟨B, off, e, rfl, -, hbh, he, e0, e1, e2⟩ := (hr'.mid hmr (Or.inl (Nat.zero_le _))).ed hlt
        have hin : InG _ s' e := G2h.out.all e (List.mem_of_getElem? he)
        obtain ⟨i1, i2, i3, i4, i5, i6⟩ := hin
        have HE := Lib.hid he
        have hk0 : (0 : Int) ≤ (k : Int) := by omega
        have hkn : (k : Int) < (es'.length : Int) := by omega
        have hal := Mid.alloc wr (.cells #[.int .i64 e.a, .int .i64 e.l, .int .i64 e.b] 48)
        have ZE := Box.new wr #[.int .i64 e.a, .int .i64 e.l, .int .i64 e.b] 48
        have V0 := Z0.mid hal (Or.inr (Nat.zero_le _))
        have V1 := Z1.mid hal (Or.inr (Nat.zero_le _))
        have V2 := Z2.mid hal (Or.inr (Nat.zero_le _))
        have V3 := Z3.mid hal (Or.inr (Nat.zero_le _))
        have hownV := hown.alloc (.cells #[.int .i64 e.a, .int .i64 e.l, .int .i64 e.b] 48)
        have hmv := hmr.trans hal
        have hrk := hmr.size
        have hGr : G < wr.heap.size := Z3.1
        have hbE : Value.ownBlock (.slice A2 n2 c2) ≠ some wr.heap.size := fun h => by have := (hown.lt _ h).2; omega
        clear he
        go_wp2_with fail
        generalize hwx : wr.alloc (.cells #[.int .i64 e.a, .int .i64 e.l, .int .i64 e.b] 48) = wx at ZE V0 V1 V2 V3 hownV hmv ⊢
        clear hwx hal e0 e1 e2 p1 q2
        generalize hgE : wr.heap.size = E at ZE hrk hGr hbE ⊢
        clear hgE
        obtain ⟨x, hx⟩ : ∃ x, glueV s e.a = x := ⟨_, rfl⟩
        obtain ⟨y, hy⟩ : ∃ y, glueV s e.b = y := ⟨_, rfl⟩
        have HX := Lib.hid hx
        have HY := Lib.hid hy
        have hmd := Mid.drew1 wx
        have U0 := V0.mid hmd (Or.inr (Nat.zero_le _))
        have U1 := V1.mid hmd (Or.inr (Nat.zero_le _))
        have U2 := V2.mid hmd (Or.inr (Nat.zero_le _))
        have U3 := V3.mid hmd (Or.inr (Nat.zero_le _))
        have UE := ZE.mid hmd (Or.inr (Nat.zero_le _))
        have hownU := owns_mid hownV hmd (Or.inl (Nat.zero_le _))
        have hmu := hmv.trans hmd
        have p1 := U0.cell 1 rfl
        have f0 := UE.cell 0 rfl
        have f1 := UE.cell 1 rfl
        have f2 := UE.cell 2 rfl
        have g2 := U3.cell 2 rfl
        have hP1 := glue_place w.heap.size s e.a _ p1 (by omega) (by omega) i1 (by omega)
        have hP2 := glue_place w.heap.size s e.b _ p1 (by omega) (by omega) i3 (by omega)
        rw [hx] at hP1
        rw [hy] at hP2
        clear hx hy V0 V1 V2 V3 ZE hownV hmv hmd
        refine wp_region_T (S := (fun w' => w'.cell? ⟨E, 0, none⟩ = some (.int .i64 e.a) ∧ w'.cell? ⟨E, 1, none⟩ = some (.int .i64 e.l) ∧ w'.cell? ⟨E, 2, none⟩ = some (.int .i64 e.b) ∧ w'.cell? ⟨G, 2, none⟩ = some (.slice A2 n2 c2))) 16 (by kernel_rfl) ⟨f0, f1, f2, g2⟩ ?_
        generalize World.drew wx = wz at U0 U1 U2 U3 UE hownU hmu p1 f0 f1 f2 g2 hP1 hP2 ⊢
        have hS : wz.cell? ⟨E, 0, none⟩ = some (.int .i64 e.a) ∧ wz.cell? ⟨E, 1, none⟩ = some (.int .i64 e.l) ∧ wz.cell? ⟨E, 2, none⟩ = some (.int .i64 e.b) ∧ wz.cell? ⟨G, 2, none⟩ = some (.slice A2 n2 c2) := ⟨f0, f1, f2, g2⟩
        refine wpAnyT_take (i := 0) (v := ?_) rfl (by kernel_rfl) (by kernel_rfl) (by kernel_rfl) (by kernel_rfl) (fun _ _ _ h => h) (Or.inl ⟨by rfl, ?_⟩) hS ?_
        rotate_left
        focus (intro w hSw; (try dsimp only at hSw); go_simp; try with_reducible rfl)
        try simp only [Act.put, List.setIfInBounds_toArray, List.set_cons_zero, List.set_cons_succ, List.getElem_toArray, List.getElem_cons_zero, List.getElem_cons_succ]
        refine wpAnyT_take (i := 1) (v := ?_) rfl (by kernel_rfl) (by kernel_rfl) (by kernel_rfl) (by kernel_rfl) (fun _ _ _ h => h) (Or.inl ⟨by rfl, ?_⟩) hS ?_
        rotate_left
        focus (intro w hSw; (try dsimp only at hSw); go_simp; try with_reducible rfl)
        try simp only [Act.put, List.setIfInBounds_toArray, List.set_cons_zero, List.set_cons_succ, List.getElem_toArray, List.getElem_cons_zero, List.getElem_cons_succ]
        refine wpAnyT_take (i := 2) (v := ?_) rfl (by kernel_rfl) (by kernel_rfl) (by kernel_rfl) (by kernel_rfl) (fun _ _ _ h => h) (Or.inl ⟨by rfl, ?_⟩) hS ?_
        rotate_left
        focus (intro w hSw; (try dsimp only at hSw); go_simp; try with_reducible rfl)
        try simp only [Act.put, List.setIfInBounds_toArray, List.set_cons_zero, List.set_cons_succ, List.getElem_toArray, List.getElem_cons_zero, List.getElem_cons_succ]
        refine wpAnyT_take (i := 3) (v := ?_) rfl (by kernel_rfl) (by kernel_rfl) (by kernel_rfl) (by kernel_rfl) (fun _ _ _ h => h) (Or.inl ⟨by rfl, ?_⟩) hS ?_
        rotate_left
        focus (intro w hSw; (try dsimp only at hSw); go_simp; try with_reducible rfl)
        try simp only [Act.put, List.setIfInBounds_toArray, List.set_cons_zero, List.set_cons_succ, List.getElem_toArray, List.getElem_cons_zero, List.getElem_cons_succ]
        refine wpAnyT_take (i := 4) (v := ?_) rfl (by kernel_rfl) (by kernel_rfl) (by kernel_rfl) (by kernel_rfl) (fun _ _ _ h => h) (Or.inl ⟨by rfl, ?_⟩) hS ?_
        rotate_left
        focus (intro w hSw; (try dsimp only at hSw); go_simp; try with_reducible rfl)
        try simp only [Act.put, List.setIfInBounds_toArray, List.set_cons_zero, List.set_cons_succ, List.getElem_toArray, List.getElem_cons_zero, List.getElem_cons_succ]
        refine wpAnyT_take (i := 6) (v := ?_) rfl (by kernel_rfl) (by kernel_rfl) (by kernel_rfl) (by kernel_rfl) (fun _ _ _ h => h) (Or.inl ⟨by rfl, ?_⟩) hS ?_
        rotate_left
        focus (intro w hSw; (try dsimp only at hSw); go_simp; try with_reducible rfl)
        try simp only [Act.put, List.setIfInBounds_toArray, List.set_cons_zero, List.set_cons_succ, List.getElem_toArray, List.getElem_cons_zero, List.getElem_cons_succ]
        refine wpAnyT_take (i := 7) (v := ?_) rfl (by kernel_rfl) (by kernel_rfl) (by kernel_rfl) (by kernel_rfl) (fun _ _ _ h => h) (Or.inl ⟨by rfl, ?_⟩) hS ?_
        rotate_left
        focus (intro w hSw; (try dsimp only at hSw); go_simp; try with_reducible rfl)
        try simp only [Act.put, List.setIfInBounds_toArray, List.set_cons_zero, List.set_cons_succ, List.getElem_toArray, List.getElem_cons_zero, List.getElem_cons_succ]
        refine wpAnyT_take (i := 8) (v := ?_) rfl (by kernel_rfl) (by kernel_rfl) (by kernel_rfl) (by kernel_rfl) (fun _ _ _ h => h) (Or.inl ⟨by rfl, ?_⟩) hS ?_
        rotate_left
        focus (intro w hSw; (try dsimp only at hSw); go_simp; try with_reducible rfl)
        try simp only [Act.put, List.setIfInBounds_toArray, List.set_cons_zero, List.set_cons_succ, List.getElem_toArray, List.getElem_cons_zero, List.getElem_cons_succ]
        refine wpAnyT_take (i := 9) (v := ?_) rfl (by kernel_rfl) (by kernel_rfl) (by kernel_rfl) (by kernel_rfl) (fun _ _ _ h => h) (Or.inl ⟨by rfl, ?_⟩) hS ?_
        rotate_left
        focus (intro w hSw; (try dsimp only at hSw); go_simp; try with_reducible rfl)
        try simp only [Act.put, List.setIfInBounds_toArray, List.set_cons_zero, List.set_cons_succ, List.getElem_toArray, List.getElem_cons_zero, List.getElem_cons_succ]
        refine wpAnyT_take (i := 10) (v := ?_) rfl (by kernel_rfl) (by kernel_rfl) (by kernel_rfl) (by kernel_rfl) (fun _ _ _ h => h) (Or.inl ⟨by rfl, ?_⟩) hS ?_
        rotate_left
        focus (intro w hSw; (try dsimp only at hSw); go_simp; try with_reducible rfl)
        try simp only [Act.put, List.setIfInBounds_toArray, List.set_cons_zero, List.set_cons_succ, List.getElem_toArray, List.getElem_cons_zero, List.getElem_cons_succ]
        refine wpAnyT_ready (rs := [5]) (by kernel_rfl) (by simp) (AllReadyT.cons rfl (fun K hK => ?_) AllReadyT.nil)
        (go_simp; refine hP1.mono ?_; rintro _ w' ⟨rfl, h⟩; obtain rfl := h.symm; go_wp2_with fail)
        refine hK.out _ _ (Or.inr hS) (fun _ => ?_)
        clear hK K
        try simp only [Act.put, List.setIfInBounds_toArray, List.set_cons_zero, List.set_cons_succ, List.getElem_toArray, List.getElem_cons_zero, List.getElem_cons_succ]
        refine wpAnyT_ready (rs := [11]) (by kernel_rfl) (by simp) (AllReadyT.cons rfl (fun K hK => ?_) AllReadyT.nil)
        (go_simp; refine hP2.mono ?_; rintro _ w' ⟨rfl, h⟩; obtain rfl := h.symm; go_wp2_with fail)
        refine hK.out _ _ (Or.inr hS) (fun _ => ?_)
        clear hK K
        try simp only [Act.put, List.setIfInBounds_toArray, List.set_cons_zero, List.set_cons_succ, List.getElem_toArray, List.getElem_cons_zero, List.getElem_cons_succ]
        refine wpAnyT_take (i := 12) (v := ?_) rfl (by kernel_rfl) (by kernel_rfl) (by kernel_rfl) (by kernel_rfl) (fun _ _ _ h => h) (Or.inl ⟨by rfl, ?_⟩) hS ?_
        rotate_left
        focus (intro w hSw; (try dsimp only at hSw); go_simp; try with_reducible rfl)
        try simp only [Act.put, List.setIfInBounds_toArray, List.set_cons_zero, List.set_cons_succ, List.getElem_toArray, List.getElem_cons_zero, List.getElem_cons_succ]
        have haz := Mid.alloc wz (.cells #[.int .i64 x, .int .i64 e.l, .int .i64 y] 48)
        have T0 := U0.mid haz (Or.inr (Nat.zero_le _))
        have T1 := U1.mid haz (Or.inr (Nat.zero_le _))
        have T2 := U2.mid haz (Or.inr (Nat.zero_le _))
        have T3 := U3.mid haz (Or.inr (Nat.zero_le _))
        have TE := UE.mid haz (Or.inr (Nat.zero_le _))
        have hownT := hownU.alloc (.cells #[.int .i64 x, .int .i64 e.l, .int .i64 y] 48)
        have hmt := hmu.trans haz
        have hS2 := And.intro (TE.cell 0 rfl) (And.intro (TE.cell 1 rfl) (And.intro (TE.cell 2 rfl) (T3.cell 2 rfl)))
        have hrs : Rs (wz.alloc (.cells #[.int .i64 x, .int .i64 e.l, .int .i64 y] 48)) (wz.heap.size + 1) (some ⟨wz.heap.size, 0, none⟩) [.int .i64 x, .int .i64 e.l, .int .i64 y] := fun _ => ⟨wz.heap.size, 0, rfl, Nat.lt_succ_self _, fun j u hu => (World.cell?_alloc_at _ _ _ _ rfl).trans (by simpa using hu)⟩
        have hone : ∀ u ∈ [Value.int .i64 x, .int .i64 e.l, .int .i64 y], u.oneCell' = true := by
          intro u hu
          simp at hu
          rcases hu with rfl | rfl | rfl <;> rfl
        have hmxl : n2 + 1 ≤ maxLen := by unfold maxLen; omega
        have hbyt : (n2 + 1) * 24 ≤ 140737488355328 := by omega
        have hbas : w3.heap.size ≤ (wz.alloc (.cells #[.int .i64 x, .int .i64 e.l, .int .i64 y] 48)).heap.size := by have := hownT; have h1 := T3.1; omega
        have hGz : G < wz.heap.size := U3.1
        have HO := Lib.hid hone
        have HB0 := Lib.hid (fun (g : Nat) (h : Value.ownBlock (.slice A2 n2 c2) = some g) => (hownT.lt g h).1)
        have HBk := Lib.hid hbk
        have HBe := Lib.hid hbE
        clear hone hbk hbE U0 U1 U2 U3 UE hownU f0 f1 f2 g2 p1 hS hmu haz hP1 hP2
        refine wpAnyT_ready (rs := [13]) (by kernel_rfl) (by simp) (AllReadyT.cons rfl (fun K hK => ?_) AllReadyT.nil)
        go_simp
        refine hK.out _ _ (Or.inr hS2) (fun _ => ?_)
        clear hK K
        try simp only [Act.put, List.setIfInBounds_toArray, List.set_cons_zero, List.set_cons_succ, List.getElem_toArray, List.getElem_cons_zero, List.getElem_cons_succ]
        generalize hwt : wz.alloc (.cells #[.int .i64 x, .int .i64 e.l, .int .i64 y] 48) = wt at T0 T1 T2 T3 TE hownT hmt hS2 hrs hbas ⊢
        have hszt : wt.heap.size = wz.heap.size + 1 := by rw [← hwt]; simp
        have HZT := Lib.hid hszt
        clear hwt hszt
        refine wpAnyT_ready (rs := [14]) (by kernel_rfl) (by simp) (AllReadyT.cons rfl (fun K hK => ?_) AllReadyT.nil)
        (refine step_cat (by rfl) (.tmp 63) (.tmp 75) 27 (by rfl) w3.heap.size 48 (.agg #[.int .i64 0, .int .i64 0, .int .i64 0]) 3 24 undSE infoE rfl (by decide) (.slice A2 n2 c2) n2 _ (by rfl) hownT (some ⟨wz.heap.size, 0, none⟩) 1 1 _ [.int .i64 x, .int .i64 e.l, .int .i64 y] (by rfl) hrs rfl HO.out hmxl hbyt hbas ?_; intro v2 w2 ho2 hgr2 hat2; obtain ⟨A3, c3, rfl, -, -⟩ := owns_shape ho2)
        refine hK.out _ _ (Or.inr ⟨(TE.grown hgr2 HBe.out).cell 0 rfl, (TE.grown hgr2 HBe.out).cell 1 rfl, (TE.grown hgr2 HBe.out).cell 2 rfl, (T3.grown hgr2 HBk.out).cell 2 rfl⟩) (fun _ => ?_)
        clear hK K
        try simp only [Act.put, List.setIfInBounds_toArray, List.set_cons_zero, List.set_cons_succ, List.getElem_toArray, List.getElem_cons_zero, List.getElem_cons_succ]
        have R3 := T3.grown hgr2 HBk.out
        have RE := TE.grown hgr2 HBe.out
        have R0 := T0.grown hgr2 (fun h => by have := HB0.out _ h; omega)
        have R1 := T1.grown hgr2 (fun h => by have := HB0.out _ h; omega)
        have R2 := T2.grown hgr2 (fun h => by have := HB0.out _ h; omega)
        have hmr2 : Mid 0 0 w w2 := hmt.transNew (Mid.of_grownRow hownT hgr2) (Or.inl hw3)
        have hS3 := And.intro (RE.cell 0 rfl) (And.intro (RE.cell 1 rfl) (And.intro (RE.cell 2 rfl) (R3.cell 2 rfl)))
        have hne : Value.ownBlock (.slice A3 (n2 + 1) c3) ≠ some G := by
          rcases hat2 with h | h
          · rw [h]; exact HBk.out
          · rw [h]
            intro he
            injection he with he
            have := HZT.out
            omega
        have HNE := Lib.hid hne
        have hr2 := R3.cell 2 rfl
        have hrf := R3.2.2
        clear hne hat2 hS2 hrs T0 T1 T2 T3 TE hmt
        refine wpAnyT_take (i := 15) (v := ?_) rfl (by kernel_rfl) (by kernel_rfl) (by kernel_rfl) (by kernel_rfl) (fun _ _ _ h => h) (Or.inl ⟨by rfl, ?_⟩) hS3 ?_
        rotate_left
        focus (intro w hSw; (try dsimp only at hSw); go_simp; try with_reducible rfl)
        try simp only [Act.put, List.setIfInBounds_toArray, List.set_cons_zero, List.set_cons_succ, List.getElem_toArray, List.getElem_cons_zero, List.getElem_cons_succ]
        refine wpAnyT_ready (rs := [16]) (by kernel_rfl) (by simp) (AllReadyT.cons rfl (fun K hK => ?_) AllReadyT.nil)
        (go_simp)
        refine hK.out _ _ (Or.inl rfl) (fun _ => ?_)
        clear hK K
        try simp only [Act.put, List.setIfInBounds_toArray, List.set_cons_zero, List.set_cons_succ, List.getElem_toArray, List.getElem_cons_zero, List.getElem_cons_succ]
        refine wpAnyT_done (by kernel_rfl) ?_ _
        go_wp2_with fail
        go_roundw
        case rel =>
          have hst := Mid.setCell w2 (lo := G) (hi := G + 1) (p := ⟨G, 2, none⟩) (.slice A3 (n2 + 1) c3) (Nat.le_refl _) (Nat.lt_succ_self _)
          refine ⟨k + 1, A3, n2 + 1, c3, by omega, by go_num, Lib.hid (by rw [HN2.out]; omega), ?_, HNE.out, R0.mid hst (Or.inl (by omega)), R1.mid hst (Or.inl (by omega)), R2.mid hst (Or.inl (by omega)), R3.set 2 _ (by simp) rfl, hmr2.storeNew (by show w.heap.size ≤ G; omega) _⟩
          have h1 := owns_other ho2 (k := G) (grown_setCell (World.grownBy.refl _ (some G)) 2 (.slice A3 (n2 + 1) c3)) HNE.out
          have h2 : ints (edI (es ++ glueE s (es'.take (k + 1)))) = ints (edI (es ++ glueE s (es'.take k))) ++ [.int .i64 x, .int .i64 e.l, .int .i64 y] := by
            rw [take_snoc HE.out]
            simp [glueE, edI_append, edI_one, ints_append, ints, glueF, HX.out, HY.out]
          rw [h2]
          exact h1
        case measure => simp [intOf]; omega
      · obtain rfl : k = es'.length := by omega
        rw [List.take_length] at hown
        have hrg : RG wr w3.heap.size wr.heap.size A2 (es ++ glueE s es') := OV.rv (e := 48) (size := 3) (c := c2) (n := n2) ⟨Nat.le_refl _, hown, fun g hg => (hown.lt g hg).2⟩
        have hnl : (es ++ glueE s es').length = n2 := by rw [HN2.out]; simp [glueE]
        have HNL := Lib.hid hnl
        have z2 := Z3.cell 2 rfl
        clear hnl
        go_wp2_with fail
        with_reducible refine (impl_sortedN A2 (es ++ glueE s es') n2 c2 _ _ _ HNL.out hrg (by omega)).mono ?_
        rintro en w6 ⟨A4, c4, rfl, ho6, hm6⟩
        have Q2 := Z2.mid hm6 (Or.inr (Nat.zero_le _))
        have Q3 := Z3.mid hm6 (Or.inr (Nat.zero_le _))
        have hG6 : G < wr.heap.size := Z3.1
        have hsz6 := hm6.size
        clear z2
        have a0 := Q2.cell 0 rfl
        have a1 := Q2.cell 1 rfl
        have a2 := Q2.cell 2 rfl
        have b0 := Q3.cell 0 rfl
        have b1 := Q3.cell 1 rfl
        have b2 := Q3.cell 2 rfl
        have af := Q2.2.2
        have bf := Q3.2.2
        go_wp2_with fail
        have hcl : (w.heap.size + 1 + 1 == G) = false := by simp; omega
        refine bodyPost_ret (v := .tuple #[.agg #[.int .i64 r, .int .i64 (s + s' - 1), .slice A4 (canon (es ++ glueE s es')).length c4], .bool true]) (by simp [results, Try.results16, go_sem, a0, a1, a2, b0, b1, b2, af, bf]) rfl ⟨A4, c4, ?_, ?_, ?_⟩
        · rw [HRR.out, HRS.out, HRE.out]
        · rw [HRE.out]
          refine OG.wide (OG.mid ho6 (a := w.heap.size) (b := G + 1) ?_ (Or.inl hG6)) (by have := hmr.size; omega) (by simp) (Nat.le_refl _)
          repeat (first | exact Mid.refl _ _ _ | refine Mid.stored ?_ _ (by simp; try omega) (by simp; try omega))
        · have h := hmr.trans hm6
          repeat (first | exact h | refine Mid.storeNew ?_ (by simp; try omega) _)
  · obtain ⟨rfl, rfl, rfl, rfl⟩ := HR.out.no hok
    have hc : r ≠ r' ∨ (r = r' ∧ 40 < s + s' - 1) ∨ (r = r' ∧ ¬ 40 < s + s' - 1 ∧ 120 < es.length + es'.length) := by
      by_cases h1 : r = r'
      · by_cases h2 : 40 < s + s' - 1
        · exact .inr (.inl ⟨h1, h2⟩)
        · refine .inr (.inr ⟨h1, h2, ?_⟩)
          refine Classical.byContradiction fun h3 => hok ⟨G1h.out, G2h.out, h1, by omega, by omega⟩
      · exact .inl h1
    clear hok
    rcases hc with h1 | ⟨h1, h2⟩ | ⟨h1, h2, h3⟩
    · have h1a : (r != r') = true := by simpa using h1
      go_wp2_with fail
      refine bodyPost_ret (v := .tuple #[.agg #[.int .i64 0, .int .i64 0, .slice none 0 0], .bool false]) (by simp [results, Try.results16, go_sem, z0, z1, z2, zf]) rfl ⟨none, 0, rfl, OG.nil, ?_⟩
      repeat (first | exact hmm | refine Mid.storeNew ?_ (by simp; try omega) _)
    · have h1a : (r != r') = false := by simpa using h1
      have h2a : decide (40 < s + s' - 1) = true := by simpa using h2
      clear h1
      go_wp2_with fail
      refine bodyPost_ret (v := .tuple #[.agg #[.int .i64 0, .int .i64 0, .slice none 0 0], .bool false]) (by simp [results, Try.results16, go_sem, z0, z1, z2, zf]) rfl ⟨none, 0, rfl, OG.nil, ?_⟩
      repeat (first | exact hmm | refine Mid.storeNew ?_ (by simp; try omega) _)
    · have h1a : (r != r') = false := by simpa using h1
      have h2a : decide (40 < s + s' - 1) = false := by simpa using h2
      have h3a : decide (120 < (es.length : Int) + (es'.length : Int)) = true := by simp; omega
      clear h1
      go_wp2_with fail
      refine bodyPost_ret (v := .tuple #[.agg #[.int .i64 0, .int .i64 0, .slice none 0 0], .bool false]) (by simp [results, Try.results16, go_sem, z0, z1, z2, zf]) rfl ⟨none, 0, rfl, OG.nil, ?_⟩
      repeat (first | exact hmm | refine Mid.storeNew ?_ (by simp; try omega) _)
end Go.Proofs.Ytkcfbcbkokabdaa
