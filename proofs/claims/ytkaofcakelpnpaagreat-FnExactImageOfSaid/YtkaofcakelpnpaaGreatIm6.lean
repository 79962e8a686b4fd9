/- Contracts and lemmas of this seat, many texts in one: see the words ahead of each. No condition beyond those typed in each lemma. -/
import Derived.Test.YtkaofcakelpnpaaGreatIm5
import Derived.Test.YtkaofcakelpnpaaGreatIm1
import Derived.IntWalk
import Derived.Outline
import Derived.Test.YtkaofcakelpnpaaGreatIm2
import Derived.Test.YtkaofcakelpnpaaGreatIm3
import Derived.Test.YtkaofcakelpnpaaGreatIm4
import Derived.ChangeAlike

namespace Go.Proofs.YtkaofcakelpnpaaGreat
set_option linter.unusedVariables false
set_option linter.unusedSimpArgs false
open Go.RowKit
structure Mv where
  kind : Int
  i : Int
  j : Int
  sign : Int
deriving DecidableEq
def Mv.v (m : Mv) : Value := .agg #[.int .i64 m.kind, .int .i64 m.i, .int .i64 m.j, .int .i64 m.sign]
def rowAt (l : List (List Int)) (i : Int) : List Int := l.getD i.toNat []
def MvOk (l : List (List Int)) (m : Mv) : Prop := 0 ≤ m.j ∧ m.j < l.length ∧ m.j ≠ m.i ∧ (m.sign = 1 ∨ m.sign = -1)
instance (l : List (List Int)) (m : Mv) : Decidable (MvOk l m) := by unfold MvOk; infer_instance
def mvWord (l : List (List Int)) (m : Mv) : List Int := if m.sign < 0 then invW (rowAt l m.j) else rowAt l m.j
def applyM (l : List (List Int)) (m : Mv) : List (List Int) × Bool :=
  if ¬ (0 ≤ m.i ∧ m.i < l.length) then (l, false)
  else if m.kind = 1 then (l.set m.i.toNat (invW (rowAt l m.i)), true)
  else if m.kind = 4 then (if 0 < (rowAt l m.i).length then (l, false) else (l.eraseIdx m.i.toNat, true))
  else if ¬ MvOk l m then (l, false)
  else if m.kind = 2 then (l.set m.i.toNat (red [] (rowAt l m.i ++ mvWord l m)), true)
  else if m.kind = 3 then (l.set m.i.toNat (red [] (mvWord l m ++ rowAt l m.i)), true)
  else (l, false)
theorem okI_app {xs ys : List Int} (h : OkI xs) (h' : OkI ys) : OkI (xs ++ ys) := fun x hx => by
  rcases List.mem_append.1 hx with h1 | h1
  · exact h x h1
  · exact h' x h1
def mvOf (i k n : Nat) : Mv := ⟨2 + (n : Int) / 2, i, k, 1 - 2 * ((n : Int) % 2)⟩
def mvTry (l : List (List Int)) (i k n : Nat) : Bool :=
  (applyM l (mvOf i k n)).2 && decide (cmpN (rowAt (applyM l (mvOf i k n)).1 i) (rowAt l i) < 0)
def tryN (l : List (List Int)) (i k n : Nat) : Option Mv := if mvTry l i k n then some (mvOf i k n) else none
def tryK (l : List (List Int)) (i k : Nat) : Option Mv := (List.range 4).findSome? (tryN l i k)
def tryI (l : List (List Int)) (i : Nat) : Option Mv := (List.range l.length).findSome? (tryK l i)
def tryD (l : List (List Int)) (i : Nat) : Option Mv := if (rowAt l i).length = 0 then some ⟨4, i, 0, 0⟩ else none
def nextM (l : List (List Int)) : Option Mv :=
  ((List.range l.length).findSome? (tryD l)).or ((List.range l.length).findSome? (tryI l))
end Go.Proofs.YtkaofcakelpnpaaGreat

namespace Go.Proofs.YtkaofcakelpnpaaGreat
set_option linter.unusedVariables false
set_option linter.unusedSimpArgs false
open Go.RowKit
set_option maxHeartbeats 800000 in
theorem spec_MultiplyWords (A A' : Option Addr) (xs ys : List Int) (c c' : Nat) (w : World) (hr : Rs w w.heap.size A (ints xs)) (hr' : Rs w w.heap.size A' (ints ys)) (hok : OkI xs) (hok' : OkI ys) (hl : xs.length + ys.length ≤ 268435456) :
    Calls Tryz.prog 69 #[.slice A xs.length c, .slice A' ys.length c'] w fun e w' => RetI 3 (red [] (xs ++ ys)) w e w' := by
  have hoe := owns_empty w 3 1
  have hb0 : Below w.heap.size w (w.alloc (.cells #[] 3)) := (Below.refl w.heap.size w).alloc (Nat.le_refl _) _
  have hra : Rs (w.alloc (.cells #[] 3)) w.heap.size A (ints xs) := hr.alloc (Nat.le_refl _) _
  have hla : (ints xs).length = xs.length * 1 := by rw [ints_len]; omega
  have hlb : (ints ys).length = ys.length * 1 := by rw [ints_len]; omega
  have hoo := Lib.hid (okI_app hok hok')
  go_enter Tryz.func69, Tryz.ntmps69
  go_wp2_with (at_builtin; refine wpList_cat rfl (.tmp 5) (.tmp 6) 48 rfl w.heap.size 3 (.int .i64 0) 1 8 undSI infoI rfl (by decide) _ _ _ rfl hoe A xs.length c w.heap.size (ints xs) rfl hra hla (one_of_ints _) ?c4 ?c5 ?c6 ?next)
  case c4 => unfold maxLen; omega
  case c5 => omega
  case c6 => simp
  case next =>
    intro v2 w2 ho2 hgr2 _
    try rw [Nat.zero_add, List.nil_append] at ho2
    have hb2 : Below w.heap.size w w2 := hb0.grown hgr2 (by simp) (fun g hg => (hoe.lt g hg).1)
    have hrb : Rs w2 w.heap.size A' (ints ys) := hr'.below hb2
    have hs2 := hb2.size
    go_wp2_with (at_builtin; refine wpList_cat rfl (.tmp 7) (.tmp 8) 48 rfl w.heap.size 3 (.int .i64 0) 1 8 undSI infoI rfl (by decide) _ _ _ rfl ho2 A' ys.length c' w.heap.size (ints ys) rfl hrb hlb (one_of_ints _) ?d4 ?d5 ?d6 ?next2)
    case d4 => unfold maxLen; omega
    case d5 => omega
    case d6 => omega
    case next2 =>
      intro v3 w3 ho3 hgr3 _
      have hb3 : Below w.heap.size w w3 := hb2.grown hgr3 hs2 (fun g hg => (ho2.lt g hg).1)
      rw [← ints_append, ← List.length_append] at ho3
      have hlz : (xs ++ ys).length ≤ 268435456 := by rw [List.length_append]; exact hl
      obtain ⟨zs, hzs⟩ : ∃ zs, zs = xs ++ ys := ⟨_, rfl⟩
      rw [← hzs] at ho3 hoo hlz
      have HZ := Lib.hid hzs
      clear hzs
      obtain ⟨A3, c3, rfl, -, -⟩ := owns_shape ho3
      go_wp2_with fail
      refine (spec_ReduceLetters A3 zs c3 w3 w3.heap.size (Rs.of_own ho3) (Nat.le_refl _) hoo.out hlz).mono ?_
      rintro e w4 ⟨A4, c4, rfl, ho4, hb4⟩
      go_wp2_with fail
      go_ret
      obtain rfl := HZ.out
      exact ⟨A4, c4, rfl, owns_base ho4 hb3.size, hb3.trans (hb4.mono hb3.size)⟩
abbrev RetMv (d : List (List Int)) (m : Mv) (w : World) (e : Ending) (w' : World) : Prop :=
  ∃ A c, e = .returned (.tuple #[.slice A (applyM d m).1.length c, .bool (applyM d m).2]) ∧ OSS w' w.heap.size w'.heap.size 48 3 A c (applyM d m).1 ∧ Mid 0 0 w w'
theorem RetMv.mk {d ys : List (List Int)} {m : Mv} {b : Bool} {w w' : World} {A : Option Addr} {c n : Nat} (he : applyM d m = (ys, b)) (hn : ys.length = n) (ho : OSS w' w.heap.size w'.heap.size 48 3 A c ys) (hm : Mid 0 0 w w') : RetMv d m w (.returned (.tuple #[.slice A n c, .bool b])) w' := by
  subst hn
  refine ⟨A, c, ?_, ?_, hm⟩
  · rw [he]
  · rw [he]; exact ho
theorem OSS.cut {w : World} {lo hi : Nat} {tSI tI : TypeId} {A : Option Addr} {c : Nat} {xss : List (List Int)} (h : OSS w lo hi tSI tI A c xss) : ∃ rows, rowsD rows = xss ∧ w.ownsRow lo tSI 1 (.slice A xss.length c) xss.length (rowsV rows) ∧ (∀ g, Value.ownBlock (.slice A xss.length c) = some g → g < hi) ∧ OwnRows w lo hi tI rows := by
  obtain ⟨_, rows, h1, h2, h3⟩ := h
  exact ⟨rows, h1, h2.2.1, h2.2.2, h3⟩
end Go.Proofs.YtkaofcakelpnpaaGreat

namespace Go.Proofs.YtkaofcakelpnpaaGreat
set_option linter.unusedVariables false
set_option linter.unusedSimpArgs false
open Go.RowKit
set_option maxHeartbeats 12800000 in
set_option maxRecDepth 100000 in
theorem spec_LoopOf (r n : Nat) (A : Option Addr) (es : List Ed) (c : Nat) (pa pb : Nat) (el : Int) (w : World) (lo hi : Nat) (hr : RG w lo hi A es) (hco : IsCor r n es) (he : (⟨(pa : Int), el, (pb : Int)⟩ : Ed) ∈ es) :
    Calls Tryz.prog 40 #[graV r n A es.length c, .agg #[.int .i64 (pa : Int), .int .i64 el, .int .i64 (pb : Int)]] w fun e w' => ∃ A1 c1, e = .returned (.slice A1 (basisW r es ⟨(pa : Int), el, (pb : Int)⟩).length c1) ∧ w'.ownsRow w.heap.size 3 1 (.slice A1 (basisW r es ⟨(pa : Int), el, (pb : Int)⟩).length c1) (basisW r es ⟨(pa : Int), el, (pb : Int)⟩).length (ints (basisW r es ⟨(pa : Int), el, (pb : Int)⟩)) ∧ Mid 0 0 w w' := by
  have hn40 : n ≤ 40 := by have := hco.gr.size; omega
  have hl := hco.gr.len
  have hin := hco.gr.all _ he
  unfold InG at hin
  simp only at hin
  have hr3 : r ≤ 3 := by have := hco.gr.rank; omega
  have hpa : pa < n := by omega
  have hpb : pb < n := by omega
  have hel : -3 ≤ el ∧ el ≤ 3 := by omega
  obtain ⟨hla, hlla⟩ := wordV_ok hco hpa
  obtain ⟨hlb, hllb⟩ := wordV_ok hco hpb
  have hA1 := fun W h => spec_TreeWord r n pa A es c W lo hi h hco hpa
  have hA2 := fun W h => spec_TreeWord r n pb A es c W lo hi h hco hpb
  have hbas : basisW r es ⟨(pa : Int), el, (pb : Int)⟩ = red [] (wordV r es (pa : Int) ++ [el] ++ invW (wordV r es (pb : Int))) := rfl
  generalize wordV r es (pa : Int) = wa at hla hlla hA1 hbas
  generalize wordV r es (pb : Int) = wb at hlb hllb hA2 hbas
  generalize basisW r es ⟨(pa : Int), el, (pb : Int)⟩ = bw at hbas ⊢
  have hoka : OkI wa := fun x hx => by have := mem_lets.1 (hlla x hx); omega
  have hokb : OkI wb := fun x hx => by have := mem_lets.1 (hllb x hx); omega
  have hokl : OkI (wa ++ [el]) := by
    intro y hy
    rcases List.mem_append.1 hy with h | h
    · exact hoka y h
    · simp at h
      subst h
      omega
  have HOKB := Lib.hid hokb
  have HOKL := Lib.hid hokl
  have HA1 := Lib.hid hA1
  have HA2 := Lib.hid hA2
  have HBAS := Lib.hid hbas
  have HCO := Lib.hid hco
  have HEM := Lib.hid he
  clear hco hA1 hA2 hbas hlla hllb hoka hokb hokl hin he
  have hm0 : Mid 0 0 w ((w.alloc (.cells #[.int .i64 r, .int .i64 n, .slice A es.length c] 32)).alloc (.cells #[.int .i64 (pa : Int), .int .i64 el, .int .i64 (pb : Int)] 64)) := (Mid.alloc _ _).trans (Mid.alloc _ _)
  have B0 := (Box.new w #[.int .i64 r, .int .i64 n, .slice A es.length c] 32).mid (Mid.alloc _ (.cells #[.int .i64 (pa : Int), .int .i64 el, .int .i64 (pb : Int)] 64)) oZr
  have B1 := Box.new (w.alloc (.cells #[.int .i64 r, .int .i64 n, .slice A es.length c] 32)) #[.int .i64 (pa : Int), .int .i64 el, .int .i64 (pb : Int)] 64
  simp only [World.size_alloc] at B1
  go_enter Tryz.func40, Tryz.ntmps40
  go_wp2_with fail
  generalize (w.alloc (.cells #[.int .i64 r, .int .i64 n, .slice A es.length c] 32)).alloc (.cells #[.int .i64 (pa : Int), .int .i64 el, .int .i64 (pb : Int)] 64) = w1 at hm0 B0 B1 ⊢
  have hs1 : w.heap.size + 1 < w1.heap.size := B1.1
  go_loopw [5, 6] (fun v j wq => ∃ m : Nat, ∃ vb : Bool, m ≤ es.length ∧ j = .int .i64 m ∧ v = .bool vb ∧ Hid (vb = true ↔ (⟨(pa : Int), el, (pb : Int)⟩ : Ed) ∈ es.take m) ∧ Mid 0 0 w1 wq) (fun _ j _ => es.length - (intOf j).toNat)
  case atStart => exact ⟨0, false, Nat.zero_le _, rfl, rfl, Lib.hid (by simp), Mid.refl _ _ _⟩
  case round =>
    obtain ⟨m, vb, hmle, rfl, rfl, HV, hmq⟩ := hrel
    have ba := B0.mid hmq oZr
    have bb := B1.mid hmq oZr
    have P2 := ba.cell 2 rfl
    have Q0 := bb.cell 0 rfl
    have Q1 := bb.cell 1 rfl
    have Q2 := bb.cell 2 rfl
    by_cases hlm : m < es.length
    · obtain ⟨B', off', f, hA', -, hbh', hff, f0, f1, f2⟩ := (hr.mid (hm0.trans hmq) oZl).ed hlm
      subst hA'
      have zb' : B' < wr.heap.size := Nat.lt_of_lt_of_le hbh' (Nat.le_trans hr.1 (hm0.trans hmq).size)
      have p2 := wg_cell ba.1 P2
      have q0 := wg_cell bb.1 Q0
      have q1 := wg_cell bb.1 Q1
      have q2 := wg_cell bb.1 Q2
      have z0 := wg_cell (by show B' < wr.heap.size; omega) f0
      have z1 := wg_cell (by show B' < wr.heap.size; omega) f1
      have z2 := wg_cell (by show B' < wr.heap.size; omega) f2
      have hm0' : (0 : Int) ≤ (m : Int) := by omega
      have hmn : (m : Int) < (es.length : Int) := by omega
      obtain ⟨d, hd⟩ : ∃ d, decide (f = ⟨(pa : Int), el, (pb : Int)⟩) = d := ⟨_, rfl⟩
      have hq := eqlEd_run f ⟨(pa : Int), el, (pb : Int)⟩ hd
      have hg := guardEd f ⟨(pa : Int), el, (pb : Int)⟩
      have HD := Lib.hid hd
      have HFF := Lib.hid hff
      clear hff hd
      cases vb with
      | false =>
        go_wp2_with fail
        refine wp_region_quiet_wg (by kernel_rfl) (by kernel_rfl) ?_
        repeat
          (with_reducible refine wpQuiet_step (fun K hK => ?_))
          go_simp
          first
            | ((with_reducible refine hK _ ?_); clear hK K)
            | (rw [if_neg (by decide)]; (with_reducible refine hK _ ?_); clear hK K)
            | (apply Exists.intro; refine ⟨fun _ => ?_, hK _ ?_⟩; (fail); clear hK K)
        with_reducible refine wpQuiet_nil ?_
        intro _ hw'
        obtain ⟨⟨nq, osq⟩, hw''⟩ := hw'
        subst hw''
        go_wp2_with fail
        go_roundw
        case rel =>
          refine ⟨m + 1, d, by omega, by go_num, rfl, Lib.hid ?_, hmq.trans (Mid.ofWg _ _ _)⟩
          rw [mem_take_snoc HFF.out, ← HD.out, decide_eq_true_iff]
          have hn : ¬ (⟨(pa : Int), el, (pb : Int)⟩ : Ed) ∈ es.take m := fun h => by have := HV.out.2 h; cases this
          exact ⟨fun h => .inr h.symm, fun h => (h.resolve_left hn).symm⟩
        case measure => simp [intOf]; omega
      | true =>
        have HM := Lib.hid (HV.out.1 rfl)
        clear HV
        go_wp2_with fail
        refine wp_region_quiet_wg (by kernel_rfl) (by kernel_rfl) ?_
        repeat
          (with_reducible refine wpQuiet_step (fun K hK => ?_))
          go_simp
          first
            | ((with_reducible refine hK _ ?_); clear hK K)
            | (rw [if_neg (by decide)]; (with_reducible refine hK _ ?_); clear hK K)
            | (apply Exists.intro; refine ⟨fun _ => ?_, hK _ ?_⟩; (fail); clear hK K)
        with_reducible refine wpQuiet_nil ?_
        intro _ hw'
        obtain ⟨⟨nq, osq⟩, hw''⟩ := hw'
        subst hw''
        go_wp2_with fail
        go_roundw
        case rel => exact ⟨m + 1, true, by omega, by go_num, rfl, Lib.hid (iff_of_true rfl ((mem_take_snoc HFF.out).2 (.inl HM.out))), hmq.trans (Mid.ofWg _ _ _)⟩
        case measure => simp [intOf]; omega
    · obtain rfl : m = es.length := by omega
      obtain rfl : vb = true := HV.out.2 (by rw [List.take_length]; exact HEM.out)
      have hm1 := hm0.trans hmq
      have hsq := hmq.size
      have P0 := ba.cell 0 rfl
      have P1 := ba.cell 1 rfl
      clear B0 B1 hmq hm0 HV
      go_wp2_with fail
      with_reducible refine (spec_IsFolded r n A es c wr lo hi (hr.mid hm1 oZl) (by omega) true (iff_of_true rfl HCO.out.fol)).mono ?_
      rintro en w2 ⟨rfl, hm2⟩
      have hmz := hm2.trans (Mid.drew1 w2)
      have ba2 := ba.mid hmz oZr
      have bb2 := bb.mid hmz oZr
      have hm3 := hm1.trans hmz
      have hsz := hmz.size
      clear P0 P1 P2 Q0 Q1 Q2 ba bb hm1 hm2
      go_wp2_with fail
      have p0 := ba2.cell 0 rfl
      have p1 := ba2.cell 1 rfl
      have p2 := ba2.cell 2 rfl
      have q0 := bb2.cell 0 rfl
      have q1 := bb2.cell 1 rfl
      have q2 := bb2.cell 2 rfl
      have hbA := ba2.1
      have hbB := bb2.1
      refine wp_region_Z (S := (fun w' => w'.cell? ⟨w.heap.size, 0, none⟩ = some (.int .i64 r) ∧ w'.cell? ⟨w.heap.size, 1, none⟩ = some (.int .i64 n) ∧ w'.cell? ⟨w.heap.size, 2, none⟩ = some (.slice A es.length c) ∧ w'.cell? ⟨w.heap.size + 1, 0, none⟩ = some (.int .i64 (pa : Int)) ∧ w'.cell? ⟨w.heap.size + 1, 1, none⟩ = some (.int .i64 el) ∧ w'.cell? ⟨w.heap.size + 1, 2, none⟩ = some (.int .i64 (pb : Int)))) [14] (by kernel_rfl) ⟨p0, p1, p2, q0, q1, q2⟩ ?_
      generalize World.drew w2 = wz at p0 p1 p2 q0 q1 q2 hm3 hbA hbB hmz hsz ba2 bb2 ⊢
      have hK : ∀ W, Mid 0 0 wz W → (W.cell? ⟨w.heap.size, 0, none⟩ = some (.int .i64 r) ∧ W.cell? ⟨w.heap.size, 1, none⟩ = some (.int .i64 n) ∧ W.cell? ⟨w.heap.size, 2, none⟩ = some (.slice A es.length c) ∧ W.cell? ⟨w.heap.size + 1, 0, none⟩ = some (.int .i64 (pa : Int)) ∧ W.cell? ⟨w.heap.size + 1, 1, none⟩ = some (.int .i64 el) ∧ W.cell? ⟨w.heap.size + 1, 2, none⟩ = some (.int .i64 (pb : Int))) := fun W m => ⟨cell_keep m hbA oZr p0, cell_keep m hbA oZr p1, cell_keep m hbA oZr p2, cell_keep m hbB oZr q0, cell_keep m hbB oZr q1, cell_keep m hbB oZr q2⟩
      have hSz := hK wz (Mid.refl 0 0 wz)
      have hRZ : RG wz lo hi A es := hr.mid hm3 oZl
      have hwz : w.heap.size ≤ wz.heap.size := hm3.size
      have hone1 : ∀ u ∈ [Value.int .i64 el], u.oneCell' = true := by
        intro u hu
        simp at hu
        subst hu
        rfl
      have hmx1 : wa.length + 1 ≤ maxLen := by unfold maxLen; omega
      have hby1 : (wa.length + 1) * 8 ≤ 140737488355328 := by omega
      clear ba2 bb2 hmz hsz
      refine wpAnyZ_takeC [3, 7, 13, 14] (i := 0) (v := ?_) rfl (by kernel_rfl) (by kernel_rfl) (by kernel_rfl) (by kernel_rfl) (fun _ _ _ h => h) (Or.inl ⟨by rfl, ?_⟩) hSz ?_
      rotate_left
      focus (intro w hSw; (try dsimp only at hSw); go_simp; try with_reducible rfl)
      try simp only [Act.put, List.setIfInBounds_toArray, List.set_cons_zero, List.set_cons_succ, List.getElem_toArray, List.getElem_cons_zero, List.getElem_cons_succ]
      refine wpAnyZ_takeC [2, 3, 7, 13, 14] (i := 1) (v := ?_) rfl (by kernel_rfl) (by kernel_rfl) (by kernel_rfl) (by kernel_rfl) (fun _ _ _ h => h) (Or.inl ⟨by rfl, ?_⟩) hSz ?_
      rotate_left
      focus (intro w hSw; (try dsimp only at hSw); go_simp; try with_reducible rfl)
      try simp only [Act.put, List.setIfInBounds_toArray, List.set_cons_zero, List.set_cons_succ, List.getElem_toArray, List.getElem_cons_zero, List.getElem_cons_succ]
      refine wpAnyZ_takeC [3, 7, 13, 14] (i := 2) (v := ?_) rfl (by kernel_rfl) (by kernel_rfl) (by kernel_rfl) (by kernel_rfl) (fun _ _ _ h => h) (Or.inl ⟨by rfl, ?_⟩) hSz ?_
      rotate_left
      focus (intro w hSw; (try dsimp only at hSw); go_simp; try with_reducible rfl)
      try simp only [Act.put, List.setIfInBounds_toArray, List.set_cons_zero, List.set_cons_succ, List.getElem_toArray, List.getElem_cons_zero, List.getElem_cons_succ]
      refine wpAnyZ_takeC [5, 6, 7, 13, 14] (i := 4) (v := ?_) rfl (by kernel_rfl) (by kernel_rfl) (by kernel_rfl) (by kernel_rfl) (fun _ _ _ h => h) (Or.inl ⟨by rfl, ?_⟩) hSz ?_
      rotate_left
      focus (intro w hSw; (try dsimp only at hSw); go_simp; try with_reducible rfl)
      try simp only [Act.put, List.setIfInBounds_toArray, List.set_cons_zero, List.set_cons_succ, List.getElem_toArray, List.getElem_cons_zero, List.getElem_cons_succ]
      refine wpAnyZ_takeC [6, 7, 13, 14] (i := 5) (v := ?_) rfl (by kernel_rfl) (by kernel_rfl) (by kernel_rfl) (by kernel_rfl) (fun _ _ _ h => h) (Or.inl ⟨by rfl, ?_⟩) hSz ?_
      rotate_left
      focus (intro w hSw; (try dsimp only at hSw); go_simp; try with_reducible rfl)
      try simp only [Act.put, List.setIfInBounds_toArray, List.set_cons_zero, List.set_cons_succ, List.getElem_toArray, List.getElem_cons_zero, List.getElem_cons_succ]
      refine wpAnyZ_takeC [11, 12, 13, 14] (i := 8) (v := ?_) rfl (by kernel_rfl) (by kernel_rfl) (by kernel_rfl) (by kernel_rfl) (fun _ _ _ h => h) (Or.inl ⟨by rfl, ?_⟩) hSz ?_
      rotate_left
      focus (intro w hSw; (try dsimp only at hSw); go_simp; try with_reducible rfl)
      try simp only [Act.put, List.setIfInBounds_toArray, List.set_cons_zero, List.set_cons_succ, List.getElem_toArray, List.getElem_cons_zero, List.getElem_cons_succ]
      refine wpAnyZ_takeC [10, 11, 12, 13, 14] (i := 9) (v := ?_) rfl (by kernel_rfl) (by kernel_rfl) (by kernel_rfl) (by kernel_rfl) (fun _ _ _ h => h) (Or.inl ⟨by rfl, ?_⟩) hSz ?_
      rotate_left
      focus (intro w hSw; (try dsimp only at hSw); go_simp; try with_reducible rfl)
      try simp only [Act.put, List.setIfInBounds_toArray, List.set_cons_zero, List.set_cons_succ, List.getElem_toArray, List.getElem_cons_zero, List.getElem_cons_succ]
      refine wpAnyZ_takeC [11, 12, 13, 14] (i := 10) (v := ?_) rfl (by kernel_rfl) (by kernel_rfl) (by kernel_rfl) (by kernel_rfl) (fun _ _ _ h => h) (Or.inl ⟨by rfl, ?_⟩) hSz ?_
      rotate_left
      focus (intro w hSw; (try dsimp only at hSw); go_simp; try with_reducible rfl)
      try simp only [Act.put, List.setIfInBounds_toArray, List.set_cons_zero, List.set_cons_succ, List.getElem_toArray, List.getElem_cons_zero, List.getElem_cons_succ]
      have hmW := Mid.refl 0 0 wz
      have HK := Lib.hid hK
      have HRZ := Lib.hid hRZ
      clear hK hRZ hSz p0 p1 p2 q0 q1 q2
      refine wpAnyZ_ready (rs := [3,6]) (by kernel_rfl) (by simp) (AllReadyZ.cons rfl (fun K hK => ?_) (AllReadyZ.cons rfl (fun K hK => ?_) AllReadyZ.nil))
      · (go_simp; (with_reducible refine (HA1.out _ (HRZ.out.mid hmW oZl)).mono ?_); rintro en x1 ⟨A1, c1, rfl, ho, hmn⟩; go_wp2_with fail)
        refine hK.out _ _ (Or.inr (HK.out _ (hmW.trans hmn))) (fun _ => ?_)
        clear hK K
        try simp only [Act.put, List.setIfInBounds_toArray, List.set_cons_zero, List.set_cons_succ, List.getElem_toArray, List.getElem_cons_zero, List.getElem_cons_succ]
        have hmx1 := hmW.trans hmn
        have hszx1 := hmn.size
        have HO3 := Lib.hid (owns_base ho hmW.size)
        obtain ⟨s3, hs3⟩ : ∃ s, s = x1.heap.size := ⟨_, rfl⟩
        have hL3 : ∀ g, Value.ownBlock (.slice A1 wa.length c1) = some g → g < s3 := fun g hg => by have := (ho.lt g hg).2; omega
        have hs3le : s3 ≤ x1.heap.size := by omega
        clear hs3
        clear ho hmn
        refine wpAnyZ_ready (rs := [6]) (by kernel_rfl) (by simp) (AllReadyZ.cons rfl (fun K hK => ?_) AllReadyZ.nil)
        go_simp
        refine hK.out _ _ (Or.inr (HK.out _ (hmx1.trans (Mid.alloc x1 (.cells #[.int .i64 el] 3))))) (fun _ => ?_)
        clear hK K
        try simp only [Act.put, List.setIfInBounds_toArray, List.set_cons_zero, List.set_cons_succ, List.getElem_toArray, List.getElem_cons_zero, List.getElem_cons_succ]
        have hal := Mid.alloc x1 (.cells #[.int .i64 el] 3)
        have hmx2 := hmx1.trans hal
        replace HO3 := Lib.hid (owns_mid HO3.out hal oZl)
        have hc6 : (x1.alloc (.cells #[.int .i64 el] 3)).cell? ⟨x1.heap.size, 0, none⟩ = some (.int .i64 el) := World.cell?_alloc_at _ _ _ _ rfl
        have hp6 : x1.heap.size < (x1.alloc (.cells #[.int .i64 el] 3)).heap.size := by simp
        have hszx2 := hal.size
        generalize x1.alloc (.cells #[.int .i64 el] 3) = x2 at hal hmx2 hc6 hp6 hszx2 HO3 ⊢
        generalize hp6e : x1.heap.size = p6 at hc6 hp6 ⊢
        replace hs3le : s3 ≤ x2.heap.size := by omega
        clear hp6e hal hmx1
        refine wpAnyZ_ready (rs := [7]) (by kernel_rfl) (by simp) (AllReadyZ.cons rfl (fun K hK => ?_) AllReadyZ.nil)
        (refine step_cat (by rfl) (.tmp 35) (.tmp 38) 48 (by rfl) wz.heap.size 3 (.int .i64 0) 1 8 undSI infoI rfl (by decide) (.slice A1 wa.length c1) wa.length _ (by rfl) HO3.out (some ⟨p6, 0, none⟩) 1 1 _ [.int .i64 el] (by rfl) (rs_one hc6) rfl hone1 hmx1 hby1 hmx2.size ?_; intro v7 x3 ho7 hgr hat; obtain ⟨A7, c7, rfl, -, -⟩ := owns_shape ho7)
        refine hK.out _ _ (Or.inr (HK.out _ (hmx2.transNew (Mid.of_grownRow HO3.out hgr) (Or.inl (Nat.le_refl _))))) (fun _ => ?_)
        clear hK K
        try simp only [Act.put, List.setIfInBounds_toArray, List.set_cons_zero, List.set_cons_succ, List.getElem_toArray, List.getElem_cons_zero, List.getElem_cons_succ]
        have hmx3 := hmx2.transNew (Mid.of_grownRow HO3.out hgr) (Or.inl (Nat.le_refl _))
        have HO7 : Hid (x3.ownsRow wz.heap.size 3 1 (.slice A7 (wa.length + 1) c7) (wa.length + 1) (ints (wa ++ [el]))) := Lib.hid (by rw [ints_append]; exact ho7)
        replace hs3le : s3 ≤ x3.heap.size := Nat.le_trans hs3le hgr.size
        clear ho7 hgr hat HO3 hc6 hp6 hmx2
        refine wpAnyZ_ready (rs := [11]) (by kernel_rfl) (by simp) (AllReadyZ.cons rfl (fun K hK => ?_) AllReadyZ.nil)
        (go_simp; (with_reducible refine (HA2.out _ (HRZ.out.mid hmx3 oZl)).mono ?_); rintro en x4 ⟨A2, c2, rfl, ho, hmn⟩; go_wp2_with fail)
        refine hK.out _ _ (Or.inr (HK.out _ (hmx3.trans hmn))) (fun _ => ?_)
        clear hK K
        try simp only [Act.put, List.setIfInBounds_toArray, List.set_cons_zero, List.set_cons_succ, List.getElem_toArray, List.getElem_cons_zero, List.getElem_cons_succ]
        have hmx4 := hmx3.trans hmn
        replace HO7 := Lib.hid (owns_mid HO7.out hmn oZl)
        have hszx4 := hmn.size
        have HR2 := Lib.hid ((owns_rv ho).wide (lo' := s3) (hi' := x4.heap.size) (by omega) (Nat.le_refl _) (Nat.le_refl _))
        replace hs3le : s3 ≤ x4.heap.size := by omega
        clear ho hmn hmx3
        refine wpAnyZ_ready (rs := [12]) (by kernel_rfl) (by simp) (AllReadyZ.cons rfl (fun K hK => ?_) AllReadyZ.nil)
        (go_simp; (with_reducible refine (spec_InvertWord A2 wb c2 _ x4 HR2.out.rsS (Nat.le_refl _) HOKB.out (by omega)).mono ?_); intro en x5 hq; obtain ⟨A3, c3, rfl, ho, hmn⟩ := RetI.get hq; go_wp2_with fail)
        refine hK.out _ _ (Or.inr (HK.out _ (hmx4.trans hmn))) (fun _ => ?_)
        clear hK K
        try simp only [Act.put, List.setIfInBounds_toArray, List.set_cons_zero, List.set_cons_succ, List.getElem_toArray, List.getElem_cons_zero, List.getElem_cons_succ]
        have hmx5 := hmx4.trans hmn
        replace HO7 := Lib.hid (owns_mid HO7.out hmn oZl)
        replace HR2 := Lib.hid (HR2.out.mid hmn oZl)
        have hszx5 := hmn.size
        have HR3 := Lib.hid ((owns_rv ho).wide (lo' := s3) (hi' := x5.heap.size) (by omega) (Nat.le_refl _) (Nat.le_refl _))
        replace hs3le : s3 ≤ x5.heap.size := by omega
        clear ho hmn hq HR2 hmx4
        have hMW := spec_MultiplyWords A7 A3 (wa ++ [el]) (invW wb) c7 c3 x5 (owns_rv HO7.out).rsS HR3.out.rsS HOKL.out (okI_invW HOKB.out) (by rw [List.length_append, invW_len]; simp; omega)
        rw [show (wa ++ [el]).length = wa.length + 1 by simp, ← HBAS.out] at hMW
        refine wpAnyZ_ready (rs := [13]) (by kernel_rfl) (by simp) (AllReadyZ.cons rfl (fun K hK => ?_) AllReadyZ.nil)
        (go_simp; (with_reducible refine hMW.mono ?_); intro en x6 hq; obtain ⟨A13, c13, rfl, ho13, hmn⟩ := RetI.get hq; go_wp2_with fail)
        refine hK.out _ _ (Or.inr (HK.out _ (hmx5.trans hmn))) (fun _ => ?_)
        clear hK K
        try simp only [Act.put, List.setIfInBounds_toArray, List.set_cons_zero, List.set_cons_succ, List.getElem_toArray, List.getElem_cons_zero, List.getElem_cons_succ]
        have hmF := hm3.trans (hmx5.trans hmn)
        have hm14 := hmx5.size
        have HO13 := Lib.hid (owns_base ho13 (show w.heap.size ≤ x5.heap.size by omega))
        clear HO7 HR3 hMW ho13 hmn hq
        refine wpAnyZ_ready (rs := [14]) (by kernel_rfl) (by simp) (AllReadyZ.cons rfl (fun K hK => ?_) AllReadyZ.nil)
        go_simp
        refine hK.out _ _ (Or.inl (by simp)) (fun _ => ?_)
        clear hK K
        try simp only [Act.put, List.setIfInBounds_toArray, List.set_cons_zero, List.set_cons_succ, List.getElem_toArray, List.getElem_cons_zero, List.getElem_cons_succ]
        refine wpAnyZ_done (by kernel_rfl) ?_ _
        go_wp2_with fail
        go_ret
        exact ⟨A13, c13, rfl, HO13.out, hmF⟩
      · go_simp
        refine hK.out _ _ (Or.inr (HK.out _ (hmW.trans (Mid.alloc wz (.cells #[.int .i64 el] 3))))) (fun _ => ?_)
        clear hK K
        try simp only [Act.put, List.setIfInBounds_toArray, List.set_cons_zero, List.set_cons_succ, List.getElem_toArray, List.getElem_cons_zero, List.getElem_cons_succ]
        have hal := Mid.alloc wz (.cells #[.int .i64 el] 3)
        have hmx8 := hmW.trans hal
        have hc6 : (wz.alloc (.cells #[.int .i64 el] 3)).cell? ⟨wz.heap.size, 0, none⟩ = some (.int .i64 el) := World.cell?_alloc_at _ _ _ _ rfl
        have hp6 : wz.heap.size < (wz.alloc (.cells #[.int .i64 el] 3)).heap.size := by simp
        have hszx8 := hal.size
        generalize wz.alloc (.cells #[.int .i64 el] 3) = x8 at hal hmx8 hc6 hp6 hszx8 ⊢
        generalize hp6e : wz.heap.size = p6 at hc6 hp6 ⊢
        clear hp6e hal
        refine wpAnyZ_ready (rs := [3]) (by kernel_rfl) (by simp) (AllReadyZ.cons rfl (fun K hK => ?_) AllReadyZ.nil)
        (go_simp; (with_reducible refine (HA1.out _ (HRZ.out.mid hmx8 oZl)).mono ?_); rintro en x9 ⟨A1, c1, rfl, ho, hmn⟩; go_wp2_with fail)
        refine hK.out _ _ (Or.inr (HK.out _ (hmx8.trans hmn))) (fun _ => ?_)
        clear hK K
        try simp only [Act.put, List.setIfInBounds_toArray, List.set_cons_zero, List.set_cons_succ, List.getElem_toArray, List.getElem_cons_zero, List.getElem_cons_succ]
        have hmx9 := hmx8.trans hmn
        replace hc6 := cell_keep hmn hp6 oZr hc6
        replace hp6 := Nat.lt_of_lt_of_le hp6 hmn.size
        have hszx9 := hmn.size
        have HO3 := Lib.hid (owns_base ho hmx8.size)
        obtain ⟨s3, hs3⟩ : ∃ s, s = x9.heap.size := ⟨_, rfl⟩
        have hL3 : ∀ g, Value.ownBlock (.slice A1 wa.length c1) = some g → g < s3 := fun g hg => by have := (ho.lt g hg).2; omega
        have hs3le : s3 ≤ x9.heap.size := by omega
        clear hs3
        clear ho hmn hmx8
        refine wpAnyZ_ready (rs := [7]) (by kernel_rfl) (by simp) (AllReadyZ.cons rfl (fun K hK => ?_) AllReadyZ.nil)
        (refine step_cat (by rfl) (.tmp 35) (.tmp 38) 48 (by rfl) wz.heap.size 3 (.int .i64 0) 1 8 undSI infoI rfl (by decide) (.slice A1 wa.length c1) wa.length _ (by rfl) HO3.out (some ⟨p6, 0, none⟩) 1 1 _ [.int .i64 el] (by rfl) (rs_one hc6) rfl hone1 hmx1 hby1 hmx9.size ?_; intro v7 x10 ho7 hgr hat; obtain ⟨A7, c7, rfl, -, -⟩ := owns_shape ho7)
        refine hK.out _ _ (Or.inr (HK.out _ (hmx9.transNew (Mid.of_grownRow HO3.out hgr) (Or.inl (Nat.le_refl _))))) (fun _ => ?_)
        clear hK K
        try simp only [Act.put, List.setIfInBounds_toArray, List.set_cons_zero, List.set_cons_succ, List.getElem_toArray, List.getElem_cons_zero, List.getElem_cons_succ]
        have hmx10 := hmx9.transNew (Mid.of_grownRow HO3.out hgr) (Or.inl (Nat.le_refl _))
        have HO7 : Hid (x10.ownsRow wz.heap.size 3 1 (.slice A7 (wa.length + 1) c7) (wa.length + 1) (ints (wa ++ [el]))) := Lib.hid (by rw [ints_append]; exact ho7)
        replace hs3le : s3 ≤ x10.heap.size := Nat.le_trans hs3le hgr.size
        clear ho7 hgr hat HO3 hc6 hp6 hmx9
        refine wpAnyZ_ready (rs := [11]) (by kernel_rfl) (by simp) (AllReadyZ.cons rfl (fun K hK => ?_) AllReadyZ.nil)
        (go_simp; (with_reducible refine (HA2.out _ (HRZ.out.mid hmx10 oZl)).mono ?_); rintro en x11 ⟨A2, c2, rfl, ho, hmn⟩; go_wp2_with fail)
        refine hK.out _ _ (Or.inr (HK.out _ (hmx10.trans hmn))) (fun _ => ?_)
        clear hK K
        try simp only [Act.put, List.setIfInBounds_toArray, List.set_cons_zero, List.set_cons_succ, List.getElem_toArray, List.getElem_cons_zero, List.getElem_cons_succ]
        have hmx11 := hmx10.trans hmn
        replace HO7 := Lib.hid (owns_mid HO7.out hmn oZl)
        have hszx11 := hmn.size
        have HR2 := Lib.hid ((owns_rv ho).wide (lo' := s3) (hi' := x11.heap.size) (by omega) (Nat.le_refl _) (Nat.le_refl _))
        replace hs3le : s3 ≤ x11.heap.size := by omega
        clear ho hmn hmx10
        refine wpAnyZ_ready (rs := [12]) (by kernel_rfl) (by simp) (AllReadyZ.cons rfl (fun K hK => ?_) AllReadyZ.nil)
        (go_simp; (with_reducible refine (spec_InvertWord A2 wb c2 _ x11 HR2.out.rsS (Nat.le_refl _) HOKB.out (by omega)).mono ?_); intro en x12 hq; obtain ⟨A3, c3, rfl, ho, hmn⟩ := RetI.get hq; go_wp2_with fail)
        refine hK.out _ _ (Or.inr (HK.out _ (hmx11.trans hmn))) (fun _ => ?_)
        clear hK K
        try simp only [Act.put, List.setIfInBounds_toArray, List.set_cons_zero, List.set_cons_succ, List.getElem_toArray, List.getElem_cons_zero, List.getElem_cons_succ]
        have hmx12 := hmx11.trans hmn
        replace HO7 := Lib.hid (owns_mid HO7.out hmn oZl)
        replace HR2 := Lib.hid (HR2.out.mid hmn oZl)
        have hszx12 := hmn.size
        have HR3 := Lib.hid ((owns_rv ho).wide (lo' := s3) (hi' := x12.heap.size) (by omega) (Nat.le_refl _) (Nat.le_refl _))
        replace hs3le : s3 ≤ x12.heap.size := by omega
        clear ho hmn hq HR2 hmx11
        have hMW := spec_MultiplyWords A7 A3 (wa ++ [el]) (invW wb) c7 c3 x12 (owns_rv HO7.out).rsS HR3.out.rsS HOKL.out (okI_invW HOKB.out) (by rw [List.length_append, invW_len]; simp; omega)
        rw [show (wa ++ [el]).length = wa.length + 1 by simp, ← HBAS.out] at hMW
        refine wpAnyZ_ready (rs := [13]) (by kernel_rfl) (by simp) (AllReadyZ.cons rfl (fun K hK => ?_) AllReadyZ.nil)
        (go_simp; (with_reducible refine hMW.mono ?_); intro en x13 hq; obtain ⟨A13, c13, rfl, ho13, hmn⟩ := RetI.get hq; go_wp2_with fail)
        refine hK.out _ _ (Or.inr (HK.out _ (hmx12.trans hmn))) (fun _ => ?_)
        clear hK K
        try simp only [Act.put, List.setIfInBounds_toArray, List.set_cons_zero, List.set_cons_succ, List.getElem_toArray, List.getElem_cons_zero, List.getElem_cons_succ]
        have hmF := hm3.trans (hmx12.trans hmn)
        have hm14 := hmx12.size
        have HO13 := Lib.hid (owns_base ho13 (show w.heap.size ≤ x12.heap.size by omega))
        clear HO7 HR3 hMW ho13 hmn hq
        refine wpAnyZ_ready (rs := [14]) (by kernel_rfl) (by simp) (AllReadyZ.cons rfl (fun K hK => ?_) AllReadyZ.nil)
        go_simp
        refine hK.out _ _ (Or.inl (by simp)) (fun _ => ?_)
        clear hK K
        try simp only [Act.put, List.setIfInBounds_toArray, List.set_cons_zero, List.set_cons_succ, List.getElem_toArray, List.getElem_cons_zero, List.getElem_cons_succ]
        refine wpAnyZ_done (by kernel_rfl) ?_ _
        go_wp2_with fail
        go_ret
        exact ⟨A13, c13, rfl, HO13.out, hmF⟩
end Go.Proofs.YtkaofcakelpnpaaGreat

namespace Go.Proofs.YtkaofcakelpnpaaGreat
set_option linter.unusedVariables false
set_option linter.unusedSimpArgs false
open Go.RowKit
structure TreeL (es : List Ed) (st : BS) (T : List Ed) : Prop where
  mem : ∀ e, e ∈ T ↔ e ∈ treeE es st
  len : T.length ≤ st.length
theorem TreeL.start (es : List Ed) (v : Int) : TreeL es [(v, [])] [] := ⟨fun e => by simp [treeE], by simp⟩
theorem TreeL.put {r s : Int} {es : List Ed} (hf : IsFol r s es) {st : BS} {T : List Ed} (h : TreeL es st T) (hne : st ≠ []) {u x : Int} {w : List Int} (hv : 0 ≤ nextV es u x) : TreeL es (st ++ [(nextV es u x, w ++ [x])]) (putE (stepE u x (nextV es u x)) T) := by
  refine ⟨fun e => ?_, ?_⟩
  · rw [mem_putE, treeE_snoc es _ hne, edgeOf_new hf hv, List.mem_append, List.mem_singleton, h.mem e]
    constructor
    · rintro (h | h)
      · exact .inr h
      · exact .inl h
    · rintro (h | h)
      · exact .inr h
      · exact .inl h
  · have := putE_len (stepE u x (nextV es u x)) T
    rw [List.length_append]
    have := h.len
    simp
    omega
set_option maxHeartbeats 6400000 in
set_option maxRecDepth 100000 in
theorem spec_l10Tree (r n : Nat) (A : Option Addr) (es : List Ed) (c : Nat) (w : World) (lo hi : Nat) (hr : RG w lo hi A es) (hf : IsFol r n es) :
    Calls Tryz.prog 68 #[graV r n A es.length c] w fun e w' => ∃ T A1 c1, e = .returned (.slice A1 (List.length T) c1) ∧ TreeL es (bfs es (lets r) 0) T ∧ RG w' w.heap.size w'.heap.size A1 T ∧ Mid 0 0 w w' := by
  have hg := hf.gr
  have hn40 : n ≤ 40 := by have := hg.size; omega
  have hn1' : 1 ≤ n := by have := hg.size; omega
  have hr3 : r ≤ 3 := by have := hg.rank; omega
  have hl := hg.len
  have hgl : ∀ e ∈ es, 1 ≤ e.l ∧ e.l ≤ 3 := fun e he => by have := hg.all e he; unfold InG at this; omega
  have hm0 : Mid 0 0 w ((w.alloc (.cells #[.int .i64 r, .int .i64 n, .slice A es.length c] 32)).alloc (.cells #[] 64)) := (Mid.alloc _ _).trans (Mid.alloc _ _)
  have B0 := (Box.new w #[.int .i64 r, .int .i64 n, .slice A es.length c] 32).mid (Mid.alloc _ (.cells #[] 64)) oZr
  have OE := owns_empty (w.alloc (.cells #[.int .i64 r, .int .i64 n, .slice A es.length c] 32)) 64 3
  simp only [World.size_alloc] at OE
  have HG := Lib.hid hg
  have HF := Lib.hid hf
  have HGL := Lib.hid hgl
  have hv0 : (0 : Int) ≤ 0 := Int.le_refl _
  have hv3 : (0 : Int) < (n : Int) := by omega
  clear hg hgl hf
  go_enter Tryz.func68, Tryz.ntmps68
  go_wp2_with fail
  generalize (w.alloc (.cells #[.int .i64 r, .int .i64 n, .slice A es.length c] 32)).alloc (.cells #[] 64) = w0 at hm0 B0 OE ⊢
  have hs0 : w.heap.size + 1 < w0.heap.size := (OE.lt _ rfl).2
  with_reducible refine (spec_IsFolded r n A es c w0 lo hi (hr.mid hm0 oZl) (by omega) true (iff_of_true rfl HF.out)).mono ?_
  rintro en w1 ⟨rfl, hm1⟩
  have hs01 := hm1.size
  replace B0 := B0.mid hm1 oZr
  replace OE := owns_mid OE hm1 oZl
  replace hm0 := hm0.trans hm1
  have p0 := B0.cell 0 rfl
  have p1 := B0.cell 1 rfl
  have p2 := B0.cell 2 rfl
  have hal := Mid.alloc w1 (.cells #[.int .i64 0] 3)
  have O0 : (w1.alloc (.cells #[.int .i64 0] 3)).ownsRow w1.heap.size 3 1 (.slice (some ⟨w1.heap.size, 0, none⟩) 1 1) 1 (ints [(0 : Int)]) := World.ownsRow_lit (size := 1) w1 #[.int .i64 0] 1 (Nat.le_refl _) (by simp [maxLen]) (by simp)
  have hsz1 : w.heap.size < w1.heap.size := by omega
  replace B0 := B0.mid hal oZr
  replace OE := owns_mid OE hal oZl
  replace hm0 := hm0.trans hal
  go_wp2_with fail
  with_reducible refine (spec_l5Letters r _ (by omega)).mono ?_
  rintro en w4 ⟨A4, c4, rfl, hL4, hm4⟩
  have hs14 : w1.heap.size + 1 ≤ w4.heap.size := by have := hm4.size; simpa using this
  rw [World.size_alloc] at hL4
  replace B0 := B0.mid hm4 oZr
  replace O0 := owns_mid O0 hm4 oZl
  replace OE := owns_mid OE hm4 oZl
  replace hm0 := hm0.trans hm4
  clear p0 p1 p2 hal hm4 hm1
  have HE0 : Hid (RG w4 (w.heap.size + 1) (w.heap.size + 2) (some ⟨w.heap.size + 1, 0, none⟩) []) := Lib.hid ⟨by omega, fun hn => absurd rfl hn⟩
  have HTL0 := Lib.hid (TreeL.start es 0)
  have HS0 : Hid (∀ g, Value.ownBlock (.slice (some (⟨w1.heap.size, 0, none⟩ : Addr)) 1 1) = some g → g < w.heap.size + 1 ∨ w.heap.size + 2 ≤ g) := Lib.hid (fun g hg => by have h := Option.some.inj (show some w1.heap.size = some g from hg); omega)
  clear OE
  generalize (some (⟨w.heap.size + 1, 0, none⟩ : Addr)) = AE0 at HE0 ⊢
  have HLL := Lib.hid (lets_len r)
  obtain ⟨LL, hLL⟩ : ∃ LL, (lets r).length = LL := ⟨_, rfl⟩
  have hLL6 : LL ≤ 6 := by have := HLL.out; omega
  rw [hLL]
  have HLn := Lib.hid hLL
  clear hLL
  go_wp2_with fail
  go_loopw [3, 4, 6] (fun ev ord iv wr => ∃ (i n1 : Nat) (A1 : Option Addr) (c1 : Nat) (T : List Ed) (AT : Option Addr) (cT L2 H2 : Nat), i ≤ n1 ∧ iv = .int .i64 i ∧ ord = .slice A1 n1 c1 ∧ ev = .slice AT T.length cT ∧ Hid (TreeL es (bfsSt es (lets r) 0 i) T) ∧ Hid (RG wr L2 H2 AT T) ∧ w.heap.size ≤ L2 ∧ Hid (∀ g, Value.ownBlock (.slice A1 n1 c1) = some g → g < L2 ∨ H2 ≤ g) ∧ Hid ((bfsSt es (lets r) 0 i).length = n1) ∧
      wr.ownsRow w1.heap.size 3 1 (.slice A1 n1 c1) n1 (ints ((bfsSt es (lets r) 0 i).map Prod.fst)) ∧ Hid (RV wr (w1.heap.size + 1) w4.heap.size A4 (ints (lets r))) ∧ Hid (∀ g, Value.ownBlock (.slice A1 n1 c1) = some g → g < w1.heap.size + 1 ∨ w4.heap.size ≤ g) ∧
      Box wr w.heap.size [.int .i64 r, .int .i64 n, .slice A es.length c] ∧ Mid 0 0 w wr) (fun _ _ i _ => (41 - intOf i).toNat)
  case atStart => exact ⟨0, 1, _, 1, [], AE0, 0, _, _, Nat.zero_le _, rfl, rfl, rfl, HTL0, HE0, Nat.le_succ _, HS0, Lib.hid rfl, O0, Lib.hid hL4, Lib.hid (fun g hg => by have h := Option.some.inj (show some w1.heap.size = some g from hg); omega), B0, hm0⟩
  case round =>
    clear O0 hL4 B0 hm0 HE0 HTL0 HS0
    obtain ⟨wo, hwo⟩ : ∃ wo, wo = wr := ⟨_, rfl⟩
    subst hwo
    obtain ⟨i, n1, A1, c1, T, AT, cT, L2, H2, hin, rfl, rfl, rfl, HTL, HRE, hwL, HDE, HN, hord, HL4, HD, bx, hm⟩ := hrel
    have hok := bfsSt_ok (L := lets r) HG.out.all hv0 hv3 i
    have hn1 : n1 ≤ 40 := by have h1 := hok.len (by omega); have h2 := HN.out; omega
    have HOK := Lib.hid hok
    clear hok
    by_cases hlt : i < n1
    · obtain ⟨p, hp⟩ := get_of_lt (bfsSt es (lets r) 0 i) (show i < (bfsSt es (lets r) 0 i).length by rw [HN.out]; exact hlt)
      obtain ⟨u, wd⟩ := p
      have HP := Lib.hid hp
      have hNX := Lib.hid (bfsSt_next hp)
      have hi0 : (0 : Int) ≤ (i : Int) := by omega
      clear hp
      go_wp2_with fail
      go_loopw [3, 4, 7] (fun ev ord jv wr => ∃ (j n1 : Nat) (A1 : Option Addr) (c1 : Nat) (T : List Ed) (AT : Option Addr) (cT L2 H2 : Nat), j ≤ LL ∧ jv = .int .i64 j ∧ ord = .slice A1 n1 c1 ∧ ev = .slice AT T.length cT ∧ Hid (TreeL es (bfsRow es ((lets r).take j) (u, wd) (bfsSt es (lets r) 0 i)) T) ∧ Hid (RG wr L2 H2 AT T) ∧ w.heap.size ≤ L2 ∧ Hid (∀ g, Value.ownBlock (.slice A1 n1 c1) = some g → g < L2 ∨ H2 ≤ g) ∧ Hid ((bfsRow es ((lets r).take j) (u, wd) (bfsSt es (lets r) 0 i)).length = n1) ∧
          wr.ownsRow w1.heap.size 3 1 (.slice A1 n1 c1) n1 (ints ((bfsRow es ((lets r).take j) (u, wd) (bfsSt es (lets r) 0 i)).map Prod.fst)) ∧
          Hid (RV wr (w1.heap.size + 1) w4.heap.size A4 (ints (lets r))) ∧ Hid (∀ g, Value.ownBlock (.slice A1 n1 c1) = some g → g < w1.heap.size + 1 ∨ w4.heap.size ≤ g) ∧ Box wr w.heap.size [.int .i64 r, .int .i64 n, .slice A es.length c] ∧ Mid 0 0 w wr) (fun _ _ j _ => LL - (intOf j).toNat)
      case atStart => exact ⟨0, n1, _, c1, T, AT, cT, L2, H2, Nat.zero_le _, rfl, rfl, rfl, by rw [List.take_zero]; exact HTL, HRE, hwL, HDE, by rw [List.take_zero]; exact HN, hord, HL4, HD, bx, hm⟩
      case round =>
        clear hord HL4 HD bx hm HTL HRE hwL HDE
        obtain ⟨j, n1, A1, c1, T, AT, cT, L2, H2, hj, rfl, rfl, rfl, HTL, HRE, hwL, HDE, HN, hord, HL4, HD, bx, hm⟩ := hrel
        obtain ⟨stj, hstj⟩ : ∃ st, bfsRow es ((lets r).take j) (u, wd) (bfsSt es (lets r) 0 i) = st := ⟨_, rfl⟩
        have hokj : BfsOk n (lets r) stj := by rw [← hstj]; exact BfsOk.row HG.out.all _ (fun x hx => List.mem_of_mem_take hx) HOK.out HP.out
        have hpj : stj[i]? = some (u, wd) := by rw [← hstj]; exact prefix_get (bfsRow_pre _ _ _ _) HP.out
        rw [hstj] at HN hord HTL
        have hn1b : n1 ≤ 40 := by have h1 := hokj.len (by omega); have h2 := HN.out; omega
        by_cases hlt2 : j < LL
        · obtain ⟨B4, o4, x, rfl, hB4, hx, hcx⟩ := HL4.out.at (k := j) (by rw [HLn.out]; exact hlt2)
          have hxm := lets_le (List.mem_of_getElem? hx)
          have hnx := bfsRow_take (es := es) (p := (u, wd)) (st := bfsSt es (lets r) 0 i) hx
          rw [hstj] at hnx
          simp only at hnx
          have hj0 : (0 : Int) ≤ (j : Int) := by omega
          have hj1 : (j : Int) < (LL : Int) := by omega
          have hil : i < n1 := by have h1 := (List.getElem?_eq_some_iff.1 hpj).1; have h2 := HN.out; omega
          have hi1 : (i : Int) < (n1 : Int) := by omega
          obtain ⟨g1, rfl, hg1, hg1s⟩ := owns_addr hord (show 0 < n1 by omega)
          have hcu : wr.cell? ⟨g1, i, none⟩ = some (.int .i64 u) := (hord.cellAt i (by omega)).trans (by rw [ints_get, List.getElem?_map, hpj]; rfl)
          have hB4s : B4 < wr.heap.size := Nat.lt_of_lt_of_le hB4 HL4.out.1
          have hcs := nextV_cases HG.out.all u x
          have HOJ := Lib.hid hokj
          have k0 := wg_cell bx.1 (bx.cell 0 rfl)
          have k1 := wg_cell bx.1 (bx.cell 1 rfl)
          have k2 := wg_cell bx.1 (bx.cell 2 rfl)
          have k3 := wg_cell hg1s hcu
          have k4 := wg_cell hB4s hcx
          have hA := fun m os => spec_NextVertex r n A es c u x (wg wr m os) lo hi (hr.mid (hm.trans (Mid.ofWg wr m os)) oZl) (by omega) HGL.out (by omega) (by omega)
          have HXJ := Lib.hid hx
          have HPJ := Lib.hid hpj
          clear hx hokj hpj hstj hcu hcx
          go_wp2_with fail
          refine wp_region_quiet_wg (by kernel_rfl) (by kernel_rfl) ?_
          repeat
            (with_reducible refine wpQuiet_step (fun K hK => ?_))
            go_simp
            first
              | ((with_reducible refine hK _ ?_); clear hK K)
              | (rw [if_neg (by decide)]; (with_reducible refine hK _ ?_); clear hK K)
              | (apply Exists.intro; refine ⟨fun _ => ?_, hK _ ?_⟩; ((go_at_call 96; exact Calls.wg_of (hA _ _))); clear hK K)
          with_reducible refine wpQuiet_nil ?_
          intro _ hw'
          obtain ⟨⟨nq, osq⟩, hw''⟩ := hw'
          subst hw''
          have hwg := Mid.ofWg wr nq osq
          generalize wg wr nq osq = w6 at hwg ⊢
          have hswg := hwg.size
          replace bx := bx.mid hwg oZr
          replace hord := owns_mid hord hwg oZl
          replace hm := hm.trans hwg
          replace HL4 := Lib.hid (HL4.out.mid hwg oZl)
          replace HRE := Lib.hid (HRE.out.mid hwg oZl)
          generalize htx : nextV es u x = t at hnx hcs ⊢
          have HTX := Lib.hid htx
          clear k0 k1 k2 k3 k4 hA
          by_cases ht0 : t < 0
          · have b1 : decide (t < 0) = true := by simp; omega
            have HNX := Lib.hid (hnx.trans (by rw [bfsStep, htx, if_pos (.inl ht0)] : bfsStep es u wd stj x = stj))
            clear hnx hcs ht0 htx
            go_wp2_with fail
            go_roundw
            case rel => exact ⟨j + 1, n1, _, c1, T, AT, cT, L2, H2, by omega, by go_num, rfl, rfl, by rw [HNX.out]; exact HTL, HRE, hwL, HDE, by rw [HNX.out]; exact HN, by rw [HNX.out]; exact hord, HL4, HD, bx, hm⟩
            case measure => simp [intOf]; omega
          · have b1 : decide (t < 0) = false := by simp; omega
            obtain ⟨b2, hb2⟩ := bool_of (t ∈ stj.map Prod.fst)
            have HB2 := Lib.hid hb2
            have hlm : (stj.map Prod.fst).length = n1 := by rw [List.length_map]; exact HN.out
            have hP := spec_l4Has (some ⟨g1, 0, none⟩) (stj.map Prod.fst) c1 t w6 _ _ (owns_rv hord) (by omega) b2 HB2.out
            rw [hlm] at hP
            have HLM := Lib.hid hlm
            clear hb2 hcs hlm
            go_wp2_with fail
            with_reducible refine hP.mono ?_
            rintro en w7 ⟨rfl, rfl⟩
            cases b2 with
            | true =>
              have HNX := Lib.hid (hnx.trans (by rw [bfsStep, htx, if_pos (.inr (HB2.out.1 (by trivial)))] : bfsStep es u wd stj x = stj))
              clear hnx htx ht0 hP
              go_wp2_with fail
              go_roundw
              case rel => exact ⟨j + 1, n1, _, c1, T, AT, cT, L2, H2, by omega, by go_num, rfl, rfl, by rw [HNX.out]; exact HTL, HRE, hwL, HDE, by rw [HNX.out]; exact HN, by rw [HNX.out]; exact hord, HL4, HD, bx, hm⟩
              case measure => simp [intOf]; omega
            | false =>
              have hnm : t ∉ stj.map Prod.fst := fun h => by have := HB2.out.2 h; cases this
              have HNX := Lib.hid (hnx.trans (by rw [bfsStep, htx, if_neg (fun h => h.elim (fun h => by omega) hnm)] : bfsStep es u wd stj x = stj ++ [(t, wd ++ [x])]))
              have HO9 := Lib.hid hord
              have hsz9 : w1.heap.size ≤ w6.heap.size := by have := HL4.out.1; omega
              have hLTt : 0 ≤ t := by omega
              clear hnx htx ht0 hP hnm
              go_wp2_with (at_builtin; refine MarkerX.to ?_)
              unfold MarkerX
              refine wpList_pushI2 rfl _ _ rfl w1.heap.size _ n1 c1 (stj.map Prod.fst) rfl HO9.out t rfl (by omega) hsz9 ?_
              intro A10 c10 w10 hord10 hgr10 hat10
              have hm10 := Mid.of_grownRow HO9.out hgr10
              have bx10 := bx.mid hm10 (Or.inl (by omega))
              have hL10 := HL4.out.grown hgr10 HD.out
              have hmm10 := hm.transNew hm10 (Or.inl (by omega))
              have hmap : (stj ++ [(t, wd ++ [x])]).map Prod.fst = stj.map Prod.fst ++ [t] := by simp
              have HMAP := Lib.hid hmap
              have hw46 : w4.heap.size ≤ w6.heap.size := HL4.out.1
              have HD10 : Hid (∀ g, Value.ownBlock (.slice A10 (n1 + 1) c10) = some g → g < w1.heap.size + 1 ∨ w4.heap.size ≤ g) := Lib.hid (by
                intro g hg
                rcases hat10 with h | h
                · exact HD.out g (h.symm.trans hg)
                · rw [h] at hg
                  injection hg with hg
                  omega)
              have HL10 := Lib.hid hL10
              have HRE10 := Lib.hid (RV.grown HRE.out hgr10 HDE.out)
              have hs10 := hgr10.size
              have HTT : Hid (TreeL es (stj ++ [(t, wd ++ [x])]) (putE (stepE u x t) T)) := Lib.hid (by
                have h := HTL.out.put HF.out (by intro h0; have h1 := HN.out; rw [h0] at h1; simp at h1; omega) (u := u) (x := x) (w := wd) (by rw [HTX.out]; exact hLTt)
                rw [HTX.out] at h
                exact h)
              have hTl : T.length ≤ 1000000 := by have h1 := HTL.out.len; have h2 := HN.out; omega
              have hmd := Mid.drew1 w10
              have hordz := owns_mid hord10 hmd oZl
              have HLz := Lib.hid (hL10.mid hmd oZl)
              have HREz := Lib.hid (HRE10.out.mid hmd oZl)
              have bxz := bx10.mid hmd oZr
              have hmz := hmm10.trans hmd
              have hszz := hmd.size
              obtain ⟨g10, hA10, hg10, hg10s⟩ := owns_addr hord10 (Nat.succ_pos n1)
              subst hA10
              have hcu10 : w10.cell? ⟨g10, i, none⟩ = some (.int .i64 u) := (hord10.cellAt i (by omega)).trans (by rw [ints_append, List.getElem?_append_left (by rw [ints_len, List.length_map, HN.out]; exact hil), ints_get, List.getElem?_map, HPJ.out]; rfl)
              have hcx10 : w10.cell? ⟨B4, o4 + j, none⟩ = some (.int .i64 x) := by
                obtain ⟨B', o', x', hA', -, hx', hc'⟩ := hL10.at (k := j) (by rw [HLn.out]; exact hlt2)
                injection hA' with hA'
                injection hA' with e1 e2
                subst e1 e2
                rw [HXJ.out] at hx'
                injection hx' with hx'
                subst hx'
                exact hc'
              have hcuz := cell_keep hmd hg10s oZr hcu10
              have hcxz := cell_keep hmd (Nat.lt_of_lt_of_le hB4s (by omega)) oZr hcx10
              have hseq : ∀ g, Value.ownBlock (.slice (some (⟨g10, 0, none⟩ : Addr)) (n1 + 1) c10) = some g → g < (World.drew w10).heap.size := fun g hg => by have h := Option.some.inj (show some g10 = some g from hg); omega
              have HSEQ := Lib.hid hseq
              have hi1' : (i : Int) < (n1 : Int) + 1 := by omega
              have hwn : IntKind.i64.wrap (-x) = -x := IntWalk.i64_in _ (by omega)
              have HORDz := Lib.hid hordz
              clear hL10 hmap hat10 hgr10 HRE10 hmm10 bx10 hord10 hm10 HRE HTL HDE HL4 hord HO9 hm bx hseq hordz
              have hxne := (mem_lets.1 (List.mem_of_getElem? HXJ.out)).1
              by_cases hx0 : 0 < x
              · have d0 : decide (0 < x) = true := by simpa using hx0
                have hse : stepE u x t = ⟨u, x, t⟩ := by rw [stepE, if_neg (by omega)]
                rw [hse] at HTT
                have HP4 := Lib.hid (fun W h => spec_l4Put AT T cT ⟨u, x, t⟩ W L2 H2 h hTl)
                clear hse
                go_wp2_with fail
                refine wp_region_still_tail 11 (by kernel_rfl) (by kernel_rfl) ?_
                simp only [List.take_succ_cons, List.take_zero, List.drop_succ_cons, List.drop_zero]
                change wpStill _ _ (World.drew w10) (fun a' => wpList _ _ _ _ a' (World.drew w10)) _ _
                generalize World.drew w10 = wz at HLz HREz bxz hmz hszz hcuz hcxz HSEQ HORDz ⊢
                repeat
                  (with_reducible refine wpStill_step (fun K hK => ?_))
                  go_simp
                  first
                    | ((with_reducible refine hK _ ?_); clear hK K)
                with_reducible refine wpStill_nil ?_
                go_wp2_with fail
                with_reducible refine (HP4.out wz (RV.rg HREz.out)).mono ?_
                rintro en w12 ⟨A12, c12, rfl, hO12, hm12⟩
                have hordY := owns_mid HORDz.out hm12 oZl
                have HLY := Lib.hid (HLz.out.mid hm12 oZl)
                have bxY := bxz.mid hm12 oZr
                have hmY := hmz.trans hm12
                have HREY := Lib.hid hO12.rg
                have HDEY : Hid (∀ g, Value.ownBlock (.slice (some (⟨g10, 0, none⟩ : Addr)) (n1 + 1) c10) = some g → g < wz.heap.size ∨ w12.heap.size ≤ g) := Lib.hid (fun g hg => .inl (HSEQ.out g hg))
                have hwLY : w.heap.size ≤ wz.heap.size := hmz.size
                have HN12 : Hid ((bfsRow es ((lets r).take (j + 1)) (u, wd) (bfsSt es (lets r) 0 i)).length = n1 + 1) := Lib.hid (by rw [HNX.out, List.length_append, HN.out]; rfl)
                rw [← HMAP.out, ← HNX.out] at hordY
                have HTTY := HTT.out
                rw [← HNX.out] at HTTY
                have HTTY2 := Lib.hid HTTY
                clear HORDz HLz HREz bxz hmz hO12 hm12 HP4 HTT HTTY hcuz hcxz
                go_wp2_with fail
                go_roundw
                case rel => exact ⟨j + 1, n1 + 1, _, c10, _, A12, c12, _, _, by omega, by go_num, rfl, rfl, HTTY2, HREY, hwLY, HDEY, HN12, hordY, HLY, HD10, bxY, hmY⟩
                case measure => simp [intOf]; omega
              · have d0 : decide (0 < x) = false := by simpa using hx0
                have hse : stepE u x t = ⟨t, -x, u⟩ := by rw [stepE, if_pos (by omega)]
                rw [hse] at HTT
                have HP4 := Lib.hid (fun W h => spec_l4Put AT T cT ⟨t, -x, u⟩ W L2 H2 h hTl)
                clear hse
                go_wp2_with fail
                refine wp_region_still_tail 12 (by kernel_rfl) (by kernel_rfl) ?_
                simp only [List.take_succ_cons, List.take_zero, List.drop_succ_cons, List.drop_zero]
                change wpStill _ _ (World.drew w10) (fun a' => wpList _ _ _ _ a' (World.drew w10)) _ _
                generalize World.drew w10 = wz at HLz HREz bxz hmz hszz hcuz hcxz HSEQ HORDz ⊢
                repeat
                  (with_reducible refine wpStill_step (fun K hK => ?_))
                  go_simp
                  first
                    | ((with_reducible refine hK _ ?_); clear hK K)
                with_reducible refine wpStill_nil ?_
                go_wp2_with fail
                with_reducible refine (HP4.out wz (RV.rg HREz.out)).mono ?_
                rintro en w12 ⟨A12, c12, rfl, hO12, hm12⟩
                have hordY := owns_mid HORDz.out hm12 oZl
                have HLY := Lib.hid (HLz.out.mid hm12 oZl)
                have bxY := bxz.mid hm12 oZr
                have hmY := hmz.trans hm12
                have HREY := Lib.hid hO12.rg
                have HDEY : Hid (∀ g, Value.ownBlock (.slice (some (⟨g10, 0, none⟩ : Addr)) (n1 + 1) c10) = some g → g < wz.heap.size ∨ w12.heap.size ≤ g) := Lib.hid (fun g hg => .inl (HSEQ.out g hg))
                have hwLY : w.heap.size ≤ wz.heap.size := hmz.size
                have HN12 : Hid ((bfsRow es ((lets r).take (j + 1)) (u, wd) (bfsSt es (lets r) 0 i)).length = n1 + 1) := Lib.hid (by rw [HNX.out, List.length_append, HN.out]; rfl)
                rw [← HMAP.out, ← HNX.out] at hordY
                have HTTY := HTT.out
                rw [← HNX.out] at HTTY
                have HTTY2 := Lib.hid HTTY
                clear HORDz HLz HREz bxz hmz hO12 hm12 HP4 HTT HTTY hcuz hcxz
                go_wp2_with fail
                go_roundw
                case rel => exact ⟨j + 1, n1 + 1, _, c10, _, A12, c12, _, _, by omega, by go_num, rfl, rfl, HTTY2, HREY, hwLY, HDEY, HN12, hordY, HLY, HD10, bxY, hmY⟩
                case measure => simp [intOf]; omega
        · obtain rfl : j = LL := by omega
          have htk : (lets r).take j = lets r := List.take_of_length_le (by rw [HLn.out]; exact Nat.le_refl _)
          rw [htk] at hstj
          have hnx := hNX.out
          rw [hstj] at hnx
          have HNX := Lib.hid hnx
          have hin1 : i + 1 ≤ n1 := by have h1 := (List.getElem?_eq_some_iff.1 hpj).1; have h2 := HN.out; omega
          clear hnx hstj hpj
          go_wp2_with fail
          go_roundw
          case rel => exact ⟨i + 1, n1, A1, c1, T, AT, cT, L2, H2, hin1, by go_num, rfl, rfl, by rw [HNX.out]; exact HTL, HRE, hwL, HDE, by rw [HNX.out]; exact HN, by rw [HNX.out]; exact hord, HL4, HD, bx, hm⟩
          case measure => simp [intOf]; omega
    · obtain rfl : i = n1 := by omega
      have hbf := bfs_eq (L := lets r) HG.out.all hv0 hv3 (by omega) HN.out
      rw [← hbf] at HTL
      clear hbf
      go_wp2_with fail
      go_ret
      exact ⟨T, AT, cT, rfl, HTL.out, ⟨Nat.le_refl _, fun hn => by obtain ⟨b, off, h1, h2, h3, h4⟩ := HRE.out.2 hn; exact ⟨b, off, h1, by omega, by have := HRE.out.1; omega, h4⟩⟩, hm⟩
end Go.Proofs.YtkaofcakelpnpaaGreat

namespace Go.Proofs.YtkaofcakelpnpaaGreat
set_option linter.unusedVariables false
set_option linter.unusedSimpArgs false
open Go.RowKit
theorem notIn_congr {T U es : List Ed} (h : ∀ e, e ∈ T ↔ e ∈ U) : notIn T es = notIn U es := by
  unfold notIn
  congr 1
  funext e
  rw [decide_eq_decide, h e]
set_option maxHeartbeats 6400000 in
set_option maxRecDepth 100000 in
theorem spec_ExtraEdges (r n : Nat) (A : Option Addr) (es : List Ed) (c : Nat) (w : World) (lo hi : Nat) (hr : RG w lo hi A es) (hf : IsFol r n es) :
    Calls Tryz.prog 39 #[graV r n A es.length c] w fun e w' => ∃ A1 c1, e = .returned (.slice A1 (notIn (treeE es (bfs es (lets r) 0)) es).length c1) ∧ OG w' w.heap.size w'.heap.size A1 c1 (notIn (treeE es (bfs es (lets r) 0)) es) ∧ Mid 0 0 w w' := by
  have hl := hf.gr.len
  have HF := Lib.hid hf
  clear hf
  have hbl : (bfs es (lets r) 0).length ≤ 40 := by
    have hs := HF.out.gr.size
    have := (bfs_ok (L := lets r) (v := 0) HF.out.gr.all (Int.le_refl _) (by omega)).len (by omega)
    omega
  have hm0 : Mid 0 0 w (w.alloc (.cells #[.int .i64 r, .int .i64 n, .slice A es.length c] 32)) := Mid.alloc _ _
  have B0 := Box.new w #[.int .i64 r, .int .i64 n, .slice A es.length c] 32
  have p0 := B0.cell 0 rfl
  have p1 := B0.cell 1 rfl
  have p2 := B0.cell 2 rfl
  go_enter Tryz.func39, Tryz.ntmps39
  go_wp2_with fail
  generalize w.alloc (.cells #[.int .i64 r, .int .i64 n, .slice A es.length c] 32) = w1 at hm0 B0 p0 p1 p2 ⊢
  have hs1 : w.heap.size < w1.heap.size := B0.1
  with_reducible refine (spec_l10Tree r n A es c w1 lo hi (hr.mid hm0 oZl) HF.out).mono ?_
  rintro en w2 ⟨T, AT, cT, rfl, hTL, hRT, hm2⟩
  have hs2 := hm2.size
  clear p0 p1 p2
  replace B0 := B0.mid hm2 oZr
  replace hm0 := hm0.trans hm2
  have hTl : T.length ≤ 40 := by have := hTL.len; omega
  have HX := Lib.hid (notIn_congr (es := es) hTL.mem)
  have O0 := owns_empty w2 64 3
  have hal := Mid.alloc w2 (.cells #[] 64)
  replace B0 := B0.mid hal oZr
  replace hRT := hRT.mid hal oZl
  replace hm0 := hm0.trans hal
  have HRT := Lib.hid hRT
  have hs3 : (w2.alloc (.cells #[] 64)).heap.size = w2.heap.size + 1 := by simp
  clear hTL hRT hm2
  have p0 := B0.cell 0 rfl
  have p1 := B0.cell 1 rfl
  have p2 := B0.cell 2 rfl
  go_wp2_with fail
  generalize w2.alloc (.cells #[] 64) = w3 at B0 HRT hm0 O0 hs3 hal p0 p1 p2 ⊢
  have HO0 : Hid (w3.ownsRow w2.heap.size 64 3 (.slice (some ⟨w2.heap.size, 0, none⟩) 0 0) 0 (ints (edI (notIn T (es.take 0))))) := Lib.hid O0
  have HN0 : Hid ((notIn T (es.take 0)).length = 0) := Lib.hid rfl
  have hsz3 : w2.heap.size ≤ w3.heap.size := by omega
  clear O0 hal p0 p1 p2 hs3
  generalize (some (⟨w2.heap.size, 0, none⟩ : Addr)) = A0 at HO0 ⊢
  generalize w2.heap.size = H2 at HO0 HRT hsz3 hs2
  go_loopw [4, 5] (fun ov kv wr => ∃ (k n2 : Nat) (A2 : Option Addr) (c2 : Nat), kv = .int .i64 k ∧ ov = .slice A2 n2 c2 ∧ k ≤ es.length ∧ Hid ((notIn T (es.take k)).length = n2) ∧ Hid (wr.ownsRow H2 64 3 (.slice A2 n2 c2) n2 (ints (edI (notIn T (es.take k))))) ∧ Hid (RG wr w1.heap.size H2 AT T) ∧ Box wr w.heap.size [.int .i64 r, .int .i64 n, .slice A es.length c] ∧ H2 ≤ wr.heap.size ∧ Mid 0 0 w wr) (fun _ kv _ => es.length - (intOf kv).toNat)
  case atStart => exact ⟨0, 0, A0, 0, rfl, rfl, Nat.zero_le _, HN0, HO0, HRT, B0, hsz3, hm0⟩
  case round =>
    clear HN0 HO0 HRT B0 hsz3 hm0
    obtain ⟨wo, hwo⟩ : ∃ wo, wo = wr := ⟨_, rfl⟩
    subst hwo
    obtain ⟨k, n2, A2, c2, rfl, rfl, hk, HN, HO, HRT, B0, hsz, hm0⟩ := hrel
    have hn2 : n2 ≤ 120 := by have h1 := notIn_len T (es.take k); have h2 := HN.out; rw [List.length_take] at h1; omega
    have p0 := B0.cell 0 rfl
    have p1 := B0.cell 1 rfl
    have p2 := B0.cell 2 rfl
    by_cases hlt : k < es.length
    · have hk0 : (0 : Int) ≤ (k : Int) := by omega
      have hkm : (k : Int) < (es.length : Int) := by omega
      go_wp2_with fail
      with_reducible refine (spec_IsFolded r n A es c wo lo hi (hr.mid hm0 oZl) (by omega) true (iff_of_true rfl HF.out)).mono ?_
      rintro en w4 ⟨rfl, hm4⟩
      have HO4 := Lib.hid (owns_mid HO.out hm4 oZl)
      have HRT4 := Lib.hid (HRT.out.mid hm4 oZl)
      have hs4 := hm4.size
      clear p0 p1 p2
      replace B0 := B0.mid hm4 oZr
      replace hm0 := hm0.trans hm4
      have p0 := B0.cell 0 rfl
      have p1 := B0.cell 1 rfl
      have p2 := B0.cell 2 rfl
      clear HO HRT hm4
      obtain ⟨b, off, e, hA, -, hbh, he, x0, x1, x2⟩ := (hr.mid hm0 oZl).ed hlt
      subst hA
      have hbs : b < w4.heap.size := Nat.lt_of_lt_of_le hbh (Nat.le_trans hr.1 hm0.size)
      have HE := Lib.hid he
      clear he
      go_wp2_with fail
      go_loopw [6, 7] (fun v j wq => ∃ m : Nat, ∃ vb : Bool, m ≤ T.length ∧ j = .int .i64 m ∧ v = .bool vb ∧ Hid (vb = true ↔ e ∈ T.take m) ∧ Mid 0 0 w4 wq) (fun _ j _ => T.length - (intOf j).toNat)
      case atStart => exact ⟨0, false, Nat.zero_le _, rfl, rfl, Lib.hid (by simp), Mid.refl _ _ _⟩
      case round =>
        obtain ⟨m, vb, hmle, rfl, rfl, HV, hmq⟩ := hrel
        have ba := B0.mid hmq oZr
        have P2 := ba.cell 2 rfl
        clear p0 p1 p2
        by_cases hlm : m < T.length
        · obtain ⟨B', off', f, rfl, -, hbh', hff, f0, f1, f2⟩ := (HRT4.out.mid hmq oZl).ed hlm
          have zb' : B' < wr.heap.size := by have := hmq.size; omega
          have zq := hmq.size
          have p2 := wg_cell ba.1 P2
          have y0 := wg_cell (by show b < wr.heap.size; omega) (cell_keep hmq hbs oZr x0)
          have y1 := wg_cell (by show b < wr.heap.size; omega) (cell_keep hmq hbs oZr x1)
          have y2 := wg_cell (by show b < wr.heap.size; omega) (cell_keep hmq hbs oZr x2)
          have z0 := wg_cell (by show B' < wr.heap.size; omega) f0
          have z1 := wg_cell (by show B' < wr.heap.size; omega) f1
          have z2 := wg_cell (by show B' < wr.heap.size; omega) f2
          have hm0' : (0 : Int) ≤ (m : Int) := by omega
          have hmn : (m : Int) < (T.length : Int) := by omega
          obtain ⟨d, hd⟩ : ∃ d, decide (f = e) = d := ⟨_, rfl⟩
          have hq := eqlEd_run f e hd
          have hg := guardEd f e
          have HD := Lib.hid hd
          have HFF := Lib.hid hff
          clear hff hd zq
          cases vb with
          | false =>
            go_wp2_with fail
            refine wp_region_quiet_wg (by kernel_rfl) (by kernel_rfl) ?_
            repeat
              (with_reducible refine wpQuiet_step (fun K hK => ?_))
              go_simp
              first
                | ((with_reducible refine hK _ ?_); clear hK K)
                | (rw [if_neg (by decide)]; (with_reducible refine hK _ ?_); clear hK K)
                | (apply Exists.intro; refine ⟨fun _ => ?_, hK _ ?_⟩; (fail); clear hK K)
            with_reducible refine wpQuiet_nil ?_
            intro _ hw'
            obtain ⟨⟨nq, osq⟩, hw''⟩ := hw'
            subst hw''
            go_wp2_with fail
            go_roundw
            case rel =>
              refine ⟨m + 1, d, by omega, by go_num, rfl, Lib.hid ?_, hmq.trans (Mid.ofWg _ _ _)⟩
              rw [mem_take_snoc HFF.out, ← HD.out, decide_eq_true_iff]
              have hn : ¬ e ∈ T.take m := fun h => by have := HV.out.2 h; cases this
              exact ⟨fun h => .inr h.symm, fun h => (h.resolve_left hn).symm⟩
            case measure => simp [intOf]; omega
          | true =>
            have HM := Lib.hid (HV.out.1 rfl)
            clear HV
            go_wp2_with fail
            refine wp_region_quiet_wg (by kernel_rfl) (by kernel_rfl) ?_
            repeat
              (with_reducible refine wpQuiet_step (fun K hK => ?_))
              go_simp
              first
                | ((with_reducible refine hK _ ?_); clear hK K)
                | (rw [if_neg (by decide)]; (with_reducible refine hK _ ?_); clear hK K)
                | (apply Exists.intro; refine ⟨fun _ => ?_, hK _ ?_⟩; (fail); clear hK K)
            with_reducible refine wpQuiet_nil ?_
            intro _ hw'
            obtain ⟨⟨nq, osq⟩, hw''⟩ := hw'
            subst hw''
            go_wp2_with fail
            go_roundw
            case rel => exact ⟨m + 1, true, by omega, by go_num, rfl, Lib.hid (iff_of_true rfl ((mem_take_snoc HFF.out).2 (.inl HM.out))), hmq.trans (Mid.ofWg _ _ _)⟩
            case measure => simp [intOf]; omega
        · obtain rfl : m = T.length := by omega
          have HO5 := Lib.hid (owns_mid HO4.out hmq oZl)
          have HRT5 := Lib.hid (HRT4.out.mid hmq oZl)
          have hs5 := hmq.size
          have hm5 := hm0.trans hmq
          have X0 := cell_keep hmq hbs oZr x0
          have X1 := cell_keep hmq hbs oZr x1
          have X2 := cell_keep hmq hbs oZr x2
          have hbs5 : b < wr.heap.size := by omega
          cases vb with
          | true =>
            have hin : e ∈ T := by have := HV.out.1 rfl; rwa [List.take_length] at this
            have HN2 : Hid ((notIn T (es.take (k + 1))).length = n2) := Lib.hid (by rw [notIn_take HE.out, if_neg (by simpa using hin), List.append_nil]; exact HN.out)
            have HO6 : Hid (wr.ownsRow H2 64 3 (.slice A2 n2 c2) n2 (ints (edI (notIn T (es.take (k + 1)))))) := Lib.hid (by rw [notIn_take HE.out, if_neg (by simpa using hin), List.append_nil]; exact HO5.out)
            clear HV HN HO4 HO5 HRT4 hin
            go_wp2_with fail
            go_roundw
            case rel => exact ⟨k + 1, n2, A2, c2, by go_num, rfl, by omega, HN2, HO6, HRT5, ba, by omega, hm5⟩
            case measure => simp [intOf]; omega
          | false =>
            have hin : e ∉ T := fun h => by have := HV.out.2 (by rw [List.take_length]; exact h); cases this
            have HIN := Lib.hid hin
            clear HV HO4 HRT4 hin
            go_wp2_with (at_builtin; refine MarkerX.to ?_)
            unfold MarkerX
            refine wpList_pushE2 rfl _ _ rfl H2 A2 n2 c2 _ rfl HO5.out e rfl (by omega) (by omega) ?_
            intro A6 c6 w6 ho6 hgr6 hat6
            have HN2 : Hid ((notIn T (es.take (k + 1))).length = n2 + 1) := Lib.hid (by rw [notIn_take HE.out, if_pos HIN.out, List.length_append, HN.out]; rfl)
            have HO6 : Hid (w6.ownsRow H2 64 3 (.slice A6 (n2 + 1) c6) (n2 + 1) (ints (edI (notIn T (es.take (k + 1)))))) := Lib.hid (by rw [notIn_take HE.out, if_pos HIN.out]; exact ho6)
            have HRT6 : Hid (RG w6 w1.heap.size H2 AT T) := Lib.hid (RV.rg (RV.grown HRT5.out hgr6 (fun g hg => .inr (HO5.out.lt g hg).1)))
            have hm6 := hm5.grownNew hgr6 (fun g hg => by have := (HO5.out.lt g hg).1; omega)
            have B6 := ba.grown hgr6 (by intro h0; have := (HO5.out.lt _ h0).1; omega)
            have hs6 := hgr6.size
            clear ho6 hgr6 hat6 HN HO5 HRT5 hm5 HIN
            go_wp2_with fail
            go_roundw
            case rel => exact ⟨k + 1, n2 + 1, A6, c6, by go_num, rfl, by omega, HN2, HO6, HRT6, B6, by omega, hm6⟩
            case measure => simp [intOf]; omega
    · obtain rfl : k = es.length := by omega
      have hN := HN.out
      have hO := HO.out
      rw [List.take_length] at hN hO
      subst hN
      have hOG : OG wo w.heap.size wo.heap.size A2 c2 (notIn T es) := ⟨Nat.le_refl _, owns_base hO (by omega), fun g hg => (hO.lt g hg).2⟩
      have HOG := Lib.hid hOG
      clear hO HO hOG HRT HN
      go_wp2_with fail
      go_ret
      rw [← HX.out]
      exact ⟨A2, c2, rfl, HOG.out, hm0⟩
end Go.Proofs.YtkaofcakelpnpaaGreat

namespace Go.Proofs.YtkaofcakelpnpaaGreat
set_option linter.unusedVariables false
set_option linter.unusedSimpArgs false
open Go.RowKit
set_option maxHeartbeats 6400000 in
set_option maxRecDepth 100000 in
theorem spec_BasisOf (r n : Nat) (A : Option Addr) (es : List Ed) (c : Nat) (w : World) (lo hi : Nat) (hr : RG w lo hi A es) (hco : IsCor r n es) (X : List Ed) (hXe : X = notIn (treeE es (bfs es (lets r) 0)) es) :
    Calls Tryz.prog 19 #[graV r n A es.length c] w fun e w' => ∃ A1 c1, e = .returned (.slice A1 (X.map (basisW r es)).length c1) ∧ OSS w' w.heap.size w'.heap.size 48 3 A1 c1 (X.map (basisW r es)) ∧ Mid 0 0 w w' := by
  have hl := hco.gr.len
  have hXl : X.length ≤ 120 := by rw [hXe]; have := notIn_len (treeE es (bfs es (lets r) 0)) es; omega
  have hX : ∀ e ∈ X, e ∈ es := fun e he => by rw [hXe] at he; exact (List.mem_filter.1 he).1
  have hEE := fun W h => spec_ExtraEdges r n A es c W lo hi h hco.fol
  rw [← hXe] at hEE
  have HEE := Lib.hid hEE
  have HX := Lib.hid hX
  have HCO := Lib.hid hco
  clear hEE hX hXe hco
  have hm0 : Mid 0 0 w ((w.alloc (.cells #[.int .i64 r, .int .i64 n, .slice A es.length c] 32)).alloc (.cells #[] 48)) := (Mid.alloc _ _).trans (Mid.alloc _ _)
  have B0 := (Box.new w #[.int .i64 r, .int .i64 n, .slice A es.length c] 32).mid (Mid.alloc _ (.cells #[] 48)) oZr
  have O0 := Own1.empty (w.alloc (.cells #[.int .i64 r, .int .i64 n, .slice A es.length c] 32))
  simp only [World.size_alloc] at O0
  have p0 := B0.cell 0 rfl
  have p1 := B0.cell 1 rfl
  have p2 := B0.cell 2 rfl
  go_enter Tryz.func19, Tryz.ntmps19
  go_wp2_with fail
  generalize (w.alloc (.cells #[.int .i64 r, .int .i64 n, .slice A es.length c] 32)).alloc (.cells #[] 48) = w1 at hm0 B0 O0 p0 p1 p2 ⊢
  have hs1 : w.heap.size + 1 < w1.heap.size := (O0.lt rfl).2
  with_reducible refine (spec_IsSubgroup r n A es c w1 lo hi (hr.mid hm0 oZl) (by omega) true (iff_of_true rfl HCO.out)).mono ?_
  rintro en w2 ⟨rfl, hm2⟩
  have hs2 := hm2.size
  clear p0 p1 p2
  replace O0 := O0.mid hm2
  replace B0 := B0.mid hm2 oZr
  replace hm0 := hm0.trans hm2
  have p0 := B0.cell 0 rfl
  have p1 := B0.cell 1 rfl
  have p2 := B0.cell 2 rfl
  clear hm2
  go_wp2_with fail
  with_reducible refine (HEE.out w2 (hr.mid hm0 oZl)).mono ?_
  rintro en w3 ⟨AX, cX, rfl, hOX, hm3⟩
  have hs3 := hm3.size
  have HRX := Lib.hid hOX.rg
  clear p0 p1 p2 hOX
  replace O0 := O0.mid hm3
  replace B0 := B0.mid hm3 oZr
  replace hm0 := hm0.trans hm3
  clear hm3
  have HO0 := Lib.hid O0
  have HD0 : Hid (∀ g, obS (some (⟨w.heap.size + 1, 0, none⟩ : Addr)) 0 0 = some g → g = w.heap.size + 1 ∨ w3.heap.size ≤ g) := Lib.hid (fun g hg => .inl (ob_oneB hg))
  have HN0 : Hid (rowsD ([] : List Row) = (X.take 0).map (basisW r es)) := Lib.hid rfl
  have hw2 : w.heap.size + 2 ≤ w2.heap.size := by omega
  clear O0
  generalize (some (⟨w.heap.size + 1, 0, none⟩ : Addr)) = A0 at HO0 HD0 ⊢
  generalize w2.heap.size = L2 at HRX hw2 hs3
  generalize hH : w3.heap.size = H3 at HRX HD0 hs3
  have hsz3 : H3 ≤ w3.heap.size := Nat.le_of_eq hH.symm
  clear hH hs2
  go_wp2_with fail
  go_loopw [3, 5] (fun ov kv wr => ∃ (k : Nat) (rows : List Row) (A2 : Option Addr) (c2 : Nat), kv = .int .i64 k ∧ ov = .slice A2 k c2 ∧ k ≤ X.length ∧ Hid (rowsD rows = (X.take k).map (basisW r es)) ∧ Hid (Own1 wr (w.heap.size + 1) A2 k c2 rows) ∧ Hid (∀ g, obS A2 k c2 = some g → g = w.heap.size + 1 ∨ H3 ≤ g) ∧ Hid (RG wr L2 H3 AX X) ∧ Box wr w.heap.size [.int .i64 r, .int .i64 n, .slice A es.length c] ∧ H3 ≤ wr.heap.size ∧ Mid 0 0 w wr) (fun _ kv _ => X.length - (intOf kv).toNat)
  case atStart => exact ⟨0, [], A0, 0, rfl, rfl, Nat.zero_le _, HN0, HO0, HD0, HRX, B0, hsz3, hm0⟩
  case round =>
    clear HN0 HO0 HD0 HRX B0 hsz3 hm0
    obtain ⟨wo, hwo⟩ : ∃ wo, wo = wr := ⟨_, rfl⟩
    subst hwo
    obtain ⟨k, rows, A2, c2, rfl, rfl, hk, HN, HO, HD, HRX, B0, hsz, hm0⟩ := hrel
    by_cases hlt : k < X.length
    · have hmd := Mid.drew1 wo
      have HOd := Lib.hid (HO.out.mid hmd)
      have HRd := Lib.hid (HRX.out.mid hmd oZl)
      have Bd := B0.mid hmd oZr
      have hm1 := hm0.trans hmd
      have hszd := hmd.size
      obtain ⟨b, off, ⟨ea, el, ebb⟩, hA, -, hbh, he, x0, x1, x2⟩ := (HRd.out).ed hlt
      simp only at x0 x1 x2
      subst hA
      have hbs : b < (World.drew wo).heap.size := by omega
      have hk0 : (0 : Int) ≤ (k : Int) := by omega
      have hkm : (k : Int) < (X.length : Int) := by omega
      have hem := HX.out _ (List.mem_of_getElem? he)
      have hin := HCO.out.gr.all _ hem
      unfold InG at hin
      simp only at hin
      obtain ⟨pa, rfl⟩ : ∃ m : Nat, ea = m := ⟨ea.toNat, by omega⟩
      obtain ⟨pb, rfl⟩ : ∃ m : Nat, ebb = m := ⟨ebb.toNat, by omega⟩
      have HEK := Lib.hid he
      have HLO := Lib.hid (fun W h => spec_LoopOf r n A es c pa pb el W lo hi h HCO.out hem)
      have p0 := Bd.cell 0 rfl
      have p1 := Bd.cell 1 rfl
      have p2 := Bd.cell 2 rfl
      clear he hem hin HO HRX B0 hm0
      go_wp2_with fail
      refine wp_region_still_tail 5 (by kernel_rfl) (by kernel_rfl) ?_
      simp only [List.take_succ_cons, List.take_zero, List.drop_succ_cons, List.drop_zero]
      change wpStill _ _ (World.drew wo) (fun a' => wpList _ _ _ _ a' (World.drew wo)) _ _
      generalize World.drew wo = wz at HOd HRd Bd hm1 hszd hbs x0 x1 x2 p0 p1 p2 hmd ⊢
      repeat
        (with_reducible refine wpStill_step (fun K hK => ?_))
        go_simp
        first
          | ((with_reducible refine hK _ ?_); clear hK K)
      with_reducible refine wpStill_nil ?_
      go_wp2_with fail
      with_reducible refine (HLO.out wz (hr.mid hm1 oZl)).mono ?_
      rintro en w5 ⟨A5, c5, rfl, ho5, hm5⟩
      have hrow : w5.ownsRow wz.heap.size 3 1 (Row.v ⟨A5, c5, basisW r es ⟨(pa : Int), el, (pb : Int)⟩⟩) (basisW r es ⟨(pa : Int), el, (pb : Int)⟩).length (ints (basisW r es ⟨(pa : Int), el, (pb : Int)⟩)) := ho5
      have HROW := Lib.hid hrow
      have HRX5 := Lib.hid (HRd.out.mid hm5 oZl)
      have B5 := Bd.mid hm5 oZr
      have hm6 := hm1.trans hm5
      have hs5 := hm5.size
      have HOz := HOd
      have HM5 := Lib.hid hm5
      have hbb := Bd.1
      clear ho5 hrow HRd Bd hm1 p0 p1 p2 x0 x1 x2 hmd HLO hm5 HOd
      generalize hBW : basisW r es ⟨(pa : Int), el, (pb : Int)⟩ = bw at HROW ⊢
      have HBW := Lib.hid hBW
      clear hBW
      go_wp2_with (at_builtin; refine MarkerX.to ?_)
      unfold MarkerX
      refine wpList_push1 rfl _ _ rfl rfl HOz.out HM5.out ⟨A5, c5, bw⟩ (.slice A5 bw.length c5) rfl HROW.out rfl (by omega) (by omega) ?_
      intro A8 c8 w8 hO8 hgr8 hat8
      have HO8 := Lib.hid hO8
      have HN8 : Hid (rowsD (rows ++ [(⟨A5, c5, bw⟩ : Row)]) = (X.take (k + 1)).map (basisW r es)) := Lib.hid (by
        obtain ⟨h1, h2⟩ := List.getElem?_eq_some_iff.1 HEK.out
        rw [rowsD_append, HN.out, List.take_succ_eq_append_getElem h1, h2, List.map_append, List.map_cons, HBW.out]
        rfl)
      have HRX8 : Hid (RG w8 L2 H3 _ X) := Lib.hid (RV.rg (RV.grown HRX5.out hgr8 (fun g hg => by rcases HD.out g hg with h | h <;> omega)))
      have B8 := B5.grown hgr8 (by intro h0; have := (HOz.out.lt h0).1; omega)
      have hm8 := hm6.grownNew hgr8 (fun g hg => by have := (HOz.out.lt hg).1; omega)
      have hs8 := hgr8.size
      have HD8 : Hid (∀ g, obS A8 (k + 1) c8 = some g → g = w.heap.size + 1 ∨ H3 ≤ g) := Lib.hid (by
        intro g hg
        rcases hat8 with h | h
        · exact HD.out g (h ▸ hg)
        · rw [h] at hg
          have hg' := Option.some.inj hg
          omega)
      clear hO8 hgr8 hat8 HOz HM5 HRX5 B5 hm6 HROW HN HD
      go_wp2_with fail
      go_roundw
      case rel => exact ⟨k + 1, _, A8, c8, by go_num, rfl, by omega, HN8, HO8, HD8, HRX8, B8, by omega, hm8⟩
      case measure => simp [intOf]; omega
    · obtain rfl : k = X.length := by omega
      have hN := HN.out
      rw [List.take_length] at hN
      have hlen : (X.map (basisW r es)).length = X.length := List.length_map ..
      have HQ : Hid (OSS wo w.heap.size wo.heap.size 48 3 A2 c2 (X.map (basisW r es))) := Lib.hid ((HO.out.base (Nat.le_succ _)).oss hN)
      have HLN := Lib.hid hlen
      clear hN hlen HN HO HD HRX
      go_wp2_with fail
      go_ret
      exact ⟨A2, c2, by rw [HLN.out]; rfl, HQ.out, hm0⟩
end Go.Proofs.YtkaofcakelpnpaaGreat

namespace Go.Proofs.YtkaofcakelpnpaaGreat
set_option linter.unusedVariables false
set_option linter.unusedSimpArgs false
def rdA (es : List Ed) : Int → List Int → Int × Nat
  | v, [] => (v, 0)
  | v, x :: t => if nextV es v x < 0 then (v, 0) else ((rdA es (nextV es v x) t).1, (rdA es (nextV es v x) t).2 + 1)
theorem rdA_le (es : List Ed) : ∀ (w : List Int) (v : Int), (rdA es v w).2 ≤ w.length
  | [], v => Nat.le_refl _
  | x :: t, v => by
    rw [rdA]
    split
    · exact Nat.zero_le _
    · exact Nat.succ_le_succ (rdA_le es t _)
theorem rdA_in {r s : Int} {es : List Ed} (hg : ∀ e ∈ es, InG r s e) : ∀ (w : List Int) {v : Int}, 0 ≤ v ∧ v < s → 0 ≤ (rdA es v w).1 ∧ (rdA es v w).1 < s
  | [], v, h => h
  | x :: t, v, h => by
    rw [rdA]
    split
    · exact h
    · have := nextV_cases hg v x
      exact rdA_in hg t (by omega)
theorem WordP.drop {r : Int} {w : List Int} (h : WordP r w) (n : Nat) : WordP r (w.drop n) := by
  refine ⟨fun x hx => h.1 x (List.mem_of_mem_drop hx), fun k x y hx hy => ?_⟩
  rw [List.getElem?_drop] at hx hy
  exact h.2 (n + k) x y hx (by rw [← hy]; congr 1)
theorem IsW.drop {r : Int} {w : List Int} (h : IsW r w) (n : Nat) : IsW r (w.drop n) := ⟨h.1, h.2.1, by have := h.2.2.1; rw [List.length_drop]; omega, h.2.2.2.drop n⟩
def ExtIs (r s : Int) (es : List Ed) (w : List Int) (b : Bool) (s2 : Int) (es2 : List Ed) (x : Int) : Prop :=
  (b = true ∧ (rdA es 0 w).2 = w.length ∧ s2 = s ∧ es2 = es ∧ x = (rdA es 0 w).1) ∨
  (b = true ∧ (rdA es 0 w).2 < w.length ∧ s < 40 ∧ PathOk r (s + 1) es (rdA es 0 w).1 (w.drop (rdA es 0 w).2) s ∧ s2 = s + 1 + ((w.drop (rdA es 0 w).2).length : Int) - 1 ∧
    es2 = canon (es ++ pathE (rdA es 0 w).1 (s + 1) (w.drop (rdA es 0 w).2) s (w.drop (rdA es 0 w).2).length) ∧ x = s) ∨
  (b = false ∧ (rdA es 0 w).2 < w.length ∧ ¬ (s < 40 ∧ PathOk r (s + 1) es (rdA es 0 w).1 (w.drop (rdA es 0 w).2) s) ∧ s2 = 0 ∧ es2 = [] ∧ x = 0)
theorem ext_ex (r s : Int) (es : List Ed) (w : List Int) : ∃ b s2 es2 x, ExtIs r s es w b s2 es2 x := by
  rcases Nat.lt_or_ge (rdA es 0 w).2 w.length with h | h
  · by_cases hc : s < 40 ∧ PathOk r (s + 1) es (rdA es 0 w).1 (w.drop (rdA es 0 w).2) s
    · exact ⟨_, _, _, _, .inr (.inl ⟨rfl, h, hc.1, hc.2, rfl, rfl, rfl⟩)⟩
    · exact ⟨_, _, _, _, .inr (.inr ⟨rfl, h, hc, rfl, rfl, rfl⟩)⟩
  · have := rdA_le es w 0
    exact ⟨_, _, _, _, .inl ⟨rfl, by omega, rfl, rfl, rfl⟩⟩
theorem ExtIs.gr {r s : Int} {es : List Ed} {w : List Int} {s2 : Int} {es2 : List Ed} {x : Int} (h : ExtIs r s es w true s2 es2 x) (hg : IsGr r s es) : IsGr r s2 es2 ∧ 0 ≤ x ∧ x < s2 := by
  have hs := hg.size
  rcases h with ⟨-, -, rfl, rfl, rfl⟩ | ⟨-, -, h1, h2, rfl, rfl, rfl⟩ | ⟨h, -⟩
  · exact ⟨hg, rdA_in hg.all w (by omega)⟩
  · have hl : 0 < (w.drop (rdA es 0 w).2).length := List.length_pos_iff.2 h2.ne
    exact ⟨path_gr h2, by omega, by omega⟩
  · cases h
def mvOrd (s v : Int) : List Int := v :: but v.toNat s.toNat
noncomputable def moveA (r s : Int) (es : List Ed) (v : Int) : Int × List Ed := coreA r (s, partE (mvOrd s v) es)
def MoveIs (r s : Int) (es : List Ed) (v : Int) (rs : Int) (res : List Ed) (b : Bool) : Prop :=
  (b = true ∧ (IsFol r s es ∧ 0 ≤ v ∧ v < s) ∧ rs = (moveA r s es v).1 ∧ res = (moveA r s es v).2) ∨ (b = false ∧ ¬ (IsFol r s es ∧ 0 ≤ v ∧ v < s) ∧ rs = s ∧ res = es)
def petalA (g : Int × List Ed) (w : List Int) : Int × List Ed := if w = [] then g else (g.1 + (w.length : Int) - 1, canon (g.2 ++ pathE 0 g.1 w 0 w.length))
def flowA (l : List (List Int)) (g : Int × List Ed) : Int × List Ed := l.foldl petalA g
theorem flowA_take {l : List (List Int)} {k : Nat} {w : List Int} (h : l[k]? = some w) (g : Int × List Ed) : flowA (l.take (k + 1)) g = petalA (flowA (l.take k) g) w := by
  unfold flowA
  rw [List.take_add_one, h]
  simp [List.foldl_append]
end Go.Proofs.YtkaofcakelpnpaaGreat

namespace Go.Proofs.YtkaofcakelpnpaaGreat
set_option linter.unusedVariables false
set_option linter.unusedSimpArgs false
open Go.RowKit
set_option maxHeartbeats 3000000 in
set_option maxRecDepth 100000 in
theorem spec_AddPath (r s : Int) (A : Option Addr) (es : List Ed) (c : Nat) (u : Int) (Aw : Option Addr) (wd : List Int) (cw : Nat) (v : Int) (w : World) (lo hi lo' hi' : Nat)
    (hr : RG w lo hi A es) (hw : RV w lo' hi' Aw (ints wd)) (hl : es.length ≤ 1048576) (hwl : wd.length ≤ 1048576) (hok : OkI wd) (rs : Int) (res : List Ed) (b : Bool) (hres : PathIs r s es u wd v rs res b) :
    Calls Tryz.prog 99 #[graV r s A es.length c, .int .i64 u, .slice Aw wd.length cw, .int .i64 v] w fun e w' => ∃ A1 c1, e = .returned (.tuple #[graV r rs A1 res.length c1, .bool b]) ∧ OG w' w.heap.size w'.heap.size A1 c1 res ∧ Mid 0 0 w w' := by
  have HR := Lib.hid hres
  have HOK := Lib.hid hok
  clear hres hok
  obtain ⟨b1, hb1⟩ := bool_of (IsGr r s es)
  obtain ⟨b2, hb2⟩ := bool_of (0 ≤ u ∧ u < s)
  obtain ⟨b3, hb3⟩ := bool_of (0 ≤ v ∧ v < s)
  obtain ⟨b4, hb4⟩ := bool_of (IsW r wd)
  have H1 := Lib.hid hb1
  have H2 := Lib.hid hb2
  have H3 := Lib.hid hb3
  have H4 := Lib.hid hb4
  clear hb1 hb2 hb3 hb4
  have hm0 : Mid 0 0 w ((w.alloc (.cells #[.int .i64 r, .int .i64 s, .slice A es.length c] 32)).alloc (.cells #[.int .i64 0, .int .i64 0, .slice none 0 0] 32)) := (Mid.alloc _ _).trans (Mid.alloc _ _)
  have B0 := (Box.new w #[.int .i64 r, .int .i64 s, .slice A es.length c] 32).mid (Mid.alloc _ (.cells #[.int .i64 0, .int .i64 0, .slice none 0 0] 32)) oZr
  have B2 := Box.new (w.alloc (.cells #[.int .i64 r, .int .i64 s, .slice A es.length c] 32)) #[.int .i64 0, .int .i64 0, .slice none 0 0] 32
  simp only [World.size_alloc] at B2
  go_enter Tryz.func99, Tryz.ntmps99
  go_wp2_with fail
  generalize hw1 : ((w.alloc (.cells #[.int .i64 r, .int .i64 s, .slice A es.length c] 32)).alloc (.cells #[.int .i64 0, .int .i64 0, .slice none 0 0] 32)) = w1 at hm0 B0 B2 ⊢
  have hs1 : w1.heap.size = w.heap.size + 1 + 1 := by rw [← hw1]; simp
  have HS := Lib.hid hs1
  clear hw1 hs1
  with_reducible refine (spec_l4Copy r s A es c _ _ _ (hr.mid hm0 oZl) hl).mono ?_
  rintro en w2 ⟨A1, c1, rfl, ho2, hm2⟩
  have hal := Mid.alloc w2 (.cells #[.int .i64 r, .int .i64 s, .slice A1 es.length c1] 32)
  have Y3 := Box.new w2 #[.int .i64 r, .int .i64 s, .slice A1 es.length c1] 32
  replace B0 := B0.mid hm2 oZr
  replace B2 := B2.mid hm2 oZr
  replace hm0 := hm0.trans hm2
  replace B0 := B0.mid hal oZr
  replace B2 := B2.mid hal oZr
  replace hm0 := hm0.trans hal
  have hG2 : w.heap.size + 1 < w2.heap.size := by have := HS.out; have := hm2.size; omega
  have ho5 := (ho2.mid hal oZl)
  have hlt2 := ho2.ov.2.2
  have hb2k : Value.ownBlock (.slice A1 es.length c1) ≠ some w2.heap.size := fun h => by have := hlt2 _ h; omega
  have p0 := B0.cell 0 rfl
  have p1 := B0.cell 1 rfl
  have p2 := B0.cell 2 rfl
  go_wp2_with fail
  generalize w2.alloc (.cells #[.int .i64 r, .int .i64 s, .slice A1 es.length c1] 32) = w3 at hm0 B0 B2 Y3 ho5 p0 p1 p2 ⊢
  have hG3 : w2.heap.size < w3.heap.size := Y3.1
  have HOW := Lib.hid ho5.ov.2.1
  have HBK := Lib.hid hb2k
  have ho6 := ho5.wide (Nat.le_refl _) (Nat.le_refl _) (Nat.le_of_lt hG3)
  generalize hG : w2.heap.size = G at Y3 hG2 hG3 ho5 HBK ⊢
  have HGW := Lib.hid (show w1.heap.size ≤ G by rw [← hG]; exact hm2.size)
  clear hG hal hm2 hlt2 hb2k ho2 ho6
  with_reducible refine (spec_IsGraph r s A es c _ _ _ (hr.mid hm0 oZl).rv hl b1 H1.out).mono ?_
  rintro en w4 ⟨rfl, hm4⟩
  replace B0 := B0.mid hm4 oZr
  replace B2 := B2.mid hm4 oZr
  replace Y3 := Y3.mid hm4 oZr
  replace ho5 := ho5.mid hm4 oZl
  replace hm0 := hm0.trans hm4
  replace HOW := Lib.hid (owns_mid HOW.out hm4 oZl)
  clear hm4
  cases b1 with
  | false =>
    have hno : ¬ PathOk r s es u wd v := fun h => by have := H1.out.2 h.gr; cases this
    clear p0 p1 p2
    obtain ⟨rfl, rfl, rfl⟩ := HR.out.no hno
    have a0 := B2.cell 0 rfl
    have a1 := B2.cell 1 rfl
    have a2 := B2.cell 2 rfl
    have q0 := Y3.cell 0 rfl
    have q1 := Y3.cell 1 rfl
    have q2 := Y3.cell 2 rfl
    have af := B2.2.2
    go_wp2_with fail
    refine bodyPost_ret (v := .tuple #[.agg #[.int .i64 r, .int .i64 rs, .slice A1 res.length c1], .bool false]) (by simp [results, Tryz.results99, go_sem, a0, a1, a2, af, q0, q1, q2]) rfl ⟨A1, c1, rfl, ?_, ?_⟩
    · refine OG.wide (OG.mid ho5 (a := w.heap.size) (b := w.heap.size + 2) ?_ (Or.inl (by have := HS.out; omega))) (by have := HS.out; omega) (by have := ho5.size; simp; omega) (Nat.le_refl _)
      repeat (first | exact Mid.refl _ _ _ | refine Mid.stored ?_ _ (by simp; try omega) (by simp; try omega))
    · repeat (first | exact hm0 | refine Mid.storeNew ?_ (by simp; try omega) _)
  | true =>
  have hgr := H1.out.1 rfl
  have hsz := hgr.size
  have hln := hgr.len
  have hrk := hgr.rank
  have GR := Lib.hid hgr
  clear hgr H1
  have hwsub : IntKind.i64.wrap (s - 1) = s - 1 := IntWalk.i64_in _ (by omega)
  clear p0 p1 p2
  have p0 := B0.cell 0 rfl
  have p1 := B0.cell 1 rfl
  have p2 := B0.cell 2 rfl
  go_wp2_with fail
  with_reducible refine (l1In_at (has_bool hsz.1 hsz.2 H2.out).2 _).mono ?_
  rintro en w5 ⟨rfl, rfl⟩
  cases b2 with
  | false =>
    have hno : ¬ PathOk r s es u wd v := fun h => by have := H2.out.2 h.u0; cases this
    clear p0 p1 p2
    obtain ⟨rfl, rfl, rfl⟩ := HR.out.no hno
    have a0 := B2.cell 0 rfl
    have a1 := B2.cell 1 rfl
    have a2 := B2.cell 2 rfl
    have q0 := Y3.cell 0 rfl
    have q1 := Y3.cell 1 rfl
    have q2 := Y3.cell 2 rfl
    have af := B2.2.2
    go_wp2_with fail
    refine bodyPost_ret (v := .tuple #[.agg #[.int .i64 r, .int .i64 rs, .slice A1 res.length c1], .bool false]) (by simp [results, Tryz.results99, go_sem, a0, a1, a2, af, q0, q1, q2]) rfl ⟨A1, c1, rfl, ?_, ?_⟩
    · refine OG.wide (OG.mid ho5 (a := w.heap.size) (b := w.heap.size + 2) ?_ (Or.inl (by have := HS.out; omega))) (by have := HS.out; omega) (by have := ho5.size; simp; omega) (Nat.le_refl _)
      repeat (first | exact Mid.refl _ _ _ | refine Mid.stored ?_ _ (by simp; try omega) (by simp; try omega))
    · repeat (first | exact hm0 | refine Mid.storeNew ?_ (by simp; try omega) _)
  | true =>
  have hxu := H2.out.1 rfl
  clear H2
  clear p0 p1 p2
  have p0 := B0.cell 0 rfl
  have p1 := B0.cell 1 rfl
  have p2 := B0.cell 2 rfl
  go_wp2_with fail
  with_reducible refine (l1In_at (has_bool hsz.1 hsz.2 H3.out).2 _).mono ?_
  rintro en w6 ⟨rfl, rfl⟩
  cases b3 with
  | false =>
    have hno : ¬ PathOk r s es u wd v := fun h => by have := H3.out.2 h.v0; cases this
    clear p0 p1 p2
    obtain ⟨rfl, rfl, rfl⟩ := HR.out.no hno
    have a0 := B2.cell 0 rfl
    have a1 := B2.cell 1 rfl
    have a2 := B2.cell 2 rfl
    have q0 := Y3.cell 0 rfl
    have q1 := Y3.cell 1 rfl
    have q2 := Y3.cell 2 rfl
    have af := B2.2.2
    go_wp2_with fail
    refine bodyPost_ret (v := .tuple #[.agg #[.int .i64 r, .int .i64 rs, .slice A1 res.length c1], .bool false]) (by simp [results, Tryz.results99, go_sem, a0, a1, a2, af, q0, q1, q2]) rfl ⟨A1, c1, rfl, ?_, ?_⟩
    · refine OG.wide (OG.mid ho5 (a := w.heap.size) (b := w.heap.size + 2) ?_ (Or.inl (by have := HS.out; omega))) (by have := HS.out; omega) (by have := ho5.size; simp; omega) (Nat.le_refl _)
      repeat (first | exact Mid.refl _ _ _ | refine Mid.stored ?_ _ (by simp; try omega) (by simp; try omega))
    · repeat (first | exact hm0 | refine Mid.storeNew ?_ (by simp; try omega) _)
  | true =>
  have hxv := H3.out.1 rfl
  clear H3
  clear p0 p1 p2
  have p0 := B0.cell 0 rfl
  have p1 := B0.cell 1 rfl
  have p2 := B0.cell 2 rfl
  go_wp2_with fail
  with_reducible refine (spec_IsWord r Aw wd cw _ _ ((hw.mid hm0 oZl).rs) HOK.out (by omega) b4 H4.out).mono ?_
  rintro en w7 ⟨rfl, nd, hwd7⟩
  have hm7 : Mid 0 0 w4 w7 := by rw [hwd7]; exact (Mid.refl 0 0 w4).drewN nd
  clear hwd7
  replace B0 := B0.mid hm7 oZr
  replace B2 := B2.mid hm7 oZr
  replace Y3 := Y3.mid hm7 oZr
  replace ho5 := ho5.mid hm7 oZl
  replace hm0 := hm0.trans hm7
  replace HOW := Lib.hid (owns_mid HOW.out hm7 oZl)
  clear hm7
  cases b4 with
  | false =>
    have hno : ¬ PathOk r s es u wd v := fun h => by have := H4.out.2 h.word; cases this
    clear p0 p1 p2
    obtain ⟨rfl, rfl, rfl⟩ := HR.out.no hno
    have a0 := B2.cell 0 rfl
    have a1 := B2.cell 1 rfl
    have a2 := B2.cell 2 rfl
    have q0 := Y3.cell 0 rfl
    have q1 := Y3.cell 1 rfl
    have q2 := Y3.cell 2 rfl
    have af := B2.2.2
    go_wp2_with fail
    refine bodyPost_ret (v := .tuple #[.agg #[.int .i64 r, .int .i64 rs, .slice A1 res.length c1], .bool false]) (by simp [results, Tryz.results99, go_sem, a0, a1, a2, af, q0, q1, q2]) rfl ⟨A1, c1, rfl, ?_, ?_⟩
    · refine OG.wide (OG.mid ho5 (a := w.heap.size) (b := w.heap.size + 2) ?_ (Or.inl (by have := HS.out; omega))) (by have := HS.out; omega) (by have := ho5.size; simp; omega) (Nat.le_refl _)
      repeat (first | exact Mid.refl _ _ _ | refine Mid.stored ?_ _ (by simp; try omega) (by simp; try omega))
    · repeat (first | exact hm0 | refine Mid.storeNew ?_ (by simp; try omega) _)
  | true =>
  have hwd := H4.out.1 rfl
  have hwd24 := hwd.2.2.1
  have HWD := Lib.hid hwd
  clear hwd H4
  clear p0 p1 p2
  have p0 := B0.cell 0 rfl
  have p1 := B0.cell 1 rfl
  have p2 := B0.cell 2 rfl
  by_cases hne : wd = []
  · subst hne
    have hno : ¬ PathOk r s es u [] v := fun h => h.ne rfl
    clear p0 p1 p2
    obtain ⟨rfl, rfl, rfl⟩ := HR.out.no hno
    have a0 := B2.cell 0 rfl
    have a1 := B2.cell 1 rfl
    have a2 := B2.cell 2 rfl
    have q0 := Y3.cell 0 rfl
    have q1 := Y3.cell 1 rfl
    have q2 := Y3.cell 2 rfl
    have af := B2.2.2
    go_wp2_with fail
    refine bodyPost_ret (v := .tuple #[.agg #[.int .i64 r, .int .i64 rs, .slice A1 res.length c1], .bool false]) (by simp [results, Tryz.results99, go_sem, a0, a1, a2, af, q0, q1, q2]) rfl ⟨A1, c1, rfl, ?_, ?_⟩
    · refine OG.wide (OG.mid ho5 (a := w.heap.size) (b := w.heap.size + 2) ?_ (Or.inl (by have := HS.out; omega))) (by have := HS.out; omega) (by have := ho5.size; simp; omega) (Nat.le_refl _)
      repeat (first | exact Mid.refl _ _ _ | refine Mid.stored ?_ _ (by simp; try omega) (by simp; try omega))
    · repeat (first | exact hm0 | refine Mid.storeNew ?_ (by simp; try omega) _)
  have hpos : 0 < wd.length := List.length_pos_iff.2 hne
  have d4 : ((wd.length : Int) == 0) = false := by simp only [beq_eq_false_iff_ne]; omega
  have HNE := Lib.hid hne
  clear hne
  clear p0 p1 p2
  have p0 := B0.cell 0 rfl
  have p1 := B0.cell 1 rfl
  have p2 := B0.cell 2 rfl
  have d5' : IntKind.i64.wrap (s + (wd.length : Int)) = s + (wd.length : Int) := IntWalk.i64_in _ (by omega)
  have d5'' : IntKind.i64.wrap (s + (wd.length : Int) - 1) = s + (wd.length : Int) - 1 := IntWalk.i64_in _ (by omega)
  by_cases hsl : 40 < s + (wd.length : Int) - 1
  · have hno : ¬ PathOk r s es u wd v := fun h => by have := h.sz; omega
    have d5 : decide (40 < s + (wd.length : Int) - 1) = true := by simpa using hsl
    clear p1
    clear p0 p2
    have p0 := B0.cell 0 rfl
    have p1 := B0.cell 1 rfl
    have p2 := B0.cell 2 rfl
    obtain ⟨rfl, rfl, rfl⟩ := HR.out.no hno
    have a0 := B2.cell 0 rfl
    have a1 := B2.cell 1 rfl
    have a2 := B2.cell 2 rfl
    have q0 := Y3.cell 0 rfl
    have q1 := Y3.cell 1 rfl
    have q2 := Y3.cell 2 rfl
    have af := B2.2.2
    go_wp2_with fail
    refine bodyPost_ret (v := .tuple #[.agg #[.int .i64 r, .int .i64 rs, .slice A1 res.length c1], .bool false]) (by simp [results, Tryz.results99, go_sem, a0, a1, a2, af, q0, q1, q2]) rfl ⟨A1, c1, rfl, ?_, ?_⟩
    · refine OG.wide (OG.mid ho5 (a := w.heap.size) (b := w.heap.size + 2) ?_ (Or.inl (by have := HS.out; omega))) (by have := HS.out; omega) (by have := ho5.size; simp; omega) (Nat.le_refl _)
      repeat (first | exact Mid.refl _ _ _ | refine Mid.stored ?_ _ (by simp; try omega) (by simp; try omega))
    · repeat (first | exact hm0 | refine Mid.storeNew ?_ (by simp; try omega) _)
  have d5 : decide (40 < s + (wd.length : Int) - 1) = false := by simpa using hsl
  by_cases hll : 120 < es.length + wd.length
  · have hno : ¬ PathOk r s es u wd v := fun h => by have := h.ln; omega
    have d6 : decide (120 < (es.length : Int) + (wd.length : Int)) = true := by simp; omega
    obtain ⟨rfl, rfl, rfl⟩ := HR.out.no hno
    have a0 := B2.cell 0 rfl
    have a1 := B2.cell 1 rfl
    have a2 := B2.cell 2 rfl
    have q0 := Y3.cell 0 rfl
    have q1 := Y3.cell 1 rfl
    have q2 := Y3.cell 2 rfl
    have af := B2.2.2
    go_wp2_with fail
    refine bodyPost_ret (v := .tuple #[.agg #[.int .i64 r, .int .i64 rs, .slice A1 res.length c1], .bool false]) (by simp [results, Tryz.results99, go_sem, a0, a1, a2, af, q0, q1, q2]) rfl ⟨A1, c1, rfl, ?_, ?_⟩
    · refine OG.wide (OG.mid ho5 (a := w.heap.size) (b := w.heap.size + 2) ?_ (Or.inl (by have := HS.out; omega))) (by have := HS.out; omega) (by have := ho5.size; simp; omega) (Nat.le_refl _)
      repeat (first | exact Mid.refl _ _ _ | refine Mid.stored ?_ _ (by simp; try omega) (by simp; try omega))
    · repeat (first | exact hm0 | refine Mid.storeNew ?_ (by simp; try omega) _)
  have d6 : decide (120 < (es.length : Int) + (wd.length : Int)) = false := by simp; omega
  obtain ⟨rfl, hrs, hre⟩ := HR.out.yes ⟨GR.out, hxu, hxv, HWD.out, HNE.out, by omega, by omega⟩
  have HRS := Lib.hid hrs
  have HRE := Lib.hid hre
  have hasc := Lib.hid GR.out.asc
  clear hrs hre HR
  have hwn : IntKind.i64.wrap ((wd.length : Int) - 1) = (wd.length : Int) - 1 := IntWalk.i64_in _ (by omega)
  have hletb := Lib.hid HWD.out.2.2.2.1
  have q0 := Y3.cell 0 rfl
  have q1 := Y3.cell 1 rfl
  have q2 := Y3.cell 2 rfl
  go_wp2_with fail
  clear p0 p1 p2 q0 q1 q2
  go_loopw [11, 12] (fun at_ i wr => ∃ (k : Nat) (A2 : Option Addr) (c2 lo2 hi2 : Nat) (xs : List Ed) (sz : Int), k ≤ wd.length ∧ i = .int .i64 k ∧ at_ = .int .i64 (pathV u s wd.length v k) ∧ Hid (sz = s + ((min k (wd.length - 1) : Nat) : Int)) ∧ Hid (xs = putAll es (pathE u s wd v k)) ∧
    OG wr lo2 hi2 A2 c2 xs ∧ (hi2 ≤ G ∨ G + 1 ≤ lo2) ∧ w1.heap.size ≤ lo2 ∧
    Box wr w.heap.size [.int .i64 r, .int .i64 s, .slice A es.length c] ∧ Box wr (w.heap.size + 1) [.int .i64 0, .int .i64 0, .slice none 0 0] ∧
    Box wr G [.int .i64 r, .int .i64 sz, .slice A2 xs.length c2] ∧ Mid 0 0 w wr) (fun _ i _ => wd.length - (intOf i).toNat)
  case atStart => exact ⟨0, A1, c1, _, _, es, s, Nat.zero_le _, rfl, rfl, Lib.hid (by simp), Lib.hid (by simp [pathE, putAll]), ho5, .inl (Nat.le_refl _), Nat.le_refl _, B0, B2, Y3, hm0⟩
  case round =>
    clear B0 B2 Y3 hm0 ho5 HOW HBK hG3
    obtain ⟨k, A2, c2, lo2, hi2, xs, sz, hk, rfl, rfl, HSZ, HX, hown, hdis, hlo2, Z0, Z2, Z3, hmr⟩ := hrel
    have hszv := HSZ.out
    have hxl : xs.length ≤ 1000 := by
      have h1 := putAll_len es (pathE u s wd v k)
      rw [← HX.out, pathE_len] at h1
      omega
    by_cases hlt : k < wd.length
    · obtain ⟨B, off, x, rfl, hbh, hx, hcx⟩ := (hw.mid hmr oZl).at hlt
      have hxb := hletb.out x (List.mem_of_getElem? hx)
      have hkn : (k : Int) < (wd.length : Int) := by omega
      have hk0 : (0 : Int) ≤ (k : Int) := by omega
      have hpe := pathE_succ (u := u) (s := s) (v := v) hx
      have HPE := Lib.hid hpe
      have hGr : G < wr.heap.size := Z3.1
      have hBw : B < wr.heap.size := by have := hw.1; have := hmr.size; omega
      have hBG : B < G := by have := hw.1; omega
      have hw1r : w1.heap.size ≤ wr.heap.size := by have := HGW.out; omega
      clear hx hpe
      generalize hat : pathV u s wd.length v k = at0 at HPE ⊢
      clear hat
      rcases (by omega : 0 < x ∨ x < 0) with hx0 | hx0
      · have dx : decide (0 < x) = true := by simpa using hx0
        have hst0 : ∀ t, stepE at0 x t = ⟨at0, x, t⟩ := fun t => by rw [stepE, if_neg (by omega)]
        rw [hst0] at HPE
        clear hst0
        by_cases hlast : k + 1 < wd.length
        · have hmin : ((min k (wd.length - 1) : Nat) : Int) = (k : Int) := by rw [Nat.min_eq_left (by omega)]
          have hmin2 : ((min (k + 1) (wd.length - 1) : Nat) : Int) = (k : Int) + 1 := by rw [Nat.min_eq_left (by omega)]; rfl
          rw [hmin] at hszv
          subst hszv
          have hto : pathV u s wd.length v (k + 1) = s + (k : Int) := by
            rw [pathV, if_neg (by omega), if_pos hlast]
            omega
          rw [hto] at HPE
          have dk : decide ((k : Int) + 1 < (wd.length : Int)) = true := by simp; omega
          have hws : IntKind.i64.wrap (s + (k : Int) + 1) = s + (k : Int) + 1 := IntWalk.i64_in _ (by omega)
          have q1 := Z3.cell 1 rfl
          have qf := Z3.2.2
          have hst := Mid.setCell wr (lo := G) (hi := G + 1) (p := ⟨G, 1, none⟩) (.int .i64 (s + (k : Int) + 1)) (Nat.le_refl _) (Nat.lt_succ_self _)
          have V0 := Z0.mid hst (Or.inl (by omega))
          have V2 := Z2.mid hst (Or.inl (by omega))
          have V3 := Z3.set 1 (.int .i64 (s + (k : Int) + 1)) (by simp) rfl
          have hownV := hown.mid hst (by omega)
          have hcV := cell_keep hst hBw (Or.inl hBG) hcx
          have hmv := hmr.storeNew (p := ⟨G, 1, none⟩) (by show w.heap.size ≤ G; omega) (.int .i64 (s + (k : Int) + 1))
          have hsV : (wr.setCell ⟨G, 1, none⟩ (.int .i64 (s + (k : Int) + 1))).heap.size = wr.heap.size := by simp
          go_wp2_with fail
          clear dk dx
          generalize wr.setCell ⟨G, 1, none⟩ (.int .i64 (s + (k : Int) + 1)) = wx at V0 V2 V3 hownV hmv hsV hcV ⊢
          have hnsz : Hid (s + (k : Int) + 1 = s + ((min (k + 1) (wd.length - 1) : Nat) : Int)) := Lib.hid (by rw [hmin2]; omega)
          clear Z0 Z2 Z3 hown hmr q1 qf hst hcx hmin hmin2 HSZ
          simp only [List.set_cons_succ, List.set_cons_zero] at V3
          generalize s + (k : Int) + 1 = sz' at V3 hnsz
          generalize s + (k : Int) = to at HPE hto ⊢
          have hGx : G < wx.heap.size := V3.1
          have hmd := Mid.drew1 wx
          have U0 := V0.mid hmd oZr
          have U2 := V2.mid hmd oZr
          have U3 := V3.mid hmd oZr
          have hownU := hownV.mid hmd oZl
          have hmu := hmv.trans hmd
          have g2 := U3.cell 2 rfl
          have f0 := cell_keep hmd (by omega) oZr hcV
          clear V0 V2 V3 hownV hmv hmd hcV
          refine wp_region_T (S := (fun w' => w'.cell? ⟨G, 2, none⟩ = some (.slice A2 xs.length c2) ∧ w'.cell? ⟨B, off + k, none⟩ = some (.int .i64 x))) 11 (by kernel_rfl) ⟨g2, f0⟩ ?_
          generalize World.drew wx = wz at U0 U2 U3 hownU hmu f0 g2 ⊢
          have hS : wz.cell? ⟨G, 2, none⟩ = some (.slice A2 xs.length c2) ∧ wz.cell? ⟨B, off + k, none⟩ = some (.int .i64 x) := ⟨g2, f0⟩
          refine wpAnyT_take (i := 0) (v := ?_) rfl (by kernel_rfl) (by kernel_rfl) (by kernel_rfl) (by kernel_rfl) (fun _ _ _ h => h) (Or.inl ⟨by rfl, ?_⟩) hS ?_
          rotate_left
          focus (intro w hSw; (try dsimp only at hSw); go_simp; try with_reducible rfl)
          try simp only [Act.put, List.setIfInBounds_toArray, List.set_cons_zero, List.set_cons_succ, List.getElem_toArray, List.getElem_cons_zero, List.getElem_cons_succ]
          refine wpAnyT_take (i := 1) (v := ?_) rfl (by kernel_rfl) (by kernel_rfl) (by kernel_rfl) (by kernel_rfl) (fun _ _ _ h => h) (Or.inl ⟨by rfl, ?_⟩) hS ?_
          rotate_left
          focus (intro w hSw; (try dsimp only at hSw); go_simp; try with_reducible rfl)
          try simp only [Act.put, List.setIfInBounds_toArray, List.set_cons_zero, List.set_cons_succ, List.getElem_toArray, List.getElem_cons_zero, List.getElem_cons_succ]
          refine wpAnyT_take (i := 2) (v := ?_) rfl (by kernel_rfl) (by kernel_rfl) (by kernel_rfl) (by kernel_rfl) (fun _ _ _ h => h) (Or.inl ⟨by rfl, ?_⟩) hS ?_
          rotate_left
          focus (intro w hSw; (try dsimp only at hSw); go_simp; try with_reducible rfl)
          try simp only [Act.put, List.setIfInBounds_toArray, List.set_cons_zero, List.set_cons_succ, List.getElem_toArray, List.getElem_cons_zero, List.getElem_cons_succ]
          refine wpAnyT_take (i := 3) (v := ?_) rfl (by kernel_rfl) (by kernel_rfl) (by kernel_rfl) (by kernel_rfl) (fun _ _ _ h => h) (Or.inl ⟨by rfl, ?_⟩) hS ?_
          rotate_left
          focus (intro w hSw; (try dsimp only at hSw); go_simp; try with_reducible rfl)
          try simp only [Act.put, List.setIfInBounds_toArray, List.set_cons_zero, List.set_cons_succ, List.getElem_toArray, List.getElem_cons_zero, List.getElem_cons_succ]
          refine wpAnyT_take (i := 4) (v := ?_) rfl (by kernel_rfl) (by kernel_rfl) (by kernel_rfl) (by kernel_rfl) (fun _ _ _ h => h) (Or.inl ⟨by rfl, ?_⟩) hS ?_
          rotate_left
          focus (intro w hSw; (try dsimp only at hSw); go_simp; try with_reducible rfl)
          try simp only [Act.put, List.setIfInBounds_toArray, List.set_cons_zero, List.set_cons_succ, List.getElem_toArray, List.getElem_cons_zero, List.getElem_cons_succ]
          refine wpAnyT_take (i := 5) (v := ?_) rfl (by kernel_rfl) (by kernel_rfl) (by kernel_rfl) (by kernel_rfl) (fun _ _ _ h => h) (Or.inl ⟨by rfl, ?_⟩) hS ?_
          rotate_left
          focus (intro w hSw; (try dsimp only at hSw); go_simp; try with_reducible rfl)
          try simp only [Act.put, List.setIfInBounds_toArray, List.set_cons_zero, List.set_cons_succ, List.getElem_toArray, List.getElem_cons_zero, List.getElem_cons_succ]
          refine wpAnyT_take (i := 6) (v := ?_) rfl (by kernel_rfl) (by kernel_rfl) (by kernel_rfl) (by kernel_rfl) (fun _ _ _ h => h) (Or.inl ⟨by rfl, ?_⟩) hS ?_
          rotate_left
          focus (intro w hSw; (try dsimp only at hSw); go_simp; try with_reducible rfl)
          try simp only [Act.put, List.setIfInBounds_toArray, List.set_cons_zero, List.set_cons_succ, List.getElem_toArray, List.getElem_cons_zero, List.getElem_cons_succ]
          refine wpAnyT_take (i := 7) (v := ?_) rfl (by kernel_rfl) (by kernel_rfl) (by kernel_rfl) (by kernel_rfl) (fun _ _ _ h => h) (Or.inl ⟨by rfl, ?_⟩) hS ?_
          rotate_left
          focus (intro w hSw; (try dsimp only at hSw); go_simp; try with_reducible rfl)
          try simp only [Act.put, List.setIfInBounds_toArray, List.set_cons_zero, List.set_cons_succ, List.getElem_toArray, List.getElem_cons_zero, List.getElem_cons_succ]
          refine wpAnyT_take (i := 8) (v := ?_) rfl (by kernel_rfl) (by kernel_rfl) (by kernel_rfl) (by kernel_rfl) (fun _ _ _ h => h) (Or.inl ⟨by rfl, ?_⟩) hS ?_
          rotate_left
          focus (intro w hSw; (try dsimp only at hSw); go_simp; try with_reducible rfl)
          try simp only [Act.put, List.setIfInBounds_toArray, List.set_cons_zero, List.set_cons_succ, List.getElem_toArray, List.getElem_cons_zero, List.getElem_cons_succ]
          have hP := spec_l4Put A2 xs c2 ⟨at0, x, to⟩ wz _ _ hownU.rg (by omega)
          refine wpAnyT_ready (rs := [9]) (by kernel_rfl) (by simp) (AllReadyT.cons rfl (fun K hK => ?_) AllReadyT.nil)
          (go_simp; (with_reducible refine hP.mono ?_); rintro en w9 ⟨A9, c9, rfl, ho9, hm9⟩; have T0' := U0.mid hm9 oZr; have T2' := U2.mid hm9 oZr; have T3' := U3.mid hm9 oZr; have f0' := cell_keep hm9 (by have := U3.1; omega) oZr f0; go_wp2_with fail)
          refine hK.out _ _ (Or.inr ⟨T3'.cell 2 rfl, f0'⟩) (fun _ => ?_)
          clear hK K
          try simp only [Act.put, List.setIfInBounds_toArray, List.set_cons_zero, List.set_cons_succ, List.getElem_toArray, List.getElem_cons_zero, List.getElem_cons_succ]
          have hmr9 := hmu.trans hm9
          have hGz : G < wz.heap.size := U3.1
          have hS3 := And.intro (T3'.cell 2 rfl) f0'
          have hr2 := T3'.cell 2 rfl
          have hrf := T3'.2.2
          clear hS U0 U2 U3 hmu hP
          refine wpAnyT_take (i := 10) (v := ?_) rfl (by kernel_rfl) (by kernel_rfl) (by kernel_rfl) (by kernel_rfl) (fun _ _ _ h => h) (Or.inl ⟨by rfl, ?_⟩) hS3 ?_
          rotate_left
          focus (intro w hSw; (try dsimp only at hSw); go_simp; try with_reducible rfl)
          try simp only [Act.put, List.setIfInBounds_toArray, List.set_cons_zero, List.set_cons_succ, List.getElem_toArray, List.getElem_cons_zero, List.getElem_cons_succ]
          refine wpAnyT_ready (rs := [11]) (by kernel_rfl) (by simp) (AllReadyT.cons rfl (fun K hK => ?_) AllReadyT.nil)
          (go_simp)
          refine hK.out _ _ (Or.inl rfl) (fun _ => ?_)
          clear hK K
          try simp only [Act.put, List.setIfInBounds_toArray, List.set_cons_zero, List.set_cons_succ, List.getElem_toArray, List.getElem_cons_zero, List.getElem_cons_succ]
          refine wpAnyT_done (by kernel_rfl) ?_ _
          go_wp2_with fail
          go_roundw
          case rel =>
            have hst := Mid.setCell w9 (lo := G) (hi := G + 1) (p := ⟨G, 2, none⟩) (.slice A9 (putE ⟨at0, x, to⟩ xs).length c9) (Nat.le_refl _) (Nat.lt_succ_self _)
            refine ⟨k + 1, A9, c9, _, _, putE ⟨at0, x, to⟩ xs, sz', by omega, by go_num, by rw [hto], hnsz, Lib.hid ?_, ho9.mid hst (Or.inl (by omega)), .inr (by omega), by have := HGW.out; omega, T0'.mid hst (Or.inl (by omega)), T2'.mid hst (Or.inl (by omega)), T3'.set 2 _ (by simp) rfl, hmr9.storeNew (by show w.heap.size ≤ G; omega) _⟩
            rw [HPE.out, putAll_snoc, ← HX.out]
          case measure => simp [intOf]; omega
        · have hkl : k + 1 = wd.length := by omega
          have hmin : min k (wd.length - 1) = min (k + 1) (wd.length - 1) := by omega
          have hnsz : Hid (sz = s + ((min (k + 1) (wd.length - 1) : Nat) : Int)) := Lib.hid (by rw [hszv, hmin])
          have hto : pathV u s wd.length v (k + 1) = v := by
            rw [pathV, if_neg (by omega), if_neg (by omega)]
          rw [hto] at HPE
          have dk : decide ((k : Int) + 1 < (wd.length : Int)) = false := by simp; omega
          clear hszv hmin HSZ
          generalize sz = sz' at Z3 hnsz
          go_wp2_with fail
          clear dk dx
          have V0 := Z0
          have V2 := Z2
          have V3 := Z3
          have hownV := hown
          have hmv := hmr
          have hcV := hcx
          obtain ⟨wx, hwx⟩ : ∃ wx, wr = wx := ⟨_, rfl⟩
          have hsV : wx.heap.size = wr.heap.size := by rw [hwx]
          rw [hwx] at V0 V2 V3 hownV hmv hcV ⊢
          clear Z0 Z2 Z3 hown hmr hcx
          have hGx : G < wx.heap.size := V3.1
          have hmd := Mid.drew1 wx
          have U0 := V0.mid hmd oZr
          have U2 := V2.mid hmd oZr
          have U3 := V3.mid hmd oZr
          have hownU := hownV.mid hmd oZl
          have hmu := hmv.trans hmd
          have g2 := U3.cell 2 rfl
          have f0 := cell_keep hmd (by omega) oZr hcV
          clear V0 V2 V3 hownV hmv hmd hcV
          refine wp_region_T (S := (fun w' => w'.cell? ⟨G, 2, none⟩ = some (.slice A2 xs.length c2) ∧ w'.cell? ⟨B, off + k, none⟩ = some (.int .i64 x))) 11 (by kernel_rfl) ⟨g2, f0⟩ ?_
          generalize World.drew wx = wz at U0 U2 U3 hownU hmu f0 g2 ⊢
          have hS : wz.cell? ⟨G, 2, none⟩ = some (.slice A2 xs.length c2) ∧ wz.cell? ⟨B, off + k, none⟩ = some (.int .i64 x) := ⟨g2, f0⟩
          refine wpAnyT_take (i := 0) (v := ?_) rfl (by kernel_rfl) (by kernel_rfl) (by kernel_rfl) (by kernel_rfl) (fun _ _ _ h => h) (Or.inl ⟨by rfl, ?_⟩) hS ?_
          rotate_left
          focus (intro w hSw; (try dsimp only at hSw); go_simp; try with_reducible rfl)
          try simp only [Act.put, List.setIfInBounds_toArray, List.set_cons_zero, List.set_cons_succ, List.getElem_toArray, List.getElem_cons_zero, List.getElem_cons_succ]
          refine wpAnyT_take (i := 1) (v := ?_) rfl (by kernel_rfl) (by kernel_rfl) (by kernel_rfl) (by kernel_rfl) (fun _ _ _ h => h) (Or.inl ⟨by rfl, ?_⟩) hS ?_
          rotate_left
          focus (intro w hSw; (try dsimp only at hSw); go_simp; try with_reducible rfl)
          try simp only [Act.put, List.setIfInBounds_toArray, List.set_cons_zero, List.set_cons_succ, List.getElem_toArray, List.getElem_cons_zero, List.getElem_cons_succ]
          refine wpAnyT_take (i := 2) (v := ?_) rfl (by kernel_rfl) (by kernel_rfl) (by kernel_rfl) (by kernel_rfl) (fun _ _ _ h => h) (Or.inl ⟨by rfl, ?_⟩) hS ?_
          rotate_left
          focus (intro w hSw; (try dsimp only at hSw); go_simp; try with_reducible rfl)
          try simp only [Act.put, List.setIfInBounds_toArray, List.set_cons_zero, List.set_cons_succ, List.getElem_toArray, List.getElem_cons_zero, List.getElem_cons_succ]
          refine wpAnyT_take (i := 3) (v := ?_) rfl (by kernel_rfl) (by kernel_rfl) (by kernel_rfl) (by kernel_rfl) (fun _ _ _ h => h) (Or.inl ⟨by rfl, ?_⟩) hS ?_
          rotate_left
          focus (intro w hSw; (try dsimp only at hSw); go_simp; try with_reducible rfl)
          try simp only [Act.put, List.setIfInBounds_toArray, List.set_cons_zero, List.set_cons_succ, List.getElem_toArray, List.getElem_cons_zero, List.getElem_cons_succ]
          refine wpAnyT_take (i := 4) (v := ?_) rfl (by kernel_rfl) (by kernel_rfl) (by kernel_rfl) (by kernel_rfl) (fun _ _ _ h => h) (Or.inl ⟨by rfl, ?_⟩) hS ?_
          rotate_left
          focus (intro w hSw; (try dsimp only at hSw); go_simp; try with_reducible rfl)
          try simp only [Act.put, List.setIfInBounds_toArray, List.set_cons_zero, List.set_cons_succ, List.getElem_toArray, List.getElem_cons_zero, List.getElem_cons_succ]
          refine wpAnyT_take (i := 5) (v := ?_) rfl (by kernel_rfl) (by kernel_rfl) (by kernel_rfl) (by kernel_rfl) (fun _ _ _ h => h) (Or.inl ⟨by rfl, ?_⟩) hS ?_
          rotate_left
          focus (intro w hSw; (try dsimp only at hSw); go_simp; try with_reducible rfl)
          try simp only [Act.put, List.setIfInBounds_toArray, List.set_cons_zero, List.set_cons_succ, List.getElem_toArray, List.getElem_cons_zero, List.getElem_cons_succ]
          refine wpAnyT_take (i := 6) (v := ?_) rfl (by kernel_rfl) (by kernel_rfl) (by kernel_rfl) (by kernel_rfl) (fun _ _ _ h => h) (Or.inl ⟨by rfl, ?_⟩) hS ?_
          rotate_left
          focus (intro w hSw; (try dsimp only at hSw); go_simp; try with_reducible rfl)
          try simp only [Act.put, List.setIfInBounds_toArray, List.set_cons_zero, List.set_cons_succ, List.getElem_toArray, List.getElem_cons_zero, List.getElem_cons_succ]
          refine wpAnyT_take (i := 7) (v := ?_) rfl (by kernel_rfl) (by kernel_rfl) (by kernel_rfl) (by kernel_rfl) (fun _ _ _ h => h) (Or.inl ⟨by rfl, ?_⟩) hS ?_
          rotate_left
          focus (intro w hSw; (try dsimp only at hSw); go_simp; try with_reducible rfl)
          try simp only [Act.put, List.setIfInBounds_toArray, List.set_cons_zero, List.set_cons_succ, List.getElem_toArray, List.getElem_cons_zero, List.getElem_cons_succ]
          refine wpAnyT_take (i := 8) (v := ?_) rfl (by kernel_rfl) (by kernel_rfl) (by kernel_rfl) (by kernel_rfl) (fun _ _ _ h => h) (Or.inl ⟨by rfl, ?_⟩) hS ?_
          rotate_left
          focus (intro w hSw; (try dsimp only at hSw); go_simp; try with_reducible rfl)
          try simp only [Act.put, List.setIfInBounds_toArray, List.set_cons_zero, List.set_cons_succ, List.getElem_toArray, List.getElem_cons_zero, List.getElem_cons_succ]
          have hP := spec_l4Put A2 xs c2 ⟨at0, x, v⟩ wz _ _ hownU.rg (by omega)
          refine wpAnyT_ready (rs := [9]) (by kernel_rfl) (by simp) (AllReadyT.cons rfl (fun K hK => ?_) AllReadyT.nil)
          (go_simp; (with_reducible refine hP.mono ?_); rintro en w9 ⟨A9, c9, rfl, ho9, hm9⟩; have T0' := U0.mid hm9 oZr; have T2' := U2.mid hm9 oZr; have T3' := U3.mid hm9 oZr; have f0' := cell_keep hm9 (by have := U3.1; omega) oZr f0; go_wp2_with fail)
          refine hK.out _ _ (Or.inr ⟨T3'.cell 2 rfl, f0'⟩) (fun _ => ?_)
          clear hK K
          try simp only [Act.put, List.setIfInBounds_toArray, List.set_cons_zero, List.set_cons_succ, List.getElem_toArray, List.getElem_cons_zero, List.getElem_cons_succ]
          have hmr9 := hmu.trans hm9
          have hGz : G < wz.heap.size := U3.1
          have hS3 := And.intro (T3'.cell 2 rfl) f0'
          have hr2 := T3'.cell 2 rfl
          have hrf := T3'.2.2
          clear hS U0 U2 U3 hmu hP
          refine wpAnyT_take (i := 10) (v := ?_) rfl (by kernel_rfl) (by kernel_rfl) (by kernel_rfl) (by kernel_rfl) (fun _ _ _ h => h) (Or.inl ⟨by rfl, ?_⟩) hS3 ?_
          rotate_left
          focus (intro w hSw; (try dsimp only at hSw); go_simp; try with_reducible rfl)
          try simp only [Act.put, List.setIfInBounds_toArray, List.set_cons_zero, List.set_cons_succ, List.getElem_toArray, List.getElem_cons_zero, List.getElem_cons_succ]
          refine wpAnyT_ready (rs := [11]) (by kernel_rfl) (by simp) (AllReadyT.cons rfl (fun K hK => ?_) AllReadyT.nil)
          (go_simp)
          refine hK.out _ _ (Or.inl rfl) (fun _ => ?_)
          clear hK K
          try simp only [Act.put, List.setIfInBounds_toArray, List.set_cons_zero, List.set_cons_succ, List.getElem_toArray, List.getElem_cons_zero, List.getElem_cons_succ]
          refine wpAnyT_done (by kernel_rfl) ?_ _
          go_wp2_with fail
          go_roundw
          case rel =>
            have hst := Mid.setCell w9 (lo := G) (hi := G + 1) (p := ⟨G, 2, none⟩) (.slice A9 (putE ⟨at0, x, v⟩ xs).length c9) (Nat.le_refl _) (Nat.lt_succ_self _)
            refine ⟨k + 1, A9, c9, _, _, putE ⟨at0, x, v⟩ xs, sz', by omega, by go_num, by rw [hto], hnsz, Lib.hid ?_, ho9.mid hst (Or.inl (by omega)), .inr (by omega), by have := HGW.out; omega, T0'.mid hst (Or.inl (by omega)), T2'.mid hst (Or.inl (by omega)), T3'.set 2 _ (by simp) rfl, hmr9.storeNew (by show w.heap.size ≤ G; omega) _⟩
            rw [HPE.out, putAll_snoc, ← HX.out]
          case measure => simp [intOf]; omega
      · have dx : decide (0 < x) = false := by simp; omega
        have hst0 : ∀ t, stepE at0 x t = ⟨t, -x, at0⟩ := fun t => by rw [stepE, if_pos hx0]
        have hwx1 : IntKind.i64.wrap (-x) = -x := IntWalk.i64_in _ (by omega)
        have hwx2 : wrap64 (-x) = -x := by unfold wrap64; omega
        rw [hst0] at HPE
        clear hst0
        by_cases hlast : k + 1 < wd.length
        · have hmin : ((min k (wd.length - 1) : Nat) : Int) = (k : Int) := by rw [Nat.min_eq_left (by omega)]
          have hmin2 : ((min (k + 1) (wd.length - 1) : Nat) : Int) = (k : Int) + 1 := by rw [Nat.min_eq_left (by omega)]; rfl
          rw [hmin] at hszv
          subst hszv
          have hto : pathV u s wd.length v (k + 1) = s + (k : Int) := by
            rw [pathV, if_neg (by omega), if_pos hlast]
            omega
          rw [hto] at HPE
          have dk : decide ((k : Int) + 1 < (wd.length : Int)) = true := by simp; omega
          have hws : IntKind.i64.wrap (s + (k : Int) + 1) = s + (k : Int) + 1 := IntWalk.i64_in _ (by omega)
          have q1 := Z3.cell 1 rfl
          have qf := Z3.2.2
          have hst := Mid.setCell wr (lo := G) (hi := G + 1) (p := ⟨G, 1, none⟩) (.int .i64 (s + (k : Int) + 1)) (Nat.le_refl _) (Nat.lt_succ_self _)
          have V0 := Z0.mid hst (Or.inl (by omega))
          have V2 := Z2.mid hst (Or.inl (by omega))
          have V3 := Z3.set 1 (.int .i64 (s + (k : Int) + 1)) (by simp) rfl
          have hownV := hown.mid hst (by omega)
          have hcV := cell_keep hst hBw (Or.inl hBG) hcx
          have hmv := hmr.storeNew (p := ⟨G, 1, none⟩) (by show w.heap.size ≤ G; omega) (.int .i64 (s + (k : Int) + 1))
          have hsV : (wr.setCell ⟨G, 1, none⟩ (.int .i64 (s + (k : Int) + 1))).heap.size = wr.heap.size := by simp
          go_wp2_with fail
          clear dk dx
          generalize wr.setCell ⟨G, 1, none⟩ (.int .i64 (s + (k : Int) + 1)) = wx at V0 V2 V3 hownV hmv hsV hcV ⊢
          have hnsz : Hid (s + (k : Int) + 1 = s + ((min (k + 1) (wd.length - 1) : Nat) : Int)) := Lib.hid (by rw [hmin2]; omega)
          clear Z0 Z2 Z3 hown hmr q1 qf hst hcx hmin hmin2 HSZ
          simp only [List.set_cons_succ, List.set_cons_zero] at V3
          generalize s + (k : Int) + 1 = sz' at V3 hnsz
          generalize s + (k : Int) = to at HPE hto ⊢
          have hGx : G < wx.heap.size := V3.1
          have hmd := Mid.drew1 wx
          have U0 := V0.mid hmd oZr
          have U2 := V2.mid hmd oZr
          have U3 := V3.mid hmd oZr
          have hownU := hownV.mid hmd oZl
          have hmu := hmv.trans hmd
          have g2 := U3.cell 2 rfl
          have f0 := cell_keep hmd (by omega) oZr hcV
          clear V0 V2 V3 hownV hmv hmd hcV
          refine wp_region_T (S := (fun w' => w'.cell? ⟨G, 2, none⟩ = some (.slice A2 xs.length c2) ∧ w'.cell? ⟨B, off + k, none⟩ = some (.int .i64 x))) 12 (by kernel_rfl) ⟨g2, f0⟩ ?_
          generalize World.drew wx = wz at U0 U2 U3 hownU hmu f0 g2 ⊢
          have hS : wz.cell? ⟨G, 2, none⟩ = some (.slice A2 xs.length c2) ∧ wz.cell? ⟨B, off + k, none⟩ = some (.int .i64 x) := ⟨g2, f0⟩
          refine wpAnyT_take (i := 0) (v := ?_) rfl (by kernel_rfl) (by kernel_rfl) (by kernel_rfl) (by kernel_rfl) (fun _ _ _ h => h) (Or.inl ⟨by rfl, ?_⟩) hS ?_
          rotate_left
          focus (intro w hSw; (try dsimp only at hSw); go_simp; try with_reducible rfl)
          try simp only [Act.put, List.setIfInBounds_toArray, List.set_cons_zero, List.set_cons_succ, List.getElem_toArray, List.getElem_cons_zero, List.getElem_cons_succ]
          refine wpAnyT_take (i := 1) (v := ?_) rfl (by kernel_rfl) (by kernel_rfl) (by kernel_rfl) (by kernel_rfl) (fun _ _ _ h => h) (Or.inl ⟨by rfl, ?_⟩) hS ?_
          rotate_left
          focus (intro w hSw; (try dsimp only at hSw); go_simp; try with_reducible rfl)
          try simp only [Act.put, List.setIfInBounds_toArray, List.set_cons_zero, List.set_cons_succ, List.getElem_toArray, List.getElem_cons_zero, List.getElem_cons_succ]
          refine wpAnyT_take (i := 2) (v := ?_) rfl (by kernel_rfl) (by kernel_rfl) (by kernel_rfl) (by kernel_rfl) (fun _ _ _ h => h) (Or.inl ⟨by rfl, ?_⟩) hS ?_
          rotate_left
          focus (intro w hSw; (try dsimp only at hSw); go_simp; try with_reducible rfl)
          try simp only [Act.put, List.setIfInBounds_toArray, List.set_cons_zero, List.set_cons_succ, List.getElem_toArray, List.getElem_cons_zero, List.getElem_cons_succ]
          refine wpAnyT_take (i := 3) (v := ?_) rfl (by kernel_rfl) (by kernel_rfl) (by kernel_rfl) (by kernel_rfl) (fun _ _ _ h => h) (Or.inl ⟨by rfl, ?_⟩) hS ?_
          rotate_left
          focus (intro w hSw; (try dsimp only at hSw); go_simp; try with_reducible rfl)
          try simp only [Act.put, List.setIfInBounds_toArray, List.set_cons_zero, List.set_cons_succ, List.getElem_toArray, List.getElem_cons_zero, List.getElem_cons_succ]
          refine wpAnyT_take (i := 4) (v := ?_) rfl (by kernel_rfl) (by kernel_rfl) (by kernel_rfl) (by kernel_rfl) (fun _ _ _ h => h) (Or.inl ⟨by rfl, ?_⟩) hS ?_
          rotate_left
          focus (intro w hSw; (try dsimp only at hSw); go_simp; try with_reducible rfl)
          try simp only [Act.put, List.setIfInBounds_toArray, List.set_cons_zero, List.set_cons_succ, List.getElem_toArray, List.getElem_cons_zero, List.getElem_cons_succ]
          refine wpAnyT_take (i := 5) (v := ?_) rfl (by kernel_rfl) (by kernel_rfl) (by kernel_rfl) (by kernel_rfl) (fun _ _ _ h => h) (Or.inl ⟨by rfl, ?_⟩) hS ?_
          rotate_left
          focus (intro w hSw; (try dsimp only at hSw); go_simp; try with_reducible rfl)
          try simp only [Act.put, List.setIfInBounds_toArray, List.set_cons_zero, List.set_cons_succ, List.getElem_toArray, List.getElem_cons_zero, List.getElem_cons_succ]
          refine wpAnyT_take (i := 6) (v := ?_) rfl (by kernel_rfl) (by kernel_rfl) (by kernel_rfl) (by kernel_rfl) (fun _ _ _ h => h) (Or.inl ⟨by rfl, ?_⟩) hS ?_
          rotate_left
          focus (intro w hSw; (try dsimp only at hSw); go_simp; try with_reducible rfl)
          try simp only [Act.put, List.setIfInBounds_toArray, List.set_cons_zero, List.set_cons_succ, List.getElem_toArray, List.getElem_cons_zero, List.getElem_cons_succ]
          refine wpAnyT_take (i := 7) (v := ?_) rfl (by kernel_rfl) (by kernel_rfl) (by kernel_rfl) (by kernel_rfl) (fun _ _ _ h => h) (Or.inl ⟨by rfl, ?_⟩) hS ?_
          rotate_left
          focus (intro w hSw; (try dsimp only at hSw); go_simp; try with_reducible rfl)
          try simp only [Act.put, List.setIfInBounds_toArray, List.set_cons_zero, List.set_cons_succ, List.getElem_toArray, List.getElem_cons_zero, List.getElem_cons_succ]
          refine wpAnyT_take (i := 8) (v := ?_) rfl (by kernel_rfl) (by kernel_rfl) (by kernel_rfl) (by kernel_rfl) (fun _ _ _ h => h) (Or.inl ⟨by rfl, ?_⟩) hS ?_
          rotate_left
          focus (intro w hSw; (try dsimp only at hSw); go_simp; try with_reducible rfl)
          try simp only [Act.put, List.setIfInBounds_toArray, List.set_cons_zero, List.set_cons_succ, List.getElem_toArray, List.getElem_cons_zero, List.getElem_cons_succ]
          refine wpAnyT_take (i := 9) (v := ?_) rfl (by kernel_rfl) (by kernel_rfl) (by kernel_rfl) (by kernel_rfl) (fun _ _ _ h => h) (Or.inl ⟨by rfl, ?_⟩) hS ?_
          rotate_left
          focus (intro w hSw; (try dsimp only at hSw); go_simp; try with_reducible rfl)
          try simp only [Act.put, List.setIfInBounds_toArray, List.set_cons_zero, List.set_cons_succ, List.getElem_toArray, List.getElem_cons_zero, List.getElem_cons_succ]
          have hP := spec_l4Put A2 xs c2 ⟨to, -x, at0⟩ wz _ _ hownU.rg (by omega)
          refine wpAnyT_ready (rs := [10]) (by kernel_rfl) (by simp) (AllReadyT.cons rfl (fun K hK => ?_) AllReadyT.nil)
          (go_simp; (try simp only [hwx1, hwx2]); (with_reducible refine hP.mono ?_); rintro en w9 ⟨A9, c9, rfl, ho9, hm9⟩; have T0' := U0.mid hm9 oZr; have T2' := U2.mid hm9 oZr; have T3' := U3.mid hm9 oZr; have f0' := cell_keep hm9 (by have := U3.1; omega) oZr f0; go_wp2_with fail)
          refine hK.out _ _ (Or.inr ⟨T3'.cell 2 rfl, f0'⟩) (fun _ => ?_)
          clear hK K
          try simp only [Act.put, List.setIfInBounds_toArray, List.set_cons_zero, List.set_cons_succ, List.getElem_toArray, List.getElem_cons_zero, List.getElem_cons_succ]
          have hmr9 := hmu.trans hm9
          have hGz : G < wz.heap.size := U3.1
          have hS3 := And.intro (T3'.cell 2 rfl) f0'
          have hr2 := T3'.cell 2 rfl
          have hrf := T3'.2.2
          clear hS U0 U2 U3 hmu hP
          refine wpAnyT_take (i := 11) (v := ?_) rfl (by kernel_rfl) (by kernel_rfl) (by kernel_rfl) (by kernel_rfl) (fun _ _ _ h => h) (Or.inl ⟨by rfl, ?_⟩) hS3 ?_
          rotate_left
          focus (intro w hSw; (try dsimp only at hSw); go_simp; try with_reducible rfl)
          try simp only [Act.put, List.setIfInBounds_toArray, List.set_cons_zero, List.set_cons_succ, List.getElem_toArray, List.getElem_cons_zero, List.getElem_cons_succ]
          refine wpAnyT_ready (rs := [12]) (by kernel_rfl) (by simp) (AllReadyT.cons rfl (fun K hK => ?_) AllReadyT.nil)
          (go_simp)
          refine hK.out _ _ (Or.inl rfl) (fun _ => ?_)
          clear hK K
          try simp only [Act.put, List.setIfInBounds_toArray, List.set_cons_zero, List.set_cons_succ, List.getElem_toArray, List.getElem_cons_zero, List.getElem_cons_succ]
          refine wpAnyT_done (by kernel_rfl) ?_ _
          go_wp2_with fail
          go_roundw
          case rel =>
            have hst := Mid.setCell w9 (lo := G) (hi := G + 1) (p := ⟨G, 2, none⟩) (.slice A9 (putE ⟨to, -x, at0⟩ xs).length c9) (Nat.le_refl _) (Nat.lt_succ_self _)
            refine ⟨k + 1, A9, c9, _, _, putE ⟨to, -x, at0⟩ xs, sz', by omega, by go_num, by rw [hto], hnsz, Lib.hid ?_, ho9.mid hst (Or.inl (by omega)), .inr (by omega), by have := HGW.out; omega, T0'.mid hst (Or.inl (by omega)), T2'.mid hst (Or.inl (by omega)), T3'.set 2 _ (by simp) rfl, hmr9.storeNew (by show w.heap.size ≤ G; omega) _⟩
            rw [HPE.out, putAll_snoc, ← HX.out]
          case measure => simp [intOf]; omega
        · have hkl : k + 1 = wd.length := by omega
          have hmin : min k (wd.length - 1) = min (k + 1) (wd.length - 1) := by omega
          have hnsz : Hid (sz = s + ((min (k + 1) (wd.length - 1) : Nat) : Int)) := Lib.hid (by rw [hszv, hmin])
          have hto : pathV u s wd.length v (k + 1) = v := by
            rw [pathV, if_neg (by omega), if_neg (by omega)]
          rw [hto] at HPE
          have dk : decide ((k : Int) + 1 < (wd.length : Int)) = false := by simp; omega
          clear hszv hmin HSZ
          generalize sz = sz' at Z3 hnsz
          go_wp2_with fail
          clear dk dx
          have V0 := Z0
          have V2 := Z2
          have V3 := Z3
          have hownV := hown
          have hmv := hmr
          have hcV := hcx
          obtain ⟨wx, hwx⟩ : ∃ wx, wr = wx := ⟨_, rfl⟩
          have hsV : wx.heap.size = wr.heap.size := by rw [hwx]
          rw [hwx] at V0 V2 V3 hownV hmv hcV ⊢
          clear Z0 Z2 Z3 hown hmr hcx
          have hGx : G < wx.heap.size := V3.1
          have hmd := Mid.drew1 wx
          have U0 := V0.mid hmd oZr
          have U2 := V2.mid hmd oZr
          have U3 := V3.mid hmd oZr
          have hownU := hownV.mid hmd oZl
          have hmu := hmv.trans hmd
          have g2 := U3.cell 2 rfl
          have f0 := cell_keep hmd (by omega) oZr hcV
          clear V0 V2 V3 hownV hmv hmd hcV
          refine wp_region_T (S := (fun w' => w'.cell? ⟨G, 2, none⟩ = some (.slice A2 xs.length c2) ∧ w'.cell? ⟨B, off + k, none⟩ = some (.int .i64 x))) 12 (by kernel_rfl) ⟨g2, f0⟩ ?_
          generalize World.drew wx = wz at U0 U2 U3 hownU hmu f0 g2 ⊢
          have hS : wz.cell? ⟨G, 2, none⟩ = some (.slice A2 xs.length c2) ∧ wz.cell? ⟨B, off + k, none⟩ = some (.int .i64 x) := ⟨g2, f0⟩
          refine wpAnyT_take (i := 0) (v := ?_) rfl (by kernel_rfl) (by kernel_rfl) (by kernel_rfl) (by kernel_rfl) (fun _ _ _ h => h) (Or.inl ⟨by rfl, ?_⟩) hS ?_
          rotate_left
          focus (intro w hSw; (try dsimp only at hSw); go_simp; try with_reducible rfl)
          try simp only [Act.put, List.setIfInBounds_toArray, List.set_cons_zero, List.set_cons_succ, List.getElem_toArray, List.getElem_cons_zero, List.getElem_cons_succ]
          refine wpAnyT_take (i := 1) (v := ?_) rfl (by kernel_rfl) (by kernel_rfl) (by kernel_rfl) (by kernel_rfl) (fun _ _ _ h => h) (Or.inl ⟨by rfl, ?_⟩) hS ?_
          rotate_left
          focus (intro w hSw; (try dsimp only at hSw); go_simp; try with_reducible rfl)
          try simp only [Act.put, List.setIfInBounds_toArray, List.set_cons_zero, List.set_cons_succ, List.getElem_toArray, List.getElem_cons_zero, List.getElem_cons_succ]
          refine wpAnyT_take (i := 2) (v := ?_) rfl (by kernel_rfl) (by kernel_rfl) (by kernel_rfl) (by kernel_rfl) (fun _ _ _ h => h) (Or.inl ⟨by rfl, ?_⟩) hS ?_
          rotate_left
          focus (intro w hSw; (try dsimp only at hSw); go_simp; try with_reducible rfl)
          try simp only [Act.put, List.setIfInBounds_toArray, List.set_cons_zero, List.set_cons_succ, List.getElem_toArray, List.getElem_cons_zero, List.getElem_cons_succ]
          refine wpAnyT_take (i := 3) (v := ?_) rfl (by kernel_rfl) (by kernel_rfl) (by kernel_rfl) (by kernel_rfl) (fun _ _ _ h => h) (Or.inl ⟨by rfl, ?_⟩) hS ?_
          rotate_left
          focus (intro w hSw; (try dsimp only at hSw); go_simp; try with_reducible rfl)
          try simp only [Act.put, List.setIfInBounds_toArray, List.set_cons_zero, List.set_cons_succ, List.getElem_toArray, List.getElem_cons_zero, List.getElem_cons_succ]
          refine wpAnyT_take (i := 4) (v := ?_) rfl (by kernel_rfl) (by kernel_rfl) (by kernel_rfl) (by kernel_rfl) (fun _ _ _ h => h) (Or.inl ⟨by rfl, ?_⟩) hS ?_
          rotate_left
          focus (intro w hSw; (try dsimp only at hSw); go_simp; try with_reducible rfl)
          try simp only [Act.put, List.setIfInBounds_toArray, List.set_cons_zero, List.set_cons_succ, List.getElem_toArray, List.getElem_cons_zero, List.getElem_cons_succ]
          refine wpAnyT_take (i := 5) (v := ?_) rfl (by kernel_rfl) (by kernel_rfl) (by kernel_rfl) (by kernel_rfl) (fun _ _ _ h => h) (Or.inl ⟨by rfl, ?_⟩) hS ?_
          rotate_left
          focus (intro w hSw; (try dsimp only at hSw); go_simp; try with_reducible rfl)
          try simp only [Act.put, List.setIfInBounds_toArray, List.set_cons_zero, List.set_cons_succ, List.getElem_toArray, List.getElem_cons_zero, List.getElem_cons_succ]
          refine wpAnyT_take (i := 6) (v := ?_) rfl (by kernel_rfl) (by kernel_rfl) (by kernel_rfl) (by kernel_rfl) (fun _ _ _ h => h) (Or.inl ⟨by rfl, ?_⟩) hS ?_
          rotate_left
          focus (intro w hSw; (try dsimp only at hSw); go_simp; try with_reducible rfl)
          try simp only [Act.put, List.setIfInBounds_toArray, List.set_cons_zero, List.set_cons_succ, List.getElem_toArray, List.getElem_cons_zero, List.getElem_cons_succ]
          refine wpAnyT_take (i := 7) (v := ?_) rfl (by kernel_rfl) (by kernel_rfl) (by kernel_rfl) (by kernel_rfl) (fun _ _ _ h => h) (Or.inl ⟨by rfl, ?_⟩) hS ?_
          rotate_left
          focus (intro w hSw; (try dsimp only at hSw); go_simp; try with_reducible rfl)
          try simp only [Act.put, List.setIfInBounds_toArray, List.set_cons_zero, List.set_cons_succ, List.getElem_toArray, List.getElem_cons_zero, List.getElem_cons_succ]
          refine wpAnyT_take (i := 8) (v := ?_) rfl (by kernel_rfl) (by kernel_rfl) (by kernel_rfl) (by kernel_rfl) (fun _ _ _ h => h) (Or.inl ⟨by rfl, ?_⟩) hS ?_
          rotate_left
          focus (intro w hSw; (try dsimp only at hSw); go_simp; try with_reducible rfl)
          try simp only [Act.put, List.setIfInBounds_toArray, List.set_cons_zero, List.set_cons_succ, List.getElem_toArray, List.getElem_cons_zero, List.getElem_cons_succ]
          refine wpAnyT_take (i := 9) (v := ?_) rfl (by kernel_rfl) (by kernel_rfl) (by kernel_rfl) (by kernel_rfl) (fun _ _ _ h => h) (Or.inl ⟨by rfl, ?_⟩) hS ?_
          rotate_left
          focus (intro w hSw; (try dsimp only at hSw); go_simp; try with_reducible rfl)
          try simp only [Act.put, List.setIfInBounds_toArray, List.set_cons_zero, List.set_cons_succ, List.getElem_toArray, List.getElem_cons_zero, List.getElem_cons_succ]
          have hP := spec_l4Put A2 xs c2 ⟨v, -x, at0⟩ wz _ _ hownU.rg (by omega)
          refine wpAnyT_ready (rs := [10]) (by kernel_rfl) (by simp) (AllReadyT.cons rfl (fun K hK => ?_) AllReadyT.nil)
          (go_simp; (try simp only [hwx1, hwx2]); (with_reducible refine hP.mono ?_); rintro en w9 ⟨A9, c9, rfl, ho9, hm9⟩; have T0' := U0.mid hm9 oZr; have T2' := U2.mid hm9 oZr; have T3' := U3.mid hm9 oZr; have f0' := cell_keep hm9 (by have := U3.1; omega) oZr f0; go_wp2_with fail)
          refine hK.out _ _ (Or.inr ⟨T3'.cell 2 rfl, f0'⟩) (fun _ => ?_)
          clear hK K
          try simp only [Act.put, List.setIfInBounds_toArray, List.set_cons_zero, List.set_cons_succ, List.getElem_toArray, List.getElem_cons_zero, List.getElem_cons_succ]
          have hmr9 := hmu.trans hm9
          have hGz : G < wz.heap.size := U3.1
          have hS3 := And.intro (T3'.cell 2 rfl) f0'
          have hr2 := T3'.cell 2 rfl
          have hrf := T3'.2.2
          clear hS U0 U2 U3 hmu hP
          refine wpAnyT_take (i := 11) (v := ?_) rfl (by kernel_rfl) (by kernel_rfl) (by kernel_rfl) (by kernel_rfl) (fun _ _ _ h => h) (Or.inl ⟨by rfl, ?_⟩) hS3 ?_
          rotate_left
          focus (intro w hSw; (try dsimp only at hSw); go_simp; try with_reducible rfl)
          try simp only [Act.put, List.setIfInBounds_toArray, List.set_cons_zero, List.set_cons_succ, List.getElem_toArray, List.getElem_cons_zero, List.getElem_cons_succ]
          refine wpAnyT_ready (rs := [12]) (by kernel_rfl) (by simp) (AllReadyT.cons rfl (fun K hK => ?_) AllReadyT.nil)
          (go_simp)
          refine hK.out _ _ (Or.inl rfl) (fun _ => ?_)
          clear hK K
          try simp only [Act.put, List.setIfInBounds_toArray, List.set_cons_zero, List.set_cons_succ, List.getElem_toArray, List.getElem_cons_zero, List.getElem_cons_succ]
          refine wpAnyT_done (by kernel_rfl) ?_ _
          go_wp2_with fail
          go_roundw
          case rel =>
            have hst := Mid.setCell w9 (lo := G) (hi := G + 1) (p := ⟨G, 2, none⟩) (.slice A9 (putE ⟨v, -x, at0⟩ xs).length c9) (Nat.le_refl _) (Nat.lt_succ_self _)
            refine ⟨k + 1, A9, c9, _, _, putE ⟨v, -x, at0⟩ xs, sz', by omega, by go_num, by rw [hto], hnsz, Lib.hid ?_, ho9.mid hst (Or.inl (by omega)), .inr (by omega), by have := HGW.out; omega, T0'.mid hst (Or.inl (by omega)), T2'.mid hst (Or.inl (by omega)), T3'.set 2 _ (by simp) rfl, hmr9.storeNew (by show w.heap.size ≤ G; omega) _⟩
            rw [HPE.out, putAll_snoc, ← HX.out]
          case measure => simp [intOf]; omega
    · obtain rfl : k = wd.length := by omega
      have hszf : sz = s + (wd.length : Int) - 1 := by rw [hszv, Nat.min_eq_right (by omega)]; omega
      subst hszf
      have hxx := HX.out
      rw [putAll_canon hasc.out] at hxx
      have hGr : G < wr.heap.size := Z3.1
      have HXX := Lib.hid hxx
      clear hszv hxx
      have a0 := Z2.cell 0 rfl
      have a1 := Z2.cell 1 rfl
      have a2 := Z2.cell 2 rfl
      have b0 := Z3.cell 0 rfl
      have b1 := Z3.cell 1 rfl
      have b2 := Z3.cell 2 rfl
      have af := Z2.2.2
      have bf := Z3.2.2
      go_wp2_with fail
      have hcl : (w.heap.size + 1 == G) = false := by simp; omega
      refine bodyPost_ret (v := .tuple #[.agg #[.int .i64 r, .int .i64 (s + (wd.length : Int) - 1), .slice A2 xs.length c2], .bool true]) (by simp [results, Tryz.results99, go_sem, a0, a1, a2, b0, b1, b2, af, bf]) rfl ⟨A2, c2, ?_, ?_, ?_⟩
      · rw [HRS.out, HRE.out, HXX.out]
      · rw [HRE.out, ← HXX.out]
        refine OG.wide (OG.mid hown (a := w.heap.size) (b := w.heap.size + 2) ?_ (Or.inl (by have := HS.out; omega))) (by have := HS.out; omega) (by have := hown.size; simp; omega) (Nat.le_refl _)
        repeat (first | exact Mid.refl _ _ _ | refine Mid.stored ?_ _ (by simp; try omega) (by simp; try omega))
      · repeat (first | exact hmr | refine Mid.storeNew ?_ (by simp; try omega) _)
end Go.Proofs.YtkaofcakelpnpaaGreat

namespace Go.Proofs.YtkaofcakelpnpaaGreat
set_option linter.unusedVariables false
set_option linter.unusedSimpArgs false
def foldsUp (es : List Ed) : Nat → List (Int × Int)
  | 0 => []
  | k + 1 => foldsUp es k ++ (match es[k]? with | none => [] | some e => (es.drop (k + 1)).flatMap (foldsAB e))
theorem foldsUp_succ {es : List Ed} {k : Nat} {e : Ed} (h : es[k]? = some e) : foldsUp es (k + 1) = foldsUp es k ++ (es.drop (k + 1)).flatMap (foldsAB e) := by
  rw [foldsUp, h]
theorem foldsUp_cons (f : Ed) (t : List Ed) : ∀ k, foldsUp (f :: t) (k + 1) = t.flatMap (foldsAB f) ++ foldsUp t k
  | 0 => by simp [foldsUp]
  | k + 1 => by
    rw [foldsUp, foldsUp_cons f t k, foldsUp, List.append_assoc]
    simp
theorem foldsUp_all : ∀ es : List Ed, foldsUp es es.length = folds es
  | [] => rfl
  | f :: t => by rw [List.length_cons, foldsUp_cons, foldsUp_all t, folds]
theorem foldsAB_len (e f : Ed) : (foldsAB e f).length ≤ 2 := by
  unfold foldsAB
  split
  · split <;> split <;> simp
  · simp
theorem flat_len (e : Ed) : ∀ t : List Ed, (t.flatMap (foldsAB e)).length ≤ 2 * t.length
  | [] => by simp
  | f :: t => by
    have := flat_len e t
    have := foldsAB_len e f
    rw [List.flatMap_cons, List.length_append, List.length_cons]
    omega
theorem foldsUp_len (es : List Ed) : ∀ k, (foldsUp es k).length ≤ k * (2 * es.length)
  | 0 => by simp [foldsUp]
  | k + 1 => by
    have := foldsUp_len es k
    rw [foldsUp, List.length_append, Nat.succ_mul]
    cases h : es[k]? with
    | none => simp; omega
    | some e =>
      have h1 := flat_len e (es.drop (k + 1))
      rw [List.length_drop] at h1
      simp only
      omega
def fdI (ps : List (Int × Int)) : List Int := (ps.map fun p => [p.1, p.2]).flatten
theorem fdI_append (a b : List (Int × Int)) : fdI (a ++ b) = fdI a ++ fdI b := by simp [fdI]
theorem fdI_one (p : Int × Int) : fdI [p] = [p.1, p.2] := by simp [fdI]
theorem fdI_head (p : Int × Int) (t : List (Int × Int)) : fdI (p :: t) = p.1 :: p.2 :: fdI t := by simp [fdI]
theorem flat_take {e : Ed} {fs : List Ed} {j : Nat} {f : Ed} (h : fs[j]? = some f) : (fs.take (j + 1)).flatMap (foldsAB e) = (fs.take j).flatMap (foldsAB e) ++ foldsAB e f := by
  rw [take_snoc h, List.flatMap_append]
  simp
end Go.Proofs.YtkaofcakelpnpaaGreat

namespace Go.Proofs.YtkaofcakelpnpaaGreat
set_option linter.unusedVariables false
set_option linter.unusedSimpArgs false
open Go.RowKit
theorem infoF : (Tryz.prog.info? 103).map (fun i => (i.zero, i.size, i.bytes)) = some (some (.agg #[.int .i64 0, .int .i64 0]), 2, 16) := by kernel_rfl
theorem undSF : Tryz.prog.underlying 88 = some (.slice 103) := by kernel_rfl
section
variable {W : World} {ops : Array Oper} {rest : List Oper} {o : Oper} {a : Act} {Q : Exit → Act → World → Prop}
theorem wpList_pushF (hgd : o.guard = none) (s x : Operand)
    (ho : o.op = .call { callee := .builtin .append, args := #[s, x], argTypes := #[88, 88] }) (lo : Nat) (A : Option Addr) (n c : Nat) (ps : List (Int × Int)) (hs : a.eval s = .slice A n c)
    (hown : W.ownsRow lo 103 2 (.slice A n c) n (ints (fdI ps))) (p : Int × Int) (hx : a.eval x = .slice (some ⟨W.heap.size, 0, none⟩) 1 1) (hn : n ≤ 1048576) (hb : lo ≤ W.heap.size)
    (h : ∀ A' c' w', w'.ownsRow lo 103 2 (.slice A' (n + 1) c') (n + 1) (ints (fdI (ps ++ [p]))) → W.grownBy w' (Value.ownBlock (.slice A n c)) → (Value.ownBlock (.slice A' (n + 1) c') = Value.ownBlock (.slice A n c) ∨ Value.ownBlock (.slice A' (n + 1) c') = some (W.heap.size + 1)) → wpList Tryz.prog ops Q rest (a.put o.dst (.slice A' (n + 1) c')) w') :
    wpList Tryz.prog ops Q (o :: rest) a (W.alloc (.cells #[.int .i64 p.1, .int .i64 p.2] 103)) := by
  refine wpList_push (news := [.int .i64 p.1, .int .i64 p.2]) hgd s x 88 ho lo 103 (.agg #[.int .i64 0, .int .i64 0]) 2 16 undSF infoF rfl (by decide) (.slice A n c) n (ints (fdI ps)) hs hown 1 hx rfl ?_ (by unfold maxLen; omega) (by omega) hb ?_
  · intro u hu
    simp at hu
    rcases hu with rfl | rfl <;> rfl
  · intro v' w' h1 h2 h3
    obtain ⟨A', c', rfl, -, -⟩ := owns_shape h1
    refine h A' c' w' ?_ h2 h3
    rw [fdI_append, ints_append, fdI_one]
    exact h1
end
set_option maxHeartbeats 6400000 in
set_option maxRecDepth 20000 in
theorem impl_folds (r s : Int) (A : Option Addr) (es : List Ed) (c : Nat) (w : World) (lo hi : Nat) (hr : RG w lo hi A es) (hl : es.length ≤ 120) (hcl : es.length ≤ c) :
    Calls Tryz.prog 128 #[graV r s A es.length c] w fun e w' => ∃ A1 c1, e = .returned (.slice A1 (folds es).length c1) ∧ RV w' 0 w'.heap.size A1 (ints (fdI (folds es))) ∧ Mid 0 0 w w' := by
  have hm0 : Mid 0 0 w ((w.alloc (.cells #[.int .i64 r, .int .i64 s, .slice A es.length c] 32)).alloc (.cells #[] 103)) := (Mid.alloc _ _).trans (Mid.alloc _ _)
  have b0 := (Box.new w #[.int .i64 r, .int .i64 s, .slice A es.length c] 32).mid (Mid.alloc _ (.cells #[] 103)) oZr
  have O0 := owns_empty (w.alloc (.cells #[.int .i64 r, .int .i64 s, .slice A es.length c] 32)) 103 2
  rw [World.size_alloc] at O0
  go_enter Tryz.func128, Tryz.ntmps128
  go_wp2_with fail
  go_loopw [3, 12] (fun out iv wr => ∃ (k : Nat) (A1 : Option Addr) (n1 c1 : Nat), k ≤ es.length ∧ iv = .int .i64 k ∧ out = .slice A1 n1 c1 ∧ Hid ((foldsUp es k).length = n1) ∧ wr.ownsRow (w.heap.size + 1) 103 2 (.slice A1 n1 c1) n1 (ints (fdI (foldsUp es k))) ∧
      Box wr w.heap.size [.int .i64 r, .int .i64 s, .slice A es.length c] ∧ Mid 0 0 w wr) (fun _ i _ => es.length - (intOf i).toNat)
  case atStart => exact ⟨0, _, 0, 0, Nat.zero_le _, rfl, rfl, Lib.hid rfl, O0, b0, hm0⟩
  case round =>
    clear O0 b0 hm0
    obtain ⟨wo, hwo⟩ : ∃ wo, wo = wr := ⟨_, rfl⟩
    subst hwo
    obtain ⟨k, A1, n1, c1, hk, rfl, rfl, HN, hown, b0, hm⟩ := hrel
    by_cases hlt : k < es.length
    · obtain ⟨B, off, e, rfl, -, hbh, he, e0, e1, e2⟩ := (hr.mid hm oZl).ed hlt
      have HE := Lib.hid he
      have hk0 : (0 : Int) ≤ (k : Int) := by omega
      have hk1 : (k : Int) < (es.length : Int) := by omega
      have hk2 : (k : Int) + 1 ≤ (es.length : Int) := by omega
      have hal := Mid.alloc wo (.cells #[.int .i64 e.a, .int .i64 e.l, .int .i64 e.b] 64)
      have ZE := Box.new wo #[.int .i64 e.a, .int .i64 e.l, .int .i64 e.b] 64
      have HNE := Lib.hid (show Value.ownBlock (.slice A1 n1 c1) ≠ some wo.heap.size from fun h => by have := (hown.lt _ h).2; omega)
      have hown1 := hown.alloc (.cells #[.int .i64 e.a, .int .i64 e.l, .int .i64 e.b] 64)
      have b1 := b0.mid hal oZr
      have hm1 := hm.trans hal
      have h0o := b0.1
      have p0 := b0.cell 0 rfl
      have p1 := b0.cell 1 rfl
      have p2 := b0.cell 2 rfl
      clear he hown
      by_cases hck : c = k + 1
      · have hrd : RG w lo hi (some ⟨B, off, none⟩) (es.drop (k + 1)) := ⟨hr.1, fun h => absurd (show ints (edI (es.drop (k + 1))) = [] by rw [List.drop_of_length_le (by omega)]; rfl) h⟩
        have hckF : (c = k + 1) = True := eq_true hck
        have hce : k + 1 ≤ c := by omega
        clear hck
        go_wp2_with fail
        clear p0 p1 p2 e0 e1 e2
        go_loopw [3, 23] (fun out jv wr => ∃ (j : Nat) (A2 : Option Addr) (n2 c2 : Nat), j ≤ es.length - (k + 1) ∧ jv = .int .i64 j ∧ out = .slice A2 n2 c2 ∧ Hid ((foldsUp es k ++ ((es.drop (k + 1)).take j).flatMap (foldsAB e)).length = n2) ∧
            wr.ownsRow (w.heap.size + 1) 103 2 (.slice A2 n2 c2) n2 (ints (fdI (foldsUp es k ++ ((es.drop (k + 1)).take j).flatMap (foldsAB e)))) ∧ Hid (Value.ownBlock (.slice A2 n2 c2) ≠ some wo.heap.size) ∧
            Box wr w.heap.size [.int .i64 r, .int .i64 s, .slice (some ⟨B, off, none⟩) es.length c] ∧ Box wr wo.heap.size [.int .i64 e.a, .int .i64 e.l, .int .i64 e.b] ∧ Mid 0 0 w wr) (fun _ j _ => es.length - (k + 1) - (intOf j).toNat)
        case atStart => exact ⟨0, A1, n1, c1, Nat.zero_le _, rfl, rfl, Lib.hid (by simpa using HN.out), by simpa using hown1, HNE, b1, ZE, hm1⟩
        case round =>
          clear hown1 b1 ZE hm1 HN HNE
          obtain ⟨j, A2, n2, c2, hj, rfl, rfl, HN, hown, HNE, b0, ZE, hm⟩ := hrel
          have hn2 : n2 ≤ 40000 := by
            have h1 := foldsUp_len es k
            have h2 := flat_len e ((es.drop (k + 1)).take j)
            have h3 := HN.out
            have h4 : k * (2 * es.length) ≤ 120 * 240 := Nat.mul_le_mul (by omega) (by omega)
            rw [List.length_append] at h3
            rw [List.length_take, List.length_drop] at h2
            omega
          by_cases hlt2 : j < es.length - (k + 1)
          · obtain ⟨B', off', f, hX, -, hbh2, hf, f0, f1, f2⟩ := (hrd.mid hm oZl).ed (k := j) (by rw [List.length_drop]; exact hlt2)
            injection hX with hX
            injection hX with hX1 hX2
            subst hX1 hX2
            have HF := Lib.hid (flat_take (e := e) hf)
            have hj0 : (0 : Int) ≤ (j : Int) := by omega
            have hjn : (j : Int) < ((es.length - (k + 1) : Nat) : Int) := by omega
            have hal := Mid.alloc wr (.cells #[.int .i64 f.a, .int .i64 f.l, .int .i64 f.b] 64)
            have ZF := Box.new wr #[.int .i64 f.a, .int .i64 f.l, .int .i64 f.b] 64
            have hGw : wo.heap.size < wr.heap.size := ZE.1
            have h0r : w.heap.size < wr.heap.size := b0.1
            have HFE := Lib.hid (show Value.ownBlock (.slice A2 n2 c2) ≠ some wr.heap.size from fun h => by have := (hown.lt _ h).2; omega)
            have hownA := hown.alloc (.cells #[.int .i64 f.a, .int .i64 f.l, .int .i64 f.b] 64)
            have hB0 := Lib.hid (fun (g : Nat) (h : Value.ownBlock (.slice A2 n2 c2) = some g) => (hown.lt g h).1)
            replace b0 := b0.mid hal oZr
            replace ZE := ZE.mid hal oZr
            replace hm := hm.trans hal
            have g0 := ZE.cell 0 rfl
            have g1 := ZE.cell 1 rfl
            have g2 := ZE.cell 2 rfl
            have h0 := ZF.cell 0 rfl
            have h1 := ZF.cell 1 rfl
            have h2 := ZF.cell 2 rfl
            have HW := Lib.hid hownA
            have hszA : w.heap.size + 1 ≤ (wr.alloc (.cells #[.int .i64 f.a, .int .i64 f.l, .int .i64 f.b] 64)).heap.size := by simp; omega
            clear hf hown hownA
            by_cases e1 : e.l = f.l
            · have d1 : (e.l != f.l) = false := by simpa using e1
              by_cases e2 : e.a = f.a
              · have d2 : (e.a == f.a) = true := by simpa using e2
                by_cases e3 : e.b = f.b
                · have d3 : (e.b == f.b) = true := by simpa using e3
                  have hAB : foldsAB e f = [(min e.b f.b, max e.b f.b), (min e.a f.a, max e.a f.a)] := by simp [foldsAB, e1, e2, e3]
                  have HAB : Hid (foldsUp es k ++ ((es.drop (k + 1)).take (j + 1)).flatMap (foldsAB e) = (foldsUp es k ++ ((es.drop (k + 1)).take j).flatMap (foldsAB e)) ++ [(min e.b f.b, max e.b f.b)] ++ [(min e.a f.a, max e.a f.a)]) := Lib.hid (by rw [HF.out, hAB]; simp)
                  clear e1 e2 e3 hAB
                  go_wp2_with (first | (at_builtin; refine wpList_pushF rfl _ _ rfl (w.heap.size + 1) A2 n2 c2 _ rfl HW.out (min e.b f.b, max e.b f.b) (by rw [World.size_alloc]; rfl) (by omega) hszA ?_; intro A8 c8 w8 ho8 hgr8 hat8; have ZE8 := ZE.grown hgr8 HNE.out; have ZF8 := ZF.grown hgr8 HFE.out; have g80 := ZE8.cell 0 rfl; have g81 := ZE8.cell 1 rfl; have g82 := ZE8.cell 2 rfl; have h80 := ZF8.cell 0 rfl; have h81 := ZF8.cell 1 rfl; have h82 := ZF8.cell 2 rfl; have HW8 := Lib.hid ho8; have hsz8 := Nat.le_trans hszA hgr8.size; clear ho8) | (at_builtin; refine wpList_pushF rfl _ _ rfl (w.heap.size + 1) A8 (n2 + 1) c8 _ rfl HW8.out (min e.a f.a, max e.a f.a) rfl (by omega) hsz8 ?_; intro A9 c9 w9 ho9 hgr9 hat9))
                  have hm8 := Mid.of_grownRow HW.out hgr8
                  have hm9 := Mid.of_grownRow HW8.out hgr9
                  have hs8 : wr.heap.size + 1 ≤ w8.heap.size := by have := hgr8.size; simpa using this
                  have HN8 : Hid (Value.ownBlock (.slice A8 (n2 + 1) c8) ≠ some wo.heap.size) := Lib.hid (by
                    rcases hat8 with h | h
                    · rw [h]; exact HNE.out
                    · rw [h]
                      intro he
                      injection he with he
                      simp at he
                      omega)
                  have HN9 : Hid (Value.ownBlock (.slice A9 (n2 + 1 + 1) c9) ≠ some wo.heap.size) := Lib.hid (by
                    rcases hat9 with h | h
                    · rw [h]; exact HN8.out
                    · rw [h]
                      intro he
                      injection he with he
                      omega)
                  have HB8 := Lib.hid (fun (g : Nat) (h : Value.ownBlock (.slice A8 (n2 + 1) c8) = some g) => (HW8.out.lt g h).1)
                  clear hat9 hat8
                  go_roundw
                  case rel => exact ⟨j + 1, A9, n2 + 1 + 1, c9, by omega, by go_num, rfl, Lib.hid (by rw [HAB.out, List.length_append, List.length_append, HN.out]; rfl), by rw [HAB.out]; exact ho9, HN9, (b0.grown hgr8 (fun h => by have := hB0.out _ h; omega)).grown hgr9 (fun h => by have := HB8.out _ h; omega), ZE8.grown hgr9 HN8.out, (hm.transNew hm8 (Or.inl (Nat.le_succ _))).transNew hm9 (Or.inl (Nat.le_succ _))⟩
                  case measure => simp [intOf]; omega
                · have d3 : (e.b == f.b) = false := by simpa only [beq_eq_false_iff_ne] using e3
                  have hAB : foldsAB e f = [(min e.b f.b, max e.b f.b)] := by simp [foldsAB, e1, e2, e3]
                  have HAB : Hid (foldsUp es k ++ ((es.drop (k + 1)).take (j + 1)).flatMap (foldsAB e) = (foldsUp es k ++ ((es.drop (k + 1)).take j).flatMap (foldsAB e)) ++ [(min e.b f.b, max e.b f.b)]) := Lib.hid (by rw [HF.out, hAB, List.append_assoc])
                  clear e1 e2 e3 hAB
                  go_wp2_with (at_builtin; refine wpList_pushF rfl _ _ rfl (w.heap.size + 1) A2 n2 c2 _ rfl HW.out (min e.b f.b, max e.b f.b) (by rw [World.size_alloc]; rfl) (by omega) hszA ?_; intro A9 c9 w9 ho9 hgr9 hat9; have ZE8 := ZE.grown hgr9 HNE.out; have ZF8 := ZF.grown hgr9 HFE.out; have g80 := ZE8.cell 0 rfl; have g81 := ZE8.cell 1 rfl; have g82 := ZE8.cell 2 rfl; have h80 := ZF8.cell 0 rfl; have h81 := ZF8.cell 1 rfl; have h82 := ZF8.cell 2 rfl)
                  have hm9 := Mid.of_grownRow HW.out hgr9
                  have HN9 : Hid (Value.ownBlock (.slice A9 (n2 + 1) c9) ≠ some wo.heap.size) := Lib.hid (by
                    rcases hat9 with h | h
                    · rw [h]; exact HNE.out
                    · rw [h]
                      intro he
                      injection he with he
                      simp at he
                      omega)
                  clear hat9
                  go_roundw
                  case rel => exact ⟨j + 1, A9, n2 + 1, c9, by omega, by go_num, rfl, Lib.hid (by rw [HAB.out, List.length_append, HN.out]; rfl), by rw [HAB.out]; exact ho9, HN9, b0.grown hgr9 (fun h => by have := hB0.out _ h; omega), ZE.grown hgr9 HNE.out, hm.transNew hm9 (Or.inl (Nat.le_succ _))⟩
                  case measure => simp [intOf]; omega
              · have d2 : (e.a == f.a) = false := by simpa only [beq_eq_false_iff_ne] using e2
                by_cases e3 : e.b = f.b
                · have d3 : (e.b == f.b) = true := by simpa using e3
                  have hAB : foldsAB e f = [(min e.a f.a, max e.a f.a)] := by simp [foldsAB, e1, e2, e3]
                  have HAB : Hid (foldsUp es k ++ ((es.drop (k + 1)).take (j + 1)).flatMap (foldsAB e) = (foldsUp es k ++ ((es.drop (k + 1)).take j).flatMap (foldsAB e)) ++ [(min e.a f.a, max e.a f.a)]) := Lib.hid (by rw [HF.out, hAB, List.append_assoc])
                  clear e1 e2 e3 hAB
                  go_wp2_with (at_builtin; refine wpList_pushF rfl _ _ rfl (w.heap.size + 1) A2 n2 c2 _ rfl HW.out (min e.a f.a, max e.a f.a) (by rw [World.size_alloc]; rfl) (by omega) hszA ?_; intro A9 c9 w9 ho9 hgr9 hat9; have ZE8 := ZE.grown hgr9 HNE.out; have ZF8 := ZF.grown hgr9 HFE.out; have g80 := ZE8.cell 0 rfl; have g81 := ZE8.cell 1 rfl; have g82 := ZE8.cell 2 rfl; have h80 := ZF8.cell 0 rfl; have h81 := ZF8.cell 1 rfl; have h82 := ZF8.cell 2 rfl)
                  have hm9 := Mid.of_grownRow HW.out hgr9
                  have HN9 : Hid (Value.ownBlock (.slice A9 (n2 + 1) c9) ≠ some wo.heap.size) := Lib.hid (by
                    rcases hat9 with h | h
                    · rw [h]; exact HNE.out
                    · rw [h]
                      intro he
                      injection he with he
                      simp at he
                      omega)
                  clear hat9
                  go_roundw
                  case rel => exact ⟨j + 1, A9, n2 + 1, c9, by omega, by go_num, rfl, Lib.hid (by rw [HAB.out, List.length_append, HN.out]; rfl), by rw [HAB.out]; exact ho9, HN9, b0.grown hgr9 (fun h => by have := hB0.out _ h; omega), ZE.grown hgr9 HNE.out, hm.transNew hm9 (Or.inl (Nat.le_succ _))⟩
                  case measure => simp [intOf]; omega
                · have d3 : (e.b == f.b) = false := by simpa only [beq_eq_false_iff_ne] using e3
                  have hAB : foldsAB e f = [] := by simp [foldsAB, e1, e2, e3]
                  have HAB : Hid (((es.drop (k + 1)).take (j + 1)).flatMap (foldsAB e) = ((es.drop (k + 1)).take j).flatMap (foldsAB e)) := Lib.hid (by rw [HF.out, hAB, List.append_nil])
                  clear e1 e2 e3 hAB
                  go_wp2_with fail
                  go_roundw
                  case rel => exact ⟨j + 1, A2, n2, c2, by omega, by go_num, rfl, by rw [HAB.out]; exact HN, by rw [HAB.out]; exact HW.out, HNE, b0, ZE, hm⟩
                  case measure => simp [intOf]; omega
            · have d1 : (e.l != f.l) = true := by simpa using e1
              have hAB : foldsAB e f = [] := by unfold foldsAB; rw [if_neg e1]
              have HAB : Hid (((es.drop (k + 1)).take (j + 1)).flatMap (foldsAB e) = ((es.drop (k + 1)).take j).flatMap (foldsAB e)) := Lib.hid (by rw [HF.out, hAB, List.append_nil])
              clear e1 hAB
              go_wp2_with fail
              go_roundw
              case rel => exact ⟨j + 1, A2, n2, c2, by omega, by go_num, rfl, by rw [HAB.out]; exact HN, by rw [HAB.out]; exact HW.out, HNE, b0, ZE, hm⟩
              case measure => simp [intOf]; omega
          · obtain rfl : j = es.length - (k + 1) := by omega
            rw [List.take_of_length_le (by rw [List.length_drop]; exact Nat.le_refl _), ← foldsUp_succ HE.out] at HN hown
            go_wp2_with fail
            go_roundw
            case rel => exact ⟨k + 1, A2, n2, c2, by omega, by go_num, rfl, HN, hown, b0, hm⟩
            case measure => simp [intOf]; omega
      · have hrd := hr.drop (k := k + 1)
        have hckF : (c = k + 1) = False := eq_false hck
        have hce : k + 1 ≤ c := by omega
        clear hck
        go_wp2_with fail
        clear p0 p1 p2 e0 e1 e2
        go_loopw [3, 23] (fun out jv wr => ∃ (j : Nat) (A2 : Option Addr) (n2 c2 : Nat), j ≤ es.length - (k + 1) ∧ jv = .int .i64 j ∧ out = .slice A2 n2 c2 ∧ Hid ((foldsUp es k ++ ((es.drop (k + 1)).take j).flatMap (foldsAB e)).length = n2) ∧
            wr.ownsRow (w.heap.size + 1) 103 2 (.slice A2 n2 c2) n2 (ints (fdI (foldsUp es k ++ ((es.drop (k + 1)).take j).flatMap (foldsAB e)))) ∧ Hid (Value.ownBlock (.slice A2 n2 c2) ≠ some wo.heap.size) ∧
            Box wr w.heap.size [.int .i64 r, .int .i64 s, .slice (some ⟨B, off, none⟩) es.length c] ∧ Box wr wo.heap.size [.int .i64 e.a, .int .i64 e.l, .int .i64 e.b] ∧ Mid 0 0 w wr) (fun _ j _ => es.length - (k + 1) - (intOf j).toNat)
        case atStart => exact ⟨0, A1, n1, c1, Nat.zero_le _, rfl, rfl, Lib.hid (by simpa using HN.out), by simpa using hown1, HNE, b1, ZE, hm1⟩
        case round =>
          clear hown1 b1 ZE hm1 HN HNE
          obtain ⟨j, A2, n2, c2, hj, rfl, rfl, HN, hown, HNE, b0, ZE, hm⟩ := hrel
          have hn2 : n2 ≤ 40000 := by
            have h1 := foldsUp_len es k
            have h2 := flat_len e ((es.drop (k + 1)).take j)
            have h3 := HN.out
            have h4 : k * (2 * es.length) ≤ 120 * 240 := Nat.mul_le_mul (by omega) (by omega)
            rw [List.length_append] at h3
            rw [List.length_take, List.length_drop] at h2
            omega
          by_cases hlt2 : j < es.length - (k + 1)
          · obtain ⟨B', off', f, hX, -, hbh2, hf, f0, f1, f2⟩ := (hrd.mid hm oZl).ed (k := j) (by rw [List.length_drop]; exact hlt2)
            injection hX with hX
            injection hX with hX1 hX2
            subst hX1 hX2
            have HF := Lib.hid (flat_take (e := e) hf)
            have hj0 : (0 : Int) ≤ (j : Int) := by omega
            have hjn : (j : Int) < ((es.length - (k + 1) : Nat) : Int) := by omega
            have hal := Mid.alloc wr (.cells #[.int .i64 f.a, .int .i64 f.l, .int .i64 f.b] 64)
            have ZF := Box.new wr #[.int .i64 f.a, .int .i64 f.l, .int .i64 f.b] 64
            have hGw : wo.heap.size < wr.heap.size := ZE.1
            have h0r : w.heap.size < wr.heap.size := b0.1
            have HFE := Lib.hid (show Value.ownBlock (.slice A2 n2 c2) ≠ some wr.heap.size from fun h => by have := (hown.lt _ h).2; omega)
            have hownA := hown.alloc (.cells #[.int .i64 f.a, .int .i64 f.l, .int .i64 f.b] 64)
            have hB0 := Lib.hid (fun (g : Nat) (h : Value.ownBlock (.slice A2 n2 c2) = some g) => (hown.lt g h).1)
            replace b0 := b0.mid hal oZr
            replace ZE := ZE.mid hal oZr
            replace hm := hm.trans hal
            have g0 := ZE.cell 0 rfl
            have g1 := ZE.cell 1 rfl
            have g2 := ZE.cell 2 rfl
            have h0 := ZF.cell 0 rfl
            have h1 := ZF.cell 1 rfl
            have h2 := ZF.cell 2 rfl
            have HW := Lib.hid hownA
            have hszA : w.heap.size + 1 ≤ (wr.alloc (.cells #[.int .i64 f.a, .int .i64 f.l, .int .i64 f.b] 64)).heap.size := by simp; omega
            clear hf hown hownA
            by_cases e1 : e.l = f.l
            · have d1 : (e.l != f.l) = false := by simpa using e1
              by_cases e2 : e.a = f.a
              · have d2 : (e.a == f.a) = true := by simpa using e2
                by_cases e3 : e.b = f.b
                · have d3 : (e.b == f.b) = true := by simpa using e3
                  have hAB : foldsAB e f = [(min e.b f.b, max e.b f.b), (min e.a f.a, max e.a f.a)] := by simp [foldsAB, e1, e2, e3]
                  have HAB : Hid (foldsUp es k ++ ((es.drop (k + 1)).take (j + 1)).flatMap (foldsAB e) = (foldsUp es k ++ ((es.drop (k + 1)).take j).flatMap (foldsAB e)) ++ [(min e.b f.b, max e.b f.b)] ++ [(min e.a f.a, max e.a f.a)]) := Lib.hid (by rw [HF.out, hAB]; simp)
                  clear e1 e2 e3 hAB
                  go_wp2_with (first | (at_builtin; refine wpList_pushF rfl _ _ rfl (w.heap.size + 1) A2 n2 c2 _ rfl HW.out (min e.b f.b, max e.b f.b) (by rw [World.size_alloc]; rfl) (by omega) hszA ?_; intro A8 c8 w8 ho8 hgr8 hat8; have ZE8 := ZE.grown hgr8 HNE.out; have ZF8 := ZF.grown hgr8 HFE.out; have g80 := ZE8.cell 0 rfl; have g81 := ZE8.cell 1 rfl; have g82 := ZE8.cell 2 rfl; have h80 := ZF8.cell 0 rfl; have h81 := ZF8.cell 1 rfl; have h82 := ZF8.cell 2 rfl; have HW8 := Lib.hid ho8; have hsz8 := Nat.le_trans hszA hgr8.size; clear ho8) | (at_builtin; refine wpList_pushF rfl _ _ rfl (w.heap.size + 1) A8 (n2 + 1) c8 _ rfl HW8.out (min e.a f.a, max e.a f.a) rfl (by omega) hsz8 ?_; intro A9 c9 w9 ho9 hgr9 hat9))
                  have hm8 := Mid.of_grownRow HW.out hgr8
                  have hm9 := Mid.of_grownRow HW8.out hgr9
                  have hs8 : wr.heap.size + 1 ≤ w8.heap.size := by have := hgr8.size; simpa using this
                  have HN8 : Hid (Value.ownBlock (.slice A8 (n2 + 1) c8) ≠ some wo.heap.size) := Lib.hid (by
                    rcases hat8 with h | h
                    · rw [h]; exact HNE.out
                    · rw [h]
                      intro he
                      injection he with he
                      simp at he
                      omega)
                  have HN9 : Hid (Value.ownBlock (.slice A9 (n2 + 1 + 1) c9) ≠ some wo.heap.size) := Lib.hid (by
                    rcases hat9 with h | h
                    · rw [h]; exact HN8.out
                    · rw [h]
                      intro he
                      injection he with he
                      omega)
                  have HB8 := Lib.hid (fun (g : Nat) (h : Value.ownBlock (.slice A8 (n2 + 1) c8) = some g) => (HW8.out.lt g h).1)
                  clear hat9 hat8
                  go_roundw
                  case rel => exact ⟨j + 1, A9, n2 + 1 + 1, c9, by omega, by go_num, rfl, Lib.hid (by rw [HAB.out, List.length_append, List.length_append, HN.out]; rfl), by rw [HAB.out]; exact ho9, HN9, (b0.grown hgr8 (fun h => by have := hB0.out _ h; omega)).grown hgr9 (fun h => by have := HB8.out _ h; omega), ZE8.grown hgr9 HN8.out, (hm.transNew hm8 (Or.inl (Nat.le_succ _))).transNew hm9 (Or.inl (Nat.le_succ _))⟩
                  case measure => simp [intOf]; omega
                · have d3 : (e.b == f.b) = false := by simpa only [beq_eq_false_iff_ne] using e3
                  have hAB : foldsAB e f = [(min e.b f.b, max e.b f.b)] := by simp [foldsAB, e1, e2, e3]
                  have HAB : Hid (foldsUp es k ++ ((es.drop (k + 1)).take (j + 1)).flatMap (foldsAB e) = (foldsUp es k ++ ((es.drop (k + 1)).take j).flatMap (foldsAB e)) ++ [(min e.b f.b, max e.b f.b)]) := Lib.hid (by rw [HF.out, hAB, List.append_assoc])
                  clear e1 e2 e3 hAB
                  go_wp2_with (at_builtin; refine wpList_pushF rfl _ _ rfl (w.heap.size + 1) A2 n2 c2 _ rfl HW.out (min e.b f.b, max e.b f.b) (by rw [World.size_alloc]; rfl) (by omega) hszA ?_; intro A9 c9 w9 ho9 hgr9 hat9; have ZE8 := ZE.grown hgr9 HNE.out; have ZF8 := ZF.grown hgr9 HFE.out; have g80 := ZE8.cell 0 rfl; have g81 := ZE8.cell 1 rfl; have g82 := ZE8.cell 2 rfl; have h80 := ZF8.cell 0 rfl; have h81 := ZF8.cell 1 rfl; have h82 := ZF8.cell 2 rfl)
                  have hm9 := Mid.of_grownRow HW.out hgr9
                  have HN9 : Hid (Value.ownBlock (.slice A9 (n2 + 1) c9) ≠ some wo.heap.size) := Lib.hid (by
                    rcases hat9 with h | h
                    · rw [h]; exact HNE.out
                    · rw [h]
                      intro he
                      injection he with he
                      simp at he
                      omega)
                  clear hat9
                  go_roundw
                  case rel => exact ⟨j + 1, A9, n2 + 1, c9, by omega, by go_num, rfl, Lib.hid (by rw [HAB.out, List.length_append, HN.out]; rfl), by rw [HAB.out]; exact ho9, HN9, b0.grown hgr9 (fun h => by have := hB0.out _ h; omega), ZE.grown hgr9 HNE.out, hm.transNew hm9 (Or.inl (Nat.le_succ _))⟩
                  case measure => simp [intOf]; omega
              · have d2 : (e.a == f.a) = false := by simpa only [beq_eq_false_iff_ne] using e2
                by_cases e3 : e.b = f.b
                · have d3 : (e.b == f.b) = true := by simpa using e3
                  have hAB : foldsAB e f = [(min e.a f.a, max e.a f.a)] := by simp [foldsAB, e1, e2, e3]
                  have HAB : Hid (foldsUp es k ++ ((es.drop (k + 1)).take (j + 1)).flatMap (foldsAB e) = (foldsUp es k ++ ((es.drop (k + 1)).take j).flatMap (foldsAB e)) ++ [(min e.a f.a, max e.a f.a)]) := Lib.hid (by rw [HF.out, hAB, List.append_assoc])
                  clear e1 e2 e3 hAB
                  go_wp2_with (at_builtin; refine wpList_pushF rfl _ _ rfl (w.heap.size + 1) A2 n2 c2 _ rfl HW.out (min e.a f.a, max e.a f.a) (by rw [World.size_alloc]; rfl) (by omega) hszA ?_; intro A9 c9 w9 ho9 hgr9 hat9; have ZE8 := ZE.grown hgr9 HNE.out; have ZF8 := ZF.grown hgr9 HFE.out; have g80 := ZE8.cell 0 rfl; have g81 := ZE8.cell 1 rfl; have g82 := ZE8.cell 2 rfl; have h80 := ZF8.cell 0 rfl; have h81 := ZF8.cell 1 rfl; have h82 := ZF8.cell 2 rfl)
                  have hm9 := Mid.of_grownRow HW.out hgr9
                  have HN9 : Hid (Value.ownBlock (.slice A9 (n2 + 1) c9) ≠ some wo.heap.size) := Lib.hid (by
                    rcases hat9 with h | h
                    · rw [h]; exact HNE.out
                    · rw [h]
                      intro he
                      injection he with he
                      simp at he
                      omega)
                  clear hat9
                  go_roundw
                  case rel => exact ⟨j + 1, A9, n2 + 1, c9, by omega, by go_num, rfl, Lib.hid (by rw [HAB.out, List.length_append, HN.out]; rfl), by rw [HAB.out]; exact ho9, HN9, b0.grown hgr9 (fun h => by have := hB0.out _ h; omega), ZE.grown hgr9 HNE.out, hm.transNew hm9 (Or.inl (Nat.le_succ _))⟩
                  case measure => simp [intOf]; omega
                · have d3 : (e.b == f.b) = false := by simpa only [beq_eq_false_iff_ne] using e3
                  have hAB : foldsAB e f = [] := by simp [foldsAB, e1, e2, e3]
                  have HAB : Hid (((es.drop (k + 1)).take (j + 1)).flatMap (foldsAB e) = ((es.drop (k + 1)).take j).flatMap (foldsAB e)) := Lib.hid (by rw [HF.out, hAB, List.append_nil])
                  clear e1 e2 e3 hAB
                  go_wp2_with fail
                  go_roundw
                  case rel => exact ⟨j + 1, A2, n2, c2, by omega, by go_num, rfl, by rw [HAB.out]; exact HN, by rw [HAB.out]; exact HW.out, HNE, b0, ZE, hm⟩
                  case measure => simp [intOf]; omega
            · have d1 : (e.l != f.l) = true := by simpa using e1
              have hAB : foldsAB e f = [] := by unfold foldsAB; rw [if_neg e1]
              have HAB : Hid (((es.drop (k + 1)).take (j + 1)).flatMap (foldsAB e) = ((es.drop (k + 1)).take j).flatMap (foldsAB e)) := Lib.hid (by rw [HF.out, hAB, List.append_nil])
              clear e1 hAB
              go_wp2_with fail
              go_roundw
              case rel => exact ⟨j + 1, A2, n2, c2, by omega, by go_num, rfl, by rw [HAB.out]; exact HN, by rw [HAB.out]; exact HW.out, HNE, b0, ZE, hm⟩
              case measure => simp [intOf]; omega
          · obtain rfl : j = es.length - (k + 1) := by omega
            rw [List.take_of_length_le (by rw [List.length_drop]; exact Nat.le_refl _), ← foldsUp_succ HE.out] at HN hown
            go_wp2_with fail
            go_roundw
            case rel => exact ⟨k + 1, A2, n2, c2, by omega, by go_num, rfl, HN, hown, b0, hm⟩
            case measure => simp [intOf]; omega
    · obtain rfl : k = es.length := by omega
      rw [foldsUp_all] at HN hown
      have hx := HN.out
      go_wp2_with fail
      go_ret
      exact ⟨A1, c1, by rw [hx]; rfl, (owns_rv hown).wide (Nat.zero_le _) (Nat.le_refl _) (Nat.le_refl _), hm⟩
end Go.Proofs.YtkaofcakelpnpaaGreat

namespace Go.Proofs.YtkaofcakelpnpaaGreat
set_option linter.unusedVariables false
set_option linter.unusedSimpArgs false
open Go.RowKit
attribute [local go_sem ↓] Go.wp_at_zero Go.wp_at_succ
def FirstIs (es : List Ed) (p : Int × Int) (b : Bool) : Prop := (b = false ∧ folds es = [] ∧ p = (0, 0)) ∨ (b = true ∧ ∃ t, folds es = p :: t)
theorem FirstIs.ex (es : List Ed) : ∃ p b, FirstIs es p b := by
  cases h : folds es with
  | nil => exact ⟨(0, 0), false, .inl ⟨rfl, h, rfl⟩⟩
  | cons p t => exact ⟨p, true, .inr ⟨rfl, t, h⟩⟩
set_option maxHeartbeats 1600000 in
theorem impl_FirstFold (r s : Int) (A : Option Addr) (es : List Ed) (c : Nat) (w : World) (lo hi : Nat) (hr : RG w lo hi A es) (hcl : es.length ≤ c) (hg : IsGr r s es) (p : Int × Int) (b : Bool) (hp : FirstIs es p b) :
    Calls Tryz.prog 121 #[graV r s A es.length c] w fun e w' => e = .returned (.tuple #[.agg #[.int .i64 p.1, .int .i64 p.2], .bool b]) ∧ Mid 0 0 w w' := by
  have hl := hg.len
  have HG := Lib.hid hg
  have hm0 : Mid 0 0 w ((w.alloc (.cells #[.int .i64 r, .int .i64 s, .slice A es.length c] 32)).alloc (.cells #[.int .i64 0, .int .i64 0] 103)) := (Mid.alloc _ _).trans (Mid.alloc _ _)
  have b0 := (Box.new w #[.int .i64 r, .int .i64 s, .slice A es.length c] 32).mid (Mid.alloc _ (.cells #[.int .i64 0, .int .i64 0] 103)) oZr
  have b2 := Box.new (w.alloc (.cells #[.int .i64 r, .int .i64 s, .slice A es.length c] 32)) #[.int .i64 0, .int .i64 0] 103
  rw [World.size_alloc] at b2
  clear hg
  obtain ⟨p1, p2⟩ := p
  go_enter Tryz.func121, Tryz.ntmps121
  go_wp2_with fail
  with_reducible refine (impl_IsGraph r s A es c _ _ _ (hr.mid hm0 oZl).rv (by omega) true (iff_of_true rfl HG.out)).mono ?_
  rintro en w1 ⟨rfl, hm1⟩
  replace b0 := b0.mid hm1 oZr
  replace b2 := b2.mid hm1 oZr
  replace hm0 := hm0.trans hm1
  have q0 := b0.cell 0 rfl
  have q1 := b0.cell 1 rfl
  have q2 := b0.cell 2 rfl
  go_wp2_with fail
  with_reducible refine (impl_folds r s A es c _ _ _ (hr.mid hm0 oZl) hl hcl).mono ?_
  rintro en w2 ⟨A2, c2, rfl, hrv, hm2⟩
  replace b2 := b2.mid hm2 oZr
  replace hm0 := hm0.trans hm2
  have zf := b2.2.2
  have z0 := b2.cell 0 rfl
  have z1 := b2.cell 1 rfl
  clear q0 q1 q2 hm1 hm2
  rcases hp with ⟨rfl, hn, hpp⟩ | ⟨rfl, t, ht⟩
  · injection hpp with h1 h2
    subst h1 h2
    have hn0 : (folds es).length = 0 := by rw [hn]; rfl
    clear hn
    go_wp2_with fail
    refine bodyPost_ret (v := .tuple #[.agg #[.int .i64 0, .int .i64 0], .bool false]) (by simp [results, Tryz.results121, go_sem, z0, z1, zf]) rfl ⟨rfl, ?_⟩
    repeat (first | exact hm0 | refine Mid.storeNew ?_ (by simp; try omega) _)
  · obtain ⟨nl, hnl⟩ : ∃ nl, (folds es).length = nl + 1 := ⟨t.length, by rw [ht]; rfl⟩
    obtain ⟨g, off, rfl, -, -, hc⟩ := hrv.2 (by rw [ht]; simp [fdI_head, ints])
    have y0 := hc 0 (.int .i64 p1) (by rw [ht]; simp [fdI_head, ints])
    have y1 := hc 1 (.int .i64 p2) (by rw [ht]; simp [fdI_head, ints])
    rw [Nat.add_zero] at y0
    have hd : ((nl + 1 : Nat) == 0) = false := by simp
    rw [hnl]
    have h1 : (0 : Int) < ((nl + 1 : Nat) : Int) := by omega
    clear hc ht hrv hnl
    go_wp2_with fail
    refine bodyPost_ret (v := .tuple #[.agg #[.int .i64 p1, .int .i64 p2], .bool true]) (by simp [results, Tryz.results121, go_sem, z0, z1, zf]) rfl ⟨rfl, ?_⟩
    repeat (first | exact hm0 | refine Mid.storeNew ?_ (by simp; try omega) _)
set_option maxHeartbeats 400000 in
theorem fold_place (B : Nat) (p1 p2 v : Int) (w : World) (hc : w.cell? ⟨B, 0, none⟩ = some (.int .i64 p1)) (hc1 : w.cell? ⟨B, 1, none⟩ = some (.int .i64 p2)) (h3 : 0 ≤ v) (h4 : v < 40) :
    Calls Tryz.prog 129 #[.int .i64 v, .pointer (some ⟨B, 0, none⟩)] w fun e w' => e = .returned (.int .i64 (foldV (p1, p2) v)) ∧ w' = w := by
  by_cases h0 : v = p2
  · have hv : foldV (p1, p2) v = p1 := by simp [foldV, h0]
    have hb : (v == p2) = true := by simpa using h0
    rw [hv]
    clear hv h0
    go_enter Tryz.func129, Tryz.ntmps129
    go_wp2_with fail
    go_ret
    exact ⟨rfl, rfl⟩
  · have hb : (v == p2) = false := by simpa only [beq_eq_false_iff_ne] using h0
    by_cases h1 : p2 < v
    · have hv : foldV (p1, p2) v = v - 1 := by simp [foldV, h0, h1]
      have hd : decide (p2 < v) = true := by simpa using h1
      rw [hv]
      clear hv h0
      go_enter Tryz.func129, Tryz.ntmps129
      go_wp2_with fail
      go_ret
      exact ⟨rfl, rfl⟩
    · have hv : foldV (p1, p2) v = v := by simp [foldV, h0, h1]
      have hd : decide (p2 < v) = false := by simpa using h1
      rw [hv]
      clear hv h0
      go_enter Tryz.func129, Tryz.ntmps129
      go_wp2_with fail
      go_ret
      exact ⟨rfl, rfl⟩
end Go.Proofs.YtkaofcakelpnpaaGreat

namespace Go.Proofs.YtkaofcakelpnpaaGreat
set_option linter.unusedVariables false
set_option linter.unusedSimpArgs false
open Go.RowKit
attribute [local go_sem ↓] Go.wp_at_zero Go.wp_at_succ
theorem map_step {es : List Ed} {f : Ed → Ed} {k : Nat} {e : Ed} (h : es[k]? = some e) : ((es.take k).map f ++ es.drop k).set k (f e) = (es.take (k + 1)).map f ++ es.drop (k + 1) := by
  obtain ⟨hk, h'⟩ := List.getElem?_eq_some_iff.1 h
  have hl : ((es.take k).map f).length = k := by rw [List.length_map, List.length_take]; omega
  rw [List.drop_eq_getElem_cons hk, h', List.set_append_right _ _ (by omega), hl, Nat.sub_self, List.set_cons_zero, take_snoc h, List.map_append]
  simp
theorem map_here {es : List Ed} {f : Ed → Ed} {k : Nat} {e : Ed} (h : es[k]? = some e) : ((es.take k).map f ++ es.drop k)[k]? = some e := by
  obtain ⟨hk, h'⟩ := List.getElem?_eq_some_iff.1 h
  have hl : ((es.take k).map f).length = k := by rw [List.length_map, List.length_take]; omega
  rw [List.getElem?_append_right (by omega), hl, Nat.sub_self, List.getElem?_drop, Nat.add_zero, h]
set_option maxHeartbeats 6400000 in
set_option maxRecDepth 100000 in
theorem impl_MergeVertices (r s : Int) (A : Option Addr) (es : List Ed) (c : Nat) (p1 p2 : Int) (w : World) (lo hi : Nat) (hr : RG w lo hi A es) (hg : IsGr r s es) (h0 : 0 ≤ p1) (h1 : p1 < p2) (h2 : p2 < s) :
    Calls Tryz.prog 122 #[graV r s A es.length c, .agg #[.int .i64 p1, .int .i64 p2]] w fun e w' => ∃ A1 c1, e = .returned (.tuple #[graV r (s - 1) A1 (mergeE (p1, p2) es).length c1, .bool true]) ∧ OG w' w.heap.size w'.heap.size A1 c1 (mergeE (p1, p2) es) ∧ Mid 0 0 w w' := by
  have hl := hg.len
  have hs40 := hg.size
  have HG := Lib.hid hg
  have hm0 : Mid 0 0 w (((w.alloc (.cells #[.int .i64 r, .int .i64 s, .slice A es.length c] 32)).alloc (.cells #[.int .i64 p1, .int .i64 p2] 103)).alloc (.cells #[.int .i64 0, .int .i64 0, .slice none 0 0] 32)) := ((Mid.alloc _ _).trans (Mid.alloc _ _)).trans (Mid.alloc _ _)
  have b0 := ((Box.new w #[.int .i64 r, .int .i64 s, .slice A es.length c] 32).mid (Mid.alloc _ (.cells #[.int .i64 p1, .int .i64 p2] 103)) oZr).mid (Mid.alloc _ (.cells #[.int .i64 0, .int .i64 0, .slice none 0 0] 32)) oZr
  have bf := (Box.new (w.alloc (.cells #[.int .i64 r, .int .i64 s, .slice A es.length c] 32)) #[.int .i64 p1, .int .i64 p2] 103).mid (Mid.alloc _ (.cells #[.int .i64 0, .int .i64 0, .slice none 0 0] 32)) oZr
  have b2 := Box.new ((w.alloc (.cells #[.int .i64 r, .int .i64 s, .slice A es.length c] 32)).alloc (.cells #[.int .i64 p1, .int .i64 p2] 103)) #[.int .i64 0, .int .i64 0, .slice none 0 0] 32
  simp only [World.size_alloc, Nat.add_assoc, Nat.reduceAdd] at bf b2
  have d1 : decide (p1 < 0) = false := by simp; omega
  have d2 : decide (p2 ≤ p1) = false := by simp; omega
  have d3 : decide (s ≤ p2) = false := by simp; omega
  clear hg
  go_enter Tryz.func122, Tryz.ntmps122
  go_wp2_with fail
  generalize hw1 : (((w.alloc (.cells #[.int .i64 r, .int .i64 s, .slice A es.length c] 32)).alloc (.cells #[.int .i64 p1, .int .i64 p2] 103)).alloc (.cells #[.int .i64 0, .int .i64 0, .slice none 0 0] 32)) = w1 at hm0 b0 bf b2 ⊢
  clear hw1
  with_reducible refine (impl_copyGraph r s A es c _ _ _ (hr.mid hm0 oZl) (by omega)).mono ?_
  rintro en w2 ⟨A1, c1, rfl, ho, hm2⟩
  have hs2 : w.heap.size + 2 < w1.heap.size := b2.1
  replace b0 := b0.mid hm2 oZr
  replace bf := bf.mid hm2 oZr
  replace b2 := b2.mid hm2 oZr
  replace hm0 := hm0.trans hm2
  have hsz2 := hm2.size
  have hown0 := owns_base (base' := w.heap.size + 3) ho.ov.2.1 hs2
  have hbk0 : Value.ownBlock (.slice A1 es.length c1) ≠ some w2.heap.size := fun h => by have := ho.ov.2.2 _ h; omega
  have hal := Mid.alloc w2 (.cells #[.int .i64 r, .int .i64 s, .slice A1 es.length c1] 32)
  have Y3 := Box.new w2 #[.int .i64 r, .int .i64 s, .slice A1 es.length c1] 32
  have hbs0 := b0.1
  have u0 := b0.cell 0 rfl
  have u1 := b0.cell 1 rfl
  have u2 := b0.cell 2 rfl
  replace b0 := b0.mid hal oZr
  replace bf := bf.mid hal oZr
  replace b2 := b2.mid hal oZr
  replace hown0 := owns_mid hown0 hal oZl
  replace hm0 := hm0.trans hal
  go_wp2_with fail
  clear u0 u1 u2
  generalize hw3 : w2.alloc (.cells #[.int .i64 r, .int .i64 s, .slice A1 es.length c1] 32) = w3 at Y3 b0 bf b2 hown0 hm0 ⊢
  have hs3 : w3.heap.size = w2.heap.size + 1 := by rw [← hw3]; simp
  obtain ⟨G, hG⟩ : ∃ G, w2.heap.size = G := ⟨_, rfl⟩
  rw [hG] at Y3 hbk0 hsz2 hbs0 hs3 ⊢
  clear hw3 hal hm2 ho hG
  with_reducible refine (impl_IsGraph r s A es c _ _ _ (hr.mid hm0 oZl).rv (by omega) true (iff_of_true rfl HG.out)).mono ?_
  rintro en w4 ⟨rfl, hm4⟩
  replace b0 := b0.mid hm4 oZr
  replace bf := bf.mid hm4 oZr
  replace b2 := b2.mid hm4 oZr
  replace Y3 := Y3.mid hm4 oZr
  replace hown0 := owns_mid hown0 hm4 oZl
  replace hm0 := hm0.trans hm4
  have hGw : w.heap.size + 3 ≤ G := by omega
  clear hm4 hs3 hsz2 hs2 hbs0
  have q0 := b0.cell 0 rfl
  have q1 := b0.cell 1 rfl
  have q2 := b0.cell 2 rfl
  have k0 := bf.cell 0 rfl
  have k1 := bf.cell 1 rfl
  have y0 := Y3.cell 0 rfl
  have y1 := Y3.cell 1 rfl
  have y2 := Y3.cell 2 rfl
  go_wp2_with fail
  clear q0 q1 q2 k0 k1 y0 y1 y2
  have HBK := Lib.hid hbk0
  clear hbk0 b0
  go_loopw [39] (fun i wr => ∃ k : Nat, k ≤ es.length ∧ i = .int .i64 k ∧ wr.ownsRow (w.heap.size + 3) 64 3 (.slice A1 es.length c1) es.length (ints (edI ((es.take k).map (foldE (p1, p2)) ++ es.drop k))) ∧
      Box wr (w.heap.size + 1) [.int .i64 p1, .int .i64 p2] ∧ Box wr (w.heap.size + 2) [.int .i64 0, .int .i64 0, .slice none 0 0] ∧ Box wr G [.int .i64 r, .int .i64 s, .slice A1 es.length c1] ∧ Mid 0 0 w wr) (fun i _ => es.length - (intOf i).toNat)
  case atStart => exact ⟨0, Nat.zero_le _, rfl, by simpa using hown0, bf, b2, Y3, hm0⟩
  case round =>
    clear hown0 bf b2 Y3 hm0
    obtain ⟨k, hk, rfl, hown, bf, b2, Y3, hm⟩ := hrel
    by_cases hlt : k < es.length
    · obtain ⟨g, rfl, hg1, hg2⟩ := owns_addr hown (by omega)
      obtain ⟨e, he⟩ := get_of_lt es hlt
      have hmh := map_here (f := foldE (p1, p2)) he
      obtain ⟨e0, e1, e2⟩ := owns_ed hown hmh
      have hin := HG.out.all e (List.mem_of_getElem? he)
      obtain ⟨i1, i2, i3, i4, i5, i6⟩ := hin
      have HE := Lib.hid he
      have hgG : g ≠ G := fun h => HBK.out (by rw [h]; rfl)
      have hk0 : (0 : Int) ≤ (k : Int) := by omega
      have hk1 : (k : Int) < (es.length : Int) := by omega
      have hal := Mid.alloc wr (.cells #[.int .i64 e.a, .int .i64 e.l, .int .i64 e.b] 64)
      have ZE := Box.new wr #[.int .i64 e.a, .int .i64 e.l, .int .i64 e.b] 64
      have hGr : G < wr.heap.size := Y3.1
      replace bf := bf.mid hal oZr
      replace b2 := b2.mid hal oZr
      replace Y3 := Y3.mid hal oZr
      replace hown := owns_mid hown hal oZl
      replace hm := hm.trans hal
      clear he
      go_wp2_with fail
      clear e0 e1 e2
      generalize hwx : wr.alloc (.cells #[.int .i64 e.a, .int .i64 e.l, .int .i64 e.b] 64) = wx at ZE bf b2 Y3 hown hm ⊢
      generalize hgE : wr.heap.size = E at ZE hg2 hGr ⊢
      clear hgE hwx hal
      have hmd := Mid.drew1 wx
      replace bf := bf.mid hmd oZr
      replace b2 := b2.mid hmd oZr
      replace Y3 := Y3.mid hmd oZr
      replace ZE := ZE.mid hmd oZr
      replace hown := owns_mid hown hmd oZl
      replace hm := hm.trans hmd
      obtain ⟨c0', c1', c2'⟩ := owns_ed hown hmh
      have hfz := fun i => hown.frozenAt i
      have f0 := ZE.cell 0 rfl
      have f1 := ZE.cell 1 rfl
      have f2 := ZE.cell 2 rfl
      have g2 := Y3.cell 2 rfl
      have k0 := bf.cell 0 rfl
      have k1 := bf.cell 1 rfl
      obtain ⟨x, hx⟩ : ∃ x, foldV (p1, p2) e.a = x := ⟨_, rfl⟩
      obtain ⟨y, hy⟩ : ∃ y, foldV (p1, p2) e.b = y := ⟨_, rfl⟩
      have hFE : Hid (foldE (p1, p2) e = ⟨x, e.l, y⟩) := Lib.hid (by simp [foldE, hx, hy])
      have hP1 := fold_place (w.heap.size + 1) p1 p2 e.a _ k0 k1 i1 (by omega)
      have hP2 := fold_place (w.heap.size + 1) p1 p2 e.b _ k0 k1 i3 (by omega)
      rw [hx] at hP1
      rw [hy] at hP2
      clear hx hy hmd
      refine wp_region_T (S := (fun w' => w'.cell? ⟨E, 0, none⟩ = some (.int .i64 e.a) ∧ w'.cell? ⟨E, 1, none⟩ = some (.int .i64 e.l) ∧ w'.cell? ⟨E, 2, none⟩ = some (.int .i64 e.b) ∧ w'.cell? ⟨G, 2, none⟩ = some (.slice (some ⟨g, 0, none⟩) es.length c1))) 15 (by kernel_rfl) ⟨f0, f1, f2, g2⟩ ?_
      generalize World.drew wx = wz at bf b2 Y3 ZE hown hm f0 f1 f2 g2 k0 k1 hP1 hP2 c0' c1' c2' hfz ⊢
      have hS : wz.cell? ⟨E, 0, none⟩ = some (.int .i64 e.a) ∧ wz.cell? ⟨E, 1, none⟩ = some (.int .i64 e.l) ∧ wz.cell? ⟨E, 2, none⟩ = some (.int .i64 e.b) ∧ wz.cell? ⟨G, 2, none⟩ = some (.slice (some ⟨g, 0, none⟩) es.length c1) := ⟨f0, f1, f2, g2⟩
      refine wpAnyT_take (i := 0) (v := ?_) rfl (by kernel_rfl) (by kernel_rfl) (by kernel_rfl) (by kernel_rfl) (fun _ _ _ h => h) (Or.inl ⟨by rfl, ?_⟩) hS ?_
      rotate_left
      focus (intro w hSw; (try dsimp only at hSw); go_simp; try with_reducible rfl)
      try simp only [Act.put, List.setIfInBounds_toArray, List.set_cons_zero, List.set_cons_succ, List.getElem_toArray, List.getElem_cons_zero, List.getElem_cons_succ]
      refine wpAnyT_take (i := 1) (v := ?_) rfl (by kernel_rfl) (by kernel_rfl) (by kernel_rfl) (by kernel_rfl) (fun _ _ _ h => h) (Or.inl ⟨by rfl, ?_⟩) hS ?_
      rotate_left
      focus (intro w hSw; (try dsimp only at hSw); go_simp; try with_reducible rfl)
      try simp only [Act.put, List.setIfInBounds_toArray, List.set_cons_zero, List.set_cons_succ, List.getElem_toArray, List.getElem_cons_zero, List.getElem_cons_succ]
      refine wpAnyT_take (i := 2) (v := ?_) rfl (by kernel_rfl) (by kernel_rfl) (by kernel_rfl) (by kernel_rfl) (fun _ _ _ h => h) (Or.inl ⟨by rfl, ?_⟩) hS ?_
      rotate_left
      focus (intro w hSw; (try dsimp only at hSw); go_simp; try with_reducible rfl)
      try simp only [Act.put, List.setIfInBounds_toArray, List.set_cons_zero, List.set_cons_succ, List.getElem_toArray, List.getElem_cons_zero, List.getElem_cons_succ]
      refine wpAnyT_take (i := 3) (v := ?_) rfl (by kernel_rfl) (by kernel_rfl) (by kernel_rfl) (by kernel_rfl) (fun _ _ _ h => h) (Or.inl ⟨by rfl, ?_⟩) hS ?_
      rotate_left
      focus (intro w hSw; (try dsimp only at hSw); go_simp; try with_reducible rfl)
      try simp only [Act.put, List.setIfInBounds_toArray, List.set_cons_zero, List.set_cons_succ, List.getElem_toArray, List.getElem_cons_zero, List.getElem_cons_succ]
      refine wpAnyT_take (i := 4) (v := ?_) rfl (by kernel_rfl) (by kernel_rfl) (by kernel_rfl) (by kernel_rfl) (fun _ _ _ h => h) (Or.inl ⟨by rfl, ?_⟩) hS ?_
      rotate_left
      focus (intro w hSw; (try dsimp only at hSw); go_simp; try with_reducible rfl)
      try simp only [Act.put, List.setIfInBounds_toArray, List.set_cons_zero, List.set_cons_succ, List.getElem_toArray, List.getElem_cons_zero, List.getElem_cons_succ]
      refine wpAnyT_take (i := 5) (v := ?_) rfl (by kernel_rfl) (by kernel_rfl) (by kernel_rfl) (by kernel_rfl) (fun _ _ _ h => h) (Or.inl ⟨by rfl, ?_⟩) hS ?_
      rotate_left
      focus (intro w hSw; (try dsimp only at hSw); go_simp; try with_reducible rfl)
      try simp only [Act.put, List.setIfInBounds_toArray, List.set_cons_zero, List.set_cons_succ, List.getElem_toArray, List.getElem_cons_zero, List.getElem_cons_succ]
      refine wpAnyT_take (i := 7) (v := ?_) rfl (by kernel_rfl) (by kernel_rfl) (by kernel_rfl) (by kernel_rfl) (fun _ _ _ h => h) (Or.inl ⟨by rfl, ?_⟩) hS ?_
      rotate_left
      focus (intro w hSw; (try dsimp only at hSw); go_simp; try with_reducible rfl)
      try simp only [Act.put, List.setIfInBounds_toArray, List.set_cons_zero, List.set_cons_succ, List.getElem_toArray, List.getElem_cons_zero, List.getElem_cons_succ]
      refine wpAnyT_take (i := 8) (v := ?_) rfl (by kernel_rfl) (by kernel_rfl) (by kernel_rfl) (by kernel_rfl) (fun _ _ _ h => h) (Or.inl ⟨by rfl, ?_⟩) hS ?_
      rotate_left
      focus (intro w hSw; (try dsimp only at hSw); go_simp; try with_reducible rfl)
      try simp only [Act.put, List.setIfInBounds_toArray, List.set_cons_zero, List.set_cons_succ, List.getElem_toArray, List.getElem_cons_zero, List.getElem_cons_succ]
      refine wpAnyT_take (i := 9) (v := ?_) rfl (by kernel_rfl) (by kernel_rfl) (by kernel_rfl) (by kernel_rfl) (fun _ _ _ h => h) (Or.inl ⟨by rfl, ?_⟩) hS ?_
      rotate_left
      focus (intro w hSw; (try dsimp only at hSw); go_simp; try with_reducible rfl)
      try simp only [Act.put, List.setIfInBounds_toArray, List.set_cons_zero, List.set_cons_succ, List.getElem_toArray, List.getElem_cons_zero, List.getElem_cons_succ]
      refine wpAnyT_take (i := 10) (v := ?_) rfl (by kernel_rfl) (by kernel_rfl) (by kernel_rfl) (by kernel_rfl) (fun _ _ _ h => h) (Or.inl ⟨by rfl, ?_⟩) hS ?_
      rotate_left
      focus (intro w hSw; (try dsimp only at hSw); go_simp; try with_reducible rfl)
      try simp only [Act.put, List.setIfInBounds_toArray, List.set_cons_zero, List.set_cons_succ, List.getElem_toArray, List.getElem_cons_zero, List.getElem_cons_succ]
      refine wpAnyT_take (i := 11) (v := ?_) rfl (by kernel_rfl) (by kernel_rfl) (by kernel_rfl) (by kernel_rfl) (fun _ _ _ h => h) (Or.inl ⟨by rfl, ?_⟩) hS ?_
      rotate_left
      focus (intro w hSw; (try dsimp only at hSw); go_simp; try with_reducible rfl)
      try simp only [Act.put, List.setIfInBounds_toArray, List.set_cons_zero, List.set_cons_succ, List.getElem_toArray, List.getElem_cons_zero, List.getElem_cons_succ]
      refine wpAnyT_ready (rs := [6]) (by kernel_rfl) (by simp) (AllReadyT.cons rfl (fun K hK => ?_) AllReadyT.nil)
      (go_simp; refine hP1.mono ?_; rintro _ w' ⟨rfl, h⟩; obtain rfl := h.symm; go_wp2_with fail)
      refine hK.out _ _ (Or.inr hS) (fun _ => ?_)
      clear hK K
      try simp only [Act.put, List.setIfInBounds_toArray, List.set_cons_zero, List.set_cons_succ, List.getElem_toArray, List.getElem_cons_zero, List.getElem_cons_succ]
      refine wpAnyT_ready (rs := [12]) (by kernel_rfl) (by simp) (AllReadyT.cons rfl (fun K hK => ?_) AllReadyT.nil)
      (go_simp; refine hP2.mono ?_; rintro _ w' ⟨rfl, h⟩; obtain rfl := h.symm; go_wp2_with fail)
      refine hK.out _ _ (Or.inr hS) (fun _ => ?_)
      clear hK K
      try simp only [Act.put, List.setIfInBounds_toArray, List.set_cons_zero, List.set_cons_succ, List.getElem_toArray, List.getElem_cons_zero, List.getElem_cons_succ]
      refine wpAnyT_take (i := 13) (v := ?_) rfl (by kernel_rfl) (by kernel_rfl) (by kernel_rfl) (by kernel_rfl) (fun _ _ _ h => h) (Or.inl ⟨by rfl, ?_⟩) hS ?_
      rotate_left
      focus (intro w hSw; (try dsimp only at hSw); go_simp; try with_reducible rfl)
      try simp only [Act.put, List.setIfInBounds_toArray, List.set_cons_zero, List.set_cons_succ, List.getElem_toArray, List.getElem_cons_zero, List.getElem_cons_succ]
      refine wpAnyT_take (i := 14) (v := ?_) rfl (by kernel_rfl) (by kernel_rfl) (by kernel_rfl) (by kernel_rfl) (fun _ _ _ h => h) (Or.inl ⟨by rfl, ?_⟩) hS ?_
      rotate_left
      focus (intro w hSw; (try dsimp only at hSw); go_simp; try with_reducible rfl)
      try simp only [Act.put, List.setIfInBounds_toArray, List.set_cons_zero, List.set_cons_succ, List.getElem_toArray, List.getElem_cons_zero, List.getElem_cons_succ]
      clear hP1 hP2
      refine wpAnyT_ready (rs := [15]) (by kernel_rfl) (by simp) (AllReadyT.cons rfl (fun K hK => ?_) AllReadyT.nil)
      (go_simp)
      refine hK.out _ _ (Or.inl rfl) (fun _ => ?_)
      clear hK K
      try simp only [Act.put, List.setIfInBounds_toArray, List.set_cons_zero, List.set_cons_succ, List.getElem_toArray, List.getElem_cons_zero, List.getElem_cons_succ]
      refine wpAnyT_done (by kernel_rfl) ?_ _
      go_wp2_with fail
      go_roundw
      case rel =>
        have h1 := owns_setE hown (k := k) (foldE (p1, p2) e) (by rw [List.length_append, List.length_map, List.length_take, List.length_drop]; omega)
        rw [map_step HE.out, hFE.out] at h1
        have hst := (Mid.setAt wz g (k * 3) (.int .i64 x)).trans ((Mid.setAt (wz.setCell ⟨g, k * 3, none⟩ (.int .i64 x)) g (k * 3 + 1) (.int .i64 e.l)).trans (Mid.setAt ((wz.setCell ⟨g, k * 3, none⟩ (.int .i64 x)).setCell ⟨g, k * 3 + 1, none⟩ (.int .i64 e.l)) g (k * 3 + 2) (.int .i64 y)))
        exact ⟨k + 1, by omega, by go_num, h1, bf.mid hst (Or.inl (by omega)), b2.mid hst (Or.inl (by omega)), Y3.mid hst (by omega), ((hm.storeNew (by show w.heap.size ≤ g; omega) _).storeNew (by show w.heap.size ≤ g; omega) _).storeNew (by show w.heap.size ≤ g; omega) _⟩
      case measure => simp [intOf]; omega
    · obtain rfl : k = es.length := by omega
      rw [List.take_length, List.drop_length, List.append_nil] at hown
      have hml : (es.map (foldE (p1, p2))).length = es.length := List.length_map _
      have hrg : RG wr (w.heap.size + 3) wr.heap.size A1 (es.map (foldE (p1, p2))) := owns_rv hown
      have hGr : G < wr.heap.size := Y3.1
      have hb2s := b2.1
      have z2 := Y3.cell 2 rfl
      have HML := Lib.hid hml
      clear hml
      go_wp2_with fail
      with_reducible refine (impl_sortedN A1 (es.map (foldE (p1, p2))) es.length c1 _ _ _ HML.out hrg (by omega)).mono ?_
      rintro en w6 ⟨A4, c4, rfl, ho6, hm6⟩
      replace b2 := b2.mid hm6 oZr
      replace Y3 := Y3.mid hm6 oZr
      replace hm := hm.trans hm6
      have hsz6 := hm6.size
      clear z2
      have a0 := b2.cell 0 rfl
      have a1 := b2.cell 1 rfl
      have a2 := b2.cell 2 rfl
      have x0 := Y3.cell 0 rfl
      have x1 := Y3.cell 1 rfl
      have x2 := Y3.cell 2 rfl
      have af := b2.2.2
      have xf := Y3.2.2
      have hcl : ¬ w.heap.size + 2 = G := by omega
      have hcl2 : ¬ G = w.heap.size + 2 := by omega
      obtain ⟨ms, hms⟩ : ∃ ms, canon (es.map (foldE (p1, p2))) = ms := ⟨_, rfl⟩
      rw [hms] at ho6 ⊢
      have HMS := Lib.hid (show mergeE (p1, p2) es = ms from hms)
      clear hms
      go_wp2_with fail
      have hcl3 : (w.heap.size + 2 == G) = false := by simpa using hcl
      refine bodyPost_ret (v := .tuple #[.agg #[.int .i64 r, .int .i64 (s - 1), .slice A4 ms.length c4], .bool true]) (by simp [results, Tryz.results122, go_sem, a0, a1, a2, x0, x1, x2, af, xf, hcl]) rfl ⟨A4, c4, by rw [HMS.out], ?_, ?_⟩
      · rw [HMS.out]
        refine OG.wide (OG.mid ho6 (a := w.heap.size) (b := G + 1) ?_ (Or.inl hGr)) (by omega) (by simp) (Nat.le_refl _)
        repeat (first | exact Mid.refl _ _ _ | refine Mid.stored ?_ _ (by simp; try omega) (by simp; try omega))
      · repeat (first | exact hm | refine Mid.storeNew ?_ (by simp; try omega) _)
end Go.Proofs.YtkaofcakelpnpaaGreat

namespace Go.Proofs.YtkaofcakelpnpaaGreat
set_option linter.unusedVariables false
set_option linter.unusedSimpArgs false
open Go.RowKit
def OnceIs (s : Int) (es : List Ed) (p : Int × Int) (b : Bool) (rs : Int) (res : List Ed) : Prop :=
  (b = false ∧ folds es = [] ∧ p = (0, 0) ∧ rs = s ∧ res = es) ∨ (b = true ∧ (∃ t, folds es = p :: t) ∧ rs = s - 1 ∧ res = mergeE p es)
theorem OnceIs.first {s : Int} {es : List Ed} {p : Int × Int} {b : Bool} {rs : Int} {res : List Ed} (h : OnceIs s es p b rs res) : FirstIs es p b := by
  rcases h with ⟨h1, h2, h3, -⟩ | ⟨h1, h2, -⟩
  · exact .inl ⟨h1, h2, h3⟩
  · exact .inr ⟨h1, h2⟩
theorem OnceIs.ex (s : Int) (es : List Ed) : ∃ p b rs res, OnceIs s es p b rs res := by
  cases h : folds es with
  | nil => exact ⟨(0, 0), false, s, es, .inl ⟨rfl, h, rfl, rfl, rfl⟩⟩
  | cons p t => exact ⟨p, true, s - 1, mergeE p es, .inr ⟨rfl, ⟨t, h⟩, rfl, rfl⟩⟩
set_option maxHeartbeats 3200000 in
set_option maxRecDepth 20000 in
theorem impl_FoldOnce (r s : Int) (A : Option Addr) (es : List Ed) (c : Nat) (w : World) (lo hi : Nat) (hr : RG w lo hi A es) (hcl : es.length ≤ c) (hg : IsGr r s es) (p : Int × Int) (b : Bool) (rs : Int) (res : List Ed) (hp : OnceIs s es p b rs res) :
    Calls Tryz.prog 109 #[graV r s A es.length c] w fun e w' => ∃ A1 c1, e = .returned (.tuple #[graV r rs A1 res.length c1, .agg #[.int .i64 p.1, .int .i64 p.2], .bool b]) ∧ OG w' w.heap.size w'.heap.size A1 c1 res ∧ Mid 0 0 w w' := by
  have hl := hg.len
  have HG := Lib.hid hg
  have hm0 : Mid 0 0 w (((w.alloc (.cells #[.int .i64 r, .int .i64 s, .slice A es.length c] 32)).alloc (.cells #[.int .i64 0, .int .i64 0, .slice none 0 0] 32)).alloc (.cells #[.int .i64 0, .int .i64 0] 103)) := ((Mid.alloc _ _).trans (Mid.alloc _ _)).trans (Mid.alloc _ _)
  have b0 := ((Box.new w #[.int .i64 r, .int .i64 s, .slice A es.length c] 32).mid (Mid.alloc _ (.cells #[.int .i64 0, .int .i64 0, .slice none 0 0] 32)) oZr).mid (Mid.alloc _ (.cells #[.int .i64 0, .int .i64 0] 103)) oZr
  have b2 := (Box.new (w.alloc (.cells #[.int .i64 r, .int .i64 s, .slice A es.length c] 32)) #[.int .i64 0, .int .i64 0, .slice none 0 0] 32).mid (Mid.alloc _ (.cells #[.int .i64 0, .int .i64 0] 103)) oZr
  have b3 := Box.new ((w.alloc (.cells #[.int .i64 r, .int .i64 s, .slice A es.length c] 32)).alloc (.cells #[.int .i64 0, .int .i64 0, .slice none 0 0] 32)) #[.int .i64 0, .int .i64 0] 103
  simp only [World.size_alloc, Nat.add_assoc, Nat.reduceAdd] at b2 b3
  have hF := hp.first
  have HF := Lib.hid hF
  clear hg hF
  obtain ⟨p1, p2⟩ := p
  go_enter Tryz.func109, Tryz.ntmps109
  go_wp2_with fail
  generalize hw1 : (((w.alloc (.cells #[.int .i64 r, .int .i64 s, .slice A es.length c] 32)).alloc (.cells #[.int .i64 0, .int .i64 0, .slice none 0 0] 32)).alloc (.cells #[.int .i64 0, .int .i64 0] 103)) = w1 at hm0 b0 b2 b3 ⊢
  clear hw1
  with_reducible refine (impl_FirstFold r s A es c _ _ _ (hr.mid hm0 oZl) hcl HG.out (p1, p2) b HF.out).mono ?_
  rintro en w2 ⟨rfl, hm2⟩
  replace b0 := b0.mid hm2 oZr
  replace b2 := b2.mid hm2 oZr
  replace b3 := b3.mid hm2 oZr
  replace hm0 := hm0.trans hm2
  have hbs0 := b0.1
  have hbs2 := b2.1
  have hbs3 := b3.1
  have u0 := b0.cell 0 rfl
  have u1 := b0.cell 1 rfl
  have u2 := b0.cell 2 rfl
  have hal := Mid.alloc w2 (.cells #[.int .i64 p1, .int .i64 p2] 103)
  have bf := Box.new w2 #[.int .i64 p1, .int .i64 p2] 103
  replace b0 := b0.mid hal oZr
  replace b2 := b2.mid hal oZr
  replace b3 := b3.mid hal oZr
  replace hm0 := hm0.trans hal
  clear hm2
  rcases hp with ⟨rfl, hn, hpp, rfl, rfl⟩ | ⟨rfl, ⟨t, ht⟩, rfl, hres⟩
  · injection hpp with h1 h2
    subst h1 h2
    clear hn
    go_wp2_with fail
    clear u0 u1 u2
    generalize hw3 : w2.alloc (.cells #[.int .i64 0, .int .i64 0] 103) = w3 at b0 b2 b3 bf hm0 ⊢
    clear hw3 hal
    with_reducible refine (impl_copyGraph r rs A res c _ _ _ (hr.mid hm0 oZl) (by omega)).mono ?_
    rintro en w4 ⟨A4, c4, rfl, hog, hm4⟩
    have hs3 : w.heap.size + 3 ≤ w3.heap.size := b3.1
    replace b2 := b2.mid hm4 oZr
    replace b3 := b3.mid hm4 oZr
    replace hm0 := hm0.trans hm4
    have a0 := b2.cell 0 rfl
    have a1 := b2.cell 1 rfl
    have a2 := b2.cell 2 rfl
    have x0 := b3.cell 0 rfl
    have x1 := b3.cell 1 rfl
    have af := b2.2.2
    have xf := b3.2.2
    go_wp2_with fail
    refine bodyPost_ret (v := .tuple #[.agg #[.int .i64 r, .int .i64 rs, .slice A4 res.length c4], .agg #[.int .i64 0, .int .i64 0], .bool false]) (by simp [results, Tryz.results109, go_sem, a0, a1, a2, x0, x1, af, xf]) rfl ⟨A4, c4, rfl, ?_, ?_⟩
    · refine OG.wide (OG.mid hog (a := w.heap.size + 1) (b := w.heap.size + 3) ?_ (Or.inl (by omega))) (by omega) (by simp) (Nat.le_refl _)
      repeat (first | exact Mid.refl _ _ _ | refine Mid.stored ?_ _ (by simp; try omega) (by simp; try omega))
    · repeat (first | exact hm0 | refine Mid.storeNew ?_ (by simp; try omega) _)
  · obtain ⟨k1, k2, k3⟩ := mem_folds HG.out.all HG.out.asc (p := (p1, p2)) (by rw [ht]; simp)
    simp only at k1 k2 k3
    have HRES := Lib.hid hres
    clear ht hres
    have y0 := bf.cell 0 rfl
    have y1 := bf.cell 1 rfl
    go_wp2_with fail
    clear u0 u1 u2 y0 y1
    generalize hw3 : w2.alloc (.cells #[.int .i64 p1, .int .i64 p2] 103) = w3 at b0 b2 b3 bf hm0 ⊢
    have hs3 : w3.heap.size = w2.heap.size + 1 := by rw [← hw3]; simp
    clear hw3 hal
    obtain ⟨F, hF⟩ : ∃ F, w2.heap.size = F := ⟨_, rfl⟩
    rw [hF] at bf hs3 hbs0 hbs2 hbs3 ⊢
    clear hF
    with_reducible refine (impl_MergeVertices r s A es c p1 p2 _ _ _ (hr.mid hm0 oZl) HG.out k1 k2 k3).mono ?_
    rintro en w4 ⟨A4, c4, rfl, hog, hm4⟩
    rw [← HRES.out] at hog ⊢
    have hsz4 := hm4.size
    replace b2 := b2.mid hm4 oZr
    replace b3 := b3.mid hm4 oZr
    replace bf := bf.mid hm4 oZr
    replace hm0 := hm0.trans hm4
    have hal4 := Mid.alloc w4 (.cells #[.int .i64 r, .int .i64 (s - 1), .slice A4 res.length c4] 32)
    have bg := Box.new w4 #[.int .i64 r, .int .i64 (s - 1), .slice A4 res.length c4] 32
    replace b2 := b2.mid hal4 oZr
    replace b3 := b3.mid hal4 oZr
    replace bf := bf.mid hal4 oZr
    replace hog := hog.mid hal4 oZl
    replace hm0 := hm0.trans hal4
    go_wp2_with fail
    generalize hw5 : w4.alloc (.cells #[.int .i64 r, .int .i64 (s - 1), .slice A4 res.length c4] 32) = w5 at b2 b3 bf bg hog hm0 ⊢
    have hs5 : w5.heap.size = w4.heap.size + 1 := by rw [← hw5]; simp
    clear hw5 hal4
    obtain ⟨H, hH⟩ : ∃ H, w4.heap.size = H := ⟨_, rfl⟩
    rw [hH] at bg hsz4 hs5 hog ⊢
    clear hH
    have a0 := b2.cell 0 rfl
    have a1 := b2.cell 1 rfl
    have a2 := b2.cell 2 rfl
    have x0 := b3.cell 0 rfl
    have x1 := b3.cell 1 rfl
    have y0 := bf.cell 0 rfl
    have y1 := bf.cell 1 rfl
    have z0 := bg.cell 0 rfl
    have z1 := bg.cell 1 rfl
    have z2 := bg.cell 2 rfl
    have af := b2.2.2
    have xf := b3.2.2
    have n1 : ¬ w.heap.size + 1 = H := by omega
    have n2 : ¬ w.heap.size + 2 = H := by omega
    have n3 : ¬ w.heap.size + 1 = F := by omega
    have n4 : ¬ w.heap.size + 2 = F := by omega
    have n5 : ¬ F = H := by omega
    go_region
    go_wp2_with fail
    refine bodyPost_ret (v := .tuple #[.agg #[.int .i64 r, .int .i64 (s - 1), .slice A4 res.length c4], .agg #[.int .i64 p1, .int .i64 p2], .bool true]) (by simp [results, Tryz.results109, go_sem, a0, a1, a2, x0, x1, af, xf]) rfl ⟨A4, c4, rfl, ?_, ?_⟩
    · refine OG.wide (OG.mid hog (a := w.heap.size + 1) (b := w.heap.size + 3) ?_ (Or.inl (by omega))) (by omega) (by have := hog.size; simp; omega) (Nat.le_refl _)
      refine Mid.trans ?_ (Mid.drew1 _).zero
      repeat (first | exact Mid.refl _ _ _ | refine Mid.stored ?_ _ (by simp; try omega) (by simp; try omega))
    · refine Mid.trans ?_ (Mid.drew1 _)
      repeat (first | exact hm0 | refine Mid.storeNew ?_ (by simp; try omega) _)
end Go.Proofs.YtkaofcakelpnpaaGreat

namespace Go.Proofs.YtkaofcakelpnpaaGreat
set_option linter.unusedVariables false
set_option linter.unusedSimpArgs false
open Go.RowKit
set_option maxHeartbeats 3200000 in
set_option maxRecDepth 20000 in
theorem impl_FoldAll (r : Int) (n : Nat) (A : Option Addr) (es : List Ed) (c : Nat) (w : World) (lo hi : Nat) (hr : RG w lo hi A es) (hg : IsGr r n es) :
    Calls Tryz.prog 88 #[graV r n A es.length c] w fun e w' => ∃ A1 c1 Al nl cl, e = .returned (.tuple #[graV r (foldA 40 ((n : Int), es)).1 A1 (foldA 40 ((n : Int), es)).2.length c1, .slice Al nl cl]) ∧ OG w' w.heap.size w'.heap.size A1 c1 (foldA 40 ((n : Int), es)).2 ∧ Mid 0 0 w w' := by
  have hn40 : n ≤ 40 := by have := hg.size; omega
  have hl := hg.len
  have hm0 : Mid 0 0 w ((w.alloc (.cells #[.int .i64 r, .int .i64 n, .slice A es.length c] 32)).alloc (.cells #[.int .i64 0, .int .i64 0, .slice none 0 0] 32)) := (Mid.alloc _ _).trans (Mid.alloc _ _)
  have b0 := (Box.new w #[.int .i64 r, .int .i64 n, .slice A es.length c] 32).mid (Mid.alloc _ (.cells #[.int .i64 0, .int .i64 0, .slice none 0 0] 32)) oZr
  have b2 := Box.new (w.alloc (.cells #[.int .i64 r, .int .i64 n, .slice A es.length c] 32)) #[.int .i64 0, .int .i64 0, .slice none 0 0] 32
  simp only [World.size_alloc] at b2
  have HG := Lib.hid hg
  obtain ⟨T, hT⟩ : ∃ T, foldA 40 ((n : Int), es) = T := ⟨_, rfl⟩
  rw [hT]
  have HT := Lib.hid hT
  clear hg hT
  go_enter Tryz.func88, Tryz.ntmps88
  go_wp2_with fail
  generalize hw1 : ((w.alloc (.cells #[.int .i64 r, .int .i64 n, .slice A es.length c] 32)).alloc (.cells #[.int .i64 0, .int .i64 0, .slice none 0 0] 32)) = w1 at hm0 b0 b2 ⊢
  clear hw1
  with_reducible refine (impl_copyGraph r n A es c _ _ _ (hr.mid hm0 oZl) (by omega)).mono ?_
  rintro en w2 ⟨A1, c1, rfl, ho, hm2⟩
  have hs2 : w.heap.size + 1 < w1.heap.size := b2.1
  replace b2 := b2.mid hm2 oZr
  replace hm0 := hm0.trans hm2
  have hsz2 := hm2.size
  have hown0 := owns_base (base' := w.heap.size + 2) ho.ov.2.1 hs2
  have hbk0 : Value.ownBlock (.slice A1 es.length c1) ≠ some w2.heap.size := fun h => by have := ho.ov.2.2 _ h; omega
  have hal := (Mid.alloc w2 (.cells #[.int .i64 r, .int .i64 n, .slice A1 es.length c1] 32)).trans (Mid.alloc (w2.alloc (.cells #[.int .i64 r, .int .i64 n, .slice A1 es.length c1] 32)) (.cells #[] 103))
  have Y3 := (Box.new w2 #[.int .i64 r, .int .i64 n, .slice A1 es.length c1] 32).mid (Mid.alloc (w2.alloc (.cells #[.int .i64 r, .int .i64 n, .slice A1 es.length c1] 32)) (.cells #[] 103)) oZr
  have O0 := owns_empty (w2.alloc (.cells #[.int .i64 r, .int .i64 n, .slice A1 es.length c1] 32)) 103 2
  rw [World.size_alloc] at O0
  replace b2 := b2.mid hal oZr
  replace hown0 := owns_mid hown0 hal oZl
  replace hm0 := hm0.trans hal
  go_wp2_with fail
  generalize hw3 : (w2.alloc (.cells #[.int .i64 r, .int .i64 n, .slice A1 es.length c1] 32)).alloc (.cells #[] 103) = w3 at Y3 O0 b2 hown0 hm0 ⊢
  obtain ⟨G, hG⟩ : ∃ G, w2.heap.size = G := ⟨_, rfl⟩
  rw [hG] at Y3 O0 hbk0 hsz2 ⊢
  have hGw : w.heap.size + 2 ≤ G := by omega
  clear hw3 hal hm2 ho hG hsz2 hs2 b0
  go_loopw [5] (fun l wr => ∃ (m s : Nat) (es1 : List Ed) (A2 : Option Addr) (c2 : Nat) (Al : Option Addr) (nl cl : Nat) (ps : List (Int × Int)), l = .slice Al nl cl ∧ nl + s ≤ 40 ∧ Hid (foldA m ((s : Int), es1) = T) ∧ s ≤ m ∧ Hid (IsGr r s es1) ∧ wr.ownsRow (G + 1) 103 2 (.slice Al nl cl) nl (ints (fdI ps)) ∧
      Hid (wr.ownsRow (w.heap.size + 2) 64 3 (.slice A2 es1.length c2) es1.length (ints (edI es1))) ∧ Hid (Value.ownBlock (.slice A2 es1.length c2) ≠ some G) ∧ Box wr (w.heap.size + 1) [.int .i64 0, .int .i64 0, .slice none 0 0] ∧ Box wr G [.int .i64 r, .int .i64 s, .slice A2 es1.length c2] ∧ Mid 0 0 w wr) (fun _ wr => sizeAt wr G)
  case atStart => exact ⟨40, n, es, A1, c1, _, 0, 0, [], rfl, by omega, HT, hn40, HG, O0, Lib.hid hown0, Lib.hid hbk0, b2, Y3, hm0⟩
  case round =>
    clear O0 hown0 b2 Y3 hm0 hbk0
    obtain ⟨m, s, es1, A2, c2, Al, nl, cl, ps, rfl, hnl, HTm, hsm, HGs, hleft, HE, HBK, b2, Y3, hm⟩ := hrel
    have hl1 := HGs.out.len
    have hs1 : 1 ≤ s := by have := HGs.out.size; omega
    have hlsz := Lib.hid (sizeAt_box Y3)
    have hec : es1.length ≤ c2 := by
      obtain ⟨A', c', hv0, hsc, hcm⟩ := owns_shape HE.out
      injection hv0 with _ _ hv0
      omega
    obtain ⟨p, b, rs, res, hone⟩ := OnceIs.ex (s : Int) es1
    have HO := Lib.hid (impl_FoldOnce r s A2 es1 c2 wr _ _ (owns_rv HE.out).rg hec HGs.out p b rs res hone)
    have HON := Lib.hid hone
    obtain ⟨p1, p2⟩ := p
    clear hone
    have y0 := Y3.cell 0 rfl
    have y1 := Y3.cell 1 rfl
    have y2 := Y3.cell 2 rfl
    go_wp2_with fail
    with_reducible refine HO.out.mono ?_
    rintro en w5 ⟨A3, c3, rfl, hog, hm5⟩
    have hGr : G < wr.heap.size := Y3.1
    have hw2r : w.heap.size + 2 ≤ wr.heap.size := by omega
    have hE5 := owns_mid HE.out hm5 oZl
    replace b2 := b2.mid hm5 oZr
    replace Y3 := Y3.mid hm5 oZr
    replace hleft := owns_mid hleft hm5 oZl
    replace hm := hm.trans hm5
    clear HO y0 y1 y2 HE
    have hal1 := Mid.alloc w5 (.cells #[.int .i64 r, .int .i64 rs, .slice A3 res.length c3] 32)
    have hal2 := Mid.alloc (w5.alloc (.cells #[.int .i64 r, .int .i64 rs, .slice A3 res.length c3] 32)) (.cells #[.int .i64 p1, .int .i64 p2] 103)
    have bh := (Box.new w5 #[.int .i64 r, .int .i64 rs, .slice A3 res.length c3] 32).mid hal2 oZr
    have bp := Box.new (w5.alloc (.cells #[.int .i64 r, .int .i64 rs, .slice A3 res.length c3] 32)) #[.int .i64 p1, .int .i64 p2] 103
    rw [World.size_alloc] at bp
    have hal := hal1.trans hal2
    have hs5 := hm5.size
    have hG5 : G < w5.heap.size := Y3.1
    have hG6 : G < w5.heap.size + 1 := by omega
    have hb5 : w.heap.size + 1 < w5.heap.size := b2.1
    have hb6 : w.heap.size < w5.heap.size := by omega
    have yf := Y3.2.2
    have y0 := Y3.cell 0 rfl
    have y1 := Y3.cell 1 rfl
    have y2 := Y3.cell 2 rfl
    cases b with
    | false =>
      have af := b2.2.2
      have a0 := b2.cell 0 rfl
      have a1 := b2.cell 1 rfl
      have a2 := b2.cell 2 rfl
      have hfn : folds es1 = [] ∧ True := by
        rcases HON.out with h | h
        · exact ⟨h.2.1, trivial⟩
        · exact absurd h.1 (by decide)
      have hTT := HTm.out
      rw [foldA_nil (g := ((s : Int), es1)) hfn.1] at hTT
      have HTT := Lib.hid hTT
      clear hTT hfn
      go_wp2_with fail
      refine bodyPost_ret (v := .tuple #[.agg #[.int .i64 r, .int .i64 s, .slice A2 es1.length c2], .slice Al nl cl]) (by simp [results, Tryz.results88, go_sem, a0, a1, a2, af, hb5, hb6, World.cell?_alloc_lt]) rfl ⟨A2, c2, Al, nl, cl, by rw [← HTT.out], ?_, ?_⟩
      · rw [← HTT.out]
        have h0 : OG w5 (w.heap.size + 2) w5.heap.size A2 c2 es1 := ⟨Nat.le_refl _, hE5, fun g hg => (hE5.lt g hg).2⟩
        refine OG.wide (OG.mid h0 (a := w.heap.size + 1) (b := w.heap.size + 2) ?_ (Or.inl (Nat.le_refl _))) (by omega) (by simp; try omega) (Nat.le_refl _)
        repeat (first | exact Mid.refl _ _ _ | refine Mid.trans ?_ (Mid.alloc _ _).zero | refine Mid.stored ?_ _ (by simp; try omega) (by simp; try omega))
      · repeat (first | exact hm | refine Mid.trans ?_ (Mid.alloc _ _) | refine Mid.storeNew ?_ (by simp; try omega) _)
    | true =>
      obtain ⟨t, htt⟩ : ∃ t, folds es1 = (p1, p2) :: t := by
        rcases HON.out with h | h
        · exact absurd h.1 (by decide)
        · exact h.2.1
      obtain ⟨rfl, rfl⟩ : rs = (s : Int) - 1 ∧ res = mergeE (p1, p2) es1 := by
        rcases HON.out with h | h
        · exact absurd h.1 (by decide)
        · exact h.2.2
      obtain ⟨k1, k2, k3⟩ := mem_folds HGs.out.all HGs.out.asc (p := (p1, p2)) (by rw [htt]; simp)
      obtain ⟨m', rfl⟩ : ∃ m', m = m' + 1 := ⟨m - 1, by omega⟩
      have hTT := HTm.out
      rw [foldA_cons (g := ((s : Int), es1)) htt] at hTT
      simp only at hTT
      have HTT := Lib.hid hTT
      have HG2 := Lib.hid (mergeE_gr HGs.out k1 k2 k3)
      clear hTT htt k1 k2 k3 HON
      obtain ⟨s', rfl⟩ : ∃ s', s = s' + 1 := ⟨s - 1, by omega⟩
      rw [show ((s' + 1 : Nat) : Int) - 1 = (s' : Int) by omega] at HTT HG2 hal hal1 hal2 bh bp ⊢
      obtain ⟨me, hme⟩ : ∃ me, mergeE (p1, p2) es1 = me := ⟨_, rfl⟩
      rw [hme] at HTT HG2 hal hal1 hal2 bh bp hog ⊢
      clear hme
      have hst := (Mid.setAt w5 G 0 (.int .i64 r)).trans ((Mid.setAt (w5.setCell ⟨G, 0, none⟩ (.int .i64 r)) G 1 (.int .i64 s')).trans (Mid.setAt ((w5.setCell ⟨G, 0, none⟩ (.int .i64 r)).setCell ⟨G, 1, none⟩ (.int .i64 s')) G 2 (.slice A3 me.length c3)))
      have Y5 := ((Y3.set 0 (.int .i64 r) (by simp) rfl).set 1 (.int .i64 s') (by simp) rfl).set 2 (.slice A3 me.length c3) (by simp) rfl
      have hm6 := ((hm.storeNew (p := ⟨G, 0, none⟩) (by show w.heap.size ≤ G; omega) (.int .i64 r)).storeNew (p := ⟨G, 1, none⟩) (by show w.heap.size ≤ G; omega) (.int .i64 s')).storeNew (p := ⟨G, 2, none⟩) (by show w.heap.size ≤ G; omega) (.slice A3 me.length c3)
      have b6 := b2.mid hst (Or.inl (by omega))
      have hleft6 := owns_mid hleft hst (Or.inl (Nat.le_refl _))
      have hog6 := OG.mid hog hst (Or.inl hGr)
      have ha2 := (Mid.alloc (((w5.setCell ⟨G, 0, none⟩ (.int .i64 r)).setCell ⟨G, 1, none⟩ (.int .i64 s')).setCell ⟨G, 2, none⟩ (.slice A3 me.length c3)) (.cells #[.int .i64 r, .int .i64 s', .slice A3 me.length c3] 32)).trans (Mid.alloc _ (.cells #[.int .i64 p1, .int .i64 p2] 103))
      replace b6 := b6.mid ha2 oZr
      replace Y5 := Y5.mid ha2 oZr
      replace hleft6 := owns_mid hleft6 ha2 oZl
      replace hm6 := hm6.trans ha2
      replace hog6 := OG.mid hog6 ha2 oZl
      have hWs : (((((w5.setCell ⟨G, 0, none⟩ (.int .i64 r)).setCell ⟨G, 1, none⟩ (.int .i64 s')).setCell ⟨G, 2, none⟩ (.slice A3 me.length c3)).alloc (.cells #[.int .i64 r, .int .i64 s', .slice A3 me.length c3] 32)).alloc (.cells #[.int .i64 p1, .int .i64 p2] 103)).heap.size = w5.heap.size + 1 + 1 := by simp
      have HL := Lib.hid hleft6
      have HY := Lib.hid Y5
      have HB := Lib.hid b6
      have HM := Lib.hid hm6
      have HO6 := Lib.hid hog6
      clear hleft6 Y5 b6 hm6 hog6 ha2 hst hleft b2 hm hog hE5 hal hal1 hal2 bh bp
      go_wp2_with (at_builtin; refine wpList_pushF rfl _ _ rfl (G + 1) Al nl cl ps rfl HL.out (p1, p2) (by rw [hWs]; rfl) (by omega) (by rw [hWs]; omega) ?_; intro A9 c9 w9 hl9 hgr9 hat9)
      have hm9 := Mid.of_grownRow HL.out hgr9
      have hmo := (HO6.out).2.1
      have hE9 := (owns_base hmo hw2r).kept hgr9 (owns_ne hmo HL.out (by decide))
      have hbk9 : Value.ownBlock (.slice A3 me.length c3) ≠ some G := fun h => by have := (hmo.lt _ h).1; omega
      have Y9 := HY.out.mid hm9 (Or.inl (Nat.lt_succ_self _))
      have hmsz := hlsz.out
      go_roundw
      case rel => exact ⟨m', s', me, A3, c3, A9, nl + 1, c9, ps ++ [(p1, p2)], rfl, by omega, HTT, by omega, HG2, hl9, Lib.hid hE9, Lib.hid hbk9, HB.out.mid hm9 (Or.inl (by omega)), Y9, HM.out.transNew hm9 (Or.inl (by omega))⟩
      case measure => rw [hmsz, sizeAt_box Y9]; omega
end Go.Proofs.YtkaofcakelpnpaaGreat

namespace Go.Proofs.YtkaofcakelpnpaaGreat
set_option linter.unusedVariables false
set_option linter.unusedSimpArgs false
open Go.RowKit
set_option maxHeartbeats 1600000 in
theorem spec_l7New (p1 p2 v : Int) (w : World) (h0 : p1 < p2) (h1 : 0 ≤ v) (h2 : v < 1000000) :
    Calls Tryz.prog 131 #[.int .i64 v, .agg #[.int .i64 p1, .int .i64 p2]] w fun e w' => e = .returned (.int .i64 (foldV (p1, p2) v)) ∧ Mid 0 0 w w' := by
  have hm0 : Mid 0 0 w (w.alloc (.cells #[.int .i64 p1, .int .i64 p2] 103)) := Mid.alloc _ _
  have b0 := Box.new w #[.int .i64 p1, .int .i64 p2] 103
  go_enter Tryz.func131, Tryz.ntmps131
  have q0 := b0.cell 0 rfl
  have q1 := b0.cell 1 rfl
  rcases (by omega : v = p2 ∨ p2 < v ∨ v < p2) with h | h | h
  · subst h
    have d1 : (v == v) = true := by simp
    have d2 : decide (v < p1) = false := by simp; omega
    have hf : foldV (p1, v) v = p1 := by simp [foldV]
    have HF := Lib.hid hf
    clear hf
    go_wp2_with fail
    go_ret
    exact ⟨by rw [HF.out]; rfl, hm0⟩
  · have d1 : (v == p2) = false := by simp only [beq_eq_false_iff_ne]; omega
    have hf : foldV (p1, p2) v = v - 1 := by unfold foldV; rw [if_neg (by omega), if_pos (by simpa using h)]
    have HF := Lib.hid hf
    clear hf
    go_wp2_with fail
    go_ret
    exact ⟨by rw [HF.out]; rfl, hm0⟩
  · have d1 : (v == p2) = false := by simp only [beq_eq_false_iff_ne]; omega
    have hn : ¬ p2 < v := by omega
    have hf : foldV (p1, p2) v = v := by unfold foldV; rw [if_neg (by omega), if_neg (by simpa using hn)]
    have HF := Lib.hid hf
    clear hf
    go_wp2_with fail
    go_ret
    exact ⟨by rw [HF.out]; rfl, hm0⟩
end Go.Proofs.YtkaofcakelpnpaaGreat
