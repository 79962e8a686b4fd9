/- Contracts and lemmas of this seat, many texts in one: see the words ahead of each. No condition beyond those typed in each lemma. -/
import Derived.Test.YtkimajabegojoaaGreatNi9
import Derived.Test.YtkimajabegojoaaGreatNi10
import Derived.Test.YtkimajabegojoaaGreatNi6
import Derived.Test.YtkimajabegojoaaGreatNi5
import Derived.Test.YtkimajabegojoaaGreatNi3
import Derived.Test.YtkimajabegojoaaGreatNi7
import Derived.Test.YtkimajabegojoaaGreatNi4
import Derived.Test.YtkimajabegojoaaGreatNi1
import Derived.Test.YtkimajabegojoaaGreatNi2

namespace Go.Proofs.YtkimajabegojoaaGreat
set_option linter.unusedVariables false
set_option linter.unusedSimpArgs false
set_option maxHeartbeats 40000000
set_option maxRecDepth 100000
section
open Go.RowKit
theorem next_true {d:List (List Int)} {m:Mv} (h:nextM d=some m):(applyM d m).2=true:=by
 rcases nextM_split h with ⟨i,_,e⟩ | ⟨_,i,k,n,xs,ys,_,_,_,_,e,_⟩ <;> rw [e]
theorem replay_run (d0:List (List Int)):∀ (n:Nat) (d:List (List Int)),replayM d0 (runN n d).2 d=((runN n d).1,true)
 | 0,d=>rfl
 | n+1,d=>by
  cases h:nextM d with
  | none=>rw [runN_none h];rfl
  | some m =>
   rw [runN_some h]
   show (if (applyM d m).2=true then replayM d0 (runN n (applyM d m).1).2 (applyM d m).1 else (d0,false))=_
   rw [if_pos (next_true h)];exact replay_run d0 n _
theorem sumL_leC {c:Nat}:∀ {l:List (List Int)},(∀ w∈l,w.length≤c)→sumL l≤c * l.length
 | [],_=>by simp [sumL]
 | w :: l,h=>by
  have h1:=h w (List.mem_cons_self ..);have h2:=sumL_leC (l:=l) fun x hx=>h x (List.mem_cons_of_mem _ hx);have e:sumL (w :: l)=w.length+sumL l:=by simp [sumL]
  rw [e,List.length_cons,Nat.mul_succ];omega
theorem OkL.sum {d:List (List Int)} (h:OkL d):sumL d≤15:=by
 have h1:=sumL_leC (c:=5) fun w hw=>(h.ok w hw).2.2;have:=h.len;omega
theorem OkL.oks {d:List (List Int)} (h:OkL d):OkSS d:=⟨⟨by have:=h.len;omega,fun xs hx=>by have:=(h.ok xs hx).2.2;omega⟩,fun xs hx=>(h.ok xs hx).1.ok⟩
theorem fit_run:∀ (n:Nat) {d:List (List Int)},OkL d→FitM (runN n d).2 d
 | 0,d,h=>by
  show d.length+sumL d≤1048576
  have h1:=h.len;have h2:=h.sum;omega
 | n+1,d,h=>by
  have h1:=h.len;have h2:=h.sum;cases hm:nextM d with
  | none =>
   rw [runN_none hm]
   show d.length+sumL d≤1048576
   omega
  | some m =>
   rw [runN_some hm];exact ⟨h.oks,by omega,fun _=>fit_run n (step_less h hm).1⟩
theorem isW_rdA {w:List Int} (h:LtW w) (hr:Rd w) (h3:w.length≤24):IsW 3 w :=
 ⟨by decide,by decide,h3,fun y hy=>by have:=h y hy;unfold Lt3 at this;omega,fun k x y hx hy e=>by
  obtain ⟨hk,ex⟩:=List.getElem?_eq_some_iff.1 hx;obtain ⟨hk2,ey⟩:=List.getElem?_eq_some_iff.1 hy;refine hr (w.take k) (w.drop (k+2)) x ?_;rw [← e,← ex,← ey,← List.drop_eq_getElem_cons hk2,← List.drop_eq_getElem_cons hk,List.take_append_drop]⟩
theorem OkL.areW {d:List (List Int)} (h:OkL d):AreW 3 d :=
 ⟨by decide,by decide,by have:=h.len;omega,fun xs hx=>isW_rdA (h.ok xs hx).1 (h.ok xs hx).2.1 (by have:=(h.ok xs hx).2.2;omega),by have:=h.sum;omega⟩
theorem run_same {d:List (List Int)} (h:OkL d):subA 3 (runN 400 d).1=subA 3 d:=by
 have h2:=(run_400 h).2;have g1:=flow_gr h.areW;have g2:=flow_gr h2.areW;have hl:∀ w,LtW w→(InS (subA 3 (runN 400 d).1).2 w↔InS (subA 3 d).2 w):=fun w hw=>by
  have a:=core_lang g2 hw;have b:=core_lang g1 hw;exact a.trans ((genL_gn h2.g g2 hw).trans (((run_gn 400 h.g).2 w).trans ((genL_gn h.g g1 hw).symm.trans b.symm)))
 obtain ⟨e1,e2⟩:=core_uniqI (core_cor g2) (core_cor g1) hl;exact Prod.ext e1 e2
theorem run_rank {d:List (List Int)} (h:OkL d):rankI 3 (subA 3 (runN 400 d).1).1 (subA 3 (runN 400 d).1).2=((runN 400 d).1.length:Int):=by
 have h2:=run_400 h;have g2:=flow_gr h2.2.areW;have e:=nr_rank (r:=3) g2 h2.2 h2.1;unfold rankI;rw [if_pos (show IsCor 3 (subA 3 (runN 400 d).1).1 (subA 3 (runN 400 d).1).2 from core_cor g2)];exact e
theorem cmpN_swap {a b:List Int} (ha:OkI a) (hb:OkI b):cmpN b a = -cmpN a b:=by
 have h1:=halves_ok ha;have h2:=halves_ok hb;have e1:=cmpW_swap (a:=(halves a).1) (b:=(halves b).1) (fun x hx=>(h1.1 x hx).1) (fun x hx=>(h2.1 x hx).1);have e2:=cmpW_swap (a:=(halves a).2) (b:=(halves b).2) (fun x hx=>(h1.2 x hx).1) (fun x hx=>(h2.2 x hx).1);unfold cmpN;rw [e1,e2];rcases Nat.lt_trichotomy a.length b.length with h | h | h
 ·rw [if_neg (show ¬ b.length < a.length by omega),if_pos h,if_pos h]
  rfl
 ·rw [if_neg (show ¬ b.length < a.length by omega),if_neg (show ¬ a.length < b.length by omega),if_neg (show ¬ a.length < b.length by omega),if_neg (show ¬ b.length < a.length by omega)]
  by_cases hz:cmpW (halves a).1 (halves b).1=0
  ·rw [if_pos (by omega),if_pos hz]
  ·rw [if_neg (by omega),if_neg hz]
 ·rw [if_pos h,if_neg (show ¬ a.length < b.length by omega),if_pos h]
theorem sbL_pos (d:Nat→List Int) (i:Nat):sbL d ((i:Int)+1)=d i:=by
 unfold sbL;rw [if_pos (by omega)]
 congr 1
theorem sbL_negI (d:Nat→List Int) (i:Nat):sbL d (-((i:Int)+1))=invW (d i):=by
 unfold sbL;rw [if_neg (by omega)]
 congr 2
theorem run_prod {y:List (List Int)} (h:OkL y) (hn:nextM y=none) {i k:Nat} {a b:List Int} (hik:i≠k) (ha:y[i]?=some a) (hb:y[k]?=some b) :
  (a.length≤(red [] (a++b)).length∧b.length≤(red [] (a++b)).length)∧(a.length≤(red [] (a++invW b)).length∧b.length≤(red [] (a++invW b)).length):=by
 have hNR:=nr_of_no h hn;have hi:i < y.length:=(List.getElem?_eq_some_iff.1 ha).1;have hk:k < y.length:=(List.getElem?_eq_some_iff.1 hb).1;have ea:atW y i=a:=by unfold atW;rw [List.getD_eq_getElem?_getD,ha];rfl
 have eb:atW y k=b:=by unfold atW;rw [List.getD_eq_getElem?_getD,hb];rfl
 have lk:∀ j,j < y.length→LtK y.length [(j:Int)+1]∧LtK y.length [-((j:Int)+1)]:=fun j hj =>
  ⟨fun x hx=>by simp at hx;subst hx;omega,fun x hx=>by simp at hx;subst hx;omega⟩
 have p1:=hNR.no1 ((i:Int)+1) ((k:Int)+1) (lk i hi).1 (lk k hk).1 (by omega) (by omega);have p2:=hNR.no2 ((i:Int)+1) ((k:Int)+1) (lk i hi).1 (lk k hk).1 (by omega) (by omega);have p3:=hNR.no1 ((i:Int)+1) (-((k:Int)+1)) (lk i hi).1 (lk k hk).2 (by omega) (by omega);have p4:=hNR.no2 ((i:Int)+1) (-((k:Int)+1)) (lk i hi).1 (lk k hk).2 (by omega) (by omega);rw [sbL_pos,sbL_pos,ea,eb] at p1 p2;rw [sbL_pos,sbL_negI,ea,eb] at p3 p4;have l4:=invW_len b;have f:∀ {u v:List Int},¬ LessN u v→v.length≤u.length:=by
  intro u v hh;have:¬ u.length < v.length:=fun hl=>hh (Or.inl hl);omega
 have q4:=f p4;exact ⟨⟨f p1,f p2⟩,⟨f p3,by omega⟩⟩
theorem run_sum (d:List (List Int)):sumL (runN 400 d).1≤sumL d:=(runN_less 400 d).1.sum
end
section
open Go.RowKit
def NextMoveIs (d:List (List Int)) (res:Mv) (b:Bool):Prop:=mvD (nextM d)=res∧(nextM d).isSome=b
theorem NextMoveIs_ex (d:List (List Int)) (_:OkSS d) (_:d.length+sumL d≤1048576):∃ res b,NextMoveIs d res b:=⟨_,_,rfl,rfl⟩
theorem sspec_NextMove (A:Option Addr) (d:List (List Int)) (c:Nat) (w:World) (lo hi:Nat) (h:OSS w lo hi 44 3 A c d) (ho:OkSS d) (hl:d.length+sumL d≤1048576) (res:Mv) (b:Bool) (hres:NextMoveIs d res b) :
  Calls Tryz.prog 28 #[.slice A d.length c] w fun e w'=>e=.returned (.tuple #[.agg #[.int .i64 res.kind,.int .i64 res.i,.int .i64 res.j,.int .i64 res.sign],.bool b])∧Mid 0 0 w w':=by
 obtain ⟨rfl,rfl⟩:=hres;exact spec_NextMove A d c w lo hi h.rsc ho.2 hl
theorem simpl_NextMove (A:Option Addr) (d:List (List Int)) (c:Nat) (w:World) (lo hi:Nat) (h:OSS w lo hi 44 3 A c d) (ho:OkSS d) (hl:d.length+sumL d≤1048576) (res:Mv) (b:Bool) (hres:NextMoveIs d res b) :
  Calls Tryz.prog 27 #[.slice A d.length c] w fun e w'=>e=.returned (.tuple #[.agg #[.int .i64 res.kind,.int .i64 res.i,.int .i64 res.j,.int .i64 res.sign],.bool b])∧Mid 0 0 w w':=by
 obtain ⟨rfl,rfl⟩:=hres;exact impl_NextMove A d c w lo hi h.rsc ho.2 hl
end
section
open Go.RowKit
theorem next_okMv {d:List (List Int)} {m:Mv} (hl:d.length≤1000) (h:nextM d=some m):OkMv m:=by
 unfold nextM at h;rcases hD:(List.range d.length).findSome? (tryD d) with _ | m'
 ·rw [hD] at h
  obtain ⟨i,hi,h1⟩:=find_some_at h;obtain ⟨k,hk,h2⟩:=find_some_at h1;obtain ⟨n,hn,h3⟩:=find_some_at h2;unfold tryN at h3;split at h3
  ·obtain rfl:=Option.some.inj h3
   unfold OkMv In64 mvOf;simp only;omega
  ·cases h3
 ·rw [hD] at h
  obtain rfl:=Option.some.inj h;obtain ⟨i,hi,h1⟩:=find_some_at hD;unfold tryD at h1;split at h1
  ·obtain rfl:=Option.some.inj h1
   unfold OkMv In64;simp only;omega
  ·cases h1
theorem run_okMv:∀ (n:Nat) {d:List (List Int)},OkL d→∀ m∈(runN n d).2,OkMv m
 | 0,d,h=>fun m hm=>by simp [runN] at hm
 | n+1,d,h=>fun m hm=>by
  cases hx:nextM d with
  | none=>rw [runN_none hx] at hm;simp at hm
  | some x =>
   rw [runN_some hx] at hm;rcases List.mem_cons.1 hm with rfl | hm
   ·exact next_okMv (by have:=h.len;omega) hx
   ·exact run_okMv n (step_less h hx).1 m hm
theorem spec_AreWordsM (rk:Int) (A:Option Addr) (d:List (List Int)) (c:Nat) (w:World) (lo hi:Nat) (hr:RSS w lo hi A d) (hok:∀ xs∈d,OkI xs) (hl:d.length+sumL d≤1048576) (r:Bool) (hres:r=true↔AreW rk d) :
  Calls Tryz.prog 14 #[.int .i64 rk,.slice A d.length c] w fun e w'=>e=.returned (.bool r)∧Mid 0 0 w w':=by
 refine (spec_AreWords rk A d c w lo hi hr hok hl r hres).mono ?_;rintro e w' ⟨rfl,n,rfl⟩;exact ⟨rfl,(Mid.refl 0 0 w).drewN n⟩
theorem OkL.oki {d:List (List Int)} (h:OkL d):∀ xs∈d,OkI xs:=fun xs hx=>(h.ok xs hx).1.ok
theorem nrIs {d:List (List Int)} (h:OkL d) (hn:nextM d=none):IsNielsenReducedIs d true:=by
 unfold IsNielsenReducedIs;exact iff_of_true rfl ⟨h.areW,hn⟩
theorem spec_TotalLengthM (A:Option Addr) (d:List (List Int)) (c:Nat) (w:World) (lo hi:Nat) (hr:RSS w lo hi A d) (hl:d.length+sumL d≤1048576) :
  Calls Tryz.prog 20 #[.slice A d.length c] w fun e w'=>e=.returned (.int .i64 (sumL d:Nat))∧Mid 0 0 w w':=by
 refine (spec_TotalLength A d c w lo hi hr hl).mono ?_;rintro e w' ⟨rfl,rfl⟩;exact ⟨rfl,Mid.refl 0 0 w⟩
end
section
open Go.RowKit
structure Sml (d:List (List Int)):Prop where
 ok:OkSS d
 len:d.length+sumL d≤1048576
theorem Sml.cnt {d:List (List Int)} (h:Sml d):d.length≤1048576:=by have:=h.len;omega
theorem Sml.row {d:List (List Int)} (h:Sml d):∀ x∈d,x.length≤1048576:=fun x hx=>by have:=h.len;have:=len_le_sumL hx;omega
theorem Sml.oki {d:List (List Int)} (h:Sml d):∀ xs∈d,OkI xs:=h.ok.2
theorem Sml.of {d:List (List Int)} (h:∀ xs∈d,OkI xs) (hl:d.length+sumL d≤1048576):Sml d :=
 ⟨⟨⟨by omega,fun x hx=>by have:=len_le_sumL hx;omega⟩,h⟩,hl⟩
theorem LW.sml {l:List (List Int)} (h:LW l):Sml l:=⟨h.ok,by have:=h.sum;omega⟩
theorem rowAt_okI {l:List (List Int)} (h:∀ xs∈l,OkI xs) (i:Int):OkI (rowAt l i):=by
 unfold rowAt;rw [List.getD_eq_getElem?_getD];cases hx:l[i.toNat]? with
 | none=>intro x hx;simp at hx
 | some xs=>exact h xs (List.mem_of_getElem? hx)
theorem mvWord_okI {l:List (List Int)} (h:∀ xs∈l,OkI xs) (m:Mv):OkI (mvWord l m):=by
 unfold mvWord;split
 ·exact invW_okA (rowAt_okI h _)
 ·exact rowAt_okI h _
theorem okI_appV {a b:List Int} (h:OkI a) (k:OkI b):OkI (a++b):=fun x hx=>(List.mem_append.1 hx).elim (h x) (k x)
theorem applyM_okI {l:List (List Int)} (h:∀ xs∈l,OkI xs) (m:Mv):∀ xs∈(applyM l m).1,OkI xs:=by
 unfold applyM;split
 ·exact h
 split
 ·intro xs hx
  rcases mem_set_or hx with hx | rfl
  ·exact h xs hx
  ·exact invW_okA (rowAt_okI h _)
 split
 ·split
  ·exact h
  ·exact fun xs hx=>h xs (List.mem_of_mem_eraseIdx hx)
 split
 ·exact h
 split
 ·intro xs hx
  rcases mem_set_or hx with hx | rfl
  ·exact h xs hx
  ·exact red_ok (okI_appV (rowAt_okI h _) (mvWord_okI h _))
 split
 ·intro xs hx
  rcases mem_set_or hx with hx | rfl
  ·exact h xs hx
  ·exact red_ok (okI_appV (mvWord_okI h _) (rowAt_okI h _))
 ·exact h
theorem applyM_sml {d:List (List Int)} (h:Sml d) (hl:d.length+sumL d≤500000) (m:Mv):Sml (applyM d m).1 :=
 Sml.of (applyM_okI h.ok.2 m) (by have:=applyM_len d m;omega)
theorem fit_any:∀ (ms:List Mv) (x:List (List Int)) (B:Nat),(∀ xs∈x,OkI xs)→x.length+sumL x≤B→B * 2 ^ ms.length≤1048576→FitM ms x
 | [],x,B,_,h1,h2=>by
  have:x.length+sumL x≤1048576:=by rw [List.length_nil,Nat.pow_zero] at h2;omega
  exact this
 | m :: t,x,B,ho,h1,h2=>by
  have h3:B * 2 * 2 ^ t.length≤1048576:=by rw [List.length_cons,Nat.pow_succ,Nat.mul_comm (2 ^ t.length),← Nat.mul_assoc] at h2;exact h2
  have h4:1≤2 ^ t.length:=Nat.one_le_two_pow;have h5:B * 2≤1048576:=Nat.le_trans (Nat.le_mul_of_pos_right _ h4) h3;refine ⟨(Sml.of ho (by omega)).ok,by omega,fun _=>?_⟩;exact fit_any t _ (B * 2) (applyM_okI ho m) (by have:=applyM_len x m;omega) h3
theorem replay_sml (d:List (List Int)) (hd:Sml d):∀ (ms:List Mv) (x:List (List Int)),(∀ xs∈x,OkI xs)→FitM ms x→Sml (replayM d ms x).1
 | [],x,ho,h=>Sml.of ho h.len
 | m :: t,x,ho,h=>by
  unfold replayM;split
  ·rename_i hm
   exact replay_sml d hd t _ (applyM_okI ho m) (h.2.2 hm)
  ·exact hd
theorem drawn_fit {l:List (List Int)} {ms:List Mv} (h:LW l) (hm:ms.length≤3):FitM ms l :=
 fit_any ms l 18 h.ok.2 h.sum (by
  have:2 ^ ms.length≤2 ^ 3:=Nat.pow_le_pow_right (by omega) hm;omega)
theorem drawn_nr {l l0:List (List Int)} (h0:LW l0) (h:l=l0 ∨ ∃ ms,runN 400 l0=(l,ms)):Sml l:=by
 rcases h with rfl | ⟨ms,h⟩
 ·exact h0.sml
 ·have h1:=(runN_less 400 l0).1
  rw [h] at h1;have hs:=h0.sum;exact Sml.of (h1.ok h0.ok.2) (by have:=h1.len;have:=h1.sum;simp only at *;omega)
theorem drawn_mv {ms:List Mv} (h:∀ m∈ms,MvB m.kind m.i m.j m.sign):∀ m∈ms,OkMv m:=fun m hm=>(h m hm).of
theorem cmpN_rng (a b:List Int):-1≤cmpN a b∧cmpN a b≤1:=by
 have h1:=cmpW_vals (halves a).1 (halves b).1;have h2:=cmpW_vals (halves a).2 (halves b).2;unfold cmpN;split
 ·omega
 split
 ·omega
 split <;> omega
theorem cmpN_two {a b:List Int} (ha:OkI a) (hb:OkI b):∃ z y:Int,CompareNielsenIs a b z∧CompareNielsenIs b a y∧-1≤y∧y≤1∧z = -y :=
 ⟨cmpN a b,cmpN b a,rfl,rfl,(cmpN_rng b a).1,(cmpN_rng b a).2,by rw [cmpN_swap ha hb,Int.neg_neg]⟩
theorem impl_RankOfN (r s:Int) (A:Option Addr) (es:List Ed) (c:Nat) (w:World) (lo hi:Nat) (hr:RG w lo hi A es) (hl:es.length≤1048576) (hcl:es.length≤c) (k:Int) (hk:rankI r s es=k) :
  Calls Tryz.prog 19 #[graV r s A es.length c] w fun e w'=>e=.returned (.int .i64 k)∧Mid 0 0 w w':=by
 subst hk;exact impl_RankOf r s A es c w lo hi hr hl hcl
theorem spec_TotalLengthN (A:Option Addr) (d:List (List Int)) (c:Nat) (w:World) (lo hi:Nat) (hr:RSS w lo hi A d) (hl:d.length+sumL d≤1048576) (t:Int) (ht:((sumL d:Nat):Int)=t) :
  Calls Tryz.prog 20 #[.slice A d.length c] w fun e w'=>e=.returned (.int .i64 t)∧Mid 0 0 w w':=by
 subst ht;exact spec_TotalLengthM A d c w lo hi hr hl
end
section
open Go.ChangeShapes Go.WideShapes Go.ChangeAt Go.RowKit
open Go.Joins
theorem undSU6:Tryz.prog.underlying 22=some (.slice 5):=by kernel_rfl
theorem undU6:Tryz.prog.underlying 5=some (.int .u8):=by kernel_rfl
theorem cellsU:Tryz.prog.cellsOf 5=1:=by kernel_rfl
section
variable {H:Type} {enc:TypeId × Value→H} {P:Program} {W:World} {T E:TypeId}
theorem byts_of_cells (uT:P.underlying T=some (.slice E)) (uE:P.underlying E=some (.int .u8)) (cE:P.cellsOf E=1) {fuel:Nat} {A:Option Addr} {len c:Nat} {x:DataW H × List MemPlace}
  (h:DataW.trod enc P W 0 (fun _=>true) true fuel T [.slice A len c]=some x):∃ xs:List Int,len=xs.length∧RV W 0 W.heap.size A (byts xs)∧OkB xs∧xs.length≤9223372036854775807:=by
 rcases open_ints uT uE cE h with ⟨hcs,_⟩ | ⟨a,l,cc,zs,hcs,_,hl,hm,hz,_,hcell,hwz⟩
 ·simp at hcs
  obtain ⟨rfl,rfl,rfl⟩:=hcs;exact ⟨[],rfl,⟨Nat.le_refl _,fun hn=>absurd rfl hn⟩,fun x hx=>by simp at hx,by simp⟩
 ·simp at hcs
  obtain ⟨rfl,rfl,rfl⟩:=hcs;simp at hz;refine ⟨zs.take len,by simp;omega,⟨Nat.le_refl _,fun hn=>?_⟩,fun x hx=>bounds_u8 (hwz x (List.mem_of_mem_take hx)),by unfold maxLen at hm;simp;omega⟩;have hp:0 < zs.length:=by
   rcases Nat.eq_zero_or_pos zs.length with h0 | h0
   ·have:=List.eq_nil_of_length_eq_zero h0
    subst this;simp [byts] at hn
   ·exact h0
  obtain ⟨b,off,rfl,hc⟩:=ints_at hcell hp;refine ⟨b,off,rfl,Nat.zero_le _,World.block_lt_of_cell? _ _ (hc 0 hp),fun j u hu=>?_⟩;have hj:j < zs.length:=by
   have:=(List.getElem?_eq_some_iff.1 hu).1;simp [byts] at this;omega
  rw [hc j hj];unfold byts at hu;rw [List.getElem?_map,List.getElem?_take] at hu;split at hu
  ·rw [List.getElem?_eq_getElem hj] at hu
   simp at hu;rw [← hu];simp [List.getD,List.getElem?_eq_getElem hj]
  ·simp at hu
theorem open_byteS (uT:P.underlying T=some (.slice E)) (uE:P.underlying E=some (.int .u8)) (cE:P.cellsOf E=1) {r:Reach} {base:Nat} {v:Value} {d:DataW H} {ps:List MemPlace}
  (hok:Value.okWide P W r base T v) (h:DataW.Trod enc P W 0 (fun _=>true) true T v d ps):∃ A xs c,v=.slice A (List.length xs) c∧RV W 0 W.heap.size A (byts xs)∧OkB xs∧xs.length≤9223372036854775807:=by
 obtain ⟨A,len,c,rfl⟩:=okWide_slice uT hok;obtain ⟨fuel,hf⟩:=h;obtain ⟨xs,rfl,h1,h2⟩:=byts_of_cells (A:=A) (len:=len) (c:=c) uT uE cE (by simpa [Value.cells] using hf);exact ⟨A,xs,c,rfl,h1,h2⟩
end
end
end Go.Proofs.YtkimajabegojoaaGreat
