/- Contracts and lemmas of this seat, many texts in one: see the words ahead of each. No condition beyond those typed in each lemma. -/
import Derived.Test.YthampgpcajmopaaGreatAc13
import Derived.Test.YthampgpcajmopaaGreatAc11
import Derived.Test.YthampgpcajmopaaGreatAc7
import Derived.Lib.MinMax
import Derived.Test.YthampgpcajmopaaGreatAc12
import Derived.Test.YthampgpcajmopaaGreatAc4
import Derived.Test.YthampgpcajmopaaGreatAc9
import Derived.Test.YthampgpcajmopaaGreatAc5
import Derived.Test.YthampgpcajmopaaGreatAc3

namespace Go.Proofs.YthampgpcajmopaaGreat
set_option linter.unusedVariables false
set_option linter.unusedSimpArgs false
set_option maxHeartbeats 40000000
set_option maxRecDepth 100000
section
open Go.RowKit
theorem l1Once_2 (p:Nat) (A:Option Addr) (bs:List Int) (c:Nat) (w:World) (hb:OkB bs) (hl:bs.length≤1048576) (h:Cur w p A bs c) :
  Calls Tryz.prog 125 #[.pointer (some ⟨p,0,none⟩),.int .i64 2] w fun e w'=>∃ x:Bool,e=.returned (.bool x)∧Cur w' p A bs c∧Mid p (p+1) w w':=l1Once_any 2 (by omega) (by omega) p A bs c w hb hl h
end
section
open Go.RowKit
end
section
open Go.RowKit
theorem ltW_okI {p:List Int} (h:LtW p):OkI p:=fun x hx=>by
 have:=h x hx;unfold Lt3 at this;omega
end
section
open Go.RowKit
theorem l18Both_any (A:Option Addr) (bs:List Int) (c:Nat) (w:World) (hi:Nat) (hb:OkB bs) (hl:bs.length≤1048576) (hr:RV w 0 hi A (byts bs)) :
  Calls Tryz.prog 144 #[.slice A bs.length c] w fun e w'=>∃ r s A1 c1 es A2 c2 xs,e=.returned (.tuple #[graV r s A1 (List.length es) c1,.slice A2 (List.length xs) c2])∧DrG r s es∧(xs.length≤7∧OkI xs)∧OG w' w.heap.size w'.heap.size A1 c1 es∧OI w' w.heap.size w'.heap.size A2 c2 xs∧Mid 0 0 w w':=by
 have hal:=Mid.alloc w (.cells #[.int .i64 0,.int .i64 0,.slice none 0 0] 26);have B2:=Box.new w #[.int .i64 0,.int .i64 0,.slice none 0 0] 26;have hr0:=hr.mid hal oZl;go_enter Tryz.func144,Tryz.ntmps144
 go_wp2_with fail;generalize (w.alloc (.cells #[.int .i64 0,.int .i64 0,.slice none 0 0] 26))=w1 at B2 hr0 hal ⊢;have hs1:w.heap.size < w1.heap.size:=B2.1;with_reducible refine (l1New_any A bs c w1 hi hb hl hr0).mono ?_
 rintro e w2 ⟨p,rfl,hp,h2,m2⟩;replace B2:=B2.mid m2 oZr;have hM2:=hal.trans m2;have hs2:=m2.size;have hwp:w.heap.size < p:=by omega
 clear hal m2 hr0 hr;go_wp2_with fail;with_reducible refine (l12Any_any p A bs c _ hb hl h2).mono ?_
 rintro e w3 ⟨r,s,Ae,ce,es,rfl,hg,hO,hC,m3⟩;replace B2:=B2.mid m3 (Or.inl hwp);have hM:=hM2.transNew m3 (Or.inl (by omega));have hs3:=m3.size;have hpw2:=h2.lt;have HG:=Lib.hid hg;have hrk:=hg.rk;have hsk:=hg.sz;have hel:=hg.len;obtain ⟨L,hL⟩:∃ l,es.length=l:=⟨_,rfl⟩
 have HL:=Lib.hid hL;rw [hL] at hel ⊢;clear hg hL h2 m3 hM2;have al5:=Mid.alloc w3 (.cells #[.int .i64 r,.int .i64 s,.slice Ae L ce] 26);have G5:=Box.new w3 #[.int .i64 r,.int .i64 s,.slice Ae L ce] 26;replace B2:=B2.mid al5 oZr;replace hC:=hC.mid al5 (Or.inr rfl);replace hM:=hM.trans al5.zero;have hO5:=(hO.mid al5 oZl)
 have hs5:=al5.size;obtain ⟨gb,hgb⟩:∃ g,w3.heap.size=g:=⟨_,rfl⟩
 rw [hgb] at G5 hO5 hs3;obtain ⟨w5,hw5⟩:∃ x,w3.alloc (.cells #[.int .i64 r,.int .i64 s,.slice Ae L ce] 26)=x:=⟨_,rfl⟩
 rw [hw5] at B2 hC hM hO5 G5;clear hO al5 hs5;have g0:=G5.cell 0 rfl;have g1:=G5.cell 1 rfl;have g2:=G5.cell 2 rfl;have gl:=G5.1;have hpl:=hC.lt;have hrk9:1≤max 1 (min r 3)∧max 1 (min r 3)≤3:=by omega
 go_wp2_with fail;try rw [hw5]
 clear hw5 hgb g0 g1 g2;generalize max 1 (min r 3)=rk at hrk9 ⊢;with_reducible refine (l2Of_any rk hrk9.1 hrk9.2 6 (by omega) (by omega) p A bs c _ hb hl hC).mono ?_
 rintro e w6 ⟨Aw,cw,xs,rfl,hx,ow,hC6,m6⟩;replace B2:=B2.mid m6 (Or.inl (by omega));replace G5:=G5.mid m6 (Or.inr (by omega));replace hO5:=hO5.mid m6 (Or.inl (by omega));replace hM:=hM.transNew m6 (Or.inl (by omega));have hs6:=m6.size;have hgg:=G5.1;clear hC m6;have hC:=hC6;clear hC6;have hlx:xs.length≤6:=by have:=hx.1;omega
 have HX:=Lib.hid hx.2.1.ok;clear hx;go_wp2_with fail;with_reducible refine (l1OnceI 14 (by decide) (by decide) p A bs c _ hb hl hC).mono ?_
 rintro e w7 ⟨q,rfl,hC7,m7⟩;have hgg5:=hC.lt;replace B2:=B2.mid m7 (Or.inl (by omega));replace G5:=G5.mid m7 (Or.inr (by omega));replace hO5:=hO5.mid m7 (Or.inl (by omega));replace ow:=ow.mid m7 (Or.inl (by omega));replace hM:=hM.transNew m7 (Or.inl (by omega));have hs7:=m7.size;clear hC m7;have hC:=hC7;clear hC7;cases q with
 | false =>
  have g0:=G5.cell 0 rfl;have g1:=G5.cell 1 rfl;have g2:=G5.cell 2 rfl;have gl:=G5.1;have q0:=B2.cell 0 rfl;have q1:=B2.cell 1 rfl;have q2:=B2.cell 2 rfl;have qf:=B2.2.2;have ql:=B2.1;have hst:=((Mid.setCell w7 (lo:=w.heap.size) (hi:=w.heap.size+1) (p:=⟨w.heap.size,0,none⟩) (.int .i64 r) (Nat.le_refl _) (Nat.lt_succ_self _)).trans (Mid.setCell _ (lo:=w.heap.size) (hi:=w.heap.size+1) (p:=⟨w.heap.size,1,none⟩) (.int .i64 s) (Nat.le_refl _) (Nat.lt_succ_self _))).trans (Mid.setCell _ (lo:=w.heap.size) (hi:=w.heap.size+1) (p:=⟨w.heap.size,2,none⟩) (.slice Ae L ce) (Nat.le_refl _) (Nat.lt_succ_self _));have O9:=Lib.hid ((hO5.mid hst (Or.inl (by omega))).wide (lo':=w.heap.size) (by omega) (Nat.le_trans hO5.size hst.size) (Nat.le_refl _));have W9:=Lib.hid ((ow.mid hst (Or.inl (by omega))).wide (lo':=w.heap.size) (by omega) (Nat.le_trans ow.size hst.size) (Nat.le_refl _));have M9:=Lib.hid (hM.transNew hst (Or.inl (Nat.le_refl _)));clear hst hO5 ow hM hC;go_wp2_with fail;refine bodyPost_ret (v:=.tuple #[.agg #[.int .i64 r,.int .i64 s,.slice Ae L ce],.slice Aw xs.length cw]) (by simp [results,Tryz.results144,go_sem,q0,q1,q2,qf]) rfl ⟨r,s,Ae,ce,es,Aw,cw,xs,?_,HG.out,⟨by omega,HX.out⟩,O9.out,W9.out,M9.out⟩;rw [HL.out]
 | true =>
  have hos:=ow.2.1;have hob:w5.heap.size≤w7.heap.size:=by omega
  go_wp2_with (at_builtin;refine wpList_push rfl _ _ 34 rfl w5.heap.size 3 (.int .i64 0) 1 8 undSI infoI rfl (by decide) _ _ _ rfl hos 1 [.int .i64 7] rfl rfl ?c1 ?c2 ?c3 hob ?next)
  case c1=>exact one_of_ints [7]
  case c2=>unfold maxLen;omega
  case c3=>omega
  case next =>
   intro v8 w8 ho8 hgr8 hat8;obtain ⟨A8,c8,rfl, -, -⟩:=owns_shape ho8;have m8:Mid w5.heap.size w7.heap.size w7 w8:=Mid.of_grownRow hos hgr8;obtain ⟨ys,hys⟩:∃ ys,xs++[7]=ys:=⟨_,rfl⟩
   have hyl:xs.length+1=ys.length:=by rw [← hys];simp
   have HY:Hid (OkI ys):=Lib.hid (by rw [← hys];exact okI_app HX.out (fun x hx=>by simp at hx;omega));have hoy:w8.ownsRow w5.heap.size 3 1 (.slice A8 ys.length c8) ys.length (ints ys):=by
    rw [← hyl,← hys,ints_append];exact ho8
   have ow8:OI w8 w5.heap.size w8.heap.size A8 c8 ys:=OV.new hoy;rw [hyl];replace B2:=B2.mid m8 (Or.inl (by omega));replace G5:=G5.mid m8 (Or.inl (by omega));replace hO5:=hO5.mid m8 (Or.inr (by omega));replace hM:=hM.transNew m8 (Or.inl (by omega));have hs8:=m8.size;replace hC:=hC.mid m8 (Or.inl (by omega));clear ow hos ho8 hgr8 hat8 hoy hys m8;have g0:=G5.cell 0 rfl;have g1:=G5.cell 1 rfl;have g2:=G5.cell 2 rfl;have gl:=G5.1;have q0:=B2.cell 0 rfl;have q1:=B2.cell 1 rfl;have q2:=B2.cell 2 rfl;have qf:=B2.2.2;have ql:=B2.1;have hst:=((Mid.setCell w8 (lo:=w.heap.size) (hi:=w.heap.size+1) (p:=⟨w.heap.size,0,none⟩) (.int .i64 r) (Nat.le_refl _) (Nat.lt_succ_self _)).trans (Mid.setCell _ (lo:=w.heap.size) (hi:=w.heap.size+1) (p:=⟨w.heap.size,1,none⟩) (.int .i64 s) (Nat.le_refl _) (Nat.lt_succ_self _))).trans (Mid.setCell _ (lo:=w.heap.size) (hi:=w.heap.size+1) (p:=⟨w.heap.size,2,none⟩) (.slice Ae L ce) (Nat.le_refl _) (Nat.lt_succ_self _));have O9:=Lib.hid ((hO5.mid hst (Or.inl (by omega))).wide (lo':=w.heap.size) (by omega) (Nat.le_trans hO5.size hst.size) (Nat.le_refl _));have W9:=Lib.hid ((ow8.mid hst (Or.inl (by omega))).wide (lo':=w.heap.size) (by omega) (Nat.le_trans ow8.size hst.size) (Nat.le_refl _));have M9:=Lib.hid (hM.transNew hst (Or.inl (Nat.le_refl _)));clear hst hO5 ow8 hM hC;go_wp2_with fail;refine bodyPost_ret (v:=.tuple #[.agg #[.int .i64 r,.int .i64 s,.slice Ae L ce],.slice A8 ys.length c8]) (by simp [results,Tryz.results144,go_sem,q0,q1,q2,qf]) rfl ⟨r,s,Ae,ce,es,A8,c8,ys,?_,HG.out,⟨by omega,HY.out⟩,O9.out,W9.out,M9.out⟩;rw [HL.out]
theorem DrawWordPermutation_any (A:Option Addr) (bs:List Int) (c:Nat) (w:World) (hi:Nat) (hb:OkB bs) (hl:bs.length≤1048576) (hr:RV w 0 hi A (byts bs)) :
  Calls Tryz.prog 64 #[.slice A bs.length c] w fun e w'=>∃ r s A1 c1 es A2 c2 xs,e=.returned (.tuple #[graV r s A1 (List.length es) c1,.slice A2 (List.length xs) c2])∧DrG r s es∧(xs.length≤7∧OkI xs)∧OG w' w.heap.size w'.heap.size A1 c1 es∧OI w' w.heap.size w'.heap.size A2 c2 xs∧Mid 0 0 w w':=by
 have hal:=Mid.alloc w (.cells #[.int .i64 0,.int .i64 0,.slice none 0 0] 26);have B2:=Box.new w #[.int .i64 0,.int .i64 0,.slice none 0 0] 26;have hr0:=hr.mid hal oZl;go_enter Tryz.func64,Tryz.ntmps64
 go_wp2_with fail;generalize (w.alloc (.cells #[.int .i64 0,.int .i64 0,.slice none 0 0] 26))=w1 at B2 hr0 hal ⊢;have hs1:w.heap.size < w1.heap.size:=B2.1;with_reducible refine (l18Both_any A bs c w1 hi hb hl hr0).mono ?_
 rintro e w2 ⟨r,s,Ae,ce,es,Aw,cw,xs,rfl,hg,hx,hO,ow,m2⟩;replace B2:=B2.mid m2 oZr;have hM2:=hal.trans m2;have hs2:=m2.size;have HG:=Lib.hid hg;have HX:=Lib.hid hx;obtain ⟨L,hL⟩:∃ l,es.length=l:=⟨_,rfl⟩
 have HL:=Lib.hid hL;rw [hL];clear hg hx hL m2 hr0 hr hal;have al5:=Mid.alloc w2 (.cells #[.int .i64 r,.int .i64 s,.slice Ae L ce] 26);have G5:=Box.new w2 #[.int .i64 r,.int .i64 s,.slice Ae L ce] 26;replace B2:=B2.mid al5 oZr;have hM:=hM2.trans al5;have hO5:=hO.mid al5 oZl;have ow5:=ow.mid al5 oZl;have hs5:=al5.size;obtain ⟨gb,hgb⟩:∃ g,w2.heap.size=g:=⟨_,rfl⟩
 rw [hgb] at G5 hO5 ow5 hs2 hs5;obtain ⟨w5,hw5⟩:∃ x,w2.alloc (.cells #[.int .i64 r,.int .i64 s,.slice Ae L ce] 26)=x:=⟨_,rfl⟩
 rw [hw5] at B2 G5 hO5 ow5 hM hs5;clear al5 hO ow hM2;have hC:True:=trivial;have g0:=G5.cell 0 rfl;have g1:=G5.cell 1 rfl;have g2:=G5.cell 2 rfl;have gl:=G5.1;have q0:=B2.cell 0 rfl;have q1:=B2.cell 1 rfl;have q2:=B2.cell 2 rfl;have qf:=B2.2.2;have ql:=B2.1;have hst:=((Mid.setCell w5 (lo:=w.heap.size) (hi:=w.heap.size+1) (p:=⟨w.heap.size,0,none⟩) (.int .i64 r) (Nat.le_refl _) (Nat.lt_succ_self _)).trans (Mid.setCell _ (lo:=w.heap.size) (hi:=w.heap.size+1) (p:=⟨w.heap.size,1,none⟩) (.int .i64 s) (Nat.le_refl _) (Nat.lt_succ_self _))).trans (Mid.setCell _ (lo:=w.heap.size) (hi:=w.heap.size+1) (p:=⟨w.heap.size,2,none⟩) (.slice Ae L ce) (Nat.le_refl _) (Nat.lt_succ_self _));have O9:=Lib.hid ((hO5.mid hst (Or.inl (by omega))).wide (lo':=w.heap.size) (by omega) (Nat.le_trans hO5.size hst.size) (Nat.le_refl _));have W9:=Lib.hid ((ow5.mid hst (Or.inl (by omega))).wide (lo':=w.heap.size) (by omega) (Nat.le_trans ow5.size hst.size) (Nat.le_refl _));have M9:=Lib.hid (hM.transNew hst (Or.inl (Nat.le_refl _)));clear hst hO5 ow5 hM hC;go_wp2_with fail;refine bodyPost_ret (v:=.tuple #[.agg #[.int .i64 r,.int .i64 s,.slice Ae L ce],.slice Aw xs.length cw]) (by simp [results,Tryz.results64,go_sem,q0,q1,q2,qf]) rfl ⟨r,s,Ae,ce,es,Aw,cw,xs,?_,HG.out,HX.out,O9.out,W9.out,M9.out⟩;rw [HL.out]
end
section
open Go.RowKit
theorem spec_WholeGroupO (rn:Nat) (w:World) (hr1:1≤rn) (hr3:rn≤3) :
  Calls Tryz.prog 200 #[.int .i64 rn] w fun e w'=>∃ A1 c1,e=.returned (.tuple #[graV rn 1 A1 rn c1,.bool true])∧OG w' w.heap.size w'.heap.size A1 c1 (whG rn)∧Mid 0 0 w w':=by
 have hm0:Mid 0 0 w (w.alloc (.cells #[.int .i64 0,.int .i64 0,.slice none 0 0] 26)):=Mid.alloc _ _;have B2:=Box.new w #[.int .i64 0,.int .i64 0,.slice none 0 0] 26;go_enter Tryz.func200,Tryz.ntmps200
 go_wp2_with fail;generalize w.alloc (.cells #[.int .i64 0,.int .i64 0,.slice none 0 0] 26)=w1 at hm0 B2 ⊢;have hs1:w.heap.size < w1.heap.size:=B2.1;with_reducible refine (spec_NewGraphA rn _ (by omega)).mono ?_
 rintro en w2 ⟨rfl,hm2⟩;have hs2:=hm2.size;have hal:=Mid.alloc w2 (.cells #[.int .i64 rn,.int .i64 1,.slice none 0 0] 26);have Y4:=Box.new w2 #[.int .i64 rn,.int .i64 1,.slice none 0 0] 26;replace B2:=B2.mid hm2 oZr;replace hm0:=hm0.trans hm2;replace B2:=B2.mid hal oZr;replace hm0:=hm0.trans hal;go_wp2_with fail;generalize w2.alloc (.cells #[.int .i64 rn,.int .i64 1,.slice none 0 0] 26)=w3 at hm0 B2 Y4 ⊢;clear hm2 hal;generalize hGb:w2.heap.size=Gb at Y4 ⊢;have HG0:Hid (OG w3 (Gb+1) w3.heap.size none 0 (whG 0)):=Lib.hid OG.nil;have hgb:w.heap.size < Gb:=by omega
 clear hGb;go_loopw [6] (fun iv wr=>∃ (k:Nat) (A1:Option Addr) (c1:Nat),iv=.int .i64 ((k:Int)+1)∧Hid (k≤rn)∧Hid (OG wr (Gb+1) wr.heap.size A1 c1 (whG k))∧Box wr Gb [.int .i64 rn,.int .i64 1,.slice A1 k c1]∧Box wr w.heap.size [.int .i64 0,.int .i64 0,.slice none 0 0]∧Mid 0 0 w wr) (fun iv _=>rn - ((intOf iv).toNat - 1))
 case atStart=>exact ⟨0,none,0,rfl,Lib.hid (Nat.zero_le _),HG0,Y4,B2,hm0⟩
 case round =>
  clear HG0 Y4 B2 hm0;obtain ⟨k,A1,c1,rfl,HK,HG,Y4,B2,hm⟩:=hrel;have hkr:=HK.out;by_cases hlt:k < rn
  ·have hk1:((k:Int)+1≤(rn:Int)):=by omega
   have d1:decide ((k:Int)+1≤(rn:Int))=true:=by simp;omega
   have hw2:IntKind.i64.wrap ((k:Int)+1+1)=(k:Int)+1+1:=IntWalk.i64_in _ (by omega);have hE:=spec_AddEdgeB rn 1 A1 (whG k) c1 ⟨0,(k:Int)+1,0⟩ wr _ _ (OG.rg HG.out) (whG_gr hkr hr1 hr3) (by unfold edB inB;simp [wrap64];omega) (by rw [whG_len];omega) true (by rw [whG_put (by omega),whG_len,whG_len];simp;omega);rw [whG_put (by omega),whG_len,whG_len] at hE;have p0:=Y4.cell 0 rfl;have p1:=Y4.cell 1 rfl;have p2:=Y4.cell 2 rfl;go_wp2_with fail;with_reducible refine hE.mono ?_
   rintro en w5 ⟨A5,c5,rfl,h5,hm5⟩;have hs5:=hm5.size;have hGw:Gb < wr.heap.size:=Y4.1;replace Y4:=Y4.mid hm5 oZr;replace B2:=B2.mid hm5 oZr;replace hm:=hm.trans hm5;have hG5:Gb < w5.heap.size:=Y4.1;have s0:=Y4.cell 0 rfl;have s1:=Y4.cell 1 rfl;have s2:=Y4.cell 2 rfl;have sf:=Y4.2.2;have hst:=((Mid.setCell w5 (lo:=Gb) (hi:=Gb+1) (p:=⟨Gb,0,none⟩) (.int .i64 rn) (Nat.le_refl _) (Nat.lt_succ_self _)).trans (Mid.setCell _ (lo:=Gb) (hi:=Gb+1) (p:=⟨Gb,1,none⟩) (.int .i64 1) (Nat.le_refl _) (Nat.lt_succ_self _))).trans (Mid.setCell _ (lo:=Gb) (hi:=Gb+1) (p:=⟨Gb,2,none⟩) (.slice A5 (k+1) c5) (Nat.le_refl _) (Nat.lt_succ_self _));have V4:=((Y4.set 0 (.int .i64 rn) (by simp) rfl).set 1 (.int .i64 1) (by simp) rfl).set 2 (.slice A5 (k+1) c5) (by simp) rfl;simp only [List.set_cons_succ,List.set_cons_zero] at V4;have V2:=B2.mid hst (Or.inl (by omega));have hm9:=((hm.storeNew (p:=⟨Gb,0,none⟩) (Nat.le_of_lt hgb) (.int .i64 rn)).storeNew (p:=⟨Gb,1,none⟩) (Nat.le_of_lt hgb) (.int .i64 1)).storeNew (p:=⟨Gb,2,none⟩) (Nat.le_of_lt hgb) (.slice A5 (k+1) c5);have HG9:=Lib.hid (OG.mid h5 hst (Or.inl hGw));clear p0 p1 p2 hE hm5 h5 HG Y4 B2 hm;go_wp2_with fail;generalize ((w5.setCell ⟨Gb,0,none⟩ (.int .i64 rn)).setCell ⟨Gb,1,none⟩ (.int .i64 1)).setCell ⟨Gb,2,none⟩ (.slice A5 (k+1) c5)=w9 at V4 V2 HG9 hm9 hst ⊢;have hal:=Mid.alloc w9 (.cells #[.int .i64 rn,.int .i64 1,.slice A5 (k+1) c5] 26);generalize w9.alloc (.cells #[.int .i64 rn,.int .i64 1,.slice A5 (k+1) c5] 26)=w10 at hal ⊢;have hs9:=hst.size;have hs10:=hal.size;replace V4:=V4.mid hal oZr;replace V2:=V2.mid hal oZr;replace hm9:=hm9.trans hal;have HG10:Hid (OG w10 (Gb+1) w10.heap.size A5 c5 (whG (k+1))):=Lib.hid (OG.wide (OG.mid HG9.out hal oZl) hGw (Nat.le_trans hs9 hs10) (Nat.le_refl _));clear HG9 hst hal sf s0 s1 s2 hs5 hs9 hs10;go_roundw
   case rel=>exact ⟨k+1,A5,c5,by go_num,Lib.hid hlt,HG10,V4,V2,hm9⟩
   case measure=>simp [intOf];omega
  ·obtain rfl:rn=k:=by omega
   have hk1:¬ ((rn:Int)+1≤(rn:Int)):=by omega
   have d1:decide ((rn:Int)+1≤(rn:Int))=false:=by simp;omega
   have p0:=Y4.cell 0 rfl;have p1:=Y4.cell 1 rfl;have p2:=Y4.cell 2 rfl;have a0:=B2.cell 0 rfl;have a1:=B2.cell 1 rfl;have a2:=B2.cell 2 rfl;have af:=B2.2.2;have hGw:Gb < wr.heap.size:=Y4.1;have hGb:w.heap.size < wr.heap.size:=B2.1;go_wp2_with fail;refine bodyPost_ret (v:=.tuple #[.agg #[.int .i64 rn,.int .i64 1,.slice A1 rn c1],.bool true]) (by simp [results,Tryz.results200,go_sem,a0,a1,a2,af]) rfl ⟨A1,c1,rfl,?_,?_⟩
   ·have hst:=((Mid.setCell wr (lo:=w.heap.size) (hi:=w.heap.size+1) (p:=⟨w.heap.size,0,none⟩) (.int .i64 rn) (Nat.le_refl _) (Nat.lt_succ_self _)).trans (Mid.setCell _ (lo:=w.heap.size) (hi:=w.heap.size+1) (p:=⟨w.heap.size,1,none⟩) (.int .i64 1) (Nat.le_refl _) (Nat.lt_succ_self _))).trans (Mid.setCell _ (lo:=w.heap.size) (hi:=w.heap.size+1) (p:=⟨w.heap.size,2,none⟩) (.slice A1 rn c1) (Nat.le_refl _) (Nat.lt_succ_self _))
    exact OG.wide (OG.mid HG.out hst (Or.inl (by omega))) (by omega) hst.size (Nat.le_refl _)
   ·repeat (first | exact hm | refine Mid.storeNew ?_ (by simp;try omega) _)
theorem spec_WholeGroup2 (w:World) :
  Calls Tryz.prog 200 #[.int .i64 2] w fun e w'=>∃ A1 c1,e=.returned (.tuple #[graV 2 1 A1 2 c1,.bool true])∧OG w' w.heap.size w'.heap.size A1 c1 (whG 2)∧Mid 0 0 w w':=spec_WholeGroupO 2 w (by decide) (by decide)
theorem l18Small_any (A:Option Addr) (bs:List Int) (c:Nat) (w:World) (hi:Nat) (hb:OkB bs) (hl:bs.length≤1048576) (hr:RV w 0 hi A (byts bs)) :
  Calls Tryz.prog 156 #[.slice A bs.length c] w fun e w'=>∃ r s A' c' es,e=.returned (graV r s A' (List.length es) c')∧DrG r s es∧OG w' w.heap.size w'.heap.size A' c' es∧Mid 0 0 w w':=by
 have hal:=Mid.alloc w (.cells #[.int .i64 0,.int .i64 0,.slice none 0 0] 26);have B2:=Box.new w #[.int .i64 0,.int .i64 0,.slice none 0 0] 26;have hr0:=hr.mid hal oZl;go_enter Tryz.func156,Tryz.ntmps156
 go_wp2_with fail;generalize (w.alloc (.cells #[.int .i64 0,.int .i64 0,.slice none 0 0] 26))=w1 at B2 hr0 hal ⊢;have hs1:w.heap.size < w1.heap.size:=B2.1;with_reducible refine (l1New_any A bs c w1 hi hb hl hr0).mono ?_
 rintro e w2 ⟨p,rfl,hp,h2,m2⟩;replace B2:=B2.mid m2 oZr;have hM2:=hal.trans m2;have hs2:=m2.size;have hwp:w.heap.size < p:=by omega
 clear hal m2 hr0 hr;go_wp2_with fail;with_reducible refine (l12Any_any p A bs c _ hb hl h2).mono ?_
 rintro e w3 ⟨r,s,Ae,ce,es,rfl,hg,hO,hC,m3⟩;replace B2:=B2.mid m3 (Or.inl hwp);have hM:=hM2.transNew m3 (Or.inl (by omega));have hs3:=m3.size;have hpw2:=h2.lt;have HG:=Lib.hid hg;have hrk:=hg.rk;have hsk:=hg.sz;have hel:=hg.len;obtain ⟨L,hL⟩:∃ l,es.length=l:=⟨_,rfl⟩
 have HL:=Lib.hid hL;rw [hL] at hel ⊢;clear hg hL h2 m3 hM2;have al5:=Mid.alloc w3 (.cells #[.int .i64 r,.int .i64 s,.slice Ae L ce] 26);have G5:=Box.new w3 #[.int .i64 r,.int .i64 s,.slice Ae L ce] 26;replace B2:=B2.mid al5 oZr;replace hC:=hC.mid al5 (Or.inr rfl);replace hM:=hM.trans al5.zero;have hO5:=(hO.mid al5 oZl)
 have hs5:=al5.size;obtain ⟨gb,hgb⟩:∃ g,w3.heap.size=g:=⟨_,rfl⟩
 rw [hgb] at G5 hO5 hs3;obtain ⟨w5,hw5⟩:∃ x,w3.alloc (.cells #[.int .i64 r,.int .i64 s,.slice Ae L ce] 26)=x:=⟨_,rfl⟩
 rw [hw5] at B2 hC hM hO5 G5;clear hO al5 hs5;obtain ⟨bf,hbf⟩:∃ b:Bool,b=true↔IsFin r s es:=by classical exact ⟨decide (IsFin r s es),by simp⟩
 have hl5:es.length≤1048576:=by rw [HL.out];omega
 have hcf:=spec_IsFiniteIndex r s Ae es ce w5 _ _ hO5.rg hl5 bf hbf;rw [HL.out] at hcf;have HCF:=Lib.hid hcf;clear hcf hbf;have gl:=G5.1;have hpl:=hC.lt;by_cases hs4:4 < s
 ·have hd4:decide (s > 4)=true:=by simp;omega
  have g0:=G5.cell 0 rfl;have g1:=G5.cell 1 rfl;have g2:=G5.cell 2 rfl;go_wp2_with fail;try rw [hw5]
  clear hw5 hgb g0 g1 g2 hd4;with_reducible refine (HCF.out).mono ?_
  rintro e w6 ⟨rfl,m6⟩;replace B2:=B2.mid m6 oZr;replace G5:=G5.mid m6 oZr;replace hO5:=hO5.mid m6 oZl;replace hC:=hC.mid m6 (Or.inr rfl);replace hM:=hM.trans m6;have hs6:=m6.size;clear m6 HCF;cases bf with
  | false =>
   have g0:=G5.cell 0 rfl;have g1:=G5.cell 1 rfl;have g2:=G5.cell 2 rfl;have gl:=G5.1;have q0:=B2.cell 0 rfl;have q1:=B2.cell 1 rfl;have q2:=B2.cell 2 rfl;have qf:=B2.2.2;have ql:=B2.1;have hst:=((Mid.setCell w6 (lo:=w.heap.size) (hi:=w.heap.size+1) (p:=⟨w.heap.size,0,none⟩) (.int .i64 r) (Nat.le_refl _) (Nat.lt_succ_self _)).trans (Mid.setCell _ (lo:=w.heap.size) (hi:=w.heap.size+1) (p:=⟨w.heap.size,1,none⟩) (.int .i64 s) (Nat.le_refl _) (Nat.lt_succ_self _))).trans (Mid.setCell _ (lo:=w.heap.size) (hi:=w.heap.size+1) (p:=⟨w.heap.size,2,none⟩) (.slice Ae L ce) (Nat.le_refl _) (Nat.lt_succ_self _));have O9:=Lib.hid ((hO5.mid hst (Or.inl (by omega))).wide (lo':=w.heap.size) (by omega) (Nat.le_trans hO5.size hst.size) (Nat.le_refl _));have M9:=Lib.hid (hM.transNew hst (Or.inl (Nat.le_refl _)));clear hst hO5 hM;go_wp2_with fail;refine bodyPost_ret (v:=.agg #[.int .i64 r,.int .i64 s,.slice Ae L ce]) (by simp [results,Tryz.results156,go_sem,q0,q1,q2,qf]) rfl ⟨r,s,Ae,ce,es,?_,HG.out,O9.out,M9.out⟩;rw [HL.out]
  | true =>
   go_wp2_with fail;with_reducible refine (l1Once_2 p A bs c _ hb hl hC).mono ?_
   rintro e w7 ⟨q,rfl,hC7,m7⟩;replace B2:=B2.mid m7 (Or.inl (by omega));replace G5:=G5.mid m7 (Or.inr (by omega));replace hO5:=hO5.mid m7 (Or.inl (by omega));replace hM:=hM.transNew m7 (Or.inl (by omega));have hs7:=m7.size;clear hC hC7 m7;cases q with
   | false =>
    have g0:=G5.cell 0 rfl;have g1:=G5.cell 1 rfl;have g2:=G5.cell 2 rfl;have gl:=G5.1;have q0:=B2.cell 0 rfl;have q1:=B2.cell 1 rfl;have q2:=B2.cell 2 rfl;have qf:=B2.2.2;have ql:=B2.1;have hst:=((Mid.setCell w7 (lo:=w.heap.size) (hi:=w.heap.size+1) (p:=⟨w.heap.size,0,none⟩) (.int .i64 r) (Nat.le_refl _) (Nat.lt_succ_self _)).trans (Mid.setCell _ (lo:=w.heap.size) (hi:=w.heap.size+1) (p:=⟨w.heap.size,1,none⟩) (.int .i64 s) (Nat.le_refl _) (Nat.lt_succ_self _))).trans (Mid.setCell _ (lo:=w.heap.size) (hi:=w.heap.size+1) (p:=⟨w.heap.size,2,none⟩) (.slice Ae L ce) (Nat.le_refl _) (Nat.lt_succ_self _));have O9:=Lib.hid ((hO5.mid hst (Or.inl (by omega))).wide (lo':=w.heap.size) (by omega) (Nat.le_trans hO5.size hst.size) (Nat.le_refl _));have M9:=Lib.hid (hM.transNew hst (Or.inl (Nat.le_refl _)));clear hst hO5 hM;go_wp2_with fail;refine bodyPost_ret (v:=.agg #[.int .i64 r,.int .i64 s,.slice Ae L ce]) (by simp [results,Tryz.results156,go_sem,q0,q1,q2,qf]) rfl ⟨r,s,Ae,ce,es,?_,HG.out,O9.out,M9.out⟩;rw [HL.out]
   | true =>
    go_wp2_with fail;with_reducible refine (spec_WholeGroup2 _).mono ?_
    rintro e w8 ⟨A8,c8,rfl,hO8,m8⟩;replace B2:=B2.mid m8 oZr;replace hM:=hM.trans m8;have hs8:=m8.size;clear m8 hO5 G5;have al8:=Mid.alloc w8 (.cells #[.int .i64 2,.int .i64 1,.slice A8 2 c8] 26);have G8:=Box.new w8 #[.int .i64 2,.int .i64 1,.slice A8 2 c8] 26;replace B2:=B2.mid al8 oZr;replace hM:=hM.trans al8;replace hO8:=hO8.mid al8 oZl;obtain ⟨kb,hkb⟩:∃ g,w8.heap.size=g:=⟨_,rfl⟩
    rw [hkb] at G8 hO8 hs8;obtain ⟨w9,hw9⟩:∃ x,w8.alloc (.cells #[.int .i64 2,.int .i64 1,.slice A8 2 c8] 26)=x:=⟨_,rfl⟩
    rw [hw9] at B2 G8 hO8 hM;have HD8:Hid (DrG 2 1 (whG 2)):=Lib.hid (DrG.of_gr (whG_gr (r:=2) (k:=2) (by decide) (by decide) (by decide)));clear al8;have g0:=G8.cell 0 rfl;have g1:=G8.cell 1 rfl;have g2:=G8.cell 2 rfl;have gl:=G8.1;have q0:=B2.cell 0 rfl;have q1:=B2.cell 1 rfl;have q2:=B2.cell 2 rfl;have qf:=B2.2.2;have ql:=B2.1;have hst:=((Mid.setCell w9 (lo:=w.heap.size) (hi:=w.heap.size+1) (p:=⟨w.heap.size,0,none⟩) (.int .i64 2) (Nat.le_refl _) (Nat.lt_succ_self _)).trans (Mid.setCell _ (lo:=w.heap.size) (hi:=w.heap.size+1) (p:=⟨w.heap.size,1,none⟩) (.int .i64 1) (Nat.le_refl _) (Nat.lt_succ_self _))).trans (Mid.setCell _ (lo:=w.heap.size) (hi:=w.heap.size+1) (p:=⟨w.heap.size,2,none⟩) (.slice A8 2 c8) (Nat.le_refl _) (Nat.lt_succ_self _));have O9:=Lib.hid ((hO8.mid hst (Or.inl (by omega))).wide (lo':=w.heap.size) (by omega) (Nat.le_trans hO8.size hst.size) (Nat.le_refl _));have M9:=Lib.hid (hM.transNew hst (Or.inl (Nat.le_refl _)));clear hst hO8 hM;go_wp2_with fail;refine bodyPost_ret (v:=.agg #[.int .i64 2,.int .i64 1,.slice A8 2 c8]) (by simp [results,Tryz.results156,go_sem,q0,q1,q2,qf]) rfl ⟨2,1,A8,c8,whG 2,?_,HD8.out,O9.out,M9.out⟩;rw [whG_len]
 ·have hd4:decide (s > 4)=false:=by simp;omega
  have g0:=G5.cell 0 rfl;have g1:=G5.cell 1 rfl;have g2:=G5.cell 2 rfl;have gl:=G5.1;have q0:=B2.cell 0 rfl;have q1:=B2.cell 1 rfl;have q2:=B2.cell 2 rfl;have qf:=B2.2.2;have ql:=B2.1;have hst:=((Mid.setCell w5 (lo:=w.heap.size) (hi:=w.heap.size+1) (p:=⟨w.heap.size,0,none⟩) (.int .i64 r) (Nat.le_refl _) (Nat.lt_succ_self _)).trans (Mid.setCell _ (lo:=w.heap.size) (hi:=w.heap.size+1) (p:=⟨w.heap.size,1,none⟩) (.int .i64 s) (Nat.le_refl _) (Nat.lt_succ_self _))).trans (Mid.setCell _ (lo:=w.heap.size) (hi:=w.heap.size+1) (p:=⟨w.heap.size,2,none⟩) (.slice Ae L ce) (Nat.le_refl _) (Nat.lt_succ_self _));have O9:=Lib.hid ((hO5.mid hst (Or.inl (by omega))).wide (lo':=w.heap.size) (by omega) (Nat.le_trans hO5.size hst.size) (Nat.le_refl _));have M9:=Lib.hid (hM.transNew hst (Or.inl (Nat.le_refl _)));clear hst hO5 hM;go_wp2_with fail;refine bodyPost_ret (v:=.agg #[.int .i64 r,.int .i64 s,.slice Ae L ce]) (by simp [results,Tryz.results156,go_sem,q0,q1,q2,qf]) rfl ⟨r,s,Ae,ce,es,?_,HG.out,O9.out,M9.out⟩;rw [HL.out]
theorem DrawGroupElements_any (A:Option Addr) (bs:List Int) (c:Nat) (w:World) (hi:Nat) (hb:OkB bs) (hl:bs.length≤1048576) (hr:RV w 0 hi A (byts bs)) :
  Calls Tryz.prog 79 #[.slice A bs.length c] w fun e w'=>∃ r s A' c' es,e=.returned (graV r s A' (List.length es) c')∧DrG r s es∧OG w' w.heap.size w'.heap.size A' c' es∧Mid 0 0 w w':=by
 have hal:=Mid.alloc w (.cells #[.int .i64 0,.int .i64 0,.slice none 0 0] 26);have B2:=Box.new w #[.int .i64 0,.int .i64 0,.slice none 0 0] 26;have hr0:=hr.mid hal oZl;go_enter Tryz.func79,Tryz.ntmps79
 go_wp2_with fail;generalize (w.alloc (.cells #[.int .i64 0,.int .i64 0,.slice none 0 0] 26))=w1 at B2 hr0 hal ⊢;have hs1:w.heap.size < w1.heap.size:=B2.1;with_reducible refine (l18Small_any A bs c w1 hi hb hl hr0).mono ?_
 rintro e w3 ⟨r,s,Ae,ce,es,rfl,hg,hO,m3⟩;replace B2:=B2.mid m3 oZr;have hM:=hal.trans m3;have hs3:=m3.size;have HG:=Lib.hid hg;obtain ⟨L,hL⟩:∃ l,es.length=l:=⟨_,rfl⟩
 have HL:=Lib.hid hL;rw [hL];clear hg hL m3 hal;have q0:=B2.cell 0 rfl;have q1:=B2.cell 1 rfl;have q2:=B2.cell 2 rfl;have qf:=B2.2.2;have ql:=B2.1;have hst:=((Mid.setCell w3 (lo:=w.heap.size) (hi:=w.heap.size+1) (p:=⟨w.heap.size,0,none⟩) (.int .i64 r) (Nat.le_refl _) (Nat.lt_succ_self _)).trans (Mid.setCell _ (lo:=w.heap.size) (hi:=w.heap.size+1) (p:=⟨w.heap.size,1,none⟩) (.int .i64 s) (Nat.le_refl _) (Nat.lt_succ_self _))).trans (Mid.setCell _ (lo:=w.heap.size) (hi:=w.heap.size+1) (p:=⟨w.heap.size,2,none⟩) (.slice Ae L ce) (Nat.le_refl _) (Nat.lt_succ_self _));have O9:=Lib.hid ((hO.mid hst (Or.inl (by omega))).wide (lo':=w.heap.size) (by omega) (Nat.le_trans hO.size hst.size) (Nat.le_refl _));have M9:=Lib.hid (hM.transNew hst (Or.inl (Nat.le_refl _)));clear hst hO hM;go_wp2_with fail;refine bodyPost_ret (v:=.agg #[.int .i64 r,.int .i64 s,.slice Ae L ce]) (by simp [results,Tryz.results79,go_sem,q0,q1,q2,qf]) rfl ⟨r,s,Ae,ce,es,?_,HG.out,O9.out,M9.out⟩;rw [HL.out]
end
section
open Go.RowKit
def Drawn (xs:List Int):Prop:=xs.length≤60∧∀ x∈xs, -1≤x∧x≤40
theorem l17Any_any (p:Nat) (A:Option Addr) (bs:List Int) (c:Nat) (w:World) (hb:OkB bs) (hl:bs.length≤1048576) (h:Cur w p A bs c) :
  Calls Tryz.prog 161 #[.pointer (some ⟨p,0,none⟩)] w fun e w'=>∃ A' c' xs,e=.returned (.slice A' (List.length xs) c')∧(xs.length≤8∧∀ x∈xs, -1≤x∧x≤40)∧OI w' w.heap.size w'.heap.size A' c' xs∧Cur w' p A bs c∧Mid p (p+1) w w':=by
 have hpw:=h.lt;go_enter Tryz.func161,Tryz.ntmps161
 go_wp2_with fail;with_reducible refine (l1BelowI 8 (by decide) (by decide) p A bs c w hb hl h).mono ?_
 rintro e w1 ⟨k,rfl,hk,h1,m1⟩;go_wp2_with fail;with_reducible refine (l17Perm_any k (by omega) p A bs c _ hb hl h1).mono ?_
 rintro e w2 ⟨A2,c2,xs,rfl,⟨hxl,hx⟩,o2,h2,m2⟩;have hx2:xs.length≤7:=by omega
 clear hxl;go_wp2_with fail;with_reducible refine (l1OnceI 10 (by decide) (by decide) p A bs c _ hb hl h2).mono ?_
 rintro e w3 ⟨b,rfl,h3,m3⟩;have o3:=o2.mid m3 (Or.inl (by have:=m1.size;omega));have hm3:=(m1.trans m2).trans m3;have hs1:=m1.size;cases b
 ·go_wp2_with fail
  go_ret;exact ⟨A2,c2,xs,rfl,⟨by omega,fun x hxm=>by have:=hx x hxm;omega⟩,o3.wide hs1 o3.size (Nat.le_refl _),h3,hm3⟩
 ·go_wp2_with fail
  with_reducible refine (l1BelowI 9 (by decide) (by decide) p A bs c _ hb hl h3).mono ?_
  rintro e w4 ⟨j,rfl,hj,h4,m4⟩;have o4:=(o3.mid m4 (Or.inl (by omega))).2.1;have hm4:=hm3.trans m4;have hs4:=hm4.size;have ew:IntKind.i64.wrap ((j:Int) - 1)=(j:Int) - 1:=IntWalk.i64_in _ (by omega);replace o4:=owns_base o4 hs1;clear o3 hm3 m4 m3 m2 o2 h2 h3 h1;go_wp2_with (at_builtin;refine wpList_push rfl _ _ 34 rfl w.heap.size 3 (.int .i64 0) 1 8 undSI infoI rfl (by decide) _ _ _ rfl o4 1 [.int .i64 ((j:Int) - 1)] rfl rfl ?c1 ?c2 ?c3 hs4 ?next)
  case c1=>exact one_of_ints [(j:Int) - 1]
  case c2=>unfold maxLen;omega
  case c3=>omega
  case next =>
   intro v5 w5 ho5 hgr5 hat5;obtain ⟨A5,c5,rfl, -, -⟩:=owns_shape ho5;go_wp2_with fail;go_ret;have m5:Mid w.heap.size w4.heap.size w4 w5:=Mid.of_grownRow o4 hgr5;refine ⟨A5,c5,xs++[(j:Int) - 1],by simp,⟨by simp;omega,fun x hxm=>?_⟩,⟨Nat.le_refl _,?_,?_⟩,h4.mid m5 (Or.inl hpw),hm4.transNew m5 (Or.inl (Nat.le_refl _))⟩
   ·rcases List.mem_append.1 hxm with hxm | hxm
    ·have:=hx x hxm;omega
    ·rw [List.mem_singleton] at hxm
     omega
   ·rw [ints_append,List.length_append]
    exact ho5
   ·rw [List.length_append]
    exact fun g hg=>(ho5.lt g hg).2
end
section
open Go.RowKit
def RowG (x:List Int):Prop:=x.length≤8∧OkI x
theorem DrawGraphOfAction_any (A:Option Addr) (bs:List Int) (c:Nat) (w:World) (hi:Nat) (hb:OkB bs) (hl:bs.length≤1048576) (hr:RV w 0 hi A (byts bs)) :
  Calls Tryz.prog 85 #[.slice A bs.length c] w fun e w'=>∃ (rk:Int) (A':Option Addr) (c':Nat) (l:List (List Int)),e=.returned (.tuple #[.int .i64 rk,.slice A' (List.length l) c'])∧(-1≤rk∧rk≤4)∧(l.length≤3∧∀ x∈l,RowG x)∧OSS w' w.heap.size w'.heap.size 34 3 A' c' l∧Mid 0 0 w w':=by
 go_enter Tryz.func85,Tryz.ntmps85
 go_wp2_with fail;with_reducible refine (l1New_any A bs c w hi hb hl hr).mono ?_
 rintro e w1 ⟨p,rfl,hp,h1,m1⟩;have hs1:=m1.size;have hpw1:=h1.lt;clear hr;go_wp2_with fail;with_reducible refine (l1BelowI 3 (by decide) (by decide) p A bs c _ hb hl h1).mono ?_
 rintro e w1b ⟨r0,rfl,hr0,h1b,m1b⟩;have hM1:=m1.transNew m1b (Or.inl hp);have hs1b:=m1b.size;obtain ⟨rk,hrk⟩:∃ k:Nat,k=1+r0:=⟨1+r0,rfl⟩
 have ewr:IntKind.i64.wrap (1+(r0:Int))=(rk:Int):=by rw [IntWalk.i64_in _ (by omega)];omega
 have hrk3:1≤rk∧rk≤3:=by omega
 clear hrk;clear h1 m1 m1b;go_wp2_with fail;with_reducible refine (l1BelowI 6 (by decide) (by decide) p A bs c _ hb hl h1b).mono ?_
 rintro e w2 ⟨n,rfl,hn,h2,m2⟩;have hM2:=hM1.transNew m2 (Or.inl hp);have hs2:=m2.size;clear h1b hM1 m2;have hal:=Mid.alloc w2 (.cells #[] 34);have ho0:=Own1.empty w2;have hc0:=h2.mid hal (Or.inr rfl);have hM3:=hM2.trans hal;have hpw:=h2.lt;clear hM2 h2;go_wp2_with fail;clear ewr;have hs3:=hal.size;have hw20:w2.heap.size < (w2.alloc (.cells #[] 34)).heap.size:=by simp
 generalize w2.alloc (.cells #[] 34)=w3 at ho0 hc0 hM3 hs3 hw20 ⊢;clear hal;go_loopw [7,8] (fun lv iv wr=>∃ (rows:List Row) (i:Nat) (Ax:Option Addr) (cx L:Nat),iv=.int .i64 i∧lv=.slice Ax L cx∧Hid (rows.length=L)∧L≤i∧i≤rk∧Hid (∀ x∈rowsD rows,RowG x)∧Own1 wr w2.heap.size Ax L cx rows∧Cur wr p A bs c∧w2.heap.size < wr.heap.size∧Mid 0 0 w wr)
  (fun _ iv _=>rk - (intOf iv).toNat)
 case atStart=>exact ⟨[],0,_,_,0,by go_num,rfl,Lib.hid rfl,Nat.le_refl _,by omega,Lib.hid (by simp [rowsD]),ho0,hc0,hw20,hM3⟩
 case round =>
  clear ho0 hc0 hM3 hw20;obtain ⟨rows,i,Ax,cx,L,rfl,rfl,HL,hLi,hir,HW,ho,hc,hw2,hm⟩:=hrel;have hs:w2.heap.size≤wr.heap.size:=Nat.le_of_lt hw2;by_cases hlt:i < rk
  ·have hlt2:(i:Int) < (rk:Int):=by omega
   go_wp2_with fail;with_reducible refine (l17Perm_any n (by omega) p A bs c _ hb hl hc).mono ?_
   rintro e w4 ⟨Ay,cy,ys,rfl,hy,oy,hc4,m4⟩;have HY:Hid (RowG ys):=Lib.hid ⟨by omega,fun x hx=>by have:=hy.2 x hx;omega⟩;clear hy hc;go_wp2_with fail;with_reducible refine (l1OnceI 14 (by decide) (by decide) p A bs c _ hb hl hc4).mono ?_
   rintro e w5 ⟨q,rfl,hc5,m5⟩;have m45:=m4.trans m5;have hoy:=owns_mid oy.2.1 m5 (Or.inl (by have:=hc4.lt;omega));clear hc4;cases q with
   | false =>
    go_wp2_with (at_builtin;refine wpList_pushB rfl _ _ rfl rfl ho m45 hpw ⟨Ay,cy,ys⟩ _ rfl hoy rfl (by omega) hs ?next)
    case next =>
     intro A3 c3 w9 ho9 hgr9;have m9:Mid w2.heap.size w5.heap.size w5 w9:=Mid.of_grownRow (ho.midB m45 hpw).out hgr9;have hm9:=hm.transNew (m45) (Or.inl hp);have hsz9:=m9.size;have hsz8:=(m45).size;go_wp2_with fail;go_roundw
     case rel =>
      refine ⟨rows++[⟨Ay,cy,ys⟩],i+1,A3,c3,L+1,by go_num,rfl,Lib.hid (by simp [HL.out]),by omega,by omega,Lib.hid ?_,ho9,hc5.mid m9 (Or.inl hpw),by omega,hm9.transNew m9 (Or.inl (by omega))⟩;have h1:=HW.out;rw [rowsD_append];intro x hx;rcases List.mem_append.1 hx with hx | hx
      ·exact h1 x hx
      ·simp [rowsD] at hx
       rw [hx];exact HY.out
     case measure=>simp [intOf];omega
   | true =>
    go_wp2_with fail;with_reducible refine (l17Any_any p A bs c _ hb hl hc5).mono ?_
    rintro e w6 ⟨Az,cz,zs,rfl,hz,oz,hc6,m6⟩;have HZ:Hid (RowG zs):=Lib.hid ⟨by omega,fun x hx=>by have:=hz.2 x hx;omega⟩;have m46:=m45.trans m6;have hoz:=owns_base oz.2.1 m45.size;clear hz hc5 hoy oy;go_wp2_with (at_builtin;refine wpList_pushB rfl _ _ rfl rfl ho m46 hpw ⟨Az,cz,zs⟩ _ rfl hoz rfl (by omega) hs ?next)
    case next =>
     intro A3 c3 w9 ho9 hgr9;have m9:Mid w2.heap.size w6.heap.size w6 w9:=Mid.of_grownRow (ho.midB m46 hpw).out hgr9;have hm9:=hm.transNew (m46) (Or.inl hp);have hsz9:=m9.size;have hsz8:=(m46).size;go_wp2_with fail;go_roundw
     case rel =>
      refine ⟨rows++[⟨Az,cz,zs⟩],i+1,A3,c3,L+1,by go_num,rfl,Lib.hid (by simp [HL.out]),by omega,by omega,Lib.hid ?_,ho9,hc6.mid m9 (Or.inl hpw),by omega,hm9.transNew m9 (Or.inl (by omega))⟩;have h1:=HW.out;rw [rowsD_append];intro x hx;rcases List.mem_append.1 hx with hx | hx
      ·exact h1 x hx
      ·simp [rowsD] at hx
       rw [hx];exact HZ.out
     case measure=>simp [intOf];omega
  ·have hlt2:¬ (i:Int) < (rk:Int):=by omega
   go_wp2_with fail;with_reducible refine (l1OnceI 14 (by decide) (by decide) p A bs c _ hb hl hc).mono ?_
   rintro e w4 ⟨q,rfl,hc4,m4⟩;have ho4:=ho.midB m4 (by omega);have hm4:=hm.transNew m4 (Or.inl hp);have hsz4:=m4.size;have hL:=HL.out;have hll:(rowsD rows).length=L:=by rw [rowsD_len];exact hL
   clear hc m4;cases q with
   | false =>
    have oss:=(ho4.oss (xss:=rowsD rows) rfl).wide (lo':=w.heap.size) (by omega) (Nat.le_refl _) (Nat.le_refl _);have OF:=Lib.hid oss;have MF:=Lib.hid hm4;clear oss ho4 hm4 ho hc4;go_wp2_with fail;refine bodyPost_ret (v:=.tuple #[.int .i64 rk,.slice Ax L cx]) (by simp [results,Tryz.results85,go_sem]) rfl ⟨rk,Ax,cx,rowsD rows,by rw [hll],by omega,⟨by omega,HW.out⟩,OF.out,MF.out⟩
   | true =>
    go_wp2_with fail;with_reducible refine (l1BelowI 6 (by decide) (by decide) p A bs c _ hb hl hc4).mono ?_
    rintro e w5 ⟨y,rfl,hy,hc5,m5⟩;have ho5:=ho4.midB m5 (by omega);have hm5:=hm4.transNew m5 (Or.inl hp);have ewy:IntKind.i64.wrap ((y:Int) - 1)=(y:Int) - 1:=IntWalk.i64_in _ (by omega);have oss:=(ho5.oss (xss:=rowsD rows) rfl).wide (lo':=w.heap.size) (by omega) (Nat.le_refl _) (Nat.le_refl _);have OF:=Lib.hid oss;have MF:=Lib.hid hm5;clear oss ho5 hm5 ho4 hm4 ho hc5 hc4 m5;go_wp2_with fail;refine bodyPost_ret (v:=.tuple #[.int .i64 ((y:Int) - 1),.slice Ax L cx]) (by simp [results,Tryz.results85,go_sem]) rfl ⟨(y:Int) - 1,Ax,cx,rowsD rows,by rw [hll],by omega,⟨by omega,HW.out⟩,OF.out,MF.out⟩
end
section
open Go.RowKit
theorem at_any (A:Option Addr) (bs:List Int) (c:Nat) (w:World) (lo hi:Nat) (hb:OkB bs) (hl:bs.length≤1048576) (hr:RV w lo hi A (byts bs)) (i:Nat) (hi2:i≤1000) :
  Calls Tryz.prog 152 #[.slice A bs.length c,.int .i64 i] w fun e w'=>∃ x:Nat,e=.returned (.int .i64 x)∧x < 256∧w'=w:=by
 go_enter Tryz.func152,Tryz.ntmps152
 by_cases hlt:i < bs.length
 ·have hlt2:(i:Int) < (bs.length:Int):=by omega
  obtain ⟨B,off,y,rfl,hB,hy,hcy⟩:=hr.rs.byte hlt;have hyb:=hb y (List.mem_of_getElem? hy);clear hy;go_wp2_with fail;go_ret;obtain ⟨y,rfl⟩:=Int.eq_ofNat_of_zero_le (show 0≤y by omega);exact ⟨y,rfl,by omega,rfl⟩
 ·have hlt2:¬ (i:Int) < (bs.length:Int):=by omega
  have e1:IntKind.i64.wrap ((i:Int) * 37)=(i:Int) * 37:=IntWalk.i64_in _ (by omega);have e2:IntKind.i64.wrap ((bs.length:Int) * 11)=(bs.length:Int) * 11:=IntWalk.i64_in _ (by omega);have e3:IntKind.i64.wrap ((i:Int) * 37+(bs.length:Int) * 11)=(i:Int) * 37+(bs.length:Int) * 11:=IntWalk.i64_in _ (by omega);go_wp2_with fail;go_ret;exact ⟨(i * 37+bs.length * 11) % 256,by simp,Nat.mod_lt _ (by decide),rfl⟩
theorem at_anyI (A:Option Addr) (bs:List Int) (c:Nat) (w:World) (lo hi:Nat) (hb:OkB bs) (hl:bs.length≤1048576) (hr:RV w lo hi A (byts bs)) (k:Int) (h0:0≤k) (h1:k≤1000) :
  Calls Tryz.prog 152 #[.slice A bs.length c,.int .i64 k] w fun e w'=>∃ x:Nat,e=.returned (.int .i64 x)∧x < 256∧w'=w:=by
 obtain ⟨i,rfl⟩:=Int.eq_ofNat_of_zero_le h0;exact at_any A bs c w lo hi hb hl hr i (by omega)
def LtR (r:Nat) (xs:List Int):Prop:=∀ x∈xs,x≠0∧-(r:Int)≤x∧x≤r
theorem LtR.lt {r:Nat} (hr:r≤3) {xs:List Int} (h:LtR r xs):LtW xs:=fun x hx=>by
 have:=h x hx;unfold Lt3;omega
theorem LtR.red {r:Nat} {xs:List Int} (h:LtR r xs):LtR r (red [] xs):=fun x hx=>by
 rcases red_mem hx with h1 | h1
 ·simp at h1
 ·exact h x h1
theorem word_any (A:Option Addr) (bs:List Int) (c:Nat) (w:World) (lo hi:Nat) (hb:OkB bs) (hl:bs.length≤1048576) (hr:RV w lo hi A (byts bs)) (hlo:hi≤w.heap.size) (r:Nat) (hr1:1≤r) (hr3:r≤3) :
  Calls Tryz.prog 75 #[.slice A bs.length c,.int .i64 50,.int .i64 r,.int .i64 4] w fun e w'=>∃ A' c' xs,e=.returned (.slice A' (List.length xs) c')∧(xs.length≤5∧LtR r xs∧LtW xs∧Rd xs)∧OI w' w.heap.size w'.heap.size A' c' xs∧Mid 0 0 w w':=by
 have hal:=Mid.alloc w (.cells #[] 3);have ho:=owns_empty w 3 1;have h0:=hr.mid hal oZl;go_enter Tryz.func75,Tryz.ntmps75
 go_wp2_with fail;go_loopw [9,10] (fun wv iv wr=>∃ (xs:List Int) (i:Nat) (Ax:Option Addr) (cx L:Nat),iv=.int .i64 i∧wv=.slice Ax L cx∧Hid (xs.length=L)∧L≤i∧i≤5∧Hid (LtR r xs)∧wr.ownsRow w.heap.size 3 1 (.slice Ax L cx) L (ints xs)∧RV wr lo hi A (byts bs)∧Mid 0 0 w wr)
  (fun _ iv _=>10 - (intOf iv).toNat)
 case atStart=>exact ⟨[],0,_,_,0,by go_num,rfl,Lib.hid rfl,Nat.le_refl _,by omega,Lib.hid (by simp [LtR]),by simpa [ints] using ho,h0,hal⟩
 case round =>
  clear ho h0 hal;obtain ⟨xs,i,Ax,cx,L,rfl,rfl,HL,hLi,hi5,HW,ho,hc,hm⟩:=hrel;have hs:=hm.size;go_wp2_with fail;with_reducible refine (at_anyI A bs c _ lo hi hb hl hc 50 (by decide) (by decide)).mono ?_
  rintro e w1 ⟨x0,rfl,hx0,rfl⟩;by_cases hlt:i < x0 % 5
  ·have hlt2:(i:Int) < (x0:Int) % 5:=by omega
   have hi4:i≤4:=by omega
   have ew1:IntKind.i64.wrap (51+(i:Int))=51+(i:Int):=IntWalk.i64_in _ (by omega);go_wp2_with fail;with_reducible refine (at_anyI A bs c _ lo hi hb hl hc (51+(i:Int)) (by omega) (by omega)).mono ?_
   rintro e w2 ⟨x,rfl,hx,rfl⟩;clear hlt hlt2 ew1;have hr0:¬ r=0:=by omega
   have hr0':¬ (r:Int)=0:=by omega
   obtain ⟨m,hmm⟩:∃ m:Int,(x:Int) % (r:Int)=m:=⟨_,rfl⟩
   have hmb:0≤m∧m < r:=by rw [← hmm];exact ⟨Int.emod_nonneg _ hr0',Int.emod_lt_of_pos _ (by omega)⟩
   have ew2:IntKind.i64.wrap (1+m)=1+m:=IntWalk.i64_in _ (by omega);have ew3:IntKind.i64.wrap (-(1+m)) = -(1+m):=IntWalk.i64_in _ (by omega);cases hx8:((x:Int) / 8 % 2 == 1) with
   | true =>
    go_wp2_with (at_builtin;refine wpList_push rfl _ _ 34 rfl w.heap.size 3 (.int .i64 0) 1 8 undSI infoI rfl (by decide) _ _ _ rfl ho 1 [.int .i64 (-(1+m))] rfl rfl ?c1 ?c2 ?c3 hs ?next)
    case c1=>exact one_of_ints [-(1+m)]
    case c2=>unfold maxLen;omega
    case c3=>omega
    case next =>
     intro v4 w4 ho4 hgr4 hat4;obtain ⟨A4,c4,rfl, -, -⟩:=owns_shape ho4;have m4:=Mid.of_grownRow ho hgr4;have hm4:=hm.transNew m4 (Or.inl (Nat.le_refl _));have hc4:=hc.mid m4 (Or.inr hlo);go_wp2_with fail;go_roundw
     case rel =>
      refine ⟨xs++[-(1+m)],i+1,A4,c4,L+1,by go_num,rfl,Lib.hid (by simp [HL.out]),by omega,by omega,Lib.hid ?_,by rw [ints_append];exact ho4,hc4,hm4⟩;intro y hy;rcases List.mem_append.1 hy with hy | hy
      ·exact HW.out y hy
      ·simp at hy
       omega
     case measure=>simp [intOf];omega
   | false =>
    go_wp2_with (at_builtin;refine wpList_push rfl _ _ 34 rfl w.heap.size 3 (.int .i64 0) 1 8 undSI infoI rfl (by decide) _ _ _ rfl ho 1 [.int .i64 (1+m)] rfl rfl ?c1 ?c2 ?c3 hs ?next)
    case c1=>exact one_of_ints [1+m]
    case c2=>unfold maxLen;omega
    case c3=>omega
    case next =>
     intro v4 w4 ho4 hgr4 hat4;obtain ⟨A4,c4,rfl, -, -⟩:=owns_shape ho4;have m4:=Mid.of_grownRow ho hgr4;have hm4:=hm.transNew m4 (Or.inl (Nat.le_refl _));have hc4:=hc.mid m4 (Or.inr hlo);go_wp2_with fail;go_roundw
     case rel =>
      refine ⟨xs++[1+m],i+1,A4,c4,L+1,by go_num,rfl,Lib.hid (by simp [HL.out]),by omega,by omega,Lib.hid ?_,by rw [ints_append];exact ho4,hc4,hm4⟩;intro y hy;rcases List.mem_append.1 hy with hy | hy
      ·exact HW.out y hy
      ·simp at hy
       omega
     case measure=>simp [intOf];omega
  ·have hlt2:¬ (i:Int) < (x0:Int) % 5:=by omega
   have hok:=(HW.out.lt hr3).ok;have hxl:=HL.out;have hrs:=Rs.of_own ho;have hc5:Calls Tryz.prog 109 #[.slice Ax L cx] w1 fun e w'=>RetI 3 (red [] xs) w1 e w':=by
    have:=spec_ReduceLetters Ax xs cx w1 w1.heap.size hrs (Nat.le_refl _) hok (by omega)
    rwa [hxl] at this
   have HC5:=Lib.hid hc5;clear hok hxl hrs hc5;go_wp2_with fail;with_reducible refine (HC5.out).mono ?_
   rintro e w5 ⟨A5,c5,rfl,ho5,hb5⟩;go_wp2_with fail;go_ret;have hlen:=red_nil_len xs;have hL:=HL.out;have lw:=HW.out.lt hr3;exact ⟨A5,c5,red [] xs,rfl,⟨by omega,HW.out.red,lt_red lw,rd_red lw⟩,(OV.new ho5).wide hs (Nat.le_refl _) (Nat.le_refl _),hm.trans (Mid.of_below hb5)⟩
end
section
open Go.RowKit
end
section
open Go.RowKit
end
section
open Go.RowKit
end
end Go.Proofs.YthampgpcajmopaaGreat
