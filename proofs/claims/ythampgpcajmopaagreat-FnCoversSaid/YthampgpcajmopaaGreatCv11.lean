/- Contracts and lemmas of this seat, many texts in one: see the words ahead of each. No condition beyond those typed in each lemma. -/
import Derived.Test.YthampgpcajmopaaGreatCv10
import Derived.Test.YthampgpcajmopaaGreatCv9
import Derived.Test.YthampgpcajmopaaGreatCv2
import Derived.Test.YthampgpcajmopaaGreatCv6
import Derived.Test.YthampgpcajmopaaGreatCv8
import Derived.Test.YthampgpcajmopaaGreatCv3
import Derived.Test.YthampgpcajmopaaGreatCv7
import Derived.Test.YthampgpcajmopaaGreatCv5

namespace Go.Proofs.YthampgpcajmopaaGreat
set_option linter.unusedVariables false
set_option linter.unusedSimpArgs false
set_option maxHeartbeats 40000000
set_option maxRecDepth 100000
section
open Go.RowKit
def DrW6 (l:List (List Int)):Prop:=l.length≤3∧∀ x∈l,x.length≤6∧LtW x∧Rd x
theorem DrW6.nil:DrW6 []:=⟨by simp,by simp⟩
theorem DrW6.sum {l:List (List Int)} (h:DrW6 l):sumL l≤18:=by
 have h1:∀ (l:List (List Int)),(∀ x∈l,x.length≤6)→sumL l≤6 * l.length:=by
  intro l
  induction l with
  | nil=>intro _;simp [sumL]
  | cons a l ih =>
   intro hl;have h1:=ih (fun x hx=>hl x (List.mem_cons_of_mem _ hx));have h2:=hl a List.mem_cons_self;simp only [sumL] at h1 ⊢;rw [List.map_cons,List.sum_cons,List.length_cons,Nat.mul_succ];omega
 have h2:=h1 l (fun x hx=>(h.2 x hx).1);have:=h.1;omega
theorem DrawSeparateWord_any (A:Option Addr) (bs:List Int) (c:Nat) (w:World) (hi:Nat) (hb:OkB bs) (hl:bs.length≤1048576) (hr:RV w 0 hi A (byts bs)) :
  Calls Tryz.prog 56 #[.slice A bs.length c] w fun e w'=>∃ r s A1 c1 es A2 c2 xs,e=.returned (.tuple #[graV r s A1 (List.length es) c1,.slice A2 (List.length xs) c2])∧DrG r s es∧(xs.length≤6∧LtW xs∧Rd xs)∧OG w' w.heap.size w'.heap.size A1 c1 es∧OI w' w.heap.size w'.heap.size A2 c2 xs∧Mid 0 0 w w':=by
 have hal:=Mid.alloc w (.cells #[.int .i64 0,.int .i64 0,.slice none 0 0] 26);have B2:=Box.new w #[.int .i64 0,.int .i64 0,.slice none 0 0] 26;have hr0:=hr.mid hal oZl;go_enter Tryz.func56,Tryz.ntmps56
 go_wp2_with fail;generalize (w.alloc (.cells #[.int .i64 0,.int .i64 0,.slice none 0 0] 26))=w1 at B2 hr0 hal ⊢;have hs1:w.heap.size < w1.heap.size:=B2.1;with_reducible refine (DrawContains_any A bs c w1 hi hb hl hr0).mono ?_
 rintro e w2 ⟨r,s,Ae,ce,es,Aw,cw,xs,rfl,hg,hx,hO,ow,m2⟩;replace B2:=B2.mid m2 oZr;have hM2:=hal.trans m2;have hs2:=m2.size;have HG:=Lib.hid hg;have HX:=Lib.hid hx;obtain ⟨L,hL⟩:∃ l,es.length=l:=⟨_,rfl⟩
 have HL:=Lib.hid hL;obtain ⟨L2,hL2⟩:∃ l,xs.length=l:=⟨_,rfl⟩
 have HL2:=Lib.hid hL2;rw [hL,hL2];clear hg hx hL hL2 hal m2 hr hr0;have al5:=Mid.alloc w2 (.cells #[.int .i64 r,.int .i64 s,.slice Ae L ce] 26);have G5:=Box.new w2 #[.int .i64 r,.int .i64 s,.slice Ae L ce] 26;obtain ⟨gb,hgb⟩:∃ g,w2.heap.size=g:=⟨_,rfl⟩
 replace B2:=B2.mid al5 oZr;replace hM2:=hM2.trans al5.zero;have hO5:=hO.mid al5 oZl;have ow5:=ow.mid al5 oZl;have hs5:=al5.size;rw [hgb] at G5 hs5;obtain ⟨w5,hw5⟩:∃ x,w2.alloc (.cells #[.int .i64 r,.int .i64 s,.slice Ae L ce] 26)=x:=⟨_,rfl⟩
 rw [hw5] at B2 hM2 hO5 ow5 hs5 G5;clear hO ow al5;have g0:=G5.cell 0 rfl;have g1:=G5.cell 1 rfl;have g2:=G5.cell 2 rfl;have gl:=G5.1;have q0:=B2.cell 0 rfl;have q1:=B2.cell 1 rfl;have q2:=B2.cell 2 rfl;have qf:=B2.2.2;have ql:=B2.1;have hst:=((Mid.setCell w5 (lo:=w.heap.size) (hi:=w.heap.size+1) (p:=⟨w.heap.size,0,none⟩) (.int .i64 r) (Nat.le_refl _) (Nat.lt_succ_self _)).trans (Mid.setCell _ (lo:=w.heap.size) (hi:=w.heap.size+1) (p:=⟨w.heap.size,1,none⟩) (.int .i64 s) (Nat.le_refl _) (Nat.lt_succ_self _))).trans (Mid.setCell _ (lo:=w.heap.size) (hi:=w.heap.size+1) (p:=⟨w.heap.size,2,none⟩) (.slice Ae L ce) (Nat.le_refl _) (Nat.lt_succ_self _));have O9:=Lib.hid ((hO5.mid hst (Or.inl (by omega))).wide (lo':=w.heap.size) (by omega) (Nat.le_trans hO5.size hst.size) (Nat.le_refl _));have W9:=Lib.hid ((ow5.mid hst (Or.inl (by omega))).wide (lo':=w.heap.size) (by omega) (Nat.le_trans ow5.size hst.size) (Nat.le_refl _));have M9:=Lib.hid (hM2.transNew hst (Or.inl (Nat.le_refl _)));clear hst hO5 ow5 hM2;go_wp2_with fail;refine bodyPost_ret (v:=.tuple #[.agg #[.int .i64 r,.int .i64 s,.slice Ae L ce],.slice Aw L2 cw]) (by simp [results,Tryz.results56,go_sem,q0,q1,q2,qf,g0,g1,g2]) rfl ⟨r,s,Ae,ce,es,Aw,cw,xs,?_,HG.out,HX.out,O9.out,W9.out,M9.out⟩;rw [HL.out,HL2.out]
theorem DrawContainsAll_any (A:Option Addr) (bs:List Int) (c:Nat) (w:World) (hi:Nat) (hb:OkB bs) (hl:bs.length≤1048576) (hr:RV w 0 hi A (byts bs)) :
  Calls Tryz.prog 142 #[.slice A bs.length c] w fun e w'=>∃ r s A1 c1 es A2 c2 xs,e=.returned (.tuple #[graV r s A1 (List.length es) c1,.slice A2 (List.length xs) c2])∧DrG r s es∧DrW6 xs∧OG w' w.heap.size w'.heap.size A1 c1 es∧OSS w' w.heap.size w'.heap.size 34 3 A2 c2 xs∧Mid 0 0 w w':=by
 have hal:=Mid.alloc w (.cells #[.int .i64 0,.int .i64 0,.slice none 0 0] 26);have B2:=Box.new w #[.int .i64 0,.int .i64 0,.slice none 0 0] 26;have hr0:=hr.mid hal oZl;go_enter Tryz.func142,Tryz.ntmps142
 go_wp2_with fail;generalize (w.alloc (.cells #[.int .i64 0,.int .i64 0,.slice none 0 0] 26))=w1 at B2 hr0 hal ⊢;have hs1:w.heap.size < w1.heap.size:=B2.1;with_reducible refine (l1New_any A bs c w1 hi hb hl hr0).mono ?_
 rintro e w2 ⟨p,rfl,hp,h2,m2⟩;replace B2:=B2.mid m2 oZr;have hM2:=hal.trans m2;have hs2:=m2.size;have hwp:w.heap.size < p:=by omega
 clear hal m2 hr0 hr;have hpw2:=h2.lt;go_wp2_with fail;with_reducible refine (l9Any_any p A bs c _ hb hl h2).mono ?_
 rintro e w3 ⟨r,s,Ae,ce,es,rfl,hg,hO,hC,m3⟩;replace B2:=B2.mid m3 (Or.inl hwp);have hM:=hM2.transNew m3 (Or.inl (by omega));have hs3:=m3.size;have HG:=Lib.hid hg;obtain ⟨L,hL⟩:∃ l,es.length=l:=⟨_,rfl⟩
 have HL:=Lib.hid hL;rw [hL];clear hg hL h2 m3 hM2;have al5:=Mid.alloc w3 (.cells #[.int .i64 r,.int .i64 s,.slice Ae L ce] 26);have G5:=Box.new w3 #[.int .i64 r,.int .i64 s,.slice Ae L ce] 26;have hsa5:(w3.alloc (.cells #[.int .i64 r,.int .i64 s,.slice Ae L ce] 26)).heap.size=w3.heap.size+1:=by simp
 obtain ⟨gb,hgb⟩:∃ g,w3.heap.size=g:=⟨_,rfl⟩
 replace B2:=B2.mid al5 oZr;replace hC:=hC.mid al5 (Or.inr rfl);replace hM:=hM.trans al5.zero;have hO5:=hO.mid al5 oZl;have hs5:=al5.size;rw [hgb] at G5 hO5 hs3 hsa5;obtain ⟨w5,hw5⟩:∃ x,w3.alloc (.cells #[.int .i64 r,.int .i64 s,.slice Ae L ce] 26)=x:=⟨_,rfl⟩
 rw [hw5] at B2 hC hM hO5 hs5 G5 hsa5;clear hO al5 hs5;have al6:=Mid.alloc w5 (.cells #[] 34);have ho:=Own1.empty w5;rw [hsa5] at ho;replace B2:=B2.mid al6 oZr;replace G5:=G5.mid al6 oZr;replace hC:=hC.mid al6 (Or.inr rfl);replace hM:=hM.trans al6.zero;replace hO5:=hO5.mid al6 oZl;have hs6:=al6.size;rw [hsa5] at hs6;go_wp2_with fail;obtain ⟨w6,hw6⟩:∃ x,w5.alloc (.cells #[] 34)=x:=⟨_,rfl⟩
 rw [hw6] at B2 hC hM hO5 G5 ho hs6;rw [hw6];clear hw5 hw6 al6 hgb;with_reducible refine (l1BelowI 4 (by decide) (by decide) p A bs c _ hb hl hC).mono ?_
 rintro e w7 ⟨n0,rfl,hn0,hC7,m7⟩;have ho7:=ho.midB m7 (by omega);have G7:=G5.mid m7 (Or.inr (by omega));have B7:=B2.mid m7 (Or.inl hwp);have O7:=hO5.mid m7 (Or.inl (by omega));have hM7:=hM.transNew m7 (Or.inl (by omega));have hs7:=m7.size;have hsz7:gb+1≤w7.heap.size:=by omega
 clear ho G5 B2 hO5 hM hC m7 hs7 hs6;go_wp2_with fail;go_loopw [6,7] (fun wv nv wr=>∃ (rows:List Row) (n:Nat) (Ax:Option Addr) (cx K:Nat),nv=.int .i64 n∧wv=.slice Ax K cx∧Hid (rows.length=K)∧K+n≤3∧Hid (DrW6 (rowsD rows))∧Own1 wr (gb+1) Ax K cx rows∧Box wr gb [.int .i64 r,.int .i64 s,.slice Ae L ce]∧OG wr w2.heap.size gb Ae ce es∧Box wr w.heap.size [.int .i64 0,.int .i64 0,.slice none 0 0]∧Cur wr p A bs c∧Mid 0 0 w wr∧gb+1≤wr.heap.size)
  (fun _ nv _=>natV nv)
 case atStart=>exact ⟨[],n0,_,_,0,rfl,rfl,Lib.hid rfl,by omega,Lib.hid DrW6.nil,ho7,G7,O7,B7,hC7,hM7,hsz7⟩
 case round =>
  clear ho7 G7 O7 B7 hC7 hM7 hsz7;obtain ⟨rows,n,Ax,cx,K,rfl,rfl,HK,hKm,HW,ho,hG,hO,hB,hC,hM,hsz⟩:=hrel;have hgl:=hG.1;by_cases hlt:0 < n
  ·have g0:=hG.cell 0 rfl
   have g1:=hG.cell 1 rfl;have g2:=hG.cell 2 rfl;have hW:=l9Word_any p A bs c r s Ae es ce wr _ _ HG.out (hO.rg.wide (lo':=p+1) (hi':=gb) (by omega) (Nat.le_refl _) (by omega)) (Or.inl (Nat.lt_succ_self _)) hb hl hC;rw [HL.out] at hW;have HWo:Hid (Calls Tryz.prog 181 #[.pointer (some ⟨p,0,none⟩),.agg #[.int .i64 r,.int .i64 s,.slice Ae L ce]] wr fun e w'=>∃ A' c' xs,e=.returned (.slice A' (List.length xs) c')∧(xs.length≤6∧LtW xs∧Rd xs)∧OI w' wr.heap.size w'.heap.size A' c' xs∧Cur w' p A bs c∧Mid p (p+1) wr w'):=Lib.hid hW;clear hW;go_wp2_with fail;with_reducible refine (HWo.out).mono ?_
   rintro e w8 ⟨Ay,cy,ys,rfl,hy,oy,hC8,m8⟩;have hoy:=oy.2.1;have HY:=Lib.hid hy;have hyl:=hy.1;have G8:=hG.mid m8 (Or.inr (by omega));have B8:=hB.mid m8 (Or.inl hwp);have O8:=hO.mid m8 (Or.inl (by omega));have hM8:=hM.transNew m8 (Or.inl (by omega));have hs8:=m8.size;clear hy oy hC hM hB hO hG HWo g0 g1 g2;go_wp2_with (at_builtin;refine wpList_pushB rfl _ _ rfl rfl ho m8 (by omega) ⟨Ay,cy,ys⟩ _ rfl hoy rfl (by omega) hsz ?next)
   case next =>
    intro A3 c3 w9 ho9 hgr9;have m9:Mid (gb+1) w8.heap.size w8 w9:=Mid.of_grownRow (ho.midB m8 (by omega)).out hgr9;go_wp2_with fail;go_roundw
    case rel =>
     refine ⟨rows++[⟨Ay,cy,ys⟩],n - 1,A3,c3,K+1,by go_num,rfl,Lib.hid (by simp [HK.out]),by omega,Lib.hid ?_,ho9,G8.mid m9 (Or.inl (by omega)),O8.mid m9 (Or.inr (by omega)),B8.mid m9 (Or.inl (by omega)),hC8.mid m9 (Or.inl (by omega)),hM8.transNew m9 (Or.inl (by omega)),by have:=m9.size;omega⟩;have h1:=HW.out;have h2:=HK.out;rw [rowsD_append];refine ⟨by rw [List.length_append,rowsD_len];simp [rowsD];omega,fun x hx=>?_⟩;rcases List.mem_append.1 hx with hx | hx
     ·exact h1.2 x hx
     ·simp [rowsD] at hx
      rw [hx];exact HY.out
    case measure=>simp [natV];omega
  ·have HD:Hid (∃ xs,rowsD rows=xs):=Lib.hid ⟨_,rfl⟩
   obtain ⟨xs,hxs⟩:=HD.out;have hkl:xs.length=K:=by rw [← hxs,rowsD_len];exact HK.out
   have hoss:=ho.oss hxs;have HXX:=Lib.hid (hxs ▸ HW.out);have HKL:=Lib.hid hkl;clear hkl ho hxs HD;have g0:=hG.cell 0 rfl;have g1:=hG.cell 1 rfl;have g2:=hG.cell 2 rfl;have q0:=hB.cell 0 rfl;have q1:=hB.cell 1 rfl;have q2:=hB.cell 2 rfl;have qf:=hB.2.2;have ql:=hB.1;have hst:=((Mid.setCell wr (lo:=w.heap.size) (hi:=w.heap.size+1) (p:=⟨w.heap.size,0,none⟩) (.int .i64 r) (Nat.le_refl _) (Nat.lt_succ_self _)).trans (Mid.setCell _ (lo:=w.heap.size) (hi:=w.heap.size+1) (p:=⟨w.heap.size,1,none⟩) (.int .i64 s) (Nat.le_refl _) (Nat.lt_succ_self _))).trans (Mid.setCell _ (lo:=w.heap.size) (hi:=w.heap.size+1) (p:=⟨w.heap.size,2,none⟩) (.slice Ae L ce) (Nat.le_refl _) (Nat.lt_succ_self _));have O9:=Lib.hid ((hO.mid hst (Or.inl (by omega))).wide (lo':=w.heap.size) (by omega) (Nat.le_trans (by omega) hst.size) (Nat.le_refl _));have W9:=Lib.hid ((hoss.mid hst (Or.inl (by omega))).wide (lo':=w.heap.size) (by omega) hst.size (Nat.le_refl _));have M9:=Lib.hid (hM.transNew hst (Or.inl (Nat.le_refl _)));clear hst hO hoss hM hC;go_wp2_with fail;refine bodyPost_ret (v:=.tuple #[.agg #[.int .i64 r,.int .i64 s,.slice Ae L ce],.slice Ax K cx]) (by simp [results,Tryz.results142,go_sem,q0,q1,q2,qf,g0,g1,g2]) rfl ⟨r,s,Ae,ce,es,Ax,cx,xs,?_,HG.out,HXX.out,O9.out,W9.out,M9.out⟩;rw [HL.out,HKL.out]
theorem DrawSeparateWords_any (A:Option Addr) (bs:List Int) (c:Nat) (w:World) (hi:Nat) (hb:OkB bs) (hl:bs.length≤1048576) (hr:RV w 0 hi A (byts bs)) :
  Calls Tryz.prog 59 #[.slice A bs.length c] w fun e w'=>∃ r s A1 c1 es A2 c2 xs,e=.returned (.tuple #[graV r s A1 (List.length es) c1,.slice A2 (List.length xs) c2])∧DrG r s es∧DrW6 xs∧OG w' w.heap.size w'.heap.size A1 c1 es∧OSS w' w.heap.size w'.heap.size 34 3 A2 c2 xs∧Mid 0 0 w w':=by
 have hal:=Mid.alloc w (.cells #[.int .i64 0,.int .i64 0,.slice none 0 0] 26);have B2:=Box.new w #[.int .i64 0,.int .i64 0,.slice none 0 0] 26;have hr0:=hr.mid hal oZl;go_enter Tryz.func59,Tryz.ntmps59
 go_wp2_with fail;generalize (w.alloc (.cells #[.int .i64 0,.int .i64 0,.slice none 0 0] 26))=w1 at B2 hr0 hal ⊢;have hs1:w.heap.size < w1.heap.size:=B2.1;with_reducible refine (DrawContainsAll_any A bs c w1 hi hb hl hr0).mono ?_
 rintro e w2 ⟨r,s,Ae,ce,es,Aw,cw,xs,rfl,hg,hx,hO,ow,m2⟩;replace B2:=B2.mid m2 oZr;have hM2:=hal.trans m2;have hs2:=m2.size;have HG:=Lib.hid hg;have HX:=Lib.hid hx;obtain ⟨L,hL⟩:∃ l,es.length=l:=⟨_,rfl⟩
 have HL:=Lib.hid hL;obtain ⟨L2,hL2⟩:∃ l,xs.length=l:=⟨_,rfl⟩
 have HL2:=Lib.hid hL2;rw [hL,hL2];clear hg hx hL hL2 hal m2 hr hr0;have al5:=Mid.alloc w2 (.cells #[.int .i64 r,.int .i64 s,.slice Ae L ce] 26);have G5:=Box.new w2 #[.int .i64 r,.int .i64 s,.slice Ae L ce] 26;obtain ⟨gb,hgb⟩:∃ g,w2.heap.size=g:=⟨_,rfl⟩
 replace B2:=B2.mid al5 oZr;replace hM2:=hM2.trans al5.zero;have hO5:=hO.mid al5 oZl;have ow5:=ow.mid al5 oZl;have hs5:=al5.size;rw [hgb] at G5 hs5;obtain ⟨w5,hw5⟩:∃ x,w2.alloc (.cells #[.int .i64 r,.int .i64 s,.slice Ae L ce] 26)=x:=⟨_,rfl⟩
 rw [hw5] at B2 hM2 hO5 ow5 hs5 G5;clear hO ow al5;have g0:=G5.cell 0 rfl;have g1:=G5.cell 1 rfl;have g2:=G5.cell 2 rfl;have gl:=G5.1;have q0:=B2.cell 0 rfl;have q1:=B2.cell 1 rfl;have q2:=B2.cell 2 rfl;have qf:=B2.2.2;have ql:=B2.1;have hst:=((Mid.setCell w5 (lo:=w.heap.size) (hi:=w.heap.size+1) (p:=⟨w.heap.size,0,none⟩) (.int .i64 r) (Nat.le_refl _) (Nat.lt_succ_self _)).trans (Mid.setCell _ (lo:=w.heap.size) (hi:=w.heap.size+1) (p:=⟨w.heap.size,1,none⟩) (.int .i64 s) (Nat.le_refl _) (Nat.lt_succ_self _))).trans (Mid.setCell _ (lo:=w.heap.size) (hi:=w.heap.size+1) (p:=⟨w.heap.size,2,none⟩) (.slice Ae L ce) (Nat.le_refl _) (Nat.lt_succ_self _));have O9:=Lib.hid ((hO5.mid hst (Or.inl (by omega))).wide (lo':=w.heap.size) (by omega) (Nat.le_trans hO5.size hst.size) (Nat.le_refl _));have W9:=Lib.hid ((ow5.mid hst (Or.inl (by omega))).wide (lo':=w.heap.size) (by omega) (Nat.le_trans ow5.size hst.size) (Nat.le_refl _));have M9:=Lib.hid (hM2.transNew hst (Or.inl (Nat.le_refl _)));clear hst hO5 ow5 hM2;go_wp2_with fail;refine bodyPost_ret (v:=.tuple #[.agg #[.int .i64 r,.int .i64 s,.slice Ae L ce],.slice Aw L2 cw]) (by simp [results,Tryz.results59,go_sem,q0,q1,q2,qf,g0,g1,g2]) rfl ⟨r,s,Ae,ce,es,Aw,cw,xs,?_,HG.out,HX.out,O9.out,W9.out,M9.out⟩;rw [HL.out,HL2.out]
end
theorem nodup_sub_len {α:Type} [DecidableEq α]:∀ (l m:List α),l.Nodup→(∀ x∈l,x∈m)→l.length≤m.length:=by
 intro l
 induction l with
 | nil=>intro m _ _;simp
 | cons a t ih =>
  intro m hn hs;rw [List.nodup_cons] at hn;have ha:=hs a List.mem_cons_self;have h:=ih (m.erase a) hn.2 (fun x hx=>by
   have hne:x≠a:=fun e=>hn.1 (e ▸ hx);exact (List.mem_erase_of_ne hne).2 (hs x (List.mem_cons_of_mem _ hx)))
  rw [List.length_erase_of_mem ha] at h;have:=List.length_pos_of_mem ha;simp only [List.length_cons];omega
def Tot (r s:Int) (es:List Ed):Prop:=∀ v,0≤v→v < s→∀ x,x≠0→-r≤x→x≤r→∃ t,Sp es v x t
def Rch (s:Int) (es:List Ed):Prop:=∀ v,0≤v→v < s→∃ w,Pa es 0 w v
noncomputable def compG (r s:Int) (es:List Ed):List Ed:=canon (es++addLs s es r.toNat)
theorem compG_sub {r s:Int} {es:List Ed}:∀ e∈es,e∈compG r s es:=fun e he=>mem_canon.2 (List.mem_append_left _ he)
theorem mem_addL {s:Int} {es:List Ed} {x:Int} {e:Ed} (h:e∈addL s es x):∃ (i:Nat) (a b:Int),(freeV es x s.toNat)[i]?=some a∧(freeV es (-x) s.toNat)[i]?=some b∧e=⟨a,x,b⟩:=by
 obtain ⟨i,hi⟩:=List.mem_iff_getElem?.1 h;unfold addL at hi;rw [List.getElem?_zipWith] at hi;cases h1:(freeV es x s.toNat)[i]? with
 | none=>simp [h1] at hi
 | some a =>
  cases h2:(freeV es (-x) s.toNat)[i]? with
  | none=>simp [h1,h2] at hi
  | some b =>
   simp [h1,h2] at hi;exact ⟨i,a,b,h1,h2,hi.symm⟩
theorem mem_addLs {s:Int} {es:List Ed} {n:Nat} {e:Ed}:e∈addLs s es n↔∃ i:Nat,i < n∧e∈addL s es ((i:Int)+1):=by
 unfold addLs;rw [List.mem_flatMap];constructor
 ·rintro ⟨i,hi,h⟩
  exact ⟨i,List.mem_range.1 hi,h⟩
 ·rintro ⟨i,hi,h⟩
  exact ⟨i,List.mem_range.2 hi,h⟩
theorem freeV_nodup (es:List Ed) (x:Int) (n:Nat):(freeV es x n).Nodup:=by
 unfold freeV List.Nodup;rw [List.pairwise_map];exact (List.Pairwise.filter _ (List.nodup_range (n:=n))).imp fun h e=>h (by omega)
theorem nodup_at {α:Type} {l:List α} (h:l.Nodup) {i j:Nat} {a:α} (hi:l[i]?=some a) (hj:l[j]?=some a):i=j:=by
 obtain ⟨hi,e1⟩:=List.getElem?_eq_some_iff.1 hi;obtain ⟨hj,e2⟩:=List.getElem?_eq_some_iff.1 hj;have hp:=List.pairwise_iff_getElem.1 h;rcases Nat.lt_trichotomy i j with hl | e | hl
 ·exact absurd (e1.trans e2.symm) (hp i j hi hj hl)
 ·exact e
 ·exact absurd (e2.trans e1.symm) (hp j i hj hi hl)
theorem comp_fol {r s:Int} {es:List Ed} (h:IsFol r s es):IsFol r s (compG r s es):=by
 have old:∀ e∈es,∀ f∈addLs s es r.toNat,¬ Clash e f:=by
  intro e he f hf hc;obtain ⟨i,hi,hf⟩:=mem_addLs.1 hf;obtain ⟨j,a,b,h1,h2,rfl⟩:=mem_addL hf;have ha:=(mem_freeV.1 (List.mem_of_getElem? h1)).2.2;have hb:=(mem_freeV.1 (List.mem_of_getElem? h2)).2.2;have hi2:=h.gr.all e he;simp only [InG] at hi2;have hs:=sp_edge he (by omega);obtain ⟨hl,hc⟩:=hc;simp only at hl hc;rcases hc with hc | hc
  ·rw [hl,hc] at hs
   exact nextV_no ha h.gr.nn _ hs
  ·have h3:=hs.neg
   rw [hl,hc] at h3;exact nextV_no hb h.gr.nn _ h3
 refine IsFol.mk' (complete_gr h) fun e he f hf hc=>?_;rcases List.mem_append.1 (mem_canon.1 he) with h1 | h1 <;> rcases List.mem_append.1 (mem_canon.1 hf) with h2 | h2
 ·exact h.key e h1 f h2 hc
 ·exact absurd hc (old e h1 f h2)
 ·exact absurd hc.symm (old f h2 e h1)
 ·obtain ⟨i,hi,h1⟩:=mem_addLs.1 h1
  obtain ⟨k,a,b,a1,a2,rfl⟩:=mem_addL h1;obtain ⟨i',hi',h2⟩:=mem_addLs.1 h2;obtain ⟨k',a',b',b1,b2,rfl⟩:=mem_addL h2;obtain ⟨hl,hc⟩:=hc;simp only at hl hc;rw [← hl] at b1 b2 ⊢;rcases hc with hc | hc
  ·subst hc
   have:=nodup_at (freeV_nodup _ _ _) a1 b1;subst this;rw [a2] at b2;rw [Option.some.inj b2]
  ·subst hc
   have:=nodup_at (freeV_nodup _ _ _) a2 b2;subst this;rw [a1] at b1;rw [Option.some.inj b1]
theorem comp_tot {r s:Int} {es:List Ed} (h:IsFol r s es):Tot r s (compG r s es):=by
 intro v h0 h1 x hx hx1 hx2;by_cases hn:0≤nextV es v x
 ·exact ⟨_,(sp_nextV hn).mono compG_sub⟩
 ·have hm:v∈freeV es x s.toNat:=mem_freeV.2 ⟨h0,by omega,by omega⟩
  obtain ⟨i,hi⟩:=List.mem_iff_getElem?.1 hm;have hil:=(List.getElem?_eq_some_iff.1 hi).1;rcases Int.lt_or_gt_of_ne hx with hneg | hpos
  ·have hil2:i < (freeV es (-x) s.toNat).length:=by
    have:=free_same h (x:=-x) (by omega);rw [Int.neg_neg] at this;omega
   obtain ⟨a,b,e1,e2,e3⟩:=addL_at h (x:=-x) (by omega) hil2;rw [Int.neg_neg,hi] at e2;obtain rfl:=Option.some.inj e2;refine ⟨a,.inr ⟨hneg,mem_canon.2 (List.mem_append_right _ (mem_addLs.2 ⟨(-x).toNat - 1,by omega,?_⟩))⟩⟩;have e4:(((-x).toNat - 1:Nat):Int)+1 = -x:=by omega
   rw [e4];exact List.mem_of_getElem? e3
  ·obtain ⟨a,b,e1,e2,e3⟩:=addL_at h hpos hil
   rw [hi] at e1;obtain rfl:=Option.some.inj e1;refine ⟨b,.inl ⟨hpos,mem_canon.2 (List.mem_append_right _ (mem_addLs.2 ⟨x.toNat - 1,by omega,?_⟩))⟩⟩;have e4:((x.toNat - 1:Nat):Int)+1=x:=by omega
   rw [e4];exact List.mem_of_getElem? e3
theorem Tot.full {r s:Int} {es:List Ed} (h:Tot r s es) (hf:IsFol r s es):∀ v:Int,0≤v→v < s→∀ x,x≠0→-r≤x→x≤r→0≤nextV es v x:=fun v h0 h1 x hx hx1 hx2=>by
 obtain ⟨t,ht⟩:=h v h0 h1 x hx hx1 hx2;rw [nextV_sp hf ht];exact (ht.rng hf.gr.all).2.1.1
theorem Rch.mono {s:Int} {es fs:List Ed} (h:Rch s es) (hs:∀ e∈es,e∈fs):Rch s fs:=fun v h0 h1=>by
 obtain ⟨w,hw⟩:=h v h0 h1;exact ⟨w,hw.mono hs⟩
theorem IsCor.rch {r s:Int} {es:List Ed} (h:IsCor r s es):Rch s es:=fun v h0 h1=>by
 rcases Int.lt_or_le 0 v with hv | hv
 ·exact ((leaf_none_iff h.fol).1 h.leaf v (by omega) h1).2
 ·exact ⟨[],by show (0:Int)=v;omega⟩
theorem tot_leaf {r s:Int} {es:List Ed} (hf:IsFol r s es) (ht:Tot r s es) (hr:Rch s es):leaf s es=none:=by
 refine (leaf_none_iff hf).2 fun v h1 h2=>⟨?_,hr v (by omega) h2⟩
 have hrk:=hf.gr.rank;obtain ⟨t,ht1⟩:=ht v (by omega) h2 1 (by decide) (by omega) (by omega);obtain ⟨t',ht2⟩:=ht v (by omega) h2 (-1) (by decide) (by omega) (by omega);exact ⟨1, -1,t,t',by decide,ht1,ht2⟩
theorem rch_ord {r s:Int} {es:List Ed} (hf:IsFol r s es) (hr:Rch s es):((ordE r es 0).length:Int)=s∧∀ v,0≤v→v < s→v∈ordE r es 0:=by
 have hs:=hf.gr.size;have ho:=ordE_len hf.gr (v:=0) (Int.le_refl _) (by omega);have hall:∀ v,0≤v→v < s→v∈ordE r es 0:=fun v h0 h1=>by
  obtain ⟨w,hw⟩:=hr v h0 h1;exact bfs_reach hf (Int.le_refl _) (by omega) (ordE_self r es 0) hw
 refine ⟨?_,hall⟩;have h1:((List.range s.toNat).map fun (k:Nat)=>(k:Int)).length≤(ordE r es 0).length:=by
  have hnd:((List.range s.toNat).map fun (k:Nat)=>(k:Int)).Nodup:=by
   unfold List.Nodup;rw [List.pairwise_map];exact (List.pairwise_lt_range (n:=s.toNat)).imp fun h=>by omega
  refine nodup_sub_len _ _ hnd fun x hx=>?_;obtain ⟨k,hk,rfl⟩:=List.mem_map.1 hx;have:=List.mem_range.1 hk;exact hall k (by omega) (by omega)
 simp only [List.length_map,List.length_range] at h1;have:=ho.2.1;omega
theorem core_tot {r s:Int} {es:List Ed} (hf:IsFol r s es) (ht:Tot r s es) (hr:Rch s es):(coreA r (s,es)).1=s∧Tot r s (coreA r (s,es)).2:=by
 have e:coreA r (s,es)=canonG r (s,es):=by
  unfold coreA;rw [foldA_nil (g:=(s,es)) (folds_nil.2 hf.fol),trimA_none (g:=(s,es)) (tot_leaf hf ht hr)]
 obtain ⟨h1,h2⟩:=rch_ord hf hr;have hnd:=(ordE_len hf.gr (v:=0) (Int.le_refl _) (by have:=hf.gr.size;omega)).2.2;rw [e,canonG_val (g:=(s,es)) hf];refine ⟨h1,fun i h0 hi x hx hx1 hx2=>?_⟩;obtain ⟨k,rfl⟩:=Int.eq_ofNat_of_zero_le h0;have hk:k < (ordE r es 0).length:=by omega
 have hm:(ordE r es 0)[k]∈ordE r es 0:=List.getElem_mem hk;have hid:idxI (ordE r es 0) ((ordE r es 0)[k])=k:=idxI_at hnd.1 (List.getElem?_eq_getElem hk);generalize (ordE r es 0)[k]=u at hm hid;have hur:=hnd.2 u hm;obtain ⟨t,hs⟩:=ht u hur.1 hur.2 x hx hx1 hx2;have htr:=(hs.rng hf.gr.all).2.1;exact ⟨idxI (ordE r es 0) t,part_sp.2 ⟨u,t,hm,h2 t htr.1 htr.2,hid,rfl,hs⟩⟩
theorem filter_count (n:Nat):∀ l:List Ed,(∀ e∈l,1≤e.l∧e.l≤n)→l.length=(l.filter fun e=>decide (e.l≤(n:Int))).length:=fun l h=>by
 rw [List.filter_eq_self.2 fun e he=>by simpa using (h e he).2]
theorem fol_count {r s:Int} {es:List Ed} (h:IsFol r s es):∀ n:Nat,(es.filter fun e=>decide (e.l≤(n:Int))).length+((List.range n).map fun (i:Nat)=>(freeV es ((i:Int)+1) s.toNat).length).sum=n * s.toNat
 | 0=>by
  have:(es.filter fun e=>decide (e.l≤((0:Nat):Int)))=[]:=List.filter_eq_nil_iff.2 fun e he=>by
   have hi:=h.gr.all e he;simp only [InG] at hi;simp;omega
  rw [this];simp
 | n+1=>by
  have h1:=upto_split n es;have h2:=letter_count h (x:=(n:Int)+1) (by omega);have h3:=fol_count h n;rw [h1,List.range_succ,List.map_append,List.sum_append,Nat.succ_mul];simp only [List.map_cons,List.map_nil,List.sum_cons,List.sum_nil];omega
theorem fol_len {r s:Int} {es:List Ed} (h:IsFol r s es):es.length≤r.toNat * s.toNat:=by
 have h1:=fol_count h r.toNat;have h2:=filter_count r.toNat es fun e he=>by
  have hi:=h.gr.all e he;simp only [InG] at hi;omega
 omega
theorem tot_len {r s:Int} {es:List Ed} (h:IsFol r s es) (ht:Tot r s es):es.length=r.toNat * s.toNat:=by
 have h1:=fol_count h r.toNat;have h2:=filter_count r.toNat es fun e he=>by
  have hi:=h.gr.all e he;simp only [InG] at hi;omega
 have h3:((List.range r.toNat).map fun (i:Nat)=>(freeV es ((i:Int)+1) s.toNat).length)=(List.range r.toNat).map fun _=>0:=List.map_congr_left fun i hi=>by
  have hi:=List.mem_range.1 hi;have:freeV es ((i:Int)+1) s.toNat=[]:=List.eq_nil_iff_forall_not_mem.2 fun v hv=>by
   obtain ⟨a,b,c⟩:=mem_freeV.1 hv;have:=ht.full h v a (by omega) ((i:Int)+1) (by omega) (by omega) (by omega);omega
  rw [this]
  rfl
 rw [h3] at h1;have h4:((List.range r.toNat).map fun _=>0).sum=0:=by
  have:∀ l:List Nat,(l.map fun _=>0).sum=0:=fun l=>by induction l <;> simp_all
  exact this _
 omega
theorem pend_loop {es:List Ed} {u x z:Int} {fs:List Ed} (hfs:∀ a y b,Sp fs a y b→Sp es a y b ∨ (a=u∧y=x∧b=z) ∨ (a=z∧y = -x∧b=u)) (hz:∀ a y,¬ Sp es a y z∧¬ Sp es z y a) (hzu:z≠u) :
  ∀ {w:List Int} {a b:Int},Rd w→Pa fs a w b→a≠z→b≠z→Pa es a w b
 | [],_,_,_,h,_,_=>h
 | y :: w,a,b,hr,⟨t,h1,h2⟩,ha,hb=>by
  rcases hfs a y t h1 with h3 | ⟨rfl,rfl,rfl⟩ | ⟨rfl, -, -⟩
  ·have htz:t≠z:=fun e=>(hz a y).1 (e ▸ h3)
   exact ⟨t,h3,pend_loop hfs hz hzu (Rd.right (a:=[y]) hr) h2 htz hb⟩
  ·cases w with
   | nil=>cases h2;exact absurd rfl hb
   | cons y' w' =>
    obtain ⟨t',h4,h5⟩:=h2;rcases hfs _ y' t' h4 with h6 | ⟨h6, -, -⟩ | ⟨-,rfl, -⟩
    ·exact absurd h6 (hz t' y').2
    ·exact absurd h6 hzu
    ·exact absurd rfl (hr [] w' y)
  ·exact absurd rfl ha
section
open Go.RowKit
theorem CompIs_ex (r s:Int) (es:List Ed):∃ rr rs res b,CompleteIs r s es rr rs res b:=by
 by_cases h:IsFol r s es
 ·exact ⟨_,_,_,_,.inl ⟨rfl,h,rfl,rfl,rfl⟩⟩
 ·exact ⟨_,_,_,_,.inr ⟨rfl,h,rfl,rfl,rfl⟩⟩
theorem DrG.comp {r s:Int} {es:List Ed} {rr rs:Int} {res:List Ed} {b:Bool} (h:CompleteIs r s es rr rs res b):DrG rr rs res:=by
 rcases h with ⟨-,h,rfl,rfl,rfl⟩ | ⟨-, -,rfl,rfl,rfl⟩
 ·exact DrG.of_gr (comp_fol h).gr
 ·exact DrG.zero
theorem DrawIsSubgraph_any (A:Option Addr) (bs:List Int) (c:Nat) (w:World) (hi:Nat) (hb:OkB bs) (hl:bs.length≤1048576) (hr:RV w 0 hi A (byts bs)) :
  Calls Tryz.prog 62 #[.slice A bs.length c] w fun e w'=>∃ r s A1 c1 es r2 s2 A2 c2 es2,e=.returned (.tuple #[graV r s A1 (List.length es) c1,graV r2 s2 A2 (List.length es2) c2])∧DrG r s es∧DrG r2 s2 es2∧OG w' w.heap.size w'.heap.size A1 c1 es∧OG w' w.heap.size w'.heap.size A2 c2 es2∧Mid 0 0 w w':=by
 have hal:=Mid.alloc w (.cells #[.int .i64 0,.int .i64 0,.slice none 0 0] 26);have B2:=Box.new w #[.int .i64 0,.int .i64 0,.slice none 0 0] 26;have hal2:=Mid.alloc (w.alloc (.cells #[.int .i64 0,.int .i64 0,.slice none 0 0] 26)) (.cells #[.int .i64 0,.int .i64 0,.slice none 0 0] 26);have B3:=Box.new (w.alloc (.cells #[.int .i64 0,.int .i64 0,.slice none 0 0] 26)) #[.int .i64 0,.int .i64 0,.slice none 0 0] 26;rw [World.size_alloc] at B3;replace B2:=B2.mid hal2 oZr;replace hal:=hal.trans hal2;have hr0:=hr.mid hal oZl;go_enter Tryz.func62,Tryz.ntmps62
 go_wp2_with fail;clear hal2;generalize ((w.alloc (.cells #[.int .i64 0,.int .i64 0,.slice none 0 0] 26)).alloc (.cells #[.int .i64 0,.int .i64 0,.slice none 0 0] 26))=w1 at B2 B3 hr0 hal ⊢;have hs1:w.heap.size+1 < w1.heap.size:=B3.1;with_reducible refine (l1New_any A bs c w1 hi hb hl hr0).mono ?_
 rintro e w2 ⟨p,rfl,hp,h2,m2⟩;replace B2:=B2.mid m2 oZr;replace B3:=B3.mid m2 oZr;have hM2:=hal.trans m2;have hs2:=m2.size;have hpw2:=h2.lt;clear hal m2 hr0 hr;go_wp2_with fail;with_reducible refine (l5Graph_any p A bs c _ hb hl h2).mono ?_
 rintro e w3 ⟨r,s,Ae,ce,es,rfl,hg,hO,hC,m3⟩;replace B2:=B2.mid m3 (Or.inl (by omega));replace B3:=B3.mid m3 (Or.inl (by omega));have hM:=hM2.transNew m3 (Or.inl (by omega));have hs3:=m3.size;have HG:=Lib.hid hg;obtain ⟨L,hL⟩:∃ l,es.length=l:=⟨_,rfl⟩
 have HL:=Lib.hid hL;have hL121:L≤121:=by have:=hg.len;omega
 rw [hL];clear hg hL h2 m3 hM2;have al5:=Mid.alloc w3 (.cells #[.int .i64 r,.int .i64 s,.slice Ae L ce] 26);have G5:=Box.new w3 #[.int .i64 r,.int .i64 s,.slice Ae L ce] 26;have hsa5:(w3.alloc (.cells #[.int .i64 r,.int .i64 s,.slice Ae L ce] 26)).heap.size=w3.heap.size+1:=by simp
 obtain ⟨gb,hgb⟩:∃ g,w3.heap.size=g:=⟨_,rfl⟩
 replace B2:=B2.mid al5 oZr;replace B3:=B3.mid al5 oZr;replace hC:=hC.mid al5 (Or.inr rfl);replace hM:=hM.trans al5.zero;have hO5:=hO.mid al5 oZl;rw [hgb] at G5 hO5 hs3 hsa5;obtain ⟨w5,hw5⟩:∃ x,w3.alloc (.cells #[.int .i64 r,.int .i64 s,.slice Ae L ce] 26)=x:=⟨_,rfl⟩
 rw [hw5] at B2 B3 hC hM hO5 G5 hsa5;obtain ⟨rr,rs,res,b,hres⟩:=CompIs_ex r s es;have hcp:=spec_CompleteGraph r s Ae es ce w5 _ _ hO5.rg (by rw [HL.out];omega) rr rs res b hres;have HGc:=Lib.hid (DrG.comp hres);obtain ⟨L2,hL2⟩:∃ l,res.length=l:=⟨_,rfl⟩
 have HL2:=Lib.hid hL2;rw [HL.out,hL2] at hcp;have HCP:Hid (Calls Tryz.prog 52 #[.agg #[.int .i64 r,.int .i64 s,.slice Ae L ce]] w5 fun e w'=>∃ A1 c1,e=.returned (.tuple #[.agg #[.int .i64 rr,.int .i64 rs,.slice A1 L2 c1],.bool b])∧OG w' w5.heap.size w'.heap.size A1 c1 res∧Mid 0 0 w5 w'):=Lib.hid hcp;clear hO al5 hcp hres hL2;have g0:=G5.cell 0 rfl;have g1:=G5.cell 1 rfl;have g2:=G5.cell 2 rfl;have gl:=G5.1;go_wp2_with fail;clear hw5 hgb;with_reducible refine (HCP.out).mono ?_
 rintro e w6 ⟨A1,c1,rfl,hO6,m6⟩;clear g0 g1 g2 gl HCP;replace B2:=B2.mid m6 oZr;replace B3:=B3.mid m6 oZr;replace G5:=G5.mid m6 oZr;replace hC:=hC.mid m6 (Or.inr rfl);replace hM:=hM.trans m6;replace hO5:=hO5.mid m6 oZl;have hs6:=m6.size;clear m6;have al7:=Mid.alloc w6 (.cells #[.int .i64 rr,.int .i64 rs,.slice A1 L2 c1] 26);have G6:=Box.new w6 #[.int .i64 rr,.int .i64 rs,.slice A1 L2 c1] 26;obtain ⟨cb,hcb⟩:∃ g,w6.heap.size=g:=⟨_,rfl⟩
 replace B2:=B2.mid al7 oZr;replace B3:=B3.mid al7 oZr;replace G5:=G5.mid al7 oZr;replace hC:=hC.mid al7 (Or.inr rfl);replace hM:=hM.trans al7;replace hO5:=hO5.mid al7 oZl;replace hO6:=hO6.mid al7 oZl;rw [hcb] at G6 hO6 hs6;rw [hsa5] at hO6 hs6;obtain ⟨w7,hw7⟩:∃ x,w6.alloc (.cells #[.int .i64 rr,.int .i64 rs,.slice A1 L2 c1] 26)=x:=⟨_,rfl⟩
 rw [hw7] at B2 B3 hC hM hO5 hO6 G5 G6;have hcl:=G6.1;clear al7 hsa5;cases b with
 | false =>
  go_wp2_with fail;try rw [hw7]
  clear hw7 hcb;have hmd:=Mid.drew1 w7;replace B2:=B2.mid hmd oZr;replace B3:=B3.mid hmd oZr;replace G5:=G5.mid hmd oZr;replace hO5:=hO5.mid hmd oZl;replace hM:=hM.trans hmd;replace hC:=hC.mid hmd (Or.inr rfl);clear hmd hO6 G6;have g0:=G5.cell 0 rfl;have g1:=G5.cell 1 rfl;have g2:=G5.cell 2 rfl;refine wp_region_Z (S:=(fun w'=>w'.cell? ⟨gb,0,none⟩=some (.int .i64 r)∧w'.cell? ⟨gb,1,none⟩=some (.int .i64 s)∧w'.cell? ⟨gb,2,none⟩=some (.slice Ae L ce))) [] (by kernel_rfl) ⟨g0,g1,g2⟩ ?_;generalize World.drew w7=wz at B2 B3 G5 hO5 hC hM g0 g1 g2 hcl ⊢;have hS:wz.cell? ⟨gb,0,none⟩=some (.int .i64 r)∧wz.cell? ⟨gb,1,none⟩=some (.int .i64 s)∧wz.cell? ⟨gb,2,none⟩=some (.slice Ae L ce):=⟨g0,g1,g2⟩
  refine tkZ [] 0 rfl hS ?_;try simp only [Act.put,zs1,zs2,zs3,zs4,zs5,zs6]
  refine tkZ [] 1 rfl hS ?_;try simp only [Act.put,zs1,zs2,zs3,zs4,zs5,zs6]
  clear hS g0 g1 g2;have hgz9:=G5.1;refine rdZ 2 rfl (fun K hK=>?_)
  (go_simp;(with_reducible refine (l5Graph_any p A bs c _ hb hl hC).mono ?_);rintro en w9 ⟨r9,s9,A9,c9,es9,rfl,hg9,O9g,C9,m9⟩;have G5p:=G5.mid m9 (Or.inr (by omega));go_wp2_with fail)
  refine hK.out _ _ (Or.inr ⟨G5p.cell 0 rfl,G5p.cell 1 rfl,G5p.cell 2 rfl⟩) (fun _=>?_);clear hK K;try simp only [Act.put,zs1,zs2,zs3,zs4,zs5,zs6]
  have HG9:=Lib.hid hg9;obtain ⟨L9,hL9⟩:∃ l,es9.length=l:=⟨_,rfl⟩
  have HL9:=Lib.hid hL9;rw [hL9];replace B2:=B2.mid m9 (Or.inl (by omega));replace B3:=B3.mid m9 (Or.inl (by omega));replace hO5:=hO5.mid m9 (Or.inl (by omega));replace hM:=hM.transNew m9 (Or.inl (by omega));have hz9:=m9.size;clear hg9 hL9 m9 hC C9 G5;have G5:=G5p;clear G5p;have hgl:=G5.1;have q0:=B2.cell 0 rfl;have q1:=B2.cell 1 rfl;have q2:=B2.cell 2 rfl;have qf:=B2.2.2;have ql:=B2.1;have ql3:=B3.1;have hst:=((Mid.setCell w9 (lo:=w.heap.size) (hi:=w.heap.size+1) (p:=⟨w.heap.size,0,none⟩) (.int .i64 r) (Nat.le_refl _) (Nat.lt_succ_self _)).trans (Mid.setCell _ (lo:=w.heap.size) (hi:=w.heap.size+1) (p:=⟨w.heap.size,1,none⟩) (.int .i64 s) (Nat.le_refl _) (Nat.lt_succ_self _))).trans (Mid.setCell _ (lo:=w.heap.size) (hi:=w.heap.size+1) (p:=⟨w.heap.size,2,none⟩) (.slice Ae L ce) (Nat.le_refl _) (Nat.lt_succ_self _));have G5q:=G5.mid hst (Or.inr (by omega));have B3q:=B3.mid hst (Or.inr (by omega));have V2:=((B2.set 0 (.int .i64 r) (by simp) rfl).set 1 (.int .i64 s) (by simp) rfl).set 2 (.slice Ae L ce) (by simp) rfl;simp only [List.set_cons_succ,List.set_cons_zero] at V2;have O1:=hO5.mid hst (Or.inl (by omega));have O2:=O9g.mid hst (Or.inl (by omega));have M1:=hM.transNew hst (Or.inl (Nat.le_refl _));have hz1:=hst.size;refine rdZ 3 rfl (fun K hK=>?_);go_simp;refine hK.out _ _ (Or.inr ⟨G5q.cell 0 rfl,G5q.cell 1 rfl,G5q.cell 2 rfl⟩) (fun _=>?_);clear hK K;try simp only [Act.put,zs1,zs2,zs3,zs4,zs5,zs6]
  clear hst B2 B3 G5  hO5 O9g hM q0 q1 q2 qf ql hgl;generalize ((w9.setCell ⟨w.heap.size,0,none⟩ (.int .i64 r)).setCell ⟨w.heap.size,1,none⟩ (.int .i64 s)).setCell ⟨w.heap.size,2,none⟩ (.slice Ae L ce)=wA at G5q  B3q V2 O1 O2 M1 hz1 ⊢;have q0:=B3q.cell 0 rfl;have q1:=B3q.cell 1 rfl;have q2:=B3q.cell 2 rfl;have qf:=B3q.2.2;have ql:=B3q.1;have gl:=G5q.1;have ql2:=V2.1;have hst:=((Mid.setCell wA (lo:=(w.heap.size+1)) (hi:=(w.heap.size+1)+1) (p:=⟨(w.heap.size+1),0,none⟩) (.int .i64 r9) (Nat.le_refl _) (Nat.lt_succ_self _)).trans (Mid.setCell _ (lo:=(w.heap.size+1)) (hi:=(w.heap.size+1)+1) (p:=⟨(w.heap.size+1),1,none⟩) (.int .i64 s9) (Nat.le_refl _) (Nat.lt_succ_self _))).trans (Mid.setCell _ (lo:=(w.heap.size+1)) (hi:=(w.heap.size+1)+1) (p:=⟨(w.heap.size+1),2,none⟩) (.slice A9 L9 c9) (Nat.le_refl _) (Nat.lt_succ_self _));have V2q:=V2.mid hst (Or.inl (by omega));have V3:=((B3q.set 0 (.int .i64 r9) (by simp) rfl).set 1 (.int .i64 s9) (by simp) rfl).set 2 (.slice A9 L9 c9) (by simp) rfl;simp only [List.set_cons_succ,List.set_cons_zero] at V3;replace G5q:=G5q.mid hst (Or.inr (by omega));have O9:=Lib.hid ((O1.mid hst (Or.inl (by omega))).wide (lo':=w.heap.size) (by omega) (Nat.le_trans O1.size hst.size) (Nat.le_refl _));have O9b:=Lib.hid ((O2.mid hst (Or.inl (by omega))).wide (lo':=w.heap.size) (by omega) (Nat.le_trans O2.size hst.size) (Nat.le_refl _));have M9:=Lib.hid (M1.transNew hst (Or.inl (by omega)));refine rdZ 4 rfl (fun K hK=>?_);go_simp;refine hK.out _ _ (Or.inr ⟨G5q.cell 0 rfl,G5q.cell 1 rfl,G5q.cell 2 rfl⟩) (fun _=>?_);clear hK K;try simp only [Act.put,zs1,zs2,zs3,zs4,zs5,zs6]
  refine wpAnyZ_done (by kernel_rfl) ?_ _;clear hst O1 O2 M1 q0 q1 q2 qf ql B3q V2 G5q;have q0:=V2q.cell 0 rfl;have q1:=V2q.cell 1 rfl;have q2:=V2q.cell 2 rfl;have k0:=V3.cell 0 rfl;have k1:=V3.cell 1 rfl;have k2:=V3.cell 2 rfl;go_wp2_with fail;refine bodyPost_ret (v:=.tuple #[.agg #[.int .i64 r,.int .i64 s,.slice Ae L ce],.agg #[.int .i64 r9,.int .i64 s9,.slice A9 L9 c9]]) (by simp [results,Tryz.results62,go_sem,q0,q1,q2,k0,k1,k2]) rfl ⟨r,s,Ae,ce,es,r9,s9,A9,c9,es9,?_,HG.out,HG9.out,O9.out,O9b.out,M9.out⟩;rw [HL.out,HL9.out]
 | true =>
  go_wp2_with fail;try rw [hw7]
  clear hw7 hcb;with_reducible refine (l1OnceI 3 (by decide) (by decide) p A bs c _ hb hl hC).mono ?_
  rintro e w8 ⟨q,rfl,hC8,m8⟩;replace B2:=B2.mid m8 (Or.inl (by omega));replace B3:=B3.mid m8 (Or.inl (by omega));replace G5:=G5.mid m8 (Or.inr (by omega));replace G6:=G6.mid m8 (Or.inr (by omega));replace hO5:=hO5.mid m8 (Or.inl (by omega));replace hO6:=hO6.mid m8 (Or.inl (by omega));replace hM:=hM.transNew m8 (Or.inl (by omega));have hs8:=m8.size;replace hcl:cb < w8.heap.size:=by omega
  clear hC m8 hs8;have hC:=hC8;clear hC8;cases q with
  | true =>
   go_wp2_with fail;have hmd:=Mid.drew1 w8;replace B2:=B2.mid hmd oZr;replace B3:=B3.mid hmd oZr;replace G5:=G5.mid hmd oZr;replace hO5:=hO5.mid hmd oZl;replace hM:=hM.trans hmd;replace hC:=hC.mid hmd (Or.inr rfl);clear hmd hO6 G6;have g0:=G5.cell 0 rfl;have g1:=G5.cell 1 rfl;have g2:=G5.cell 2 rfl;refine wp_region_Z (S:=(fun w'=>w'.cell? ⟨gb,0,none⟩=some (.int .i64 r)∧w'.cell? ⟨gb,1,none⟩=some (.int .i64 s)∧w'.cell? ⟨gb,2,none⟩=some (.slice Ae L ce))) [] (by kernel_rfl) ⟨g0,g1,g2⟩ ?_;generalize World.drew w8=wz at B2 B3 G5 hO5 hC hM g0 g1 g2 hcl ⊢;have hS:wz.cell? ⟨gb,0,none⟩=some (.int .i64 r)∧wz.cell? ⟨gb,1,none⟩=some (.int .i64 s)∧wz.cell? ⟨gb,2,none⟩=some (.slice Ae L ce):=⟨g0,g1,g2⟩
   refine tkZ [] 0 rfl hS ?_;try simp only [Act.put,zs1,zs2,zs3,zs4,zs5,zs6]
   refine tkZ [] 1 rfl hS ?_;try simp only [Act.put,zs1,zs2,zs3,zs4,zs5,zs6]
   clear hS g0 g1 g2;have hgz9:=G5.1;refine rdZ 2 rfl (fun K hK=>?_)
   (go_simp;(with_reducible refine (l5Graph_any p A bs c _ hb hl hC).mono ?_);rintro en w9 ⟨r9,s9,A9,c9,es9,rfl,hg9,O9g,C9,m9⟩;have G5p:=G5.mid m9 (Or.inr (by omega));go_wp2_with fail)
   refine hK.out _ _ (Or.inr ⟨G5p.cell 0 rfl,G5p.cell 1 rfl,G5p.cell 2 rfl⟩) (fun _=>?_);clear hK K;try simp only [Act.put,zs1,zs2,zs3,zs4,zs5,zs6]
   have HG9:=Lib.hid hg9;obtain ⟨L9,hL9⟩:∃ l,es9.length=l:=⟨_,rfl⟩
   have HL9:=Lib.hid hL9;rw [hL9];replace B2:=B2.mid m9 (Or.inl (by omega));replace B3:=B3.mid m9 (Or.inl (by omega));replace hO5:=hO5.mid m9 (Or.inl (by omega));replace hM:=hM.transNew m9 (Or.inl (by omega));have hz9:=m9.size;clear hg9 hL9 m9 hC C9 G5;have G5:=G5p;clear G5p;have hgl:=G5.1;have q0:=B2.cell 0 rfl;have q1:=B2.cell 1 rfl;have q2:=B2.cell 2 rfl;have qf:=B2.2.2;have ql:=B2.1;have ql3:=B3.1;have hst:=((Mid.setCell w9 (lo:=w.heap.size) (hi:=w.heap.size+1) (p:=⟨w.heap.size,0,none⟩) (.int .i64 r) (Nat.le_refl _) (Nat.lt_succ_self _)).trans (Mid.setCell _ (lo:=w.heap.size) (hi:=w.heap.size+1) (p:=⟨w.heap.size,1,none⟩) (.int .i64 s) (Nat.le_refl _) (Nat.lt_succ_self _))).trans (Mid.setCell _ (lo:=w.heap.size) (hi:=w.heap.size+1) (p:=⟨w.heap.size,2,none⟩) (.slice Ae L ce) (Nat.le_refl _) (Nat.lt_succ_self _));have G5q:=G5.mid hst (Or.inr (by omega));have B3q:=B3.mid hst (Or.inr (by omega));have V2:=((B2.set 0 (.int .i64 r) (by simp) rfl).set 1 (.int .i64 s) (by simp) rfl).set 2 (.slice Ae L ce) (by simp) rfl;simp only [List.set_cons_succ,List.set_cons_zero] at V2;have O1:=hO5.mid hst (Or.inl (by omega));have O2:=O9g.mid hst (Or.inl (by omega));have M1:=hM.transNew hst (Or.inl (Nat.le_refl _));have hz1:=hst.size;refine rdZ 3 rfl (fun K hK=>?_);go_simp;refine hK.out _ _ (Or.inr ⟨G5q.cell 0 rfl,G5q.cell 1 rfl,G5q.cell 2 rfl⟩) (fun _=>?_);clear hK K;try simp only [Act.put,zs1,zs2,zs3,zs4,zs5,zs6]
   clear hst B2 B3 G5  hO5 O9g hM q0 q1 q2 qf ql hgl;generalize ((w9.setCell ⟨w.heap.size,0,none⟩ (.int .i64 r)).setCell ⟨w.heap.size,1,none⟩ (.int .i64 s)).setCell ⟨w.heap.size,2,none⟩ (.slice Ae L ce)=wA at G5q  B3q V2 O1 O2 M1 hz1 ⊢;have q0:=B3q.cell 0 rfl;have q1:=B3q.cell 1 rfl;have q2:=B3q.cell 2 rfl;have qf:=B3q.2.2;have ql:=B3q.1;have gl:=G5q.1;have ql2:=V2.1;have hst:=((Mid.setCell wA (lo:=(w.heap.size+1)) (hi:=(w.heap.size+1)+1) (p:=⟨(w.heap.size+1),0,none⟩) (.int .i64 r9) (Nat.le_refl _) (Nat.lt_succ_self _)).trans (Mid.setCell _ (lo:=(w.heap.size+1)) (hi:=(w.heap.size+1)+1) (p:=⟨(w.heap.size+1),1,none⟩) (.int .i64 s9) (Nat.le_refl _) (Nat.lt_succ_self _))).trans (Mid.setCell _ (lo:=(w.heap.size+1)) (hi:=(w.heap.size+1)+1) (p:=⟨(w.heap.size+1),2,none⟩) (.slice A9 L9 c9) (Nat.le_refl _) (Nat.lt_succ_self _));have V2q:=V2.mid hst (Or.inl (by omega));have V3:=((B3q.set 0 (.int .i64 r9) (by simp) rfl).set 1 (.int .i64 s9) (by simp) rfl).set 2 (.slice A9 L9 c9) (by simp) rfl;simp only [List.set_cons_succ,List.set_cons_zero] at V3;replace G5q:=G5q.mid hst (Or.inr (by omega));have O9:=Lib.hid ((O1.mid hst (Or.inl (by omega))).wide (lo':=w.heap.size) (by omega) (Nat.le_trans O1.size hst.size) (Nat.le_refl _));have O9b:=Lib.hid ((O2.mid hst (Or.inl (by omega))).wide (lo':=w.heap.size) (by omega) (Nat.le_trans O2.size hst.size) (Nat.le_refl _));have M9:=Lib.hid (M1.transNew hst (Or.inl (by omega)));refine rdZ 4 rfl (fun K hK=>?_);go_simp;refine hK.out _ _ (Or.inr ⟨G5q.cell 0 rfl,G5q.cell 1 rfl,G5q.cell 2 rfl⟩) (fun _=>?_);clear hK K;try simp only [Act.put,zs1,zs2,zs3,zs4,zs5,zs6]
   refine wpAnyZ_done (by kernel_rfl) ?_ _;clear hst O1 O2 M1 q0 q1 q2 qf ql B3q V2 G5q;have q0:=V2q.cell 0 rfl;have q1:=V2q.cell 1 rfl;have q2:=V2q.cell 2 rfl;have k0:=V3.cell 0 rfl;have k1:=V3.cell 1 rfl;have k2:=V3.cell 2 rfl;go_wp2_with fail;refine bodyPost_ret (v:=.tuple #[.agg #[.int .i64 r,.int .i64 s,.slice Ae L ce],.agg #[.int .i64 r9,.int .i64 s9,.slice A9 L9 c9]]) (by simp [results,Tryz.results62,go_sem,q0,q1,q2,k0,k1,k2]) rfl ⟨r,s,Ae,ce,es,r9,s9,A9,c9,es9,?_,HG.out,HG9.out,O9.out,O9b.out,M9.out⟩;rw [HL.out,HL9.out]
  | false =>
   go_wp2_with fail;have hmd:=Mid.drew1 w8;replace B2:=B2.mid hmd oZr;replace B3:=B3.mid hmd oZr;replace G5:=G5.mid hmd oZr;replace G6:=G6.mid hmd oZr;replace hO5:=hO5.mid hmd oZl;replace hO6:=hO6.mid hmd oZl;replace hM:=hM.trans hmd;clear hmd;have g0:=G5.cell 0 rfl;have g1:=G5.cell 1 rfl;have g2:=G5.cell 2 rfl;have k0:=G6.cell 0 rfl;have k1:=G6.cell 1 rfl;have k2:=G6.cell 2 rfl;refine wp_region_Z (S:=(fun w'=>(w'.cell? ⟨gb,0,none⟩=some (.int .i64 r)∧w'.cell? ⟨gb,1,none⟩=some (.int .i64 s)∧w'.cell? ⟨gb,2,none⟩=some (.slice Ae L ce))∧w'.cell? ⟨cb,0,none⟩=some (.int .i64 rr)∧w'.cell? ⟨cb,1,none⟩=some (.int .i64 rs)∧w'.cell? ⟨cb,2,none⟩=some (.slice A1 L2 c1))) [] (by kernel_rfl) ⟨⟨g0,g1,g2⟩,k0,k1,k2⟩ ?_;generalize World.drew w8=wz at B2 B3 G5 G6 hO5 hO6 hM g0 g1 g2 k0 k1 k2 hcl ⊢;have hS:(wz.cell? ⟨gb,0,none⟩=some (.int .i64 r)∧wz.cell? ⟨gb,1,none⟩=some (.int .i64 s)∧wz.cell? ⟨gb,2,none⟩=some (.slice Ae L ce))∧wz.cell? ⟨cb,0,none⟩=some (.int .i64 rr)∧wz.cell? ⟨cb,1,none⟩=some (.int .i64 rs)∧wz.cell? ⟨cb,2,none⟩=some (.slice A1 L2 c1):=⟨⟨g0,g1,g2⟩,k0,k1,k2⟩
   refine tkZ [] 0 rfl hS ?_;try simp only [Act.put,zs1,zs2,zs3,zs4,zs5,zs6]
   refine tkZ [] 1 rfl hS ?_;try simp only [Act.put,zs1,zs2,zs3,zs4,zs5,zs6]
   clear hS g0 g1 g2 k0 k1 k2;have hgl:=G5.1;have q0:=B2.cell 0 rfl;have q1:=B2.cell 1 rfl;have q2:=B2.cell 2 rfl;have qf:=B2.2.2;have ql:=B2.1;have ql3:=B3.1;have hst:=((Mid.setCell wz (lo:=w.heap.size) (hi:=w.heap.size+1) (p:=⟨w.heap.size,0,none⟩) (.int .i64 r) (Nat.le_refl _) (Nat.lt_succ_self _)).trans (Mid.setCell _ (lo:=w.heap.size) (hi:=w.heap.size+1) (p:=⟨w.heap.size,1,none⟩) (.int .i64 s) (Nat.le_refl _) (Nat.lt_succ_self _))).trans (Mid.setCell _ (lo:=w.heap.size) (hi:=w.heap.size+1) (p:=⟨w.heap.size,2,none⟩) (.slice Ae L ce) (Nat.le_refl _) (Nat.lt_succ_self _));have G5q:=G5.mid hst (Or.inr (by omega));have G6q:=G6.mid hst (Or.inr (by omega));have B3q:=B3.mid hst (Or.inr (by omega));have V2:=((B2.set 0 (.int .i64 r) (by simp) rfl).set 1 (.int .i64 s) (by simp) rfl).set 2 (.slice Ae L ce) (by simp) rfl;simp only [List.set_cons_succ,List.set_cons_zero] at V2;have O1:=hO5.mid hst (Or.inl (by omega));have O2:=hO6.mid hst (Or.inl (by omega));have M1:=hM.transNew hst (Or.inl (Nat.le_refl _));have hz1:=hst.size;refine rdZ 2 rfl (fun K hK=>?_);go_simp;refine hK.out _ _ (Or.inr ⟨⟨G5q.cell 0 rfl,G5q.cell 1 rfl,G5q.cell 2 rfl⟩,G6q.cell 0 rfl,G6q.cell 1 rfl,G6q.cell 2 rfl⟩) (fun _=>?_);clear hK K;try simp only [Act.put,zs1,zs2,zs3,zs4,zs5,zs6]
   clear hst B2 B3 G5 G6 hO5 hO6 hM q0 q1 q2 qf ql hgl;generalize ((wz.setCell ⟨w.heap.size,0,none⟩ (.int .i64 r)).setCell ⟨w.heap.size,1,none⟩ (.int .i64 s)).setCell ⟨w.heap.size,2,none⟩ (.slice Ae L ce)=wA at G5q G6q B3q V2 O1 O2 M1 hz1 ⊢;have q0:=B3q.cell 0 rfl;have q1:=B3q.cell 1 rfl;have q2:=B3q.cell 2 rfl;have qf:=B3q.2.2;have ql:=B3q.1;have gl:=G5q.1;have ql2:=V2.1;have hst:=((Mid.setCell wA (lo:=(w.heap.size+1)) (hi:=(w.heap.size+1)+1) (p:=⟨(w.heap.size+1),0,none⟩) (.int .i64 rr) (Nat.le_refl _) (Nat.lt_succ_self _)).trans (Mid.setCell _ (lo:=(w.heap.size+1)) (hi:=(w.heap.size+1)+1) (p:=⟨(w.heap.size+1),1,none⟩) (.int .i64 rs) (Nat.le_refl _) (Nat.lt_succ_self _))).trans (Mid.setCell _ (lo:=(w.heap.size+1)) (hi:=(w.heap.size+1)+1) (p:=⟨(w.heap.size+1),2,none⟩) (.slice A1 L2 c1) (Nat.le_refl _) (Nat.lt_succ_self _));have V2q:=V2.mid hst (Or.inl (by omega));have V3:=((B3q.set 0 (.int .i64 rr) (by simp) rfl).set 1 (.int .i64 rs) (by simp) rfl).set 2 (.slice A1 L2 c1) (by simp) rfl;simp only [List.set_cons_succ,List.set_cons_zero] at V3;replace G5q:=G5q.mid hst (Or.inr (by omega));replace G6q:=G6q.mid hst (Or.inr (by omega));have O9:=Lib.hid ((O1.mid hst (Or.inl (by omega))).wide (lo':=w.heap.size) (by omega) (Nat.le_trans O1.size hst.size) (Nat.le_refl _));have O9b:=Lib.hid ((O2.mid hst (Or.inl (by omega))).wide (lo':=w.heap.size) (by omega) (Nat.le_trans O2.size hst.size) (Nat.le_refl _));have M9:=Lib.hid (M1.transNew hst (Or.inl (by omega)));refine rdZ 3 rfl (fun K hK=>?_);go_simp;refine hK.out _ _ (Or.inr ⟨⟨G5q.cell 0 rfl,G5q.cell 1 rfl,G5q.cell 2 rfl⟩,G6q.cell 0 rfl,G6q.cell 1 rfl,G6q.cell 2 rfl⟩) (fun _=>?_);clear hK K;try simp only [Act.put,zs1,zs2,zs3,zs4,zs5,zs6]
   refine wpAnyZ_done (by kernel_rfl) ?_ _;clear hst O1 O2 M1 q0 q1 q2 qf ql B3q V2 G5q G6q;have q0:=V2q.cell 0 rfl;have q1:=V2q.cell 1 rfl;have q2:=V2q.cell 2 rfl;have k0:=V3.cell 0 rfl;have k1:=V3.cell 1 rfl;have k2:=V3.cell 2 rfl;go_wp2_with fail;refine bodyPost_ret (v:=.tuple #[.agg #[.int .i64 r,.int .i64 s,.slice Ae L ce],.agg #[.int .i64 rr,.int .i64 rs,.slice A1 L2 c1]]) (by simp [results,Tryz.results62,go_sem,q0,q1,q2,k0,k1,k2]) rfl ⟨r,s,Ae,ce,es,rr,rs,A1,c1,res,?_,HG.out,HGc.out,O9.out,O9b.out,M9.out⟩;rw [HL.out,HL2.out]
end
section
open Go.RowKit
theorem RG_nilW {w:World} {lo:Nat}:RG w lo w.heap.size none []:=⟨Nat.le_refl _,fun h=>absurd rfl h⟩
theorem impl_extend2 (r n:Nat) (A:Option Addr) (es:List Ed) (c:Nat) (Aw:Option Addr) (wd:List Int) (cw:Nat) (w:World) (lo hi lo' hi':Nat) (hr:RG w lo hi A es) (hw:RV w lo' hi' Aw (ints wd)) (hcl:es.length≤c) (hcw:wd.length≤cw) (hg:IsGr r n es) (hwl:wd.length≤1048576) (hok:OkI wd)
  (b:Bool) (s2:Int) (es2:List Ed) (x:Int) (hres:ExtIs r n es wd b s2 es2 x) :
  Calls Tryz.prog 113 #[graV r n A es.length c,.slice Aw wd.length cw] w fun e w'=>∃ (A1:Option Addr) (c1:Nat) (rr:Int),e=.returned (.tuple #[graV rr s2 A1 es2.length c1,.int .i64 x,.bool b])∧rr=(if b=true then (r:Int) else 0)∧((A1=A∧es2=es) ∨ RG w' w.heap.size w'.heap.size A1 es2)∧es2.length≤c1∧Mid 0 0 w w':=by
 have hm0:Mid 0 0 w ((w.alloc (.cells #[.int .i64 r,.int .i64 n,.slice A es.length c] 26)).alloc (.cells #[.int .i64 0,.int .i64 0,.slice none 0 0] 26)):=(Mid.alloc _ _).trans (Mid.alloc _ _);have b0:=(Box.new w #[.int .i64 r,.int .i64 n,.slice A es.length c] 26).mid (Mid.alloc _ (.cells #[.int .i64 0,.int .i64 0,.slice none 0 0] 26)) oZr;have b2:=Box.new (w.alloc (.cells #[.int .i64 r,.int .i64 n,.slice A es.length c] 26)) #[.int .i64 0,.int .i64 0,.slice none 0 0] 26;simp only [World.size_alloc] at b2;have hl:=hg.len;have hn40:1≤n∧n≤40:=by have:=hg.size;omega
 have HG:=Lib.hid hg;have HOK:=Lib.hid hok;have HR:=Lib.hid hres;clear hg hok hres;go_enter Tryz.func113,Tryz.ntmps113
 go_wp2_with fail;generalize ((w.alloc (.cells #[.int .i64 r,.int .i64 n,.slice A es.length c] 26)).alloc (.cells #[.int .i64 0,.int .i64 0,.slice none 0 0] 26))=w1 at hm0 b0 b2 ⊢;have hs1:w.heap.size+1 < w1.heap.size:=b2.1;with_reducible refine (impl_read r n A es c 0 Aw wd cw w1 _ _ _ _ (hr.mid hm0 oZl) (hw.mid hm0 oZl) HG.out hwl HOK.out).mono ?_
 rintro en w2 ⟨u,k,rfl,hk,hgo,hend,hm2⟩;have hrd:rdA es 0 wd=(u,k):=rdA_is hgo hk hend;have hk2:(rdA es 0 wd).2=k:=by rw [hrd]
 have hk1:(rdA es 0 wd).1=u:=by rw [hrd]
 have hu:=rdA_in HG.out.all wd (v:=0) (by omega);rw [hk1] at hu;have HK1:=Lib.hid hk1;have HK2:=Lib.hid hk2;clear hgo hend hrd hk1 hk2;replace b0:=b0.mid hm2 oZr;replace b2:=b2.mid hm2 oZr;replace hm0:=hm0.trans hm2;have hs2:=hm2.size;clear hm2;rcases Nat.lt_or_ge k wd.length with hlt | hge
 ·have dk:((k:Int) == (wd.length:Int))=false:=by simp only [beq_eq_false_iff_ne];omega
  have hdl:(wd.drop k).length=wd.length - k:=List.length_drop;have hcase:Hid ((n < 40∧PathOk r ((n:Int)+1) es u (wd.drop k) n) ∨ ¬ (n < 40∧PathOk r ((n:Int)+1) es u (wd.drop k) n)):=Lib.hid (Classical.em _);have p0:=b0.cell 0 rfl;have p1:=b0.cell 1 rfl;have p2:=b0.cell 2 rfl;go_wp2_with fail;by_cases h40:n < 40
  ·have hav:AvIs r n es ((n:Int)+1) true:=.inl ⟨rfl,⟨HG.out,by omega⟩,rfl⟩
   with_reducible refine (impl_AddVertex r n A es c w2 _ _ (hr.mid hm0 oZl) (by omega) ((n:Int)+1) true hav).mono ?_
   rintro en w4 ⟨A4,c4,rfl,ho4,hm4⟩;have hs4:=hm4.size;have ha4:=Mid.alloc w4 (.cells #[.int .i64 r,.int .i64 ((n:Int)+1),.slice A4 es.length c4] 26);have Y4:=Box.new w4 #[.int .i64 r,.int .i64 ((n:Int)+1),.slice A4 es.length c4] 26;replace b0:=b0.mid hm4 oZr;replace b2:=b2.mid hm4 oZr;replace hm0:=hm0.trans hm4;have hb4:w.heap.size+1 < w4.heap.size:=b2.1;replace b0:=b0.mid ha4 oZr;replace b2:=b2.mid ha4 oZr;replace ho4:=ho4.mid ha4 oZl;replace hm0:=hm0.trans ha4;have hsa:=ha4.size;clear p0 p1 p2 ha4 hav;have p0:=b0.cell 0 rfl;have p1:=b0.cell 1 rfl;have p2:=b0.cell 2 rfl;go_wp2_with fail;generalize w4.alloc (.cells #[.int .i64 r,.int .i64 ((n:Int)+1),.slice A4 es.length c4] 26)=w5 at b0 b2 Y4 ho4 hm0 hsa p0 p1 p2 ⊢;have hG5:w4.heap.size < w5.heap.size:=Y4.1;obtain ⟨rs2,res2,bb,hPI⟩:=PathIs_ex (r:Int) ((n:Int)+1) es u (wd.drop k) n;have HPI:=Lib.hid hPI;clear hPI;obtain ⟨Bw,ow,rfl⟩:∃ Bw ow,Aw=some ⟨Bw,ow,none⟩:=by
    obtain ⟨B,off,y,h1, -⟩:=hw.at hlt;exact ⟨B,off,h1⟩
   have hmd:=Mid.drew1 w5;have hsd:=hmd.size;replace b0:=b0.mid hmd oZr;replace b2:=b2.mid hmd oZr;replace Y4:=Y4.mid hmd oZr;replace ho4:=ho4.mid hmd oZl;replace hm0:=hm0.trans hmd;clear p0 p1 p2;have y0:=Y4.cell 0 rfl;have y1:=Y4.cell 1 rfl;have y2:=Y4.cell 2 rfl;have hdo:OkI (wd.drop k):=fun q hq=>HOK.out q (List.mem_of_mem_drop hq);have hkc:k≤cw:=by omega
   have hck:¬ cw=k:=by omega
   have hP:=fun W (h1:RG W w2.heap.size w4.heap.size A4 es) (h2:RV W lo' hi' (some ⟨Bw,ow+k,none⟩) (ints (wd.drop k)))=>impl_AddPath r ((n:Int)+1) A4 es c4 u (some ⟨Bw,ow+k,none⟩) (wd.drop k) (cw - k) n W _ _ _ _ h1 h2 (by omega) (by omega) hdo rs2 res2 bb HPI.out;rw [hdl] at hP;have HP:=Lib.hid hP;have HDO:=Lib.hid hdo;have HDL:=Lib.hid hdl;clear hP hdo hdl;refine wp_region_Z (S:=(fun w'=>w'.cell? ⟨w4.heap.size,0,none⟩=some (.int .i64 r)∧w'.cell? ⟨w4.heap.size,1,none⟩=some (.int .i64 ((n:Int)+1))∧w'.cell? ⟨w4.heap.size,2,none⟩=some (.slice A4 es.length c4))) [9,10,11] (by kernel_rfl) ⟨y0,y1,y2⟩ ?_;generalize World.drew w5=wz at b0 b2 Y4 ho4 hm0 y0 y1 y2 hsd ⊢;have hS:wz.cell? ⟨w4.heap.size,0,none⟩=some (.int .i64 r)∧wz.cell? ⟨w4.heap.size,1,none⟩=some (.int .i64 ((n:Int)+1))∧wz.cell? ⟨w4.heap.size,2,none⟩=some (.slice A4 es.length c4):=⟨y0,y1,y2⟩
   refine tkZ [6,7,8,9,10,11] 0 rfl hS ?_;try simp only [Act.put,zs1,zs2,zs3,zs4,zs5,zs6]
   refine tkZ [6,7,8,9,10,11] 1 rfl hS ?_;try simp only [Act.put,zs1,zs2,zs3,zs4,zs5,zs6]
   refine tkZ [4,6,7,8,9,10,11] 2 rfl hS ?_;try simp only [Act.put,zs1,zs2,zs3,zs4,zs5,zs6]
   refine tkZ [4,6,7,8,9,10,11] 3 rfl hS ?_;try simp only [Act.put,zs1,zs2,zs3,zs4,zs5,zs6]
   refine tkZ [6,7,8,9,10,11] 4 rfl hS ?_;try simp only [Act.put,zs1,zs2,zs3,zs4,zs5,zs6]
   refine tkZ [6,7,8,9,10,11] 5 rfl hS ?_;try simp only [Act.put,zs1,zs2,zs3,zs4,zs5,zs6]
   refine rdZ 6 rfl (fun K hK=>?_)
   (go_simp;(with_reducible refine (HP.out _ ho4.rg ((hw.mid hm0 oZl).dropI k)).mono ?_);rintro en w6 ⟨A6,c6,rfl,ho6,hm6⟩;have Y6:=Y4.mid hm6 oZr;go_wp2_with fail)
   refine hK.out _ _ (Or.inr ⟨Y6.cell 0 rfl,Y6.cell 1 rfl,Y6.cell 2 rfl⟩) (fun _=>?_);clear hK K;try simp only [Act.put,zs1,zs2,zs3,zs4,zs5,zs6]
   replace b0:=b0.mid hm6 oZr;replace b2:=b2.mid hm6 oZr;replace hm0:=hm0.trans hm6;have hs6:=hm6.size;have hS6:=And.intro (Y6.cell 0 rfl) (And.intro (Y6.cell 1 rfl) (Y6.cell 2 rfl));clear Y4 hS y0 y1 y2 ho4 hm6 HP;have yf:=Y6.2.2;have y0:=Y6.cell 0 rfl;have y1:=Y6.cell 1 rfl;have y2:=Y6.cell 2 rfl;refine tkZ [8,9,10,11] 7 rfl hS6 ?_;try simp only [Act.put,zs1,zs2,zs3,zs4,zs5,zs6]
   refine wpAnyZ_ready (rs:=[8,9]) (by kernel_rfl) (by simp) (AllReadyZ.cons rfl (fun K hK=>?_) (AllReadyZ.cons rfl (fun K hK=>?_) AllReadyZ.nil))
   ·go_simp
    refine hK.out _ _ (Or.inr hS6) (fun _=>?_);clear hK K;try simp only [Act.put,zs1,zs2,zs3,zs4,zs5,zs6]
    refine wpAnyZ_ready (rs:=[9,10]) (by kernel_rfl) (by simp) (AllReadyZ.cons rfl (fun K hK=>?_) (AllReadyZ.cons rfl (fun K hK=>?_) AllReadyZ.nil))
    ·go_simp
     refine hK.out _ _ (Or.inl (by simp)) (fun _=>?_);clear hK K;try simp only [Act.put,zs1,zs2,zs3,zs4,zs5,zs6]
     refine rdZ 10 rfl (fun K hK=>?_);go_simp;refine hK.out _ _ (Or.inl (by simp)) (fun _=>?_);clear hK K;try simp only [Act.put,zs1,zs2,zs3,zs4,zs5,zs6]
     refine rdZ 11 rfl (fun K hK=>?_);go_simp;refine hK.out _ _ (Or.inl (by simp)) (fun _=>?_);clear hK K;try simp only [Act.put,zs1,zs2,zs3,zs4,zs5,zs6]
     refine wpAnyZ_done (by kernel_rfl) ?_ _;have hst:=((Mid.setCell w6 (lo:=w4.heap.size) (hi:=w4.heap.size+1) (p:=⟨w4.heap.size,0,none⟩) (.int .i64 r) (Nat.le_refl _) (Nat.lt_succ_self _)).trans (Mid.setCell _ (lo:=w4.heap.size) (hi:=w4.heap.size+1) (p:=⟨w4.heap.size,1,none⟩) (.int .i64 rs2) (Nat.le_refl _) (Nat.lt_succ_self _))).trans (Mid.setCell _ (lo:=w4.heap.size) (hi:=w4.heap.size+1) (p:=⟨w4.heap.size,2,none⟩) (.slice A6 res2.length c6) (Nat.le_refl _) (Nat.lt_succ_self _));have V2:=b2.mid hst (Or.inl (by omega));have Y7:=((Y6.set 0 (.int .i64 r) (by simp) rfl).set 1 (.int .i64 rs2) (by simp) rfl).set 2 (.slice A6 res2.length c6) (by simp) rfl;simp only [List.set_cons_succ,List.set_cons_zero] at Y7;have ho7:=ho6.mid hst (Or.inl (by omega));have hm7:=((hm0.storeNew (p:=⟨w4.heap.size,0,none⟩) (by show w.heap.size≤w4.heap.size;omega) (.int .i64 r)).storeNew (p:=⟨w4.heap.size,1,none⟩) (by show w.heap.size≤w4.heap.size;omega) (.int .i64 rs2)).storeNew (p:=⟨w4.heap.size,2,none⟩) (by show w.heap.size≤w4.heap.size;omega) (.slice A6 res2.length c6);have hc6:=ho6.cnt.1;clear Y6 yf y0 y1 y2 hS6 b0 b2 hm0 ho6 hst;generalize ((w6.setCell ⟨w4.heap.size,0,none⟩ (.int .i64 r)).setCell ⟨w4.heap.size,1,none⟩ (.int .i64 rs2)).setCell ⟨w4.heap.size,2,none⟩ (.slice A6 res2.length c6)=w7 at V2 Y7 ho7 hm7 ⊢;have z0:=V2.cell 0 rfl;have z1:=V2.cell 1 rfl;have z2:=V2.cell 2 rfl;have zf:=V2.2.2;have hpi:=HPI.out;cases bb with
     | true =>
      rcases hpi with ⟨-,hok,hrs,hre⟩ | ⟨h, -⟩
      ·obtain ⟨rfl,h2,h3,rfl⟩:=HR.out.more (by rw [HK2.out];exact hlt) (by rw [HK1.out,HK2.out];exact ⟨by omega,hok⟩)
       rw [HK2.out] at h2;rw [HK1.out,HK2.out] at h3;have hse:s2=rs2:=h2.trans hrs.symm;have hee:es2=res2:=h3.trans hre.symm;clear h2 h3 hrs hre hok HR HPI;subst hse;subst res2;have y0:=Y7.cell 0 rfl;have y1:=Y7.cell 1 rfl;have y2:=Y7.cell 2 rfl;go_wp2_with fail;have hcl:(w.heap.size+1 == w4.heap.size)=false:=by simp;omega
       refine bodyPost_ret (v:=.tuple #[.agg #[.int .i64 r,.int .i64 s2,.slice A6 es2.length c6],.int .i64 n,.bool true]) (by simp [results,Tryz.results113,go_sem,z0,z1,z2,zf,y0,y1,y2]) rfl ⟨A6,c6,r,rfl,rfl,Or.inr ?_,hc6,?_⟩
       ·refine RG.wide (RG.mid ho7.rg (a:=w.heap.size) (b:=w.heap.size+2) ?_ (Or.inl (by omega))) (by omega) (by have:=ho7.size;simp at this ⊢;omega) (Nat.le_refl _)
        repeat (first | exact Mid.refl _ _ _ | refine Mid.stored ?_ _ (by simp;try omega) (by simp;try omega))
       ·repeat (first | exact hm7 | refine Mid.storeNew ?_ (by simp;try omega) _)
      ·cases h
     | false =>
      rcases hpi with ⟨h, -⟩ | ⟨-,hno, -, -⟩
      ·cases h
      ·obtain ⟨rfl,rfl,rfl,rfl⟩:=HR.out.not (by rw [HK2.out];exact hlt) (by rw [HK1.out,HK2.out];exact fun h=>hno h.2)
       clear hno HR HPI;go_wp2_with fail;refine bodyPost_ret (v:=.tuple #[.agg #[.int .i64 0,.int .i64 0,.slice none 0 0],.int .i64 0,.bool false]) (by simp [results,Tryz.results113,go_sem,z0,z1,z2,zf]) rfl ⟨none,0,0,rfl,rfl,Or.inr RG_nilW,?_⟩;repeat (first | exact hm7 | refine Mid.trans ?_ (Mid.alloc _ _) | refine Mid.storeNew ?_ (by simp;try omega) _)
    ·go_simp
     refine hK.out _ _ (Or.inl (by simp)) (fun _=>?_);clear hK K;try simp only [Act.put,zs1,zs2,zs3,zs4,zs5,zs6]
     refine rdZ 9 rfl (fun K hK=>?_);go_simp;refine hK.out _ _ (Or.inl (by simp)) (fun _=>?_);clear hK K;try simp only [Act.put,zs1,zs2,zs3,zs4,zs5,zs6]
     refine rdZ 11 rfl (fun K hK=>?_);go_simp;refine hK.out _ _ (Or.inl (by simp)) (fun _=>?_);clear hK K;try simp only [Act.put,zs1,zs2,zs3,zs4,zs5,zs6]
     refine wpAnyZ_done (by kernel_rfl) ?_ _;have hst:=((Mid.setCell w6 (lo:=w4.heap.size) (hi:=w4.heap.size+1) (p:=⟨w4.heap.size,0,none⟩) (.int .i64 r) (Nat.le_refl _) (Nat.lt_succ_self _)).trans (Mid.setCell _ (lo:=w4.heap.size) (hi:=w4.heap.size+1) (p:=⟨w4.heap.size,1,none⟩) (.int .i64 rs2) (Nat.le_refl _) (Nat.lt_succ_self _))).trans (Mid.setCell _ (lo:=w4.heap.size) (hi:=w4.heap.size+1) (p:=⟨w4.heap.size,2,none⟩) (.slice A6 res2.length c6) (Nat.le_refl _) (Nat.lt_succ_self _));have V2:=b2.mid hst (Or.inl (by omega));have Y7:=((Y6.set 0 (.int .i64 r) (by simp) rfl).set 1 (.int .i64 rs2) (by simp) rfl).set 2 (.slice A6 res2.length c6) (by simp) rfl;simp only [List.set_cons_succ,List.set_cons_zero] at Y7;have ho7:=ho6.mid hst (Or.inl (by omega));have hm7:=((hm0.storeNew (p:=⟨w4.heap.size,0,none⟩) (by show w.heap.size≤w4.heap.size;omega) (.int .i64 r)).storeNew (p:=⟨w4.heap.size,1,none⟩) (by show w.heap.size≤w4.heap.size;omega) (.int .i64 rs2)).storeNew (p:=⟨w4.heap.size,2,none⟩) (by show w.heap.size≤w4.heap.size;omega) (.slice A6 res2.length c6);have hc6:=ho6.cnt.1;clear Y6 yf y0 y1 y2 hS6 b0 b2 hm0 ho6 hst;generalize ((w6.setCell ⟨w4.heap.size,0,none⟩ (.int .i64 r)).setCell ⟨w4.heap.size,1,none⟩ (.int .i64 rs2)).setCell ⟨w4.heap.size,2,none⟩ (.slice A6 res2.length c6)=w7 at V2 Y7 ho7 hm7 ⊢;have z0:=V2.cell 0 rfl;have z1:=V2.cell 1 rfl;have z2:=V2.cell 2 rfl;have zf:=V2.2.2;have hpi:=HPI.out;cases bb with
     | true =>
      rcases hpi with ⟨-,hok,hrs,hre⟩ | ⟨h, -⟩
      ·obtain ⟨rfl,h2,h3,rfl⟩:=HR.out.more (by rw [HK2.out];exact hlt) (by rw [HK1.out,HK2.out];exact ⟨by omega,hok⟩)
       rw [HK2.out] at h2;rw [HK1.out,HK2.out] at h3;have hse:s2=rs2:=h2.trans hrs.symm;have hee:es2=res2:=h3.trans hre.symm;clear h2 h3 hrs hre hok HR HPI;subst hse;subst res2;have y0:=Y7.cell 0 rfl;have y1:=Y7.cell 1 rfl;have y2:=Y7.cell 2 rfl;go_wp2_with fail;have hcl:(w.heap.size+1 == w4.heap.size)=false:=by simp;omega
       refine bodyPost_ret (v:=.tuple #[.agg #[.int .i64 r,.int .i64 s2,.slice A6 es2.length c6],.int .i64 n,.bool true]) (by simp [results,Tryz.results113,go_sem,z0,z1,z2,zf,y0,y1,y2]) rfl ⟨A6,c6,r,rfl,rfl,Or.inr ?_,hc6,?_⟩
       ·refine RG.wide (RG.mid ho7.rg (a:=w.heap.size) (b:=w.heap.size+2) ?_ (Or.inl (by omega))) (by omega) (by have:=ho7.size;simp at this ⊢;omega) (Nat.le_refl _)
        repeat (first | exact Mid.refl _ _ _ | refine Mid.stored ?_ _ (by simp;try omega) (by simp;try omega))
       ·repeat (first | exact hm7 | refine Mid.storeNew ?_ (by simp;try omega) _)
      ·cases h
     | false =>
      rcases hpi with ⟨h, -⟩ | ⟨-,hno, -, -⟩
      ·cases h
      ·obtain ⟨rfl,rfl,rfl,rfl⟩:=HR.out.not (by rw [HK2.out];exact hlt) (by rw [HK1.out,HK2.out];exact fun h=>hno h.2)
       clear hno HR HPI;go_wp2_with fail;refine bodyPost_ret (v:=.tuple #[.agg #[.int .i64 0,.int .i64 0,.slice none 0 0],.int .i64 0,.bool false]) (by simp [results,Tryz.results113,go_sem,z0,z1,z2,zf]) rfl ⟨none,0,0,rfl,rfl,Or.inr RG_nilW,?_⟩;repeat (first | exact hm7 | refine Mid.trans ?_ (Mid.alloc _ _) | refine Mid.storeNew ?_ (by simp;try omega) _)
   ·go_simp
    refine hK.out _ _ (Or.inl (by simp)) (fun _=>?_);clear hK K;try simp only [Act.put,zs1,zs2,zs3,zs4,zs5,zs6]
    refine rdZ 8 rfl (fun K hK=>?_);go_simp;refine hK.out _ _ (Or.inr hS6) (fun _=>?_);clear hK K;try simp only [Act.put,zs1,zs2,zs3,zs4,zs5,zs6]
    refine rdZ 10 rfl (fun K hK=>?_);go_simp;refine hK.out _ _ (Or.inl (by simp)) (fun _=>?_);clear hK K;try simp only [Act.put,zs1,zs2,zs3,zs4,zs5,zs6]
    refine rdZ 11 rfl (fun K hK=>?_);go_simp;refine hK.out _ _ (Or.inl (by simp)) (fun _=>?_);clear hK K;try simp only [Act.put,zs1,zs2,zs3,zs4,zs5,zs6]
    refine wpAnyZ_done (by kernel_rfl) ?_ _;have hst:=((Mid.setCell w6 (lo:=w4.heap.size) (hi:=w4.heap.size+1) (p:=⟨w4.heap.size,0,none⟩) (.int .i64 r) (Nat.le_refl _) (Nat.lt_succ_self _)).trans (Mid.setCell _ (lo:=w4.heap.size) (hi:=w4.heap.size+1) (p:=⟨w4.heap.size,1,none⟩) (.int .i64 rs2) (Nat.le_refl _) (Nat.lt_succ_self _))).trans (Mid.setCell _ (lo:=w4.heap.size) (hi:=w4.heap.size+1) (p:=⟨w4.heap.size,2,none⟩) (.slice A6 res2.length c6) (Nat.le_refl _) (Nat.lt_succ_self _));have V2:=b2.mid hst (Or.inl (by omega));have Y7:=((Y6.set 0 (.int .i64 r) (by simp) rfl).set 1 (.int .i64 rs2) (by simp) rfl).set 2 (.slice A6 res2.length c6) (by simp) rfl;simp only [List.set_cons_succ,List.set_cons_zero] at Y7;have ho7:=ho6.mid hst (Or.inl (by omega));have hm7:=((hm0.storeNew (p:=⟨w4.heap.size,0,none⟩) (by show w.heap.size≤w4.heap.size;omega) (.int .i64 r)).storeNew (p:=⟨w4.heap.size,1,none⟩) (by show w.heap.size≤w4.heap.size;omega) (.int .i64 rs2)).storeNew (p:=⟨w4.heap.size,2,none⟩) (by show w.heap.size≤w4.heap.size;omega) (.slice A6 res2.length c6);have hc6:=ho6.cnt.1;clear Y6 yf y0 y1 y2 hS6 b0 b2 hm0 ho6 hst;generalize ((w6.setCell ⟨w4.heap.size,0,none⟩ (.int .i64 r)).setCell ⟨w4.heap.size,1,none⟩ (.int .i64 rs2)).setCell ⟨w4.heap.size,2,none⟩ (.slice A6 res2.length c6)=w7 at V2 Y7 ho7 hm7 ⊢;have z0:=V2.cell 0 rfl;have z1:=V2.cell 1 rfl;have z2:=V2.cell 2 rfl;have zf:=V2.2.2;have hpi:=HPI.out;cases bb with
    | true =>
     rcases hpi with ⟨-,hok,hrs,hre⟩ | ⟨h, -⟩
     ·obtain ⟨rfl,h2,h3,rfl⟩:=HR.out.more (by rw [HK2.out];exact hlt) (by rw [HK1.out,HK2.out];exact ⟨by omega,hok⟩)
      rw [HK2.out] at h2;rw [HK1.out,HK2.out] at h3;have hse:s2=rs2:=h2.trans hrs.symm;have hee:es2=res2:=h3.trans hre.symm;clear h2 h3 hrs hre hok HR HPI;subst hse;subst res2;have y0:=Y7.cell 0 rfl;have y1:=Y7.cell 1 rfl;have y2:=Y7.cell 2 rfl;go_wp2_with fail;have hcl:(w.heap.size+1 == w4.heap.size)=false:=by simp;omega
      refine bodyPost_ret (v:=.tuple #[.agg #[.int .i64 r,.int .i64 s2,.slice A6 es2.length c6],.int .i64 n,.bool true]) (by simp [results,Tryz.results113,go_sem,z0,z1,z2,zf,y0,y1,y2]) rfl ⟨A6,c6,r,rfl,rfl,Or.inr ?_,hc6,?_⟩
      ·refine RG.wide (RG.mid ho7.rg (a:=w.heap.size) (b:=w.heap.size+2) ?_ (Or.inl (by omega))) (by omega) (by have:=ho7.size;simp at this ⊢;omega) (Nat.le_refl _)
       repeat (first | exact Mid.refl _ _ _ | refine Mid.stored ?_ _ (by simp;try omega) (by simp;try omega))
      ·repeat (first | exact hm7 | refine Mid.storeNew ?_ (by simp;try omega) _)
     ·cases h
    | false =>
     rcases hpi with ⟨h, -⟩ | ⟨-,hno, -, -⟩
     ·cases h
     ·obtain ⟨rfl,rfl,rfl,rfl⟩:=HR.out.not (by rw [HK2.out];exact hlt) (by rw [HK1.out,HK2.out];exact fun h=>hno h.2)
      clear hno HR HPI;go_wp2_with fail;refine bodyPost_ret (v:=.tuple #[.agg #[.int .i64 0,.int .i64 0,.slice none 0 0],.int .i64 0,.bool false]) (by simp [results,Tryz.results113,go_sem,z0,z1,z2,zf]) rfl ⟨none,0,0,rfl,rfl,Or.inr RG_nilW,?_⟩;repeat (first | exact hm7 | refine Mid.trans ?_ (Mid.alloc _ _) | refine Mid.storeNew ?_ (by simp;try omega) _)
  ·obtain rfl:n=40:=by omega
   have hav:AvIs r ((40:Nat):Int) es ((40:Nat):Int) false:=.inr ⟨rfl,fun h=>by have:=h.2;omega,rfl⟩;obtain ⟨rfl,rfl,rfl,rfl⟩:=HR.out.not (by rw [HK2.out];exact hlt) (fun h=>by have:=h.1;omega);with_reducible refine (impl_AddVertex r ((40:Nat):Int) A es c w2 _ _ (hr.mid hm0 oZl) (by omega) ((40:Nat):Int) false hav).mono ?_
   rintro en w4 ⟨A4,c4,rfl,ho4,hm4⟩;replace b2:=b2.mid hm4 oZr;replace hm0:=hm0.trans hm4;have hb23:w.heap.size+1 < w4.heap.size:=b2.1;have hb22:w.heap.size < w4.heap.size:=by omega
   have z0:=b2.cell 0 rfl;have z1:=b2.cell 1 rfl;have z2:=b2.cell 2 rfl;have zf:=b2.2.2;clear p0 p1 p2 hav HR;go_wp2_with fail;refine bodyPost_ret (v:=.tuple #[.agg #[.int .i64 0,.int .i64 0,.slice none 0 0],.int .i64 0,.bool false]) (by simp [results,Tryz.results113,go_sem,z0,z1,z2,zf,hb22,hb23,World.cell?_alloc_lt]) rfl ⟨none,0,0,rfl,rfl,Or.inr RG_nilW,?_⟩;repeat (first | exact hm0 | refine Mid.trans ?_ (Mid.alloc _ _) | refine Mid.storeNew ?_ (by simp;try omega) _)
 ·obtain rfl:k=wd.length:=by omega
  obtain ⟨rfl,rfl,rfl,hxu⟩:=HR.out.full HK2.out;rw [HK1.out] at hxu;subst hxu;have hr2:=hr.mid hm0 oZl;have p0:=b0.cell 0 rfl;have p1:=b0.cell 1 rfl;have p2:=b0.cell 2 rfl;have z0:=b2.cell 0 rfl;have z1:=b2.cell 1 rfl;have z2:=b2.cell 2 rfl;have zf:=b2.2.2;clear HR;go_wp2_with fail;refine bodyPost_ret (v:=.tuple #[.agg #[.int .i64 r,.int .i64 n,.slice A es2.length c],.int .i64 x,.bool true]) (by simp [results,Tryz.results113,go_sem,z0,z1,z2,zf,p0,p1,p2]) rfl ⟨A,c,r,rfl,rfl,Or.inl rfl,hcl,?_⟩;repeat (first | exact hm0 | refine Mid.storeNew ?_ (by simp;try omega) _)
end
section
open Go.RowKit
def CompleteGraphIs (r0 s0:Int) (d0:List Ed) (rr0 rs0:Int) (res0:List Ed) (res1:Bool):Prop:=CompleteIs r0 s0 d0 rr0 rs0 res0 res1
theorem CompleteGraphIs_ex (r0 s0:Int) (d0:List Ed) (hl0:d0.length≤1048576):∃ rr0 rs0 res0 res1,CompleteGraphIs r0 s0 d0 rr0 rs0 res0 res1:=by
 by_cases h:IsFol r0 s0 d0
 ·exact ⟨_,_,_,_,.inl ⟨rfl,h,rfl,rfl,rfl⟩⟩
 ·exact ⟨_,_,_,_,.inr ⟨rfl,h,rfl,rfl,rfl⟩⟩
theorem CompleteGraphIs_len {r0 s0:Int} {d0:List Ed} {rr0 rs0:Int} {res0:List Ed} {res1:Bool} (h:CompleteGraphIs r0 s0 d0 rr0 rs0 res0 res1) (hl0:d0.length≤1048576):res0.length≤1048576:=by
 rcases h with ⟨-,h, -, -,rfl⟩ | ⟨-, -, -, -,rfl⟩
 ·have h1:=canon_len (d0++addLs s0 d0 r0.toNat)
  have h2:=addLs_len s0 d0 r0.toNat;have h3:=h.gr.len;have h4:=h.gr.rank;have h5:=h.gr.size;have h6:r0.toNat * s0.toNat≤3 * 40:=Nat.mul_le_mul (by omega) (by omega);rw [List.length_append] at h1;omega
 ·simp
theorem sspec_CompleteGraph (r0 s0:Int) (A0:Option Addr) (d0:List Ed) (c0:Nat) (w:World) (lo0 hi0:Nat) (h0:OG w lo0 hi0 A0 c0 d0) (hl0:d0.length≤1048576) (rr0 rs0:Int) (res0:List Ed) (res1:Bool) (h:CompleteGraphIs r0 s0 d0 rr0 rs0 res0 res1) :
  Calls Tryz.prog 52 #[.agg #[.int .i64 r0,.int .i64 s0,.slice A0 d0.length c0]] w fun e w'=>∃ (A:Option Addr) (c:Nat),e=.returned (.tuple #[.agg #[.int .i64 rr0,.int .i64 rs0,.slice A res0.length c],.bool res1])∧OG w' w.heap.size w'.heap.size A c res0∧Mid 0 0 w w' :=
 spec_CompleteGraph r0 s0 A0 d0 c0 w lo0 hi0 h0.rg hl0 rr0 rs0 res0 res1 h
theorem simpl_CompleteGraph (r0 s0:Int) (A0:Option Addr) (d0:List Ed) (c0:Nat) (w:World) (lo0 hi0:Nat) (h0:OG w lo0 hi0 A0 c0 d0) (hl0:d0.length≤1048576) (rr0 rs0:Int) (res0:List Ed) (res1:Bool) (h:CompleteGraphIs r0 s0 d0 rr0 rs0 res0 res1) :
  Calls Tryz.prog 51 #[.agg #[.int .i64 r0,.int .i64 s0,.slice A0 d0.length c0]] w fun e w'=>∃ (A:Option Addr) (c:Nat),e=.returned (.tuple #[.agg #[.int .i64 rr0,.int .i64 rs0,.slice A res0.length c],.bool res1])∧OG w' w.heap.size w'.heap.size A c res0∧Mid 0 0 w w' :=
 impl_CompleteGraph r0 s0 A0 d0 c0 w lo0 hi0 h0.rg hl0 h0.cnt.1 rr0 rs0 res0 res1 h
end
section
open Go.RowKit
def CoverIs (r s:Int) (es:List Ed) (rr rs:Int) (res:List Ed) (b:Bool):Prop :=
 (b=true∧IsCor r s es∧rr=r∧rs=(coreA r (s,canon (es++addLs s es r.toNat))).1∧res=(coreA r (s,canon (es++addLs s es r.toNat))).2) ∨ (b=false∧¬ IsCor r s es∧rr=0∧rs=0∧res=[])
theorem CoverIs.no {r s:Int} {es:List Ed} {rr rs:Int} {res:List Ed} {b:Bool} (h:CoverIs r s es rr rs res b) (hn:¬ IsCor r s es):b=false∧rr=0∧rs=0∧res=[]:=by
 rcases h with ⟨-,h, -⟩ | ⟨h1, -,h2⟩
 ·exact absurd h hn
 ·exact ⟨h1,h2⟩
theorem CoverIs.yes {r s:Int} {es:List Ed} {rr rs:Int} {res:List Ed} {b:Bool} (h:CoverIs r s es rr rs res b) (hn:IsCor r s es):b=true∧r=rr∧rs=(coreA r (s,canon (es++addLs s es r.toNat))).1∧res=(coreA r (s,canon (es++addLs s es r.toNat))).2:=by
 rcases h with ⟨h1, -,h2,h3⟩ | ⟨-,h, -⟩
 ·exact ⟨h1,h2.symm,h3⟩
 ·exact absurd hn h
theorem spec_CoverOf (r s:Int) (A:Option Addr) (es:List Ed) (c:Nat) (w:World) (lo hi:Nat) (hr:RG w lo hi A es) (hl:es.length≤1048576) (rr rs:Int) (res:List Ed) (b:Bool) (hres:CoverIs r s es rr rs res b) :
  Calls Tryz.prog 46 #[graV r s A es.length c] w fun e w'=>∃ A1 c1,e=.returned (.tuple #[graV rr rs A1 res.length c1,.bool b])∧OG w' w.heap.size w'.heap.size A1 c1 res∧Mid 0 0 w w':=by
 have hm0:Mid 0 0 w ((w.alloc (.cells #[.int .i64 r,.int .i64 s,.slice A es.length c] 26)).alloc (.cells #[.int .i64 0,.int .i64 0,.slice none 0 0] 26)):=(Mid.alloc _ _).trans (Mid.alloc _ _);have b0:=(Box.new w #[.int .i64 r,.int .i64 s,.slice A es.length c] 26).mid (Mid.alloc _ (.cells #[.int .i64 0,.int .i64 0,.slice none 0 0] 26)) oZr;have b2:=Box.new (w.alloc (.cells #[.int .i64 r,.int .i64 s,.slice A es.length c] 26)) #[.int .i64 0,.int .i64 0,.slice none 0 0] 26;simp only [World.size_alloc] at b2;have HR:=Lib.hid hres;clear hres;go_enter Tryz.func46,Tryz.ntmps46
 go_wp2_with fail;generalize ((w.alloc (.cells #[.int .i64 r,.int .i64 s,.slice A es.length c] 26)).alloc (.cells #[.int .i64 0,.int .i64 0,.slice none 0 0] 26))=w1 at hm0 b0 b2 ⊢;have hs1:w.heap.size+1 < w1.heap.size:=b2.1;by_cases hf:IsFol r s es
 ·have HF:=Lib.hid hf
  clear hf;obtain ⟨ms,hms⟩:∃ ms,canon (es++addLs s es r.toNat)=ms:=⟨_,rfl⟩
  have hgm:=complete_gr HF.out;rw [hms] at hgm;have HGM:=Lib.hid hgm;have HMS:=Lib.hid hms;clear hgm;have hCI:CompleteIs r s es r s ms true:=Or.inl ⟨rfl,HF.out,rfl,rfl,hms.symm⟩;with_reducible refine (spec_CompleteGraph r s A es c w1 _ _ (hr.mid hm0 oZl) hl r s ms true hCI).mono ?_
  rintro en w2 ⟨A2,c2,rfl,ho2,hm2⟩;clear hms hCI;have hs2:=hm2.size;have ha2:=Mid.alloc w2 (.cells #[.int .i64 r,.int .i64 s,.slice A2 ms.length c2] 26);have Y2:=Box.new w2 #[.int .i64 r,.int .i64 s,.slice A2 ms.length c2] 26;replace b0:=b0.mid hm2 oZr;replace b2:=b2.mid hm2 oZr;replace hm0:=hm0.trans hm2;replace b0:=b0.mid ha2 oZr;replace b2:=b2.mid ha2 oZr;replace ho2:=ho2.mid ha2 oZl;replace hm0:=hm0.trans ha2;have p0:=b0.cell 0 rfl;have p1:=b0.cell 1 rfl;have p2:=b0.cell 2 rfl;go_wp2_with fail;generalize w2.alloc (.cells #[.int .i64 r,.int .i64 s,.slice A2 ms.length c2] 26)=w3 at hm0 b0 b2 ho2 Y2 ha2 p0 p1 p2 ⊢;have hs3:=ha2.size;by_cases hc:IsCor r s es
  ·obtain ⟨hb,hrr,hrs,hre⟩:=HR.out.yes hc
   have HC:=Lib.hid hc;clear hc HR;with_reducible refine (spec_IsSubgroup r s A es c _ _ _ (hr.mid hm0 oZl) hl true (iff_of_true rfl HC.out)).mono ?_
   rintro en w4 ⟨rfl,hm4⟩;have hs4:=hm4.size;replace b0:=b0.mid hm4 oZr;replace b2:=b2.mid hm4 oZr;replace Y2:=Y2.mid hm4 oZr;replace ho2:=ho2.mid hm4 oZl;replace hm0:=hm0.trans hm4;clear p0 p1 p2;have y0:=Y2.cell 0 rfl;have y1:=Y2.cell 1 rfl;have y2:=Y2.cell 2 rfl;obtain ⟨rn,rfl⟩:∃ rn:Nat,r=rn:=⟨r.toNat,by have:=HF.out.gr.rank;omega⟩
   obtain ⟨sn,rfl⟩:∃ sn:Nat,s=sn:=⟨s.toNat,by have:=HF.out.gr.size;omega⟩
   rw [HMS.out] at hrs hre;obtain ⟨q,qs,hQ, -⟩:=nat_gr (coreA_gr (g:=((sn:Int),ms)) HGM.out);have hP:=spec_CoreGraph rn sn A2 ms c2 w4 _ _ (OG.rg ho2) HGM.out;rw [hQ] at hP hrs hre;dsimp only at hP hrs hre;have HP:=Lib.hid hP;have HALL:=Lib.hid (And.intro hb (And.intro hrr (And.intro hrs hre)));clear hP hQ hb hrr hrs hre;go_wp2_with fail;with_reducible refine HP.out.mono ?_
   rintro en w5 ⟨A5,c5,rfl,ho5,hm5⟩;clear HP;replace b2:=b2.mid hm5 oZr;replace hm0:=hm0.trans hm5;have z0:=b2.cell 0 rfl;have z1:=b2.cell 1 rfl;have z2:=b2.cell 2 rfl;have zf:=b2.2.2;go_wp2_with fail;refine bodyPost_ret (v:=.tuple #[.agg #[.int .i64 rn,.int .i64 q,.slice A5 qs.length c5],.bool true]) (by simp [results,Tryz.results46,go_sem,z0,z1,z2,zf]) rfl ⟨A5,c5,by rw [HALL.out.1,← HALL.out.2.1,HALL.out.2.2.1,HALL.out.2.2.2],?_,?_⟩
   ·rw [HALL.out.2.2.2]
    refine OG.wide (OG.mid ho5 (a:=w.heap.size+1) (b:=w.heap.size+2) ?_ (Or.inl (by omega))) (by omega) (by simp) (Nat.le_refl _);repeat (first | exact Mid.refl _ _ _ | refine Mid.stored ?_ _ (by simp;try omega) (by simp;try omega))
   ·repeat (first | exact hm0 | refine Mid.storeNew ?_ (by simp;try omega) _)
  ·obtain ⟨rfl,rfl,rfl,rfl⟩:=HR.out.no hc
   have HC:=Lib.hid hc;clear hc HR;with_reducible refine (spec_IsSubgroup r s A es c _ _ _ (hr.mid hm0 oZl) hl false (iff_of_false Bool.false_ne_true HC.out)).mono ?_
   rintro en w4 ⟨rfl,hm4⟩;replace b2:=b2.mid hm4 oZr;replace hm0:=hm0.trans hm4;have z0:=b2.cell 0 rfl;have z1:=b2.cell 1 rfl;have z2:=b2.cell 2 rfl;have zf:=b2.2.2;clear p0 p1 p2;go_wp2_with fail;refine bodyPost_ret (v:=.tuple #[.agg #[.int .i64 0,.int .i64 0,.slice none 0 0],.bool false]) (by simp [results,Tryz.results46,go_sem,z0,z1,z2,zf]) rfl ⟨none,0,rfl,?_,?_⟩
   ·exact ⟨Nat.le_refl _,⟨rfl,.inl ⟨rfl,rfl⟩⟩,fun g hg=>by simp [Value.ownBlock] at hg⟩
   ·repeat (first | exact hm0 | refine Mid.trans ?_ (Mid.alloc _ _) | refine Mid.storeNew ?_ (by simp;try omega) _)
 ·have hc:¬ IsCor r s es:=fun h=>hf h.fol
  obtain ⟨rfl,rfl,rfl,rfl⟩:=HR.out.no hc;have hCI:CompleteIs r s es 0 0 [] false:=Or.inr ⟨rfl,hf,rfl,rfl,rfl⟩;with_reducible refine (spec_CompleteGraph r s A es c w1 _ _ (hr.mid hm0 oZl) hl 0 0 [] false hCI).mono ?_
  rintro en w2 ⟨A2,c2,rfl,ho2,hm2⟩;have hs2:=hm2.size;clear hc hf HR hCI;replace b2:=b2.mid hm2 oZr;replace hm0:=hm0.trans hm2;have ha2:=Mid.alloc w2 (.cells #[.int .i64 0,.int .i64 0,.slice A2 0 c2] 26);have hb22:w.heap.size+1 < w2.heap.size:=b2.1;have hb23:w.heap.size < w2.heap.size:=by omega
  have z0:=b2.cell 0 rfl;have z1:=b2.cell 1 rfl;have z2:=b2.cell 2 rfl;have zf:=b2.2.2;go_wp2_with fail;refine bodyPost_ret (v:=.tuple #[.agg #[.int .i64 0,.int .i64 0,.slice none 0 0],.bool false]) (by simp [results,Tryz.results46,go_sem,z0,z1,z2,zf,hb22,hb23,World.cell?_alloc_lt]) rfl ⟨none,0,rfl,?_,?_⟩
  ·exact ⟨Nat.le_refl _,⟨rfl,.inl ⟨rfl,rfl⟩⟩,fun g hg=>by simp [Value.ownBlock] at hg⟩
  ·repeat (first | exact hm0 | refine Mid.trans ?_ (Mid.alloc _ _) | refine Mid.storeNew ?_ (by simp;try omega) _)
theorem impl_CoverOf (r s:Int) (A:Option Addr) (es:List Ed) (c:Nat) (w:World) (lo hi:Nat) (hr:RG w lo hi A es) (hl:es.length≤1048576) (hcl:es.length≤c) (rr rs:Int) (res:List Ed) (b:Bool) (hres:CoverIs r s es rr rs res b) :
  Calls Tryz.prog 45 #[graV r s A es.length c] w fun e w'=>∃ A1 c1,e=.returned (.tuple #[graV rr rs A1 res.length c1,.bool b])∧OG w' w.heap.size w'.heap.size A1 c1 res∧Mid 0 0 w w':=by
 have hm0:Mid 0 0 w ((w.alloc (.cells #[.int .i64 r,.int .i64 s,.slice A es.length c] 26)).alloc (.cells #[.int .i64 0,.int .i64 0,.slice none 0 0] 26)):=(Mid.alloc _ _).trans (Mid.alloc _ _);have b0:=(Box.new w #[.int .i64 r,.int .i64 s,.slice A es.length c] 26).mid (Mid.alloc _ (.cells #[.int .i64 0,.int .i64 0,.slice none 0 0] 26)) oZr;have b2:=Box.new (w.alloc (.cells #[.int .i64 r,.int .i64 s,.slice A es.length c] 26)) #[.int .i64 0,.int .i64 0,.slice none 0 0] 26;simp only [World.size_alloc] at b2;have HR:=Lib.hid hres;clear hres;go_enter Tryz.func45,Tryz.ntmps45
 go_wp2_with fail;generalize ((w.alloc (.cells #[.int .i64 r,.int .i64 s,.slice A es.length c] 26)).alloc (.cells #[.int .i64 0,.int .i64 0,.slice none 0 0] 26))=w1 at hm0 b0 b2 ⊢;have hs1:w.heap.size+1 < w1.heap.size:=b2.1;by_cases hf:IsFol r s es
 ·have HF:=Lib.hid hf
  clear hf;obtain ⟨ms,hms⟩:∃ ms,canon (es++addLs s es r.toNat)=ms:=⟨_,rfl⟩
  have hgm:=complete_gr HF.out;rw [hms] at hgm;have HGM:=Lib.hid hgm;have HMS:=Lib.hid hms;clear hgm;have hCI:CompleteIs r s es r s ms true:=Or.inl ⟨rfl,HF.out,rfl,rfl,hms.symm⟩;with_reducible refine (impl_CompleteGraph r s A es c w1 _ _ (hr.mid hm0 oZl) hl hcl r s ms true hCI).mono ?_
  rintro en w2 ⟨A2,c2,rfl,ho2,hm2⟩;clear hms hCI;have hs2:=hm2.size;have ha2:=Mid.alloc w2 (.cells #[.int .i64 r,.int .i64 s,.slice A2 ms.length c2] 26);have Y2:=Box.new w2 #[.int .i64 r,.int .i64 s,.slice A2 ms.length c2] 26;replace b0:=b0.mid hm2 oZr;replace b2:=b2.mid hm2 oZr;replace hm0:=hm0.trans hm2;replace b0:=b0.mid ha2 oZr;replace b2:=b2.mid ha2 oZr;replace ho2:=ho2.mid ha2 oZl;replace hm0:=hm0.trans ha2;have p0:=b0.cell 0 rfl;have p1:=b0.cell 1 rfl;have p2:=b0.cell 2 rfl;go_wp2_with fail;generalize w2.alloc (.cells #[.int .i64 r,.int .i64 s,.slice A2 ms.length c2] 26)=w3 at hm0 b0 b2 ho2 Y2 ha2 p0 p1 p2 ⊢;have hs3:=ha2.size;by_cases hc:IsCor r s es
  ·obtain ⟨hb,hrr,hrs,hre⟩:=HR.out.yes hc
   have HC:=Lib.hid hc;clear hc HR;with_reducible refine (impl_IsCore r s A es c _ _ _ (hr.mid hm0 oZl) hl hcl true (iff_of_true rfl HC.out)).mono ?_
   rintro en w4 ⟨rfl,hm4⟩;have hs4:=hm4.size;replace b0:=b0.mid hm4 oZr;replace b2:=b2.mid hm4 oZr;replace Y2:=Y2.mid hm4 oZr;replace ho2:=ho2.mid hm4 oZl;replace hm0:=hm0.trans hm4;clear p0 p1 p2;have y0:=Y2.cell 0 rfl;have y1:=Y2.cell 1 rfl;have y2:=Y2.cell 2 rfl;obtain ⟨rn,rfl⟩:∃ rn:Nat,r=rn:=⟨r.toNat,by have:=HF.out.gr.rank;omega⟩
   obtain ⟨sn,rfl⟩:∃ sn:Nat,s=sn:=⟨s.toNat,by have:=HF.out.gr.size;omega⟩
   rw [HMS.out] at hrs hre;obtain ⟨q,qs,hQ, -⟩:=nat_gr (coreA_gr (g:=((sn:Int),ms)) HGM.out);have hP:=impl_CoreGraph rn sn A2 ms c2 w4 _ _ (OG.rg ho2) HGM.out;rw [hQ] at hP hrs hre;dsimp only at hP hrs hre;have HP:=Lib.hid hP;have HALL:=Lib.hid (And.intro hb (And.intro hrr (And.intro hrs hre)));clear hP hQ hb hrr hrs hre;go_wp2_with fail;with_reducible refine HP.out.mono ?_
   rintro en w5 ⟨A5,c5,rfl,ho5,hm5⟩;clear HP;replace b2:=b2.mid hm5 oZr;replace hm0:=hm0.trans hm5;have z0:=b2.cell 0 rfl;have z1:=b2.cell 1 rfl;have z2:=b2.cell 2 rfl;have zf:=b2.2.2;go_wp2_with fail;refine bodyPost_ret (v:=.tuple #[.agg #[.int .i64 rn,.int .i64 q,.slice A5 qs.length c5],.bool true]) (by simp [results,Tryz.results45,go_sem,z0,z1,z2,zf]) rfl ⟨A5,c5,by rw [HALL.out.1,← HALL.out.2.1,HALL.out.2.2.1,HALL.out.2.2.2],?_,?_⟩
   ·rw [HALL.out.2.2.2]
    refine OG.wide (OG.mid ho5 (a:=w.heap.size+1) (b:=w.heap.size+2) ?_ (Or.inl (by omega))) (by omega) (by simp) (Nat.le_refl _);repeat (first | exact Mid.refl _ _ _ | refine Mid.stored ?_ _ (by simp;try omega) (by simp;try omega))
   ·repeat (first | exact hm0 | refine Mid.storeNew ?_ (by simp;try omega) _)
  ·obtain ⟨rfl,rfl,rfl,rfl⟩:=HR.out.no hc
   have HC:=Lib.hid hc;clear hc HR;with_reducible refine (impl_IsCore r s A es c _ _ _ (hr.mid hm0 oZl) hl hcl false (iff_of_false Bool.false_ne_true HC.out)).mono ?_
   rintro en w4 ⟨rfl,hm4⟩;replace b2:=b2.mid hm4 oZr;replace hm0:=hm0.trans hm4;have z0:=b2.cell 0 rfl;have z1:=b2.cell 1 rfl;have z2:=b2.cell 2 rfl;have zf:=b2.2.2;clear p0 p1 p2;go_wp2_with fail;refine bodyPost_ret (v:=.tuple #[.agg #[.int .i64 0,.int .i64 0,.slice none 0 0],.bool false]) (by simp [results,Tryz.results45,go_sem,z0,z1,z2,zf]) rfl ⟨none,0,rfl,?_,?_⟩
   ·exact ⟨Nat.le_refl _,⟨rfl,.inl ⟨rfl,rfl⟩⟩,fun g hg=>by simp [Value.ownBlock] at hg⟩
   ·repeat (first | exact hm0 | refine Mid.trans ?_ (Mid.alloc _ _) | refine Mid.storeNew ?_ (by simp;try omega) _)
 ·have hc:¬ IsCor r s es:=fun h=>hf h.fol
  obtain ⟨rfl,rfl,rfl,rfl⟩:=HR.out.no hc;have hCI:CompleteIs r s es 0 0 [] false:=Or.inr ⟨rfl,hf,rfl,rfl,rfl⟩;with_reducible refine (impl_CompleteGraph r s A es c w1 _ _ (hr.mid hm0 oZl) hl hcl 0 0 [] false hCI).mono ?_
  rintro en w2 ⟨A2,c2,rfl,ho2,hm2⟩;have hs2:=hm2.size;clear hc hf HR hCI;replace b2:=b2.mid hm2 oZr;replace hm0:=hm0.trans hm2;have ha2:=Mid.alloc w2 (.cells #[.int .i64 0,.int .i64 0,.slice A2 0 c2] 26);have hb22:w.heap.size+1 < w2.heap.size:=b2.1;have hb23:w.heap.size < w2.heap.size:=by omega
  have z0:=b2.cell 0 rfl;have z1:=b2.cell 1 rfl;have z2:=b2.cell 2 rfl;have zf:=b2.2.2;go_wp2_with fail;refine bodyPost_ret (v:=.tuple #[.agg #[.int .i64 0,.int .i64 0,.slice none 0 0],.bool false]) (by simp [results,Tryz.results45,go_sem,z0,z1,z2,zf,hb22,hb23,World.cell?_alloc_lt]) rfl ⟨none,0,rfl,?_,?_⟩
  ·exact ⟨Nat.le_refl _,⟨rfl,.inl ⟨rfl,rfl⟩⟩,fun g hg=>by simp [Value.ownBlock] at hg⟩
  ·repeat (first | exact hm0 | refine Mid.trans ?_ (Mid.alloc _ _) | refine Mid.storeNew ?_ (by simp;try omega) _)
end
section
open Go.RowKit
theorem sep_more {r:Int} {es:List Ed} {l:List (List Int)} {k:Nat} {x:List Int} (h:∀ w∈l.take k,IsW r w∧¬ LoopP es w) (hx:l[k]?=some x) (h2:IsW r x∧¬ LoopP es x):∀ w∈l.take (k+1),IsW r w∧¬ LoopP es w:=by
 intro w hw;rw [take_snocL hx] at hw;rcases List.mem_append.1 hw with h3 | h3
 ·exact h w h3
 ·simp at h3
  subst h3;exact h2
theorem impl_SeparateWords (r s:Int) (A:Option Addr) (es:List Ed) (c:Nat) (Al:Option Addr) (l:List (List Int)) (cl:Nat) (w:World) (lo hi lo' hi':Nat) (hr:RG w lo hi A es) (hll:RSC w lo' hi' Al l) (hl:es.length≤1048576) (hcl:es.length≤c) (hok:OkSS l) (hsl:sumL l≤1048576) (rr rs:Int) (res:List Ed) (b:Bool) (hres:SepIs r s es l rr rs res b) :
  Calls Tryz.prog 60 #[graV r s A es.length c,.slice Al l.length cl] w fun e w'=>∃ A1 c1,e=.returned (.tuple #[graV rr rs A1 res.length c1,.bool b])∧OG w' w.heap.size w'.heap.size A1 c1 res∧Mid 0 0 w w':=by
 have hm0:Mid 0 0 w ((w.alloc (.cells #[.int .i64 r,.int .i64 s,.slice A es.length c] 26)).alloc (.cells #[.int .i64 0,.int .i64 0,.slice none 0 0] 26)):=(Mid.alloc _ _).trans (Mid.alloc _ _);have B0:=(Box.new w #[.int .i64 r,.int .i64 s,.slice A es.length c] 26).mid (Mid.alloc _ (.cells #[.int .i64 0,.int .i64 0,.slice none 0 0] 26)) oZr;have B2:=Box.new (w.alloc (.cells #[.int .i64 r,.int .i64 s,.slice A es.length c] 26)) #[.int .i64 0,.int .i64 0,.slice none 0 0] 26;simp only [World.size_alloc] at B2;have HR:=Lib.hid hres;have HOK:=Lib.hid hok;clear hres hok;obtain ⟨b1,hb1⟩:=bool_of (IsCor r s es);have H1:=Lib.hid hb1;clear hb1;go_enter Tryz.func60,Tryz.ntmps60
 go_wp2_with fail;generalize hw1:(w.alloc (.cells #[.int .i64 r,.int .i64 s,.slice A es.length c] 26)).alloc (.cells #[.int .i64 0,.int .i64 0,.slice none 0 0] 26)=w1 at hm0 B0 B2 ⊢;have hs1:w.heap.size+1 < w1.heap.size:=B2.1;clear hw1;with_reducible refine (impl_IsCore r s A es c _ _ _ (hr.mid hm0 oZl) hl hcl b1 H1.out).mono ?_
 rintro en w2 ⟨rfl,hm2⟩;replace B0:=B0.mid hm2 oZr;replace B2:=B2.mid hm2 oZr;replace hm0:=hm0.trans hm2;have hs2:=hm2.size;have p0:=B0.cell 0 rfl;have p1:=B0.cell 1 rfl;have p2:=B0.cell 2 rfl;have z0:=B2.cell 0 rfl;have z1:=B2.cell 1 rfl;have z2:=B2.cell 2 rfl;have zf:=B2.2.2;cases b1 with
 | false =>
  have hno:¬ SepOk r s es l:=fun h=>by have:=H1.out.2 h.1;cases this
  obtain ⟨rfl,rfl,rfl,rfl⟩:=HR.out.no hno;clear p0 p1 p2;go_wp2_with fail;refine bodyPost_ret (v:=.tuple #[.agg #[.int .i64 0,.int .i64 0,.slice none 0 0],.bool false]) (by simp [results,Tryz.results60,go_sem,z0,z1,z2,zf]) rfl ⟨none,0,rfl,OG.nil,?_⟩;repeat (first | exact hm0 | refine Mid.trans ?_ (Mid.alloc _ _) | refine Mid.storeNew ?_ (by simp;try omega) _)
 | true =>
 have hcor:=H1.out.1 rfl;clear H1;by_cases hl6:l.length≤6
 ·have d6:decide ((6:Int) < (l.length:Int))=false:=by simp;omega
  obtain ⟨rn,n,rfl,rfl⟩:=hcor.gr.nat;have g1:=hcor.gr.rank;have g2:=hcor.gr.size;have g3:=hcor.gr.len;obtain ⟨bF,sF,eF,hE,hbad,hfin⟩:=HR.out.run;have HC:=Lib.hid hcor;have HEX:=Lib.hid hE;have HBAD:=Lib.hid hbad;have HFIN:=Lib.hid hfin;have hHH:=hm0.size;clear hcor hE hbad hfin z0 z1 z2 zf hm2;go_wp2_with fail;clear p0 p1 p2;go_loopw [26] (fun iv wr=>∃ (k:Nat),k≤l.length∧iv=.int .i64 k∧Hid (∀ x∈l.take k,IsW rn x∧¬ LoopP es x)∧Box wr w.heap.size [.int .i64 rn,.int .i64 n,.slice A es.length c]∧Box wr (w.heap.size+1) [.int .i64 0,.int .i64 0,.slice none 0 0]∧Mid 0 0 w wr) (fun iv _=>l.length - (intOf iv).toNat)
  case atStart=>exact ⟨0,Nat.zero_le _,rfl,Lib.hid (fun x hx=>by simp at hx),B0,B2,hm0⟩
  case round =>
   clear B0 B2 hm0 hHH;obtain ⟨wo,hwo⟩:∃ wo,wo=wr:=⟨_,rfl⟩
   subst hwo;obtain ⟨k,hk,rfl,HGD,B0,B2,hm⟩:=hrel;by_cases hlt:k < l.length
   ·obtain ⟨Bd,od,Ak,ck,xs,hAl,hb1,hb2,hxs,hcell,hrv,hcw⟩:=(hll.mid hm oZl).row hlt
    subst hAl;have hxm:=List.mem_of_getElem? hxs;have hxl:xs.length≤1048576:=by have:=len_le_sumL hxm;omega
    have HOX:=Lib.hid (HOK.out.2 xs hxm);have HXS:=Lib.hid hxs;have hk0:(0:Int)≤(k:Int):=by omega
    have hk1:(k:Int) < (l.length:Int):=by omega
    have p0:=B0.cell 0 rfl;have p1:=B0.cell 1 rfl;have p2:=B0.cell 2 rfl;obtain ⟨bw,hbw⟩:=bool_of (IsW rn xs);have HBW:=Lib.hid hbw;clear hbw;go_wp2_with fail;with_reducible refine (impl_IsWord rn Ak xs ck _ _ hrv.rs HOX.out (by omega) bw HBW.out).mono ?_
    rintro en w3 ⟨rfl,rfl⟩;cases bw with
    | false =>
     have hno:¬ SepOk rn n es l:=fun h=>by have:=HBW.out.2 (h.2.2 xs hxm).1;cases this
     obtain ⟨rfl,rfl,rfl,rfl⟩:=HR.out.no hno;have z0:=B2.cell 0 rfl;have z1:=B2.cell 1 rfl;have z2:=B2.cell 2 rfl;have zf:=B2.2.2;clear p0 p1 p2 hxs hxm hcell hno;go_wp2_with fail;refine bodyPost_ret (v:=.tuple #[.agg #[.int .i64 0,.int .i64 0,.slice none 0 0],.bool false]) (by simp [results,Tryz.results60,go_sem,z0,z1,z2,zf]) rfl ⟨none,0,rfl,OG.nil,?_⟩;repeat (first | exact hm | refine Mid.trans ?_ (Mid.alloc _ _) | refine Mid.storeNew ?_ (by simp;try omega) _)
    | true =>
    have hwd:=HBW.out.1 rfl;obtain ⟨bl,hbl⟩:=bool_of (LoopP es xs);have HBL:=Lib.hid hbl;clear hbl HBW;have HWD:=Lib.hid hwd;clear hwd;go_wp2_with fail;with_reducible refine (impl_loops rn n A es c Ak xs ck _ _ _ _ _ (hr.mid hm oZl) hrv HC.out.gr hxl HOX.out bl HBL.out).mono ?_
    rintro en w4 ⟨rfl,hm4⟩;replace B0:=B0.mid hm4 oZr;replace B2:=B2.mid hm4 oZr;replace hm:=hm.trans hm4;clear p0 p1 p2 hcell;cases bl with
    | true =>
     have hno:¬ SepOk rn n es l:=fun h=>(h.2.2 xs hxm).2 (HBL.out.1 rfl);obtain ⟨rfl,rfl,rfl,rfl⟩:=HR.out.no hno;have z0:=B2.cell 0 rfl;have z1:=B2.cell 1 rfl;have z2:=B2.cell 2 rfl;have zf:=B2.2.2;clear hxs hxm hno;go_wp2_with fail;refine bodyPost_ret (v:=.tuple #[.agg #[.int .i64 0,.int .i64 0,.slice none 0 0],.bool false]) (by simp [results,Tryz.results60,go_sem,z0,z1,z2,zf]) rfl ⟨none,0,rfl,OG.nil,?_⟩;repeat (first | exact hm | refine Mid.trans ?_ (Mid.alloc _ _) | refine Mid.storeNew ?_ (by simp;try omega) _)
    | false =>
     have hnl:¬ LoopP es xs:=fun h=>by have:=HBL.out.2 h;cases this
     have HNL:=Lib.hid hnl;clear hnl hxs hxm;go_wp2_with fail;go_roundw
     case rel=>exact ⟨k+1,by omega,by go_num,Lib.hid (sep_more HGD.out HXS.out ⟨HWD.out,HNL.out⟩),B0,B2,hm⟩
     case measure=>simp [intOf];omega
   ·obtain rfl:k=l.length:=by omega
    have hok:SepOk rn n es l:=⟨HC.out,hl6,fun x hx=>HGD.out x (by rw [List.take_length];exact hx)⟩
    have HOKS:=Lib.hid hok;have HALL:=Lib.hid (HFIN.out hok);clear hok HGD HFIN;have p0:=B0.cell 0 rfl;have p1:=B0.cell 1 rfl;have p2:=B0.cell 2 rfl;have hY:=Box.new wo #[.int .i64 rn,.int .i64 n,.slice A es.length c] 26;have hal:=Mid.alloc wo (.cells #[.int .i64 rn,.int .i64 n,.slice A es.length c] 26);have hhi:=hr.size;have hr1:=hr.mid (hm.trans hal) oZl;have hwo2:w.heap.size+1 < wo.heap.size:=B2.1;go_wp2_with fail;replace B0:=B0.mid hal oZr;replace B2:=B2.mid hal oZr;replace hm:=hm.trans hal;generalize wo.alloc (.cells #[.int .i64 rn,.int .i64 n,.slice A es.length c] 26)=wp at hY hr1 B0 B2 hm ⊢;generalize wo.heap.size=H at hY hwo2 ⊢;clear p0 p1 p2 hal;go_loopw [45] (fun iv wr=>∃ (k sk:Nat) (Ak:Option Addr) (ck lo4 hi4:Nat) (ek:List Ed),k≤l.length∧iv=.int .i64 k∧Hid (ExtsIs rn sk ek (l.drop k) bF sF eF)∧Hid (IsFol rn sk ek)∧RG wr lo4 hi4 Ak ek∧(hi4≤H ∨ H+1≤lo4)∧ek.length≤ck∧Box wr H [.int .i64 rn,.int .i64 sk,.slice Ak ek.length ck] ∧
     Box wr (w.heap.size+1) [.int .i64 0,.int .i64 0,.slice none 0 0]∧Mid 0 0 w wr) (fun iv _=>l.length - (intOf iv).toNat)
    case atStart=>exact ⟨0,n,A,c,_,_,es,Nat.zero_le _,rfl,HEX,Lib.hid HC.out.fol,hr1,.inl (by omega),hcl,hY,B2,hm⟩
    case round =>
     clear B0 B2 hm hY hr1;obtain ⟨wq,hwq⟩:∃ wq,wq=wr:=⟨_,rfl⟩
     subst hwq;obtain ⟨k,sk,Ak,ck,lo4,hi4,ek,hk,rfl,HX,HF,hrk,hdis,hck,Y,B2,hm⟩:=hrel;have hH:H < wq.heap.size:=Y.1;have hel:=HF.out.gr.len;have hsk:=HF.out.gr.size;by_cases hlt:k < l.length
     ·obtain ⟨Bd,od,Aw,cw,xs,hAl,hb1,hb2,hxs,hcell,hrv,hcw⟩:=(hll.mid hm oZl).row hlt
      subst hAl;have hxm:=List.mem_of_getElem? hxs;have hx24:xs.length≤24:=(HOKS.out.2.2 xs hxm).1.2.2.1;have HOX:=Lib.hid (HOK.out.2 xs hxm);obtain ⟨b1,s1,es1,x,he,hf1,hf2⟩:=HX.out.step hxs;have HE:=Lib.hid he;have hk0:(0:Int)≤(k:Int):=by omega
      have hk1:(k:Int) < (l.length:Int):=by omega
      clear hxs hxm;have y0:=Y.cell 0 rfl;have y1:=Y.cell 1 rfl;have y2:=Y.cell 2 rfl;go_wp2_with fail;with_reducible refine (impl_extend2 rn sk Ak ek ck Aw xs cw _ _ _ _ _ hrk hrv hck hcw HF.out.gr (by omega) HOX.out b1 s1 es1 x HE.out).mono ?_
      rintro en w4 ⟨A4,c4,rr4,rfl,hrr4,hal4,hc4,hm4⟩;have hs4:=hm4.size;replace Y:=Y.mid hm4 oZr;replace B2:=B2.mid hm4 oZr;replace hm:=hm.trans hm4;clear y0 y1 y2 hcell;cases b1 with
      | false =>
       obtain ⟨rfl,rfl,rfl,rfl⟩:=HBAD.out (hf1 rfl);have hb23:w.heap.size+1 < w4.heap.size:=B2.1;have hb22:w.heap.size < w4.heap.size:=by omega
       have z0:=B2.cell 0 rfl;have z1:=B2.cell 1 rfl;have z2:=B2.cell 2 rfl;have zf:=B2.2.2;clear hf1 hf2 hal4 hrr4;go_wp2_with fail;refine bodyPost_ret (v:=.tuple #[.agg #[.int .i64 0,.int .i64 0,.slice none 0 0],.bool false]) (by simp [results,Tryz.results60,go_sem,z0,z1,z2,zf,hb22,hb23,World.cell?_alloc_lt]) rfl ⟨none,0,rfl,OG.nil,?_⟩;repeat (first | exact hm | refine Mid.trans ?_ (Mid.alloc _ _) | refine Mid.storeNew ?_ (by simp;try omega) _)
      | true =>
      rw [if_pos rfl] at hrr4;subst hrr4;have HX1:=Lib.hid (hf2 rfl);have HF1:=Lib.hid (HE.out.fol HF.out);obtain ⟨s1,rfl⟩:∃ q:Nat,s1=q:=⟨s1.toNat,by have:=HF1.out.gr.size;omega⟩
      have hrg:∃ lo5 hi5,RG w4 lo5 hi5 A4 es1∧(hi5≤H ∨ H+1≤lo5):=by
       rcases hal4 with ⟨rfl,rfl⟩ | h
       ·exact ⟨lo4,hi4,hrk.mid hm4 oZl,hdis⟩
       ·exact ⟨_,_,h,.inr hH⟩
      obtain ⟨lo5,hi5,hrg5,hdis5⟩:=hrg;have HD5:=Lib.hid hdis5;have hH4:H < w4.heap.size:=Y.1;have hst:=((Mid.setCell w4 (lo:=H) (hi:=H+1) (p:=⟨H,0,none⟩) (.int .i64 rn) (Nat.le_refl _) (Nat.lt_succ_self _)).trans (Mid.setCell _ (lo:=H) (hi:=H+1) (p:=⟨H,1,none⟩) (.int .i64 s1) (Nat.le_refl _) (Nat.lt_succ_self _))).trans (Mid.setCell _ (lo:=H) (hi:=H+1) (p:=⟨H,2,none⟩) (.slice A4 es1.length c4) (Nat.le_refl _) (Nat.lt_succ_self _));have Y7:=((Y.set 0 (.int .i64 rn) (by simp) rfl).set 1 (.int .i64 s1) (by simp) rfl).set 2 (.slice A4 es1.length c4) (by simp) rfl;simp only [List.set_cons_succ,List.set_cons_zero] at Y7;have V2:=B2.mid hst (Or.inl (by omega));have hrg7:=hrg5.mid hst (by have:=HD5.out;omega);have hm7:=((hm.storeNew (p:=⟨H,0,none⟩) (by show w.heap.size≤H;omega) (.int .i64 rn)).storeNew (p:=⟨H,1,none⟩) (by show w.heap.size≤H;omega) (.int .i64 s1)).storeNew (p:=⟨H,2,none⟩) (by show w.heap.size≤H;omega) (.slice A4 es1.length c4);have hal:=Mid.alloc (((w4.setCell ⟨H,0,none⟩ (.int .i64 rn)).setCell ⟨H,1,none⟩ (.int .i64 s1)).setCell ⟨H,2,none⟩ (.slice A4 es1.length c4)) (.cells #[.int .i64 rn,.int .i64 s1,.slice A4 es1.length c4] 26);have y0:=Y.cell 0 rfl;have y1:=Y.cell 1 rfl;have y2:=Y.cell 2 rfl;have yf:=Y.2.2;clear hf1 hf2 hal4 hdis5 hdis;go_wp2_with fail;go_roundw
      case rel=>exact ⟨k+1,s1,A4,c4,lo5,hi5,es1,by omega,by go_num,HX1,HF1,hrg7.mid hal oZl,HD5.out,hc4,Y7.mid hal oZr,V2.mid hal oZr,hm7.trans hal⟩
      case measure=>simp [intOf];omega
     ·obtain rfl:k=l.length:=by omega
      have hX:=HX.out;rw [List.drop_length] at hX;obtain ⟨rfl,rfl,hXe⟩:=hX;obtain rfl:=hXe.symm;obtain ⟨hb,hrr,hrs,hre⟩:=HALL.out rfl;obtain ⟨ms,hms⟩:∃ ms,canon (ek++addLs sk ek (rn:Int).toNat)=ms:=⟨_,rfl⟩
      have hgm:=complete_gr HF.out;rw [hms] at hgm hrs hre;have hCI:CompleteIs rn sk ek rn sk ms true:=Or.inl ⟨rfl,HF.out,rfl,rfl,hms.symm⟩;have HCI:=Lib.hid hCI;have HGM:=Lib.hid hgm;obtain ⟨q,qs,hQ, -⟩:=nat_gr (coreA_gr (g:=((sk:Int),ms)) hgm);have hP:=fun W lo hi A c h=>impl_CoreGraph rn sk A ms c W lo hi h HGM.out;have hml:=hgm.len;rw [hQ] at hP hrs hre;dsimp only at hP hrs hre;have HP:=Lib.hid hP;have HQ:=Lib.hid (And.intro hb (And.intro hrr (And.intro hrs hre)));clear hP hQ hb hrr hrs hre hms hCI hgm HX HALL;have y0:=Y.cell 0 rfl;have y1:=Y.cell 1 rfl;have y2:=Y.cell 2 rfl;go_wp2_with fail;with_reducible refine (impl_CompleteGraph rn sk Ak ek ck _ _ _ hrk (by omega) hck rn sk ms true HCI.out).mono ?_
      rintro en w4 ⟨A4,c4,rfl,ho4,hm4⟩;have hs4:=hm4.size;replace Y:=Y.mid hm4 oZr;replace B2:=B2.mid hm4 oZr;replace hm:=hm.trans hm4;clear y0 y1 y2 hrk;have hH4:H < w4.heap.size:=Y.1;have hst:=((Mid.setCell w4 (lo:=H) (hi:=H+1) (p:=⟨H,0,none⟩) (.int .i64 rn) (Nat.le_refl _) (Nat.lt_succ_self _)).trans (Mid.setCell _ (lo:=H) (hi:=H+1) (p:=⟨H,1,none⟩) (.int .i64 sk) (Nat.le_refl _) (Nat.lt_succ_self _))).trans (Mid.setCell _ (lo:=H) (hi:=H+1) (p:=⟨H,2,none⟩) (.slice A4 ms.length c4) (Nat.le_refl _) (Nat.lt_succ_self _));have Y7:=((Y.set 0 (.int .i64 rn) (by simp) rfl).set 1 (.int .i64 sk) (by simp) rfl).set 2 (.slice A4 ms.length c4) (by simp) rfl;simp only [List.set_cons_succ,List.set_cons_zero] at Y7;have V2:=B2.mid hst (Or.inl (by omega));have ho7:=ho4.mid hst (Or.inl (by omega));have hm7:=((hm.storeNew (p:=⟨H,0,none⟩) (by show w.heap.size≤H;omega) (.int .i64 rn)).storeNew (p:=⟨H,1,none⟩) (by show w.heap.size≤H;omega) (.int .i64 sk)).storeNew (p:=⟨H,2,none⟩) (by show w.heap.size≤H;omega) (.slice A4 ms.length c4);have y0:=Y.cell 0 rfl;have y1:=Y.cell 1 rfl;have y2:=Y.cell 2 rfl;have v0:=Y7.cell 0 rfl;have v1:=Y7.cell 1 rfl;have v2:=Y7.cell 2 rfl;have yf:=Y.2.2;clear hst;go_wp2_with fail;generalize ((w4.setCell ⟨H,0,none⟩ (.int .i64 rn)).setCell ⟨H,1,none⟩ (.int .i64 sk)).setCell ⟨H,2,none⟩ (.slice A4 ms.length c4)=w5 at V2 ho7 hm7 ⊢;with_reducible refine (HP.out _ _ _ _ _ (OG.rg ho7)).mono ?_
      rintro en w6 ⟨A6,c6,rfl,ho6,hm6⟩;have hs6:=hm6.size;have hs5:=ho7.size;replace V2:=V2.mid hm6 oZr;replace hm7:=hm7.trans hm6;have hb6:=V2.1;have z0:=V2.cell 0 rfl;have z1:=V2.cell 1 rfl;have z2:=V2.cell 2 rfl;have zf:=V2.2.2;clear y0 y1 y2 v0 v1 v2 yf HP;go_wp2_with fail;refine bodyPost_ret (v:=.tuple #[.agg #[.int .i64 rn,.int .i64 q,.slice A6 qs.length c6],.bool true]) (by simp [results,Tryz.results60,go_sem,z0,z1,z2,zf]) rfl ⟨A6,c6,by rw [HQ.out.1,HQ.out.2.1,HQ.out.2.2.1,HQ.out.2.2.2],?_,?_⟩
      ·rw [HQ.out.2.2.2]
       refine OG.wide (OG.mid ho6 (a:=w.heap.size+1) (b:=w.heap.size+2) ?_ (Or.inl (by omega))) (by omega) (by simp) (Nat.le_refl _);repeat (first | exact Mid.refl _ _ _ | refine Mid.stored ?_ _ (by simp;try omega) (by simp;try omega))
      ·repeat (first | exact hm7 | refine Mid.storeNew ?_ (by simp;try omega) _)
 ·have d6:decide ((6:Int) < (l.length:Int))=true:=by simp;omega
  have hno:¬ SepOk r s es l:=fun h=>hl6 h.2.1;obtain ⟨rfl,rfl,rfl,rfl⟩:=HR.out.no hno;clear p0 p1 p2 hcor hl6 hno;go_wp2_with fail;refine bodyPost_ret (v:=.tuple #[.agg #[.int .i64 0,.int .i64 0,.slice none 0 0],.bool false]) (by simp [results,Tryz.results60,go_sem,z0,z1,z2,zf]) rfl ⟨none,0,rfl,OG.nil,?_⟩;repeat (first | exact hm0 | refine Mid.trans ?_ (Mid.alloc _ _) | refine Mid.storeNew ?_ (by simp;try omega) _)
theorem spec_SeparateWords (r s:Int) (A:Option Addr) (es:List Ed) (c:Nat) (Al:Option Addr) (l:List (List Int)) (cl:Nat) (w:World) (lo hi lo' hi':Nat) (hr:RG w lo hi A es) (hll:RSC w lo' hi' Al l) (hl:es.length≤1048576) (hcl:es.length≤c) (hok:OkSS l) (hsl:sumL l≤1048576) (rr rs:Int) (res:List Ed) (b:Bool) (hres:SepIs r s es l rr rs res b) :
  Calls Tryz.prog 61 #[graV r s A es.length c,.slice Al l.length cl] w fun e w'=>∃ A1 c1,e=.returned (.tuple #[graV rr rs A1 res.length c1,.bool b])∧OG w' w.heap.size w'.heap.size A1 c1 res∧Mid 0 0 w w':=by
 have hm0:Mid 0 0 w ((w.alloc (.cells #[.int .i64 r,.int .i64 s,.slice A es.length c] 26)).alloc (.cells #[.int .i64 0,.int .i64 0,.slice none 0 0] 26)):=(Mid.alloc _ _).trans (Mid.alloc _ _);have B0:=(Box.new w #[.int .i64 r,.int .i64 s,.slice A es.length c] 26).mid (Mid.alloc _ (.cells #[.int .i64 0,.int .i64 0,.slice none 0 0] 26)) oZr;have B2:=Box.new (w.alloc (.cells #[.int .i64 r,.int .i64 s,.slice A es.length c] 26)) #[.int .i64 0,.int .i64 0,.slice none 0 0] 26;simp only [World.size_alloc] at B2;have HR:=Lib.hid hres;have HOK:=Lib.hid hok;clear hres hok;obtain ⟨b1,hb1⟩:=bool_of (IsCor r s es);have H1:=Lib.hid hb1;clear hb1;go_enter Tryz.func61,Tryz.ntmps61
 go_wp2_with fail;generalize hw1:(w.alloc (.cells #[.int .i64 r,.int .i64 s,.slice A es.length c] 26)).alloc (.cells #[.int .i64 0,.int .i64 0,.slice none 0 0] 26)=w1 at hm0 B0 B2 ⊢;have hs1:w.heap.size+1 < w1.heap.size:=B2.1;clear hw1;with_reducible refine (spec_l4Copy r s A es c _ _ _ (hr.mid hm0 oZl) hl).mono ?_
 rintro en w2 ⟨A2,c2,rfl,ho2,hm2⟩;have hs2:=hm2.size;have ha2:=Mid.alloc w2 (.cells #[.int .i64 r,.int .i64 s,.slice A2 es.length c2] 26);have Y:=Box.new w2 #[.int .i64 r,.int .i64 s,.slice A2 es.length c2] 26;replace B0:=B0.mid hm2 oZr;replace B2:=B2.mid hm2 oZr;replace hm0:=hm0.trans hm2;have hH0:w.heap.size+1 < w2.heap.size:=B2.1;replace B0:=B0.mid ha2 oZr;replace B2:=B2.mid ha2 oZr;replace ho2:=ho2.mid ha2 oZl;replace hm0:=hm0.trans ha2;have p0:=B0.cell 0 rfl;have p1:=B0.cell 1 rfl;have p2:=B0.cell 2 rfl;go_wp2_with fail;generalize w2.alloc (.cells #[.int .i64 r,.int .i64 s,.slice A2 es.length c2] 26)=w3 at B0 B2 Y ho2 hm0 p0 p1 p2 ⊢;generalize w2.heap.size=H at Y hH0 ho2 ⊢;clear ha2 hm2 hs2;with_reducible refine (spec_IsSubgroup r s A es c w3 _ _ (hr.mid hm0 oZl) hl b1 H1.out).mono ?_
 rintro en w4 ⟨rfl,hm4⟩;replace B0:=B0.mid hm4 oZr;replace B2:=B2.mid hm4 oZr;replace Y:=Y.mid hm4 oZr;replace ho2:=ho2.mid hm4 oZl;replace hm0:=hm0.trans hm4;clear p0 p1 p2 hm4;cases b1 with
 | false =>
  have hno:¬ SepOk r s es l:=fun h=>by have:=H1.out.2 h.1;cases this
  obtain ⟨rfl,rfl,rfl,rfl⟩:=HR.out.no hno;have z0:=B2.cell 0 rfl;have z1:=B2.cell 1 rfl;have z2:=B2.cell 2 rfl;have zf:=B2.2.2;go_wp2_with fail;refine bodyPost_ret (v:=.tuple #[.agg #[.int .i64 0,.int .i64 0,.slice none 0 0],.bool false]) (by simp [results,Tryz.results61,go_sem,z0,z1,z2,zf]) rfl ⟨none,0,rfl,OG.nil,?_⟩;repeat (first | exact hm0 | refine Mid.trans ?_ (Mid.alloc _ _) | refine Mid.storeNew ?_ (by simp;try omega) _)
 | true =>
 have hcor:=H1.out.1 rfl;clear H1;by_cases hl6:l.length≤6
 ·have d6:decide ((6:Int) < (l.length:Int))=false:=by simp;omega
  obtain ⟨rn,n,rfl,rfl⟩:=hcor.gr.nat;have g1:=hcor.gr.rank;have g2:=hcor.gr.size;have g3:=hcor.gr.len;obtain ⟨bF,sF,eF,hE,hbad,hfin⟩:=HR.out.run;have HC:=Lib.hid hcor;have HEX:=Lib.hid hE;have HBAD:=Lib.hid hbad;have HFIN:=Lib.hid hfin;clear hcor hE hbad hfin;go_wp2_with fail;go_loopw [7] (fun iv wr=>∃ (k sk:Nat) (Ak:Option Addr) (ck lo4 hi4:Nat) (ek:List Ed),k≤l.length∧iv=.int .i64 k∧Hid (∀ x∈l.take k,IsW rn x∧¬ LoopP es x)∧Hid (ExtsIs rn sk ek (l.drop k) bF sF eF)∧Hid (IsFol rn sk ek)∧RG wr lo4 hi4 Ak ek∧(hi4≤H ∨ H+1≤lo4)∧Box wr H [.int .i64 rn,.int .i64 sk,.slice Ak ek.length ck]∧Box wr w.heap.size [.int .i64 rn,.int .i64 n,.slice A es.length c]∧Box wr (w.heap.size+1) [.int .i64 0,.int .i64 0,.slice none 0 0]∧Mid 0 0 w wr) (fun iv _=>l.length - (intOf iv).toNat)
  case atStart=>exact ⟨0,n,A2,c2,_,_,es,Nat.zero_le _,rfl,Lib.hid (fun x hx=>by simp at hx),HEX,Lib.hid HC.out.fol,ho2.rg,.inl (Nat.le_refl _),Y,B0,B2,hm0⟩
  case round =>
   clear B0 B2 hm0 Y ho2 hs1;obtain ⟨wo,hwo⟩:∃ wo,wo=wr:=⟨_,rfl⟩
   subst hwo;obtain ⟨k,sk,Ak,ck,lo4,hi4,ek,hk,rfl,HGD,HX,HF,hrk,hdis,Y,B0,B2,hm⟩:=hrel;have hH:H < wo.heap.size:=Y.1;have hel:=HF.out.gr.len;have hsk:=HF.out.gr.size;by_cases hlt:k < l.length
   ·obtain ⟨Bd,od,Aw,cw,xs,hAl,hb1,hb2,hxs,hcell,hrv,hcw⟩:=(hll.mid hm oZl).row hlt
    subst hAl;have hxm:=List.mem_of_getElem? hxs;have hxl:xs.length≤1048576:=by have:=len_le_sumL hxm;omega
    have HOX:=Lib.hid (HOK.out.2 xs hxm);have HXS:=Lib.hid hxs;have hk0:(0:Int)≤(k:Int):=by omega
    have hk1:(k:Int) < (l.length:Int):=by omega
    have hBd:Bd < wo.heap.size:=by have:=hll.size;have:=hm.size;omega
    obtain ⟨bw,hbw⟩:=bool_of (IsW rn xs);have HBW:=Lib.hid hbw;clear hbw;have v0:=wg_cell B0.1 (B0.cell 0 rfl);have v1:=wg_cell B0.1 (B0.cell 1 rfl);have v2:=wg_cell B0.1 (B0.cell 2 rfl);have v3:=wg_cell hBd hcell;have hA:∀ (m:Nat) (os:Array Obj),Calls Tryz.prog 74 #[.int .i64 rn,.slice Aw xs.length cw] (wg wo m os) fun e w''=>e=.returned (.bool bw)∧∃ q:GB,w''=wg wo q.n q.os:=fun m os =>
     Calls.wg_of ((spec_IsWord rn Aw xs cw (wg wo m os) _ ((hrv.mid (Mid.ofWg wo m os) oZl).rs) HOX.out (by omega) bw HBW.out).mono (by rintro e w' ⟨rfl,nd,hw3⟩;exact ⟨rfl,by rw [hw3];exact (Mid.refl 0 0 _).drewN nd⟩))
    cases bw with
    | false =>
     have hno:¬ SepOk rn n es l:=fun h=>by have:=HBW.out.2 (h.2.2 xs hxm).1;cases this
     obtain ⟨rfl,rfl,rfl,rfl⟩:=HR.out.no hno;clear hno hxm hxs;go_wp2_with fail;refine wp_region_quiet_wg (by kernel_rfl) (by kernel_rfl) ?_;repeat
      (with_reducible refine wpQuiet_step (fun K hK=>?_))
      go_simp
      first
       | ((with_reducible refine hK _ ?_);clear hK K)
       | (rw [if_neg (by decide)];(with_reducible refine hK _ ?_);clear hK K)
       | (apply Exists.intro;refine ⟨fun _=>?_,hK _ ?_⟩;((go_at_call 74;with_reducible exact hA _ _));clear hK K)
     with_reducible refine wpQuiet_nil ?_
     intro _ hw';obtain ⟨⟨nq,osq⟩,hw''⟩:=hw';subst hw'';have hwg:=Mid.ofWg wo nq osq;generalize wg wo nq osq=w8 at hwg ⊢;replace B2:=B2.mid hwg oZr;replace hm:=hm.trans hwg;have z0:=B2.cell 0 rfl;have z1:=B2.cell 1 rfl;have z2:=B2.cell 2 rfl;have zf:=B2.2.2;clear v0 v1 v2 v3 hA;go_wp2_with fail;refine bodyPost_ret (v:=.tuple #[.agg #[.int .i64 0,.int .i64 0,.slice none 0 0],.bool false]) (by simp [results,Tryz.results61,go_sem,z0,z1,z2,zf]) rfl ⟨none,0,rfl,OG.nil,?_⟩;repeat (first | exact hm | refine Mid.trans ?_ (Mid.alloc _ _) | refine Mid.storeNew ?_ (by simp;try omega) _)
    | true =>
    have hwd:=HBW.out.1 rfl;obtain ⟨bl,hbl⟩:=bool_of (LoopP es xs);have HBL:=Lib.hid hbl;clear hbl;have HWD:=Lib.hid hwd;clear hwd;have hB:∀ (m:Nat) (os:Array Obj),Calls Tryz.prog 24 #[graV rn n A es.length c,.slice Aw xs.length cw] (wg wo m os) fun e w''=>e=.returned (.bool bl)∧∃ q:GB,w''=wg wo q.n q.os:=fun m os =>
     Calls.wg_of (spec_Contains rn n A es c Aw xs cw (wg wo m os) _ _ _ _ (hr.mid (hm.trans (Mid.ofWg wo m os)) oZl) (hrv.mid (Mid.ofWg wo m os) oZl) HC.out HWD.out hxl HOX.out bl HBL.out)
    go_wp2_with fail;refine wp_region_quiet_wg (by kernel_rfl) (by kernel_rfl) ?_;repeat
     (with_reducible refine wpQuiet_step (fun K hK=>?_))
     go_simp
     first
      | ((with_reducible refine hK _ ?_);clear hK K)
      | (rw [if_neg (by decide)];(with_reducible refine hK _ ?_);clear hK K)
      | (apply Exists.intro;refine ⟨fun _=>?_,hK _ ?_⟩;((first | (go_at_call 74;with_reducible exact hA _ _) | (go_at_call 24;with_reducible exact hB _ _)));clear hK K)
    with_reducible refine wpQuiet_nil ?_
    intro _ hw';obtain ⟨⟨nq,osq⟩,hw''⟩:=hw';subst hw'';have hwg:=Mid.ofWg wo nq osq;generalize wg wo nq osq=w8 at hwg ⊢;have hrv8:=hrv.mid hwg oZl;have hcell8:=cell_keep hwg hBd oZr hcell;replace B0:=B0.mid hwg oZr;replace B2:=B2.mid hwg oZr;replace Y:=Y.mid hwg oZr;replace hrk:=hrk.mid hwg oZl;replace hm:=hm.trans hwg;have hBd8:Bd < w8.heap.size:=Nat.lt_of_lt_of_le hBd hwg.size;have hH8:H < w8.heap.size:=Y.1;clear v0 v1 v2 v3 hA hB hcell hrv hwg;cases bl with
    | true =>
     have hno:¬ SepOk rn n es l:=fun h=>(h.2.2 xs hxm).2 (HBL.out.1 rfl);obtain ⟨rfl,rfl,rfl,rfl⟩:=HR.out.no hno;have z0:=B2.cell 0 rfl;have z1:=B2.cell 1 rfl;have z2:=B2.cell 2 rfl;have zf:=B2.2.2;clear hxs hxm hno hcell8;go_wp2_with fail;refine bodyPost_ret (v:=.tuple #[.agg #[.int .i64 0,.int .i64 0,.slice none 0 0],.bool false]) (by simp [results,Tryz.results61,go_sem,z0,z1,z2,zf]) rfl ⟨none,0,rfl,OG.nil,?_⟩;repeat (first | exact hm | refine Mid.trans ?_ (Mid.alloc _ _) | refine Mid.storeNew ?_ (by simp;try omega) _)
    | false =>
    have hnl:¬ LoopP es xs:=fun h=>by have:=HBL.out.2 h;cases this
    have HNL:=Lib.hid hnl;obtain ⟨b1,s1,es1,x,he,hf1,hf2⟩:=HX.out.step hxs;have HE:=Lib.hid he;have hP:=fun W (h1:RG W lo4 hi4 Ak ek) (h2:RV W lo' hi' Aw (ints xs))=>spec_l16Hair rn sk Ak ek ck Aw xs cw W _ _ _ _ h1 h2 hcw HF.out hxl HOX.out b1 s1 es1 x he;have HPP:=Lib.hid hP;clear hnl hxs hxm he hP;go_wp2_with fail;have hmd:=Mid.drew1 w8;have hsd:=hmd.size;replace B0:=B0.mid hmd oZr;replace B2:=B2.mid hmd oZr;replace Y:=Y.mid hmd oZr;replace hrk:=hrk.mid hmd oZl;replace hrv8:=hrv8.mid hmd oZl;replace hm:=hm.trans hmd;replace hcell8:=cell_keep hmd hBd8 oZr hcell8;have q0:=Y.cell 0 rfl;have q1:=Y.cell 1 rfl;have q2:=Y.cell 2 rfl;clear hmd;refine wp_region_Z (S:=(fun w'=>(w'.cell? ⟨H,0,none⟩=some (.int .i64 rn)∧w'.cell? ⟨H,1,none⟩=some (.int .i64 sk)∧w'.cell? ⟨H,2,none⟩=some (.slice Ak ek.length ck))∧w'.cell? ⟨Bd,od+k,none⟩=some (.slice Aw xs.length cw))) [] (by kernel_rfl) ⟨⟨q0,q1,q2⟩,hcell8⟩ ?_;generalize World.drew w8=wz at B0 B2 Y hrk hm hrv8 hcell8 q0 q1 q2 hsd ⊢;have hS:(wz.cell? ⟨H,0,none⟩=some (.int .i64 rn)∧wz.cell? ⟨H,1,none⟩=some (.int .i64 sk)∧wz.cell? ⟨H,2,none⟩=some (.slice Ak ek.length ck))∧wz.cell? ⟨Bd,od+k,none⟩=some (.slice Aw xs.length cw):=⟨⟨q0,q1,q2⟩,hcell8⟩
    have hBz:Bd < wz.heap.size:=by omega
    have hHz:H < wz.heap.size:=by omega
    refine tkZ [] 0 rfl hS ?_;try simp only [Act.put,zs1,zs2,zs3,zs4,zs5,zs6]
    refine tkZ [] 1 rfl hS ?_;try simp only [Act.put,zs1,zs2,zs3,zs4,zs5,zs6]
    refine tkZ [] 2 rfl hS ?_;try simp only [Act.put,zs1,zs2,zs3,zs4,zs5,zs6]
    refine tkZ [] 3 rfl hS ?_;try simp only [Act.put,zs1,zs2,zs3,zs4,zs5,zs6]
    refine tkZ [] 4 rfl hS ?_;try simp only [Act.put,zs1,zs2,zs3,zs4,zs5,zs6]
    refine wpAnyZ_ready (rs:=[5,9]) (by kernel_rfl) (by simp) (AllReadyZ.cons rfl (fun K hK=>?_) (AllReadyZ.cons rfl (fun K hK=>?_) AllReadyZ.nil))
    ·(go_simp;(with_reducible refine (HPP.out _ hrk hrv8).mono ?_);rintro en w10 ⟨A6,c6,rr6,rs6,es6,rfl,hyes,ho6,hm10⟩;have Y0:=Y.mid hm10 oZr;have hcp0:=cell_keep hm10 hBz oZr hcell8;go_wp2_with fail)
     refine hK.out _ _ (Or.inr ⟨⟨Y0.cell 0 rfl,Y0.cell 1 rfl,Y0.cell 2 rfl⟩,hcp0⟩) (fun _=>?_);clear hK K;try simp only [Act.put,zs1,zs2,zs3,zs4,zs5,zs6]
     have HYES:=Lib.hid hyes;replace B0:=B0.mid hm10 oZr;replace B2:=B2.mid hm10 oZr;replace hm:=hm.trans hm10;have hs10:=hm10.size;have hS10:=And.intro (And.intro (Y0.cell 0 rfl) (And.intro (Y0.cell 1 rfl) (Y0.cell 2 rfl))) hcp0;clear Y hS q0 q1 q2 hrk HPP hyes;refine tkZ [] 6 rfl hS10 ?_;try simp only [Act.put,zs1,zs2,zs3,zs4,zs5,zs6]
     refine tkZ [] 7 rfl hS10 ?_;try simp only [Act.put,zs1,zs2,zs3,zs4,zs5,zs6]
     refine tkZ [] 8 rfl hS10 ?_;try simp only [Act.put,zs1,zs2,zs3,zs4,zs5,zs6]
     have hal:=Mid.alloc w10 (.cells #[.int .i64 0,.int .i64 0,.slice none 0 0] 26);have Y1:=Y0.mid hal oZr;have hcp1:=cell_keep hal (by omega) oZr hcp0;refine rdZ 9 rfl (fun K hK=>?_);go_simp;refine hK.out _ _ (Or.inr ⟨⟨Y1.cell 0 rfl,Y1.cell 1 rfl,Y1.cell 2 rfl⟩,hcp1⟩) (fun _=>?_);clear hK K;try simp only [Act.put,zs1,zs2,zs3,zs4,zs5,zs6]
     clear hal Y1 hcp1;have hal:=Mid.alloc w10 (.cells #[.int .i64 rr6,.int .i64 rs6,.slice A6 es6.length c6] 26);have Y1:=Y0.mid hal oZr;have hcp1:=cell_keep hal (by omega) oZr hcp0;refine rdZ 10 rfl (fun K hK=>?_);go_simp;refine hK.out _ _ (Or.inr ⟨⟨Y1.cell 0 rfl,Y1.cell 1 rfl,Y1.cell 2 rfl⟩,hcp1⟩) (fun _=>?_);clear hK K;try simp only [Act.put,zs1,zs2,zs3,zs4,zs5,zs6]
     refine rdZ 11 rfl (fun K hK=>?_);go_simp;refine hK.out _ _ (Or.inr ⟨⟨Y1.cell 0 rfl,Y1.cell 1 rfl,Y1.cell 2 rfl⟩,hcp1⟩) (fun _=>?_);clear hK K;try simp only [Act.put,zs1,zs2,zs3,zs4,zs5,zs6]
     refine wpAnyZ_done (by kernel_rfl) ?_ _;have Zx:=Box.new w10 #[.int .i64 rr6,.int .i64 rs6,.slice A6 es6.length c6] 26;replace ho6:=ho6.mid hal oZl;replace B0:=B0.mid hal oZr;replace B2:=B2.mid hal oZr;replace hm:=hm.trans hal;have hgz:H+1≤w10.heap.size:=by omega
     have Y:=Y1;clear Y0 Y1 hS10 hal hcp0 hcp1 hm10;generalize w10.alloc (.cells #[.int .i64 rr6,.int .i64 rs6,.slice A6 es6.length c6] 26)=w11 at B0 B2 Y Zx ho6 hm ⊢;generalize w10.heap.size=Gz at Zx hgz ho6 ⊢;cases b1 with
     | false =>
      obtain ⟨rfl,rfl,rfl,rfl⟩:=HBAD.out (hf1 rfl);have z0:=B2.cell 0 rfl;have z1:=B2.cell 1 rfl;have z2:=B2.cell 2 rfl;have zf:=B2.2.2;clear HYES;go_wp2_with fail;refine bodyPost_ret (v:=.tuple #[.agg #[.int .i64 0,.int .i64 0,.slice none 0 0],.bool false]) (by simp [results,Tryz.results61,go_sem,z0,z1,z2,zf]) rfl ⟨none,0,rfl,OG.nil,?_⟩;repeat (first | exact hm | refine Mid.trans ?_ (Mid.alloc _ _) | refine Mid.storeNew ?_ (by simp;try omega) _)
     | true =>
     obtain ⟨rfl,rfl,rfl⟩:=HYES.out rfl;have HX1:=Lib.hid (hf2 rfl);have HF1:=Lib.hid (HE.out.fol HF.out);obtain ⟨s1,rfl⟩:∃ q:Nat,rs6=q:=⟨rs6.toNat,by have:=HF1.out.gr.size;omega⟩
     have hst:=((Mid.setCell w11 (lo:=H) (hi:=H+1) (p:=⟨H,0,none⟩) (.int .i64 rn) (Nat.le_refl _) (Nat.lt_succ_self _)).trans (Mid.setCell _ (lo:=H) (hi:=H+1) (p:=⟨H,1,none⟩) (.int .i64 s1) (Nat.le_refl _) (Nat.lt_succ_self _))).trans (Mid.setCell _ (lo:=H) (hi:=H+1) (p:=⟨H,2,none⟩) (.slice A6 es6.length c6) (Nat.le_refl _) (Nat.lt_succ_self _));have Y7:=((Y.set 0 (.int .i64 rn) (by simp) rfl).set 1 (.int .i64 s1) (by simp) rfl).set 2 (.slice A6 es6.length c6) (by simp) rfl;simp only [List.set_cons_succ,List.set_cons_zero] at Y7;have x0:=Zx.cell 0 rfl;have x1:=Zx.cell 1 rfl;have x2:=Zx.cell 2 rfl;have q0:=Y.cell 0 rfl;have q1:=Y.cell 1 rfl;have q2:=Y.cell 2 rfl;have qf:=Y.2.2;clear HYES hf1 hf2;go_wp2_with fail;go_roundw
     case rel=>exact ⟨k+1,s1,A6,c6,_,_,es6,by omega,by go_num,Lib.hid (sep_more HGD.out HXS.out ⟨HWD.out,HNL.out⟩),HX1,HF1,ho6.rg.mid hst (Or.inl (by omega)),.inr (by omega),Y7,B0.mid hst (Or.inl (by omega)),B2.mid hst (Or.inl (by omega)),((hm.storeNew (p:=⟨H,0,none⟩) (by show w.heap.size≤H;omega) (.int .i64 rn)).storeNew (p:=⟨H,1,none⟩) (by show w.heap.size≤H;omega) (.int .i64 s1)).storeNew (p:=⟨H,2,none⟩) (by show w.heap.size≤H;omega) (.slice A6 es6.length c6)⟩
     case measure=>simp [intOf];omega
    ·have hal:=Mid.alloc wz (.cells #[.int .i64 0,.int .i64 0,.slice none 0 0] 26)
     have Y1:=Y.mid hal oZr;have hcp1:=cell_keep hal hBz oZr hcell8;have Zx:=Box.new wz #[.int .i64 0,.int .i64 0,.slice none 0 0] 26;have hrk1:=hrk.mid hal oZl;have hrv1:=hrv8.mid hal oZl;have hsl:=hal.size;go_simp;refine hK.out _ _ (Or.inr ⟨⟨Y1.cell 0 rfl,Y1.cell 1 rfl,Y1.cell 2 rfl⟩,hcp1⟩) (fun _=>?_);clear hK K;try simp only [Act.put,zs1,zs2,zs3,zs4,zs5,zs6]
     replace B0:=B0.mid hal oZr;replace B2:=B2.mid hal oZr;replace hm:=hm.trans hal;clear Y hS q0 q1 q2 hrk hrv8 hcell8 hal;have hzb:wz.heap.size < (wz.alloc (.cells #[.int .i64 0,.int .i64 0,.slice none 0 0] 26)).heap.size:=Zx.1;generalize wz.alloc (.cells #[.int .i64 0,.int .i64 0,.slice none 0 0] 26)=wy at Y1 Zx hrk1 hrv1 hcp1 B0 B2 hm hsl hzb ⊢;have hBy:Bd < wy.heap.size:=by omega
     refine rdZ 5 rfl (fun K hK=>?_)
     (go_simp;(with_reducible refine (HPP.out _ hrk1 hrv1).mono ?_);rintro en w10 ⟨A6,c6,rr6,rs6,es6,rfl,hyes,ho6,hm10⟩;have Y0:=Y1.mid hm10 oZr;have hcp0:=cell_keep hm10 hBy oZr hcp1;go_wp2_with fail)
     refine hK.out _ _ (Or.inr ⟨⟨Y0.cell 0 rfl,Y0.cell 1 rfl,Y0.cell 2 rfl⟩,hcp0⟩) (fun _=>?_);clear hK K;try simp only [Act.put,zs1,zs2,zs3,zs4,zs5,zs6]
     have HYES:=Lib.hid hyes;replace B0:=B0.mid hm10 oZr;replace B2:=B2.mid hm10 oZr;replace Zx:=Zx.mid hm10 oZr;replace hm:=hm.trans hm10;have hs10:=hm10.size;have hS10:=And.intro (And.intro (Y0.cell 0 rfl) (And.intro (Y0.cell 1 rfl) (Y0.cell 2 rfl))) hcp0;clear Y1 hrk1 HPP hrv1 hcp1 hyes;refine tkZ [] 6 rfl hS10 ?_;try simp only [Act.put,zs1,zs2,zs3,zs4,zs5,zs6]
     refine tkZ [] 7 rfl hS10 ?_;try simp only [Act.put,zs1,zs2,zs3,zs4,zs5,zs6]
     refine tkZ [] 8 rfl hS10 ?_;try simp only [Act.put,zs1,zs2,zs3,zs4,zs5,zs6]
     have zzf:=Zx.2.2;have zz0:=Zx.cell 0 rfl;have zz1:=Zx.cell 1 rfl;have zz2:=Zx.cell 2 rfl;have hst:=((Mid.setCell w10 (lo:=wz.heap.size) (hi:=wz.heap.size+1) (p:=⟨wz.heap.size,0,none⟩) (.int .i64 rr6) (Nat.le_refl _) (Nat.lt_succ_self _)).trans (Mid.setCell _ (lo:=wz.heap.size) (hi:=wz.heap.size+1) (p:=⟨wz.heap.size,1,none⟩) (.int .i64 rs6) (Nat.le_refl _) (Nat.lt_succ_self _))).trans (Mid.setCell _ (lo:=wz.heap.size) (hi:=wz.heap.size+1) (p:=⟨wz.heap.size,2,none⟩) (.slice A6 es6.length c6) (Nat.le_refl _) (Nat.lt_succ_self _));have Y2:=Y0.mid hst (Or.inl (by omega));have hcp2:=cell_keep hst (by omega) (Or.inl hBz) hcp0;refine rdZ 10 rfl (fun K hK=>?_);go_simp;refine hK.out _ _ (Or.inr ⟨⟨Y2.cell 0 rfl,Y2.cell 1 rfl,Y2.cell 2 rfl⟩,hcp2⟩) (fun _=>?_);clear hK K;try simp only [Act.put,zs1,zs2,zs3,zs4,zs5,zs6]
     refine rdZ 11 rfl (fun K hK=>?_);go_simp;refine hK.out _ _ (Or.inr ⟨⟨Y2.cell 0 rfl,Y2.cell 1 rfl,Y2.cell 2 rfl⟩,hcp2⟩) (fun _=>?_);clear hK K;try simp only [Act.put,zs1,zs2,zs3,zs4,zs5,zs6]
     refine wpAnyZ_done (by kernel_rfl) ?_ _;replace ho6:=ho6.mid hst (Or.inl (by omega));replace B0:=B0.mid hst (Or.inl (by omega));replace B2:=B2.mid hst (Or.inl (by omega));replace Zx:=((Zx.set 0 (.int .i64 rr6) (by simp) rfl).set 1 (.int .i64 rs6) (by simp) rfl).set 2 (.slice A6 es6.length c6) (by simp) rfl;simp only [List.set_cons_succ,List.set_cons_zero] at Zx;replace hm:=((hm.storeNew (p:=⟨wz.heap.size,0,none⟩) (by show w.heap.size≤wz.heap.size;omega) (.int .i64 rr6)).storeNew (p:=⟨wz.heap.size,1,none⟩) (by show w.heap.size≤wz.heap.size;omega) (.int .i64 rs6)).storeNew (p:=⟨wz.heap.size,2,none⟩) (by show w.heap.size≤wz.heap.size;omega) (.slice A6 es6.length c6);have hgz:H+1≤wz.heap.size:=by omega
     have Y:=Y2;clear Y0 Y2 hS10 hst hcp0 hcp2 hm10 zz0 zz1 zz2 zzf;generalize ((w10.setCell ⟨wz.heap.size,0,none⟩ (.int .i64 rr6)).setCell ⟨wz.heap.size,1,none⟩ (.int .i64 rs6)).setCell ⟨wz.heap.size,2,none⟩ (.slice A6 es6.length c6)=w11 at B0 B2 Y Zx ho6 hm ⊢;generalize wz.heap.size=Gz at Zx hgz hzb ⊢;cases b1 with
     | false =>
      obtain ⟨rfl,rfl,rfl,rfl⟩:=HBAD.out (hf1 rfl);have z0:=B2.cell 0 rfl;have z1:=B2.cell 1 rfl;have z2:=B2.cell 2 rfl;have zf:=B2.2.2;clear HYES;go_wp2_with fail;refine bodyPost_ret (v:=.tuple #[.agg #[.int .i64 0,.int .i64 0,.slice none 0 0],.bool false]) (by simp [results,Tryz.results61,go_sem,z0,z1,z2,zf]) rfl ⟨none,0,rfl,OG.nil,?_⟩;repeat (first | exact hm | refine Mid.trans ?_ (Mid.alloc _ _) | refine Mid.storeNew ?_ (by simp;try omega) _)
     | true =>
     obtain ⟨rfl,rfl,rfl⟩:=HYES.out rfl;have HX1:=Lib.hid (hf2 rfl);have HF1:=Lib.hid (HE.out.fol HF.out);obtain ⟨s1,rfl⟩:∃ q:Nat,rs6=q:=⟨rs6.toNat,by have:=HF1.out.gr.size;omega⟩
     have hst:=((Mid.setCell w11 (lo:=H) (hi:=H+1) (p:=⟨H,0,none⟩) (.int .i64 rn) (Nat.le_refl _) (Nat.lt_succ_self _)).trans (Mid.setCell _ (lo:=H) (hi:=H+1) (p:=⟨H,1,none⟩) (.int .i64 s1) (Nat.le_refl _) (Nat.lt_succ_self _))).trans (Mid.setCell _ (lo:=H) (hi:=H+1) (p:=⟨H,2,none⟩) (.slice A6 es6.length c6) (Nat.le_refl _) (Nat.lt_succ_self _));have Y7:=((Y.set 0 (.int .i64 rn) (by simp) rfl).set 1 (.int .i64 s1) (by simp) rfl).set 2 (.slice A6 es6.length c6) (by simp) rfl;simp only [List.set_cons_succ,List.set_cons_zero] at Y7;have x0:=Zx.cell 0 rfl;have x1:=Zx.cell 1 rfl;have x2:=Zx.cell 2 rfl;have q0:=Y.cell 0 rfl;have q1:=Y.cell 1 rfl;have q2:=Y.cell 2 rfl;have qf:=Y.2.2;clear HYES hf1 hf2;go_wp2_with fail;go_roundw
     case rel=>exact ⟨k+1,s1,A6,c6,_,_,es6,by omega,by go_num,Lib.hid (sep_more HGD.out HXS.out ⟨HWD.out,HNL.out⟩),HX1,HF1,ho6.rg.mid hst (Or.inl (by omega)),.inr (by omega),Y7,B0.mid hst (Or.inl (by omega)),B2.mid hst (Or.inl (by omega)),((hm.storeNew (p:=⟨H,0,none⟩) (by show w.heap.size≤H;omega) (.int .i64 rn)).storeNew (p:=⟨H,1,none⟩) (by show w.heap.size≤H;omega) (.int .i64 s1)).storeNew (p:=⟨H,2,none⟩) (by show w.heap.size≤H;omega) (.slice A6 es6.length c6)⟩
     case measure=>simp [intOf];omega
   ·obtain rfl:k=l.length:=by omega
    have hok:SepOk rn n es l:=⟨HC.out,hl6,fun x hx=>HGD.out x (by rw [List.take_length];exact hx)⟩
    have hX:=HX.out;rw [List.drop_length] at hX;obtain ⟨rfl,rfl,hXe⟩:=hX;obtain rfl:=hXe.symm;obtain ⟨hb,hrr,hrs,hre⟩:=HFIN.out hok rfl;obtain ⟨ms,hms⟩:∃ ms,canon (ek++addLs sk ek (rn:Int).toNat)=ms:=⟨_,rfl⟩
    have hgm:=complete_gr HF.out;rw [hms] at hgm hrs hre;have hCI:CompleteIs rn sk ek rn sk ms true:=Or.inl ⟨rfl,HF.out,rfl,rfl,hms.symm⟩;have HCI:=Lib.hid hCI;have HGM:=Lib.hid hgm;obtain ⟨q,qs,hQ, -⟩:=nat_gr (coreA_gr (g:=((sk:Int),ms)) hgm);have hP:=fun W lo hi A c h=>spec_CoreGraph rn sk A ms c W lo hi h HGM.out;have hml:=hgm.len;rw [hQ] at hP hrs hre;dsimp only at hP hrs hre;have HP:=Lib.hid hP;have HQ:=Lib.hid (And.intro hb (And.intro hrr (And.intro hrs hre)));clear hP hQ hb hrr hrs hre hms hCI hgm HX HFIN hok HGD;have y0:=Y.cell 0 rfl;have y1:=Y.cell 1 rfl;have y2:=Y.cell 2 rfl;go_wp2_with fail;with_reducible refine (spec_CompleteGraph rn sk Ak ek ck _ _ _ hrk (by omega) rn sk ms true HCI.out).mono ?_
    rintro en w4 ⟨A4,c4,rfl,ho4,hm4⟩;have hs4:=hm4.size;have ha4:=Mid.alloc w4 (.cells #[.int .i64 rn,.int .i64 sk,.slice A4 ms.length c4] 26);have Y4:=Box.new w4 #[.int .i64 rn,.int .i64 sk,.slice A4 ms.length c4] 26;replace B2:=B2.mid hm4 oZr;replace hm:=hm.trans hm4;replace B2:=B2.mid ha4 oZr;replace ho4:=ho4.mid ha4 oZl;replace hm:=hm.trans ha4;clear y0 y1 y2 hrk;have y0:=Y4.cell 0 rfl;have y1:=Y4.cell 1 rfl;have y2:=Y4.cell 2 rfl;go_wp2_with fail;with_reducible refine (HP.out _ _ _ _ _ (OG.rg ho4)).mono ?_
    rintro en w6 ⟨A6,c6,rfl,ho6,hm6⟩;have hs6:=hm6.size;have hs5:=ho4.size;replace B2:=B2.mid hm6 oZr;replace hm:=hm.trans hm6;have hb6:=B2.1;have z0:=B2.cell 0 rfl;have z1:=B2.cell 1 rfl;have z2:=B2.cell 2 rfl;have zf:=B2.2.2;clear y0 y1 y2 HP;go_wp2_with fail;refine bodyPost_ret (v:=.tuple #[.agg #[.int .i64 rn,.int .i64 q,.slice A6 qs.length c6],.bool true]) (by simp [results,Tryz.results61,go_sem,z0,z1,z2,zf]) rfl ⟨A6,c6,by rw [HQ.out.1,HQ.out.2.1,HQ.out.2.2.1,HQ.out.2.2.2],?_,?_⟩
    ·rw [HQ.out.2.2.2]
     refine OG.wide (OG.mid ho6 (a:=w.heap.size+1) (b:=w.heap.size+2) ?_ (Or.inl (by simp;omega))) (by simp;omega) (by simp) (Nat.le_refl _);repeat (first | exact Mid.refl _ _ _ | refine Mid.stored ?_ _ (by simp;try omega) (by simp;try omega))
    ·repeat (first | exact hm | refine Mid.storeNew ?_ (by simp;try omega) _)
 ·have d6:decide ((6:Int) < (l.length:Int))=true:=by simp;omega
  have hno:¬ SepOk r s es l:=fun h=>hl6 h.2.1;obtain ⟨rfl,rfl,rfl,rfl⟩:=HR.out.no hno;have z0:=B2.cell 0 rfl;have z1:=B2.cell 1 rfl;have z2:=B2.cell 2 rfl;have zf:=B2.2.2;clear hcor hl6 hno;go_wp2_with fail;refine bodyPost_ret (v:=.tuple #[.agg #[.int .i64 0,.int .i64 0,.slice none 0 0],.bool false]) (by simp [results,Tryz.results61,go_sem,z0,z1,z2,zf]) rfl ⟨none,0,rfl,OG.nil,?_⟩;repeat (first | exact hm0 | refine Mid.trans ?_ (Mid.alloc _ _) | refine Mid.storeNew ?_ (by simp;try omega) _)
end
section
open Go.RowKit
end
section
open Go.RowKit
end
section
open Go.RowKit
end
section
open Go.RowKit
def CoverOfIs (r0 s0:Int) (d0:List Ed) (rr0 rs0:Int) (res0:List Ed) (res1:Bool):Prop:=CoverIs r0 s0 d0 rr0 rs0 res0 res1
theorem CoverOfIs_ex (r0 s0:Int) (d0:List Ed) (hl0:d0.length≤1048576):∃ rr0 rs0 res0 res1,CoverOfIs r0 s0 d0 rr0 rs0 res0 res1:=by
 by_cases h:IsCor r0 s0 d0
 ·exact ⟨_,_,_,_,.inl ⟨rfl,h,rfl,rfl,rfl⟩⟩
 ·exact ⟨_,_,_,_,.inr ⟨rfl,h,rfl,rfl,rfl⟩⟩
theorem CoverOfIs_len {r0 s0:Int} {d0:List Ed} {rr0 rs0:Int} {res0:List Ed} {res1:Bool} (h:CoverOfIs r0 s0 d0 rr0 rs0 res0 res1) (hl0:d0.length≤1048576):res0.length≤1048576:=by
 rcases h with ⟨-,h, -, -,rfl⟩ | ⟨-, -, -, -,rfl⟩
 ·have h1:=(coreA_gr (g:=(s0,canon (d0++addLs s0 d0 r0.toNat))) (complete_gr h.fol)).len
  omega
 ·simp
theorem sspec_CoverOf (r0 s0:Int) (A0:Option Addr) (d0:List Ed) (c0:Nat) (w:World) (lo0 hi0:Nat) (h0:OG w lo0 hi0 A0 c0 d0) (hl0:d0.length≤1048576) (rr0 rs0:Int) (res0:List Ed) (res1:Bool) (h:CoverOfIs r0 s0 d0 rr0 rs0 res0 res1) :
  Calls Tryz.prog 46 #[.agg #[.int .i64 r0,.int .i64 s0,.slice A0 d0.length c0]] w fun e w'=>∃ (A:Option Addr) (c:Nat),e=.returned (.tuple #[.agg #[.int .i64 rr0,.int .i64 rs0,.slice A res0.length c],.bool res1])∧OG w' w.heap.size w'.heap.size A c res0∧Mid 0 0 w w' :=
 spec_CoverOf r0 s0 A0 d0 c0 w lo0 hi0 h0.rg hl0 rr0 rs0 res0 res1 h
theorem simpl_CoverOf (r0 s0:Int) (A0:Option Addr) (d0:List Ed) (c0:Nat) (w:World) (lo0 hi0:Nat) (h0:OG w lo0 hi0 A0 c0 d0) (hl0:d0.length≤1048576) (rr0 rs0:Int) (res0:List Ed) (res1:Bool) (h:CoverOfIs r0 s0 d0 rr0 rs0 res0 res1) :
  Calls Tryz.prog 45 #[.agg #[.int .i64 r0,.int .i64 s0,.slice A0 d0.length c0]] w fun e w'=>∃ (A:Option Addr) (c:Nat),e=.returned (.tuple #[.agg #[.int .i64 rr0,.int .i64 rs0,.slice A res0.length c],.bool res1])∧OG w' w.heap.size w'.heap.size A c res0∧Mid 0 0 w w' :=
 impl_CoverOf r0 s0 A0 d0 c0 w lo0 hi0 h0.rg hl0 h0.cnt.1 rr0 rs0 res0 res1 h
end
end Go.Proofs.YthampgpcajmopaaGreat
