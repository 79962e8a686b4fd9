/- Lemmas. -/
import Derived.Test.YtkimajabegojoaaGreatMo14
import Derived.Test.YtkimajabegojoaaGreatMo12
import Derived.Test.YtkimajabegojoaaGreatMo2
import Derived.Deep.DeepCutAuto
import Derived.Deep.CutRange
import Derived.Test.YtkimajabegojoaaGreatMo1
import Derived.Test.YtkimajabegojoaaGreatMo10
import Derived.Test.YtkimajabegojoaaGreatMo11
import Derived.Test.YtkimajabegojoaaGreatMo7
import Derived.Test.YtkimajabegojoaaGreatMo13
import Derived.Test.YtkimajabegojoaaGreatMo9
import Derived.Test.YtkimajabegojoaaGreatMo5
import Derived.Test.YtkimajabegojoaaGreatMo8
import Derived.Test.YtkimajabegojoaaGreatMo4
import Derived.Test.YtkimajabegojoaaGreatMo3
namespace Go.Proofs.YtkimajabegojoaaGreat
set_option linter.unusedVariables false
set_option linter.unusedSimpArgs false
set_option maxHeartbeats 40000000
set_option maxRecDepth 100000
open Go.RowKit
theorem aKb(A:OA)(bs:LI)(c:Nat)(w:World)(hi:Nat)(hb:OkB bs)(hl:bs.length<=1048576)(hr:RV w 0 hi A (aHb bs)) :
  Calls Tryz.prog 156 #[.slice A bs.length c] w fun e w'=>∃ r A1 c1 l r2 s2 A2 c2 es,e=.returned (.tuple #[.agg #[.int .i64 r,.slice A1 (List.length l) c1],aAJ r2 s2 A2 (List.length es) c2])/\MoB r l/\DrG r2 s2 es/\OSS w' w.heap.size w'.heap.size 44 3 A1 c1 l/\OG w' w.heap.size w'.heap.size A2 c2 es/\Mid 0 0 w w':=by
 have aF:=oE w (.cells #[(0:Int),.slice none 0 0] 76);have B2:=oJ w #[(0:Int),.slice none 0 0] 76;have aD:=oE (w.alloc (.cells #[(0:Int),.slice none 0 0] 76)) (.cells #[(0:Int),(0:Int),.slice none 0 0] 35);have B3:=oJ (w.alloc (.cells #[(0:Int),.slice none 0 0] 76)) #[(0:Int),(0:Int),.slice none 0 0] 35;rw[World.size_alloc] at B3;replace B2:=B2.mid aD oZr;replace aF:=aF.trans aD;have aX:=hr.mid aF oZl;go_enter Tryz.func156,Tryz.ntmps156
 go_wp2_with fail;clear aD;generalize ((w.alloc (.cells #[(0:Int),.slice none 0 0] 76)).alloc (.cells #[(0:Int),(0:Int),.slice none 0 0] 35))=w1 at B2 B3 aX aF |-;have b1:w.heap.size+1<w1.heap.size:=B3.1;with_reducible refine(aEz A bs c w1 hi hb hl aX).mono ?_
 rintro e w2 ⟨p,rfl,hp,h2,m2⟩;replace B2:=B2.mid m2 oZr;replace B3:=B3.mid m2 oZr;have ae:=aF.trans m2;have b2:=m2.size;have aq:=h2.lt;clear aF m2 aX hr;go_wp2_with fail;with_reducible refine(aCX p A bs c _ hb hl h2).mono ?_
 rintro e w3 ⟨r,Ai,ci,l,rfl,hg,hO,aJ,m3⟩;replace B2:=B2.mid m3;replace B3:=B3.mid m3;have aK:=ae.transNew m3 oL;have aY:=m3.size;have aG:=oH hg;obtain⟨L,hL⟩:∃ n,l.length=n:=⟨_,rfl⟩
 have aH:=oH hL;rw[hL];clear hg hL h2 m3 ae;have aE:=oE w3 (.cells #[r,.slice Ai L ci] 76);have G5:=oJ w3 #[r,.slice Ai L ci] 76;obtain⟨gb,aV⟩:∃ g,w3.heap.size=g:=⟨_,rfl⟩
 replace B2:=B2.mid aE oZr;replace B3:=B3.mid aE oZr;replace aJ:=aJ.mid aE (Or.inr rfl);replace aK:=aK.trans aE.zero;have a1:=hO.mid aE oZl;rw[aV] at G5 a1 aY;obtain⟨w5,aZ⟩:∃ x,w3.alloc (.cells #[.int .i64 r,.slice Ai L ci] 76)=x:=⟨_,rfl⟩
 rw[aZ] at B2 B3 aJ aK a1 G5;have au:=G5.1;clear hO aE;have hC:=aJ;have hM:=aK;clear aJ aK;go_wp2_with fail;try rw[aZ]
 try rw[aV]
 with_reducible refine(aLh p A bs c _ hb hl hC).mono ?_
 rintro e w6 ⟨r6,s6,A6,c6,aB,rfl,ag,af,ad,m6⟩;replace B2:=B2.mid m6;replace B3:=B3.mid m6;replace G5:=G5.mid m6;replace a1:=a1.mid m6;replace hM:=hM.transNew m6 oL;have ar:=m6.size;have a6:=oH ag;obtain⟨L6,aS⟩:∃ n,aB.length=n:=⟨_,rfl⟩
 have a7:=oH aS;rw[aS];clear ag aS m6 hC aZ aV;have aC:=oE w6 (.cells #[r6,s6,.slice A6 L6 c6] 35);have G6:=oJ w6 #[r6,s6,.slice A6 L6 c6] 35;obtain⟨cb,aU⟩:∃ g,w6.heap.size=g:=⟨_,rfl⟩
 replace B2:=B2.mid aC oZr;replace B3:=B3.mid aC oZr;replace G5:=G5.mid aC oZr;replace a1:=a1.mid aC oZl;have O6:=af.mid aC oZl;have C6:=ad.mid aC (Or.inr rfl);replace hM:=hM.trans aC.zero;rw[aU] at G6 O6 ar;go_wp2_with fail;try rw[aU]
 obtain⟨w7,ai⟩:∃ x,w6.alloc (.cells #[.int .i64 r6,.int .i64 s6,.slice A6 L6 c6] 35)=x:=⟨_,rfl⟩
 rw[ai] at B2 B3 G5 a1 O6 C6 hM G6 |-;clear ai aU af ad aC;have az:gb<cb:=by omega
 go_loopw [7] (fun iv wr=>∃(n:Nat) (r6 s6:Int) (A6:OA) (c6 L6 aL aW:Nat) (aB:List Ed),iv=.int .i64 n/\n<=3/\Hid (DrG r6 s6 aB)/\Hid (aB.length=L6)/\(aW<=cb \/ cb+1<=aL)/\w.heap.size+2<=aL/\OG wr aL aW A6 c6 aB/\Box wr cb [.int .i64 r6,.int .i64 s6,.slice A6 L6 c6]/\Box wr gb [.int .i64 r,.slice Ai L ci]/\Box wr w.heap.size [.int .i64 0,.slice none 0 0]/\Box wr (w.heap.size+1) [.int .i64 0,.int .i64 0,.slice none 0 0]/\OSS wr w2.heap.size gb 44 3 Ai ci l/\Cur wr p A bs c/\Mid 0 0 w wr)
  (fun iv _=>4 - (intOf iv).toNat)
 case atStart=>exact⟨0,r6,s6,A6,c6,L6,_,_,aB,by go_num,oO,a6,a7,Or.inl oN,oO,O6,G6,G5,B2,B3,a1,C6,hM⟩
 clear O6 G6 G5 B2 B3 a1 C6 hM a6 a7;obtain⟨n,r6,s6,A6,c6,L6,aL,aW,aB,rfl,hn,a6,a7,ay,ap,a8,G6,G5,B2,B3,a1,hC,hM⟩:=hrel;have ax:=G6.1;have b0:=hC.lt;have g0:=G5.cell 0 rfl;have g1:=G5.cell 1 rfl;obtain⟨k0,k1,k2⟩:=G6.c3 rfl;by_cases hlt:n<3
 .have aO:(n:Int)<3:=by omega
  by_cases hrr:r6=r
  .have aP:(r6 != r)=false:=by simp[hrr]
   clear hrr;go_wp2_with fail;clear g0 g1 k0 k1 k2 aP aO hC;have a3:=Mid.drew1 wr;replace B2:=B2.mid a3 oZr;replace B3:=B3.mid a3 oZr;replace G5:=G5.mid a3 oZr;replace G6:=G6.mid a3 oZr;replace a1:=a1.mid a3 oZl;replace a8:=a8.mid a3 oZl;replace hM:=hM.trans a3;clear a3;have g0:=G5.cell 0 rfl;have g1:=G5.cell 1 rfl;obtain⟨h0,h1,h2⟩:=G6.c3 rfl;refine aAo (S:=(fun w'=>(w'.cell? ⟨gb,0,none⟩=some (.int .i64 r)/\w'.cell? ⟨gb,1,none⟩=some (.slice Ai L ci))/\(w'.cell? ⟨cb,0,none⟩=some (.int .i64 r6)/\w'.cell? ⟨cb,1,none⟩=some (.int .i64 s6)/\w'.cell? ⟨cb,2,none⟩=some (.slice A6 L6 c6)))) [] oK ⟨⟨g0,g1⟩,⟨h0,h1,h2⟩⟩ ?_;generalize World.drew wr=wz at B2 B3 G5 G6 a1 a8 hM g0 g1 h0 h1 h2 |-;have hS:(wz.cell? ⟨gb,0,none⟩=some (.int .i64 r)/\wz.cell? ⟨gb,1,none⟩=some (.slice Ai L ci))/\(wz.cell? ⟨cb,0,none⟩=some (.int .i64 r6)/\wz.cell? ⟨cb,1,none⟩=some (.int .i64 s6)/\wz.cell? ⟨cb,2,none⟩=some (.slice A6 L6 c6)):=⟨⟨g0,g1⟩,⟨h0,h1,h2⟩⟩
   refine tkZ [] 0 rfl hS ?_;try simp only[oP]
   refine tkZ [] 1 rfl hS ?_;try simp only[oP]
   clear hS g0 g1 h0 h1 h2;have a9:=G5.1;have aA:=G6.1;have q0:=B2.cell 0 rfl;have q1:=B2.cell 1 rfl;have qf:=B2.2.2;have ql:=B2.1;have aw:=B3.1;have a0:=((oU wz w 0 r).trans (oU _ w 1 (.slice Ai L ci)))
   have a2:=G5.mid a0;have a5:=G6.mid a0;have a4:=B3.mid a0;have V2:=((B2.set 0 r oM rfl).set 1 (.slice Ai L ci) oM rfl)
   simp only[List.set_cons_succ,List.set_cons_zero] at V2;have O1:=a1.mid a0;have O2:=a8.mid a0;have M1:=hM.transNew a0 (Or.inl oN);have aa:=a0.size;refine rdZ 2 rfl (fun K hK=>?_);go_simp;refine hK.out _ _ (Or.inr ⟨⟨a2.cell 0 rfl,a2.cell 1 rfl⟩,a5.c3 rfl⟩) (fun _=>?_);clear hK K;try simp only[oP]
   clear a0 B2 B3 G5 G6 a1 a8 hM q0 q1 qf ql a9 aA;generalize ((wz.setCell ⟨w,0,none⟩ r).setCell ⟨w,1,none⟩ (.slice Ai L ci))=wA at a2 a5 a4 V2 O1 O2  M1 aa |-;obtain⟨q0,q1,q2⟩:=a4.c3 rfl;have qf:=a4.2.2;have ql:=a4.1;have av:=V2.1;have aQ:=a2.1;have aR:=a5.1;have a0:=(((oU wA (w.heap.size+1) 0 r6).trans (oU _ (w.heap.size+1) 1 s6)).trans (oU _ (w.heap.size+1) 2 (.slice A6 L6 c6)))
   have aI:=V2.mid a0;have V3:=(a4.s3 r6 s6 (.slice A6 L6 c6))
   replace a2:=a2.mid a0;replace a5:=a5.mid a0;have O9:=oH ((O1.mid a0).wide (lo':=w.heap.size) oO (oV O1.size a0.size) oN);have aM:=oH ((O2.mid a0).wide (lo':=w.heap.size) oO (oV O2.size a0.size) oN);have M9:=oH (M1.transNew a0 oL);refine rdZ 3 rfl (fun K hK=>?_);go_simp;refine hK.out _ _ (Or.inr ⟨⟨a2.cell 0 rfl,a2.cell 1 rfl⟩,a5.c3 rfl⟩) (fun _=>?_);clear hK K;try simp only[oP]
   refine aAj oK ?_ _;clear a0 O1 O2  M1 q0 q1 q2 qf ql a4 V2 a2 a5;have q0:=aI.cell 0 rfl;have q1:=aI.cell 1 rfl;obtain⟨k0,k1,k2⟩:=V3.c3 rfl;go_wp2_with fail;refine oW (v:=.tuple #[.agg #[r,.slice Ai L ci],.agg #[r6,s6,.slice A6 L6 c6]]) (by simp[results,Tryz.results156,go_sem,q0,q1,k0,k1,k2]) rfl ⟨r,Ai,ci,l,r6,s6,A6,c6,aB,?_,aG.out,a6.out,O9.out,aM.out,M9.out⟩;rw[aH.out,a7.out]
  have aP:(r6 != r)=true:=by simp[hrr]
  clear hrr;go_wp2_with fail;clear g0 g1 k0 k1 k2 aP;with_reducible refine(aLh p A bs c _ hb hl hC).mono ?_
  rintro e w8 ⟨r7,s7,A7,c7,ab,rfl,ah,O7,C7,m7⟩;replace B2:=B2.mid m7;replace B3:=B3.mid m7;replace G5:=G5.mid m7;replace G6:=G6.mid m7;replace a1:=a1.mid m7;replace hM:=hM.transNew m7 oL;have b3:=m7.size;have al:=oH ah;obtain⟨L7,aT⟩:∃ n,ab.length=n:=⟨_,rfl⟩
  have am:=oH aT;rw[aT];clear ah aT m7 hC a8 a6 a7;have a0:=(((oU w8 cb 0 r7).trans (oU _ cb 1 s7)).trans (oU _ cb 2 (.slice A7 L7 c7)))
  have V6:=(G6.s3 r7 s7 (.slice A7 L7 c7))
  have aj:=B2.mid a0;have a4:=B3.mid a0;have a2:=G5.mid a0;have aN:=a1.mid a0;have ao:=O7.mid a0;have ak:=C7.mid a0;have an:=hM.transNew a0 oL;obtain⟨k0,k1,k2⟩:=G6.c3 rfl;have kf:=G6.2.2;have kl:=G6.1;clear a0 B2 B3 G5 a1 O7 C7 hM G6;go_wp2_with fail;go_roundw
  case rel=>exact⟨n+1,r7,s7,A7,c7,L7,_,_,ab,by go_num,oO,al,am,Or.inr oO,oO,ao,V6,a2,aj,a4,aN,ak,an⟩
  simp[intOf];omega
 have aO:¬ (n:Int)<3:=by omega
 go_wp2_with fail;clear g0 g1 k0 k1 k2 aO hC;have a3:=Mid.drew1 wr;replace B2:=B2.mid a3 oZr;replace B3:=B3.mid a3 oZr;replace G5:=G5.mid a3 oZr;replace G6:=G6.mid a3 oZr;replace a1:=a1.mid a3 oZl;replace a8:=a8.mid a3 oZl;replace hM:=hM.trans a3;clear a3;have g0:=G5.cell 0 rfl;have g1:=G5.cell 1 rfl;obtain⟨h0,h1,h2⟩:=G6.c3 rfl;refine aAo (S:=(fun w'=>(w'.cell? ⟨gb,0,none⟩=some (.int .i64 r)/\w'.cell? ⟨gb,1,none⟩=some (.slice Ai L ci))/\(w'.cell? ⟨cb,0,none⟩=some (.int .i64 r6)/\w'.cell? ⟨cb,1,none⟩=some (.int .i64 s6)/\w'.cell? ⟨cb,2,none⟩=some (.slice A6 L6 c6)))) [] oK ⟨⟨g0,g1⟩,⟨h0,h1,h2⟩⟩ ?_;generalize World.drew wr=wz at B2 B3 G5 G6 a1 a8 hM g0 g1 h0 h1 h2 |-;have hS:(wz.cell? ⟨gb,0,none⟩=some (.int .i64 r)/\wz.cell? ⟨gb,1,none⟩=some (.slice Ai L ci))/\(wz.cell? ⟨cb,0,none⟩=some (.int .i64 r6)/\wz.cell? ⟨cb,1,none⟩=some (.int .i64 s6)/\wz.cell? ⟨cb,2,none⟩=some (.slice A6 L6 c6)):=⟨⟨g0,g1⟩,⟨h0,h1,h2⟩⟩
 refine tkZ [] 0 rfl hS ?_;try simp only[oP]
 refine tkZ [] 1 rfl hS ?_;try simp only[oP]
 clear hS g0 g1 h0 h1 h2;have a9:=G5.1;have aA:=G6.1;have q0:=B2.cell 0 rfl;have q1:=B2.cell 1 rfl;have qf:=B2.2.2;have ql:=B2.1;have aw:=B3.1;have a0:=((oU wz w 0 r).trans (oU _ w 1 (.slice Ai L ci)))
 have a2:=G5.mid a0;have a5:=G6.mid a0;have a4:=B3.mid a0;have V2:=((B2.set 0 r oM rfl).set 1 (.slice Ai L ci) oM rfl)
 simp only[List.set_cons_succ,List.set_cons_zero] at V2;have O1:=a1.mid a0;have O2:=a8.mid a0;have M1:=hM.transNew a0 (Or.inl oN);have aa:=a0.size;refine rdZ 2 rfl (fun K hK=>?_);go_simp;refine hK.out _ _ (Or.inr ⟨⟨a2.cell 0 rfl,a2.cell 1 rfl⟩,a5.c3 rfl⟩) (fun _=>?_);clear hK K;try simp only[oP]
 clear a0 B2 B3 G5 G6 a1 a8 hM q0 q1 qf ql a9 aA;generalize ((wz.setCell ⟨w,0,none⟩ r).setCell ⟨w,1,none⟩ (.slice Ai L ci))=wA at a2 a5 a4 V2 O1 O2  M1 aa |-;obtain⟨q0,q1,q2⟩:=a4.c3 rfl;have qf:=a4.2.2;have ql:=a4.1;have av:=V2.1;have aQ:=a2.1;have aR:=a5.1;have a0:=(((oU wA (w.heap.size+1) 0 r6).trans (oU _ (w.heap.size+1) 1 s6)).trans (oU _ (w.heap.size+1) 2 (.slice A6 L6 c6)))
 have aI:=V2.mid a0;have V3:=(a4.s3 r6 s6 (.slice A6 L6 c6))
 replace a2:=a2.mid a0;replace a5:=a5.mid a0;have O9:=oH ((O1.mid a0).wide (lo':=w.heap.size) oO (oV O1.size a0.size) oN);have aM:=oH ((O2.mid a0).wide (lo':=w.heap.size) oO (oV O2.size a0.size) oN);have M9:=oH (M1.transNew a0 oL);refine rdZ 3 rfl (fun K hK=>?_);go_simp;refine hK.out _ _ (Or.inr ⟨⟨a2.cell 0 rfl,a2.cell 1 rfl⟩,a5.c3 rfl⟩) (fun _=>?_);clear hK K;try simp only[oP]
 refine aAj oK ?_ _;clear a0 O1 O2  M1 q0 q1 q2 qf ql a4 V2 a2 a5;have q0:=aI.cell 0 rfl;have q1:=aI.cell 1 rfl;obtain⟨k0,k1,k2⟩:=V3.c3 rfl;go_wp2_with fail;refine oW (v:=.tuple #[.agg #[r,.slice Ai L ci],.agg #[r6,s6,.slice A6 L6 c6]]) (by simp[results,Tryz.results156,go_sem,q0,q1,k0,k1,k2]) rfl ⟨r,Ai,ci,l,r6,s6,A6,c6,aB,?_,aG.out,a6.out,O9.out,aM.out,M9.out⟩;rw[aH.out,a7.out]
theorem aHe(A:OA)(bs:LI)(c:Nat)(w:World)(hi:Nat)(hb:OkB bs)(hl:bs.length<=1048576)(hr:RV w 0 hi A (aHb bs)) :
  Calls Tryz.prog 74 #[.slice A bs.length c] w fun e w'=>∃ r A1 c1 l r2 s2 A2 c2 es,e=.returned (.tuple #[.agg #[.int .i64 r,.slice A1 (List.length l) c1],aAJ r2 s2 A2 (List.length es) c2])/\MoB r l/\DrG r2 s2 es/\OSS w' w.heap.size w'.heap.size 44 3 A1 c1 l/\OG w' w.heap.size w'.heap.size A2 c2 es/\Mid 0 0 w w':=by
 have a9:=oE w (.cells #[(0:Int),.slice none 0 0] 76);have B2:=oJ w #[(0:Int),.slice none 0 0] 76;have a6:=oE (w.alloc (.cells #[(0:Int),.slice none 0 0] 76)) (.cells #[(0:Int),(0:Int),.slice none 0 0] 35);have B3:=oJ (w.alloc (.cells #[(0:Int),.slice none 0 0] 76)) #[(0:Int),(0:Int),.slice none 0 0] 35;rw[World.size_alloc] at B3;replace B2:=B2.mid a6 oZr;replace a9:=a9.trans a6;have aI:=hr.mid a9 oZl;go_enter Tryz.func74,Tryz.ntmps74
 go_wp2_with fail;clear a6;generalize ((w.alloc (.cells #[(0:Int),.slice none 0 0] 76)).alloc (.cells #[(0:Int),(0:Int),.slice none 0 0] 35))=w1 at B2 B3 aI a9 |-;have aV:w.heap.size+1<w1.heap.size:=B3.1;with_reducible refine(aKb A bs c w1 hi hb hl aI).mono ?_
 rintro e w2 ⟨r,Ai,ci,l,r6,s6,A6,c6,aL,rfl,hg,aN,hO,aM,m2⟩;replace B2:=B2.mid m2 oZr;replace B3:=B3.mid m2 oZr;have hM:=a9.trans m2;have aT:=m2.size;have aC:=oH hg;have aD:=oH aN;obtain⟨L,hL⟩:∃ n,l.length=n:=⟨_,rfl⟩
 have aE:=oH hL;obtain⟨L6,aH⟩:∃ n,aL.length=n:=⟨_,rfl⟩
 have aF:=oH aH;rw[hL,aH];clear a9 m2 aI hr hg aN hL aH;have aK:=oE w2 (.cells #[r,.slice Ai L ci] 76);have G5:=oJ w2 #[r,.slice Ai L ci] 76;have hz:(w2.alloc (.cells #[r,.slice Ai L ci] 76)).heap.size=w2.heap.size+1:=World.size_alloc _ _;have aG:=oE (w2.alloc (.cells #[r,.slice Ai L ci] 76)) (.cells #[r6,s6,.slice A6 L6 c6] 35);have G6:=oJ (w2.alloc (.cells #[r,.slice Ai L ci] 76)) #[r6,s6,.slice A6 L6 c6] 35;rw[hz] at G6;go_wp2_with fail;have a8:=aK.trans aG;replace B2:=B2.mid a8 oZr;replace B3:=B3.mid a8 oZr;replace G5:=G5.mid aG oZr;have a4:=hO.mid a8 oZl;have a5:=aM.mid a8 oZl;replace hM:=hM.trans a8;generalize ((w2.alloc (.cells #[r,.slice Ai L ci] 76)).alloc (.cells #[r6,s6,.slice A6 L6 c6] 35))=w7 at B2 B3 G5 G6 a4 a5 hM |-;clear aK aG a8 hz hO aM;obtain⟨gb,aS⟩:∃ g,w2.heap.size=g:=⟨_,rfl⟩
 rw[aS] at G5 G6 a4 a5 aT |-;obtain⟨cb,aR⟩:∃ g,gb+1=g:=⟨_,rfl⟩
 rw[aR] at G6 |-;have a2:=Mid.drew1 w7;replace B2:=B2.mid a2 oZr;replace B3:=B3.mid a2 oZr;replace G5:=G5.mid a2 oZr;replace G6:=G6.mid a2 oZr;replace a4:=a4.mid a2 oZl;replace a5:=a5.mid a2 oZl;replace hM:=hM.trans a2;clear a2;have g0:=G5.cell 0 rfl;have g1:=G5.cell 1 rfl;obtain⟨h0,h1,h2⟩:=G6.c3 rfl;refine aAo (S:=(fun w'=>(w'.cell? ⟨gb,0,none⟩=some (.int .i64 r)/\w'.cell? ⟨gb,1,none⟩=some (.slice Ai L ci))/\(w'.cell? ⟨cb,0,none⟩=some (.int .i64 r6)/\w'.cell? ⟨cb,1,none⟩=some (.int .i64 s6)/\w'.cell? ⟨cb,2,none⟩=some (.slice A6 L6 c6)))) [] oK ⟨⟨g0,g1⟩,⟨h0,h1,h2⟩⟩ ?_;generalize World.drew w7=wz at B2 B3 G5 G6 a4 a5 hM g0 g1 h0 h1 h2 |-;have hS:(wz.cell? ⟨gb,0,none⟩=some (.int .i64 r)/\wz.cell? ⟨gb,1,none⟩=some (.slice Ai L ci))/\(wz.cell? ⟨cb,0,none⟩=some (.int .i64 r6)/\wz.cell? ⟨cb,1,none⟩=some (.int .i64 s6)/\wz.cell? ⟨cb,2,none⟩=some (.slice A6 L6 c6)):=⟨⟨g0,g1⟩,⟨h0,h1,h2⟩⟩
 refine tkZ [] 0 rfl hS ?_;try simp only[oP]
 refine tkZ [] 1 rfl hS ?_;try simp only[oP]
 clear hS g0 g1 h0 h1 h2;have aA:=G5.1;have aB:=G6.1;have q0:=B2.cell 0 rfl;have q1:=B2.cell 1 rfl;have qf:=B2.2.2;have ql:=B2.1;have aX:=B3.1;have a0:=((oU wz w 0 r).trans (oU _ w 1 (.slice Ai L ci)))
 have a1:=G5.mid a0;have a3:=G6.mid a0;have a7:=B3.mid a0;have V2:=((B2.set 0 r oM rfl).set 1 (.slice Ai L ci) oM rfl)
 simp only[List.set_cons_succ,List.set_cons_zero] at V2;have O1:=a4.mid a0;have O2:=a5.mid a0;have M1:=hM.transNew a0 (Or.inl oN);have aU:=a0.size;refine rdZ 2 rfl (fun K hK=>?_);go_simp;refine hK.out _ _ (Or.inr ⟨⟨a1.cell 0 rfl,a1.cell 1 rfl⟩,a3.c3 rfl⟩) (fun _=>?_);clear hK K;try simp only[oP]
 clear a0 B2 B3 G5 G6 a4 a5 hM q0 q1 qf ql aA aB;generalize ((wz.setCell ⟨w,0,none⟩ r).setCell ⟨w,1,none⟩ (.slice Ai L ci))=wA at a1 a3 a7 V2 O1 O2  M1 aU |-;obtain⟨q0,q1,q2⟩:=a7.c3 rfl;have qf:=a7.2.2;have ql:=a7.1;have aW:=V2.1;have aP:=a1.1;have aQ:=a3.1;have a0:=(((oU wA (w.heap.size+1) 0 r6).trans (oU _ (w.heap.size+1) 1 s6)).trans (oU _ (w.heap.size+1) 2 (.slice A6 L6 c6)))
 have aJ:=V2.mid a0;have V3:=(a7.s3 r6 s6 (.slice A6 L6 c6))
 replace a1:=a1.mid a0;replace a3:=a3.mid a0;have O9:=oH ((O1.mid a0).wide (lo':=w.heap.size) oO (oV O1.size a0.size) oN);have aO:=oH ((O2.mid a0).wide (lo':=w.heap.size) oO (oV O2.size a0.size) oN);have M9:=oH (M1.transNew a0 oL);refine rdZ 3 rfl (fun K hK=>?_);go_simp;refine hK.out _ _ (Or.inr ⟨⟨a1.cell 0 rfl,a1.cell 1 rfl⟩,a3.c3 rfl⟩) (fun _=>?_);clear hK K;try simp only[oP]
 refine aAj oK ?_ _;clear a0 O1 O2  M1 q0 q1 q2 qf ql a7 V2 a1 a3;have q0:=aJ.cell 0 rfl;have q1:=aJ.cell 1 rfl;obtain⟨k0,k1,k2⟩:=V3.c3 rfl;go_wp2_with fail;refine oW (v:=.tuple #[.agg #[r,.slice Ai L ci],.agg #[r6,s6,.slice A6 L6 c6]]) (by simp[results,Tryz.results74,go_sem,q0,q1,k0,k1,k2]) rfl ⟨r,Ai,ci,l,r6,s6,A6,c6,aL,?_,aC.out,aD.out,O9.out,aO.out,M9.out⟩;rw[aE.out,aF.out]
theorem aJz(A:OA)(bs:LI)(c:Nat)(w:World)(hi:Nat)(hb:OkB bs)(hl:bs.length<=1048576)(hr:RV w 0 hi A (aHb bs)) :
  Calls Tryz.prog 77 #[.slice A bs.length c] w fun e w'=>∃ r A1 c1 l r2 s2 A2 c2 es,e=.returned (.tuple #[.agg #[.int .i64 r,.slice A1 (List.length l) c1],aAJ r2 s2 A2 (List.length es) c2])/\MoB r l/\DrG r2 s2 es/\OSS w' w.heap.size w'.heap.size 44 3 A1 c1 l/\OG w' w.heap.size w'.heap.size A2 c2 es/\Mid 0 0 w w':=by
 have a9:=oE w (.cells #[(0:Int),.slice none 0 0] 76);have B2:=oJ w #[(0:Int),.slice none 0 0] 76;have a6:=oE (w.alloc (.cells #[(0:Int),.slice none 0 0] 76)) (.cells #[(0:Int),(0:Int),.slice none 0 0] 35);have B3:=oJ (w.alloc (.cells #[(0:Int),.slice none 0 0] 76)) #[(0:Int),(0:Int),.slice none 0 0] 35;rw[World.size_alloc] at B3;replace B2:=B2.mid a6 oZr;replace a9:=a9.trans a6;have aI:=hr.mid a9 oZl;go_enter Tryz.func77,Tryz.ntmps77
 go_wp2_with fail;clear a6;generalize ((w.alloc (.cells #[(0:Int),.slice none 0 0] 76)).alloc (.cells #[(0:Int),(0:Int),.slice none 0 0] 35))=w1 at B2 B3 aI a9 |-;have aV:w.heap.size+1<w1.heap.size:=B3.1;with_reducible refine(aKb A bs c w1 hi hb hl aI).mono ?_
 rintro e w2 ⟨r,Ai,ci,l,r6,s6,A6,c6,aL,rfl,hg,aN,hO,aM,m2⟩;replace B2:=B2.mid m2 oZr;replace B3:=B3.mid m2 oZr;have hM:=a9.trans m2;have aT:=m2.size;have aC:=oH hg;have aD:=oH aN;obtain⟨L,hL⟩:∃ n,l.length=n:=⟨_,rfl⟩
 have aE:=oH hL;obtain⟨L6,aH⟩:∃ n,aL.length=n:=⟨_,rfl⟩
 have aF:=oH aH;rw[hL,aH];clear a9 m2 aI hr hg aN hL aH;have aK:=oE w2 (.cells #[r,.slice Ai L ci] 76);have G5:=oJ w2 #[r,.slice Ai L ci] 76;have hz:(w2.alloc (.cells #[r,.slice Ai L ci] 76)).heap.size=w2.heap.size+1:=World.size_alloc _ _;have aG:=oE (w2.alloc (.cells #[r,.slice Ai L ci] 76)) (.cells #[r6,s6,.slice A6 L6 c6] 35);have G6:=oJ (w2.alloc (.cells #[r,.slice Ai L ci] 76)) #[r6,s6,.slice A6 L6 c6] 35;rw[hz] at G6;go_wp2_with fail;have a8:=aK.trans aG;replace B2:=B2.mid a8 oZr;replace B3:=B3.mid a8 oZr;replace G5:=G5.mid aG oZr;have a4:=hO.mid a8 oZl;have a5:=aM.mid a8 oZl;replace hM:=hM.trans a8;generalize ((w2.alloc (.cells #[r,.slice Ai L ci] 76)).alloc (.cells #[r6,s6,.slice A6 L6 c6] 35))=w7 at B2 B3 G5 G6 a4 a5 hM |-;clear aK aG a8 hz hO aM;obtain⟨gb,aS⟩:∃ g,w2.heap.size=g:=⟨_,rfl⟩
 rw[aS] at G5 G6 a4 a5 aT |-;obtain⟨cb,aR⟩:∃ g,gb+1=g:=⟨_,rfl⟩
 rw[aR] at G6 |-;have a2:=Mid.drew1 w7;replace B2:=B2.mid a2 oZr;replace B3:=B3.mid a2 oZr;replace G5:=G5.mid a2 oZr;replace G6:=G6.mid a2 oZr;replace a4:=a4.mid a2 oZl;replace a5:=a5.mid a2 oZl;replace hM:=hM.trans a2;clear a2;have g0:=G5.cell 0 rfl;have g1:=G5.cell 1 rfl;obtain⟨h0,h1,h2⟩:=G6.c3 rfl;refine aAo (S:=(fun w'=>(w'.cell? ⟨gb,0,none⟩=some (.int .i64 r)/\w'.cell? ⟨gb,1,none⟩=some (.slice Ai L ci))/\(w'.cell? ⟨cb,0,none⟩=some (.int .i64 r6)/\w'.cell? ⟨cb,1,none⟩=some (.int .i64 s6)/\w'.cell? ⟨cb,2,none⟩=some (.slice A6 L6 c6)))) [] oK ⟨⟨g0,g1⟩,⟨h0,h1,h2⟩⟩ ?_;generalize World.drew w7=wz at B2 B3 G5 G6 a4 a5 hM g0 g1 h0 h1 h2 |-;have hS:(wz.cell? ⟨gb,0,none⟩=some (.int .i64 r)/\wz.cell? ⟨gb,1,none⟩=some (.slice Ai L ci))/\(wz.cell? ⟨cb,0,none⟩=some (.int .i64 r6)/\wz.cell? ⟨cb,1,none⟩=some (.int .i64 s6)/\wz.cell? ⟨cb,2,none⟩=some (.slice A6 L6 c6)):=⟨⟨g0,g1⟩,⟨h0,h1,h2⟩⟩
 refine tkZ [] 0 rfl hS ?_;try simp only[oP]
 refine tkZ [] 1 rfl hS ?_;try simp only[oP]
 clear hS g0 g1 h0 h1 h2;have aA:=G5.1;have aB:=G6.1;have q0:=B2.cell 0 rfl;have q1:=B2.cell 1 rfl;have qf:=B2.2.2;have ql:=B2.1;have aX:=B3.1;have a0:=((oU wz w 0 r).trans (oU _ w 1 (.slice Ai L ci)))
 have a1:=G5.mid a0;have a3:=G6.mid a0;have a7:=B3.mid a0;have V2:=((B2.set 0 r oM rfl).set 1 (.slice Ai L ci) oM rfl)
 simp only[List.set_cons_succ,List.set_cons_zero] at V2;have O1:=a4.mid a0;have O2:=a5.mid a0;have M1:=hM.transNew a0 (Or.inl oN);have aU:=a0.size;refine rdZ 2 rfl (fun K hK=>?_);go_simp;refine hK.out _ _ (Or.inr ⟨⟨a1.cell 0 rfl,a1.cell 1 rfl⟩,a3.c3 rfl⟩) (fun _=>?_);clear hK K;try simp only[oP]
 clear a0 B2 B3 G5 G6 a4 a5 hM q0 q1 qf ql aA aB;generalize ((wz.setCell ⟨w,0,none⟩ r).setCell ⟨w,1,none⟩ (.slice Ai L ci))=wA at a1 a3 a7 V2 O1 O2  M1 aU |-;obtain⟨q0,q1,q2⟩:=a7.c3 rfl;have qf:=a7.2.2;have ql:=a7.1;have aW:=V2.1;have aP:=a1.1;have aQ:=a3.1;have a0:=(((oU wA (w.heap.size+1) 0 r6).trans (oU _ (w.heap.size+1) 1 s6)).trans (oU _ (w.heap.size+1) 2 (.slice A6 L6 c6)))
 have aJ:=V2.mid a0;have V3:=(a7.s3 r6 s6 (.slice A6 L6 c6))
 replace a1:=a1.mid a0;replace a3:=a3.mid a0;have O9:=oH ((O1.mid a0).wide (lo':=w.heap.size) oO (oV O1.size a0.size) oN);have aO:=oH ((O2.mid a0).wide (lo':=w.heap.size) oO (oV O2.size a0.size) oN);have M9:=oH (M1.transNew a0 oL);refine rdZ 3 rfl (fun K hK=>?_);go_simp;refine hK.out _ _ (Or.inr ⟨⟨a1.cell 0 rfl,a1.cell 1 rfl⟩,a3.c3 rfl⟩) (fun _=>?_);clear hK K;try simp only[oP]
 refine aAj oK ?_ _;clear a0 O1 O2  M1 q0 q1 q2 qf ql a7 V2 a1 a3;have q0:=aJ.cell 0 rfl;have q1:=aJ.cell 1 rfl;obtain⟨k0,k1,k2⟩:=V3.c3 rfl;go_wp2_with fail;refine oW (v:=.tuple #[.agg #[r,.slice Ai L ci],.agg #[r6,s6,.slice A6 L6 c6]]) (by simp[results,Tryz.results77,go_sem,q0,q1,k0,k1,k2]) rfl ⟨r,Ai,ci,l,r6,s6,A6,c6,aL,?_,aC.out,aD.out,O9.out,aO.out,M9.out⟩;rw[aE.out,aF.out]
theorem aDR(A:OA)(xs:LI)(c:Nat)(A':OA)(c':Nat)(w:World)(lo hi lo' hi':Nat)(h:RI w lo hi A xs)(h':RI w lo' hi' A' xs)(hl:xs.length<=1048576) :
  Calls Tryz.prog 42 #[.slice A xs.length c,.slice A' xs.length c'] w fun e w'=>e=.returned (.bool true)/\Mid 0 0 w w':=by
 refine(aNI A xs c A' xs c' w lo hi lo' hi' h h' hl hl true oM).mono ?_;rintro e w' ⟨rfl,h⟩;exact⟨rfl,h⟩
theorem aNJ(A:OA)(l:LL)(c:Nat)(A':OA)(c':Nat)(w:World)(lo hi lo' hi':Nat)(h:RSS w lo hi A l)(h':RSS w lo' hi' A' l)(hl:l.length<=1048576)(a4:∀ x∈l,x.length<=1048576) :
  Calls Tryz.prog 10 #[.slice A l.length c,.slice A' l.length c'] w fun e w'=>e=.returned (.bool true)/\Mid 0 0 w w':=by
 have a7:=oH a4;clear a4;have hm:=Mid.refl 0 0 w;go_enter Tryz.func10,Tryz.ntmps10
 go_wp2_with fail;go_loopw [5] (fun iv wr=>∃ i:Nat,iv=.int .i64 i/\i<=l.length/\RSS wr lo hi A l/\RSS wr lo' hi' A' l/\Mid 0 0 w wr) (fun iv _=>l.length - (intOf iv).toNat)
 case atStart=>exact⟨0,by go_num,oZ,h,h',hm⟩
 clear h h' hm;obtain⟨i,rfl,aG,h,h',hm⟩:=hrel;have aF:(0:Int)<=(i:Int):=by omega
 by_cases hlt:i<l.length
 .have a1:(i:Int)<(l.length:Int):=by omega
  obtain⟨b1,f1,A1,c1,x,a8, -,aA,hx,a2,a5⟩:=h.row hlt;obtain⟨b2,f2,A2,c2,y,a9, -,aB,hy,a3,a6⟩:=h'.row hlt;obtain rfl:x=y:=by rw[hx] at hy;exact Option.some.inj hy
  have aE:=a7.out x (oG hx);have aC:b1<wr.heap.size:=oT aA h.size;have aD:b2<wr.heap.size:=oT aB h'.size;subst a8;subst a9;clear hx hy;have k1:=aAf aC a2;have k2:=aAf aD a3;have hq0:=fun m os=>aDR A1 x c1 A2 c2 (wg wr m os) _ _ _ _ (a5.mid (Mid.ofWg wr m os) oZl) (a6.mid (Mid.ofWg wr m os) oZl) aE;go_upto_region 6 with fail
  clear a2 a3;refine wqg ?_;repeat
   (with_reducible refine wpQuiet_step (fun K hK=>?_))
   go_simp
   first|(with_reducible refine hK _ ?_)|(rw[if_neg oD];(with_reducible refine hK _ ?_))|(apply Exists.intro;refine⟨fun _=>?_,hK _ ?_⟩;((go_at_call 42;with_reducible exact Calls.wg_of (hq0 _ _))))
   clear hK K
  with_reducible refine wpQuiet_nil ?_
  rintro _ ⟨⟨nq,osq⟩,rfl⟩;have a0:=Mid.ofWg wr nq osq;generalize wg wr nq osq=w6 at a0 |-;replace h:=h.mid a0 oZl;replace h':=h'.mid a0 oZl;replace hm:=hm.trans a0;clear a0 hq0 k1 k2 a5 a6;go_wp2_with fail;go_roundw
  case rel=>exact⟨i+1,by go_num,oO,h,h',hm⟩
  simp[intOf];omega
 have a1:¬ (i:Int)<(l.length:Int):=by omega
 go_wp2_with fail;go_ret;exact⟨rfl,hm⟩
theorem aGV(r1 r2:Int)(A A':OA)(xss a2:LL)(c c':Nat)(w:World)(lo hi lo' hi':Nat)(hr:RSS w lo hi A xss)(a4:RSS w lo' hi' A' a2)(hl:xss.length+aAK xss<=1048576)(r:Bool)(a0:r=true↔(r1=r2/\xss=a2)) :
  Calls Tryz.prog 73 #[.agg #[r1,.slice A xss.length c],.agg #[r2,.slice A' a2.length c']] w (Stp (.bool r) w):=by
 have a3:Mid 0 0 w ((w.alloc (.cells #[r1,.slice A xss.length c] 76)).alloc (.cells #[r2,.slice A' a2.length c'] 76)):=(oE _ _).trans (oE _ _);by_cases h:r1=r2
 .have a1:r=true↔xss=a2:=by simpa [h] using a0
  have HR:=oH a1;clear a0 a1;have HB:(r1 == r2)=true:=by simpa using h
  clear h;go_enter Tryz.func73,Tryz.ntmps73
  go_wp2_with fail;with_reducible refine(aGW A A' xss a2 c c' _ _ _ _ _ (hr.mid a3 oZl) (a4.mid a3 oZl) hl r HR.out).mono ?_
  rintro e w1 ⟨rfl,n,rfl⟩;go_wp2_with fail;go_ret;exact⟨by simp,a3.drewN n⟩
 have HB:(r1 == r2)=false:=by simpa using h
 obtain rfl:r=false:=by
  cases r
  .rfl
  exact absurd (a0.1 rfl).1 h
 clear a0 h;go_enter Tryz.func73,Tryz.ntmps73
 go_wp2_with fail;go_ret;exact⟨by simp,a3⟩
theorem aGI(r1 r2:Int)(A A':OA)(xss a2:LL)(c c':Nat)(w:World)(lo hi lo' hi':Nat)(hr:RSS w lo hi A xss)(a4:RSS w lo' hi' A' a2)(hl:xss.length+aAK xss<=1048576)(r:Bool)(a0:r=true↔(r1=r2/\xss=a2)) :
  Calls Tryz.prog 89 #[.agg #[r1,.slice A xss.length c],.agg #[r2,.slice A' a2.length c']] w (Stp (.bool r) w):=by
 have a3:Mid 0 0 w ((w.alloc (.cells #[r1,.slice A xss.length c] 76)).alloc (.cells #[r2,.slice A' a2.length c'] 76)):=(oE _ _).trans (oE _ _);by_cases h:r1=r2
 .have a1:r=true↔xss=a2:=by simpa [h] using a0
  have HR:=oH a1;clear a0 a1;have HB:(r1 == r2)=true:=by simpa using h
  clear h;go_enter Tryz.func89,Tryz.ntmps89
  go_wp2_with fail;with_reducible refine(aGJ A A' xss a2 c c' _ _ _ _ _ (hr.mid a3 oZl) (a4.mid a3 oZl) hl r HR.out).mono ?_
  rintro e w1 ⟨rfl,n,rfl⟩;go_wp2_with fail;go_ret;exact⟨by simp,a3.drewN n⟩
 have HB:(r1 == r2)=false:=by simpa using h
 obtain rfl:r=false:=by
  cases r
  .rfl
  exact absurd (a0.1 rfl).1 h
 clear a0 h;go_enter Tryz.func89,Tryz.ntmps89
 go_wp2_with fail;go_ret;exact⟨by simp,a3⟩
def aBx(r:Int)(d:LL)(r':Int)(d':LL)(res:Bool):Prop:=res=true↔(r=r'/\d=d')
theorem aGB(r:Int)(d:LL)(r':Int)(d':LL)(_:(Lit.int .i64 r).wf=true)(_:OkSS d)(_:d.length+aAK d<=1048576)(_:(Lit.int .i64 r').wf=true)(_:OkSS d')(_:d'.length+aAK d'<=1048576):∃ res,aBx r d r' d' res:=
 ⟨decide (r=r'/\d=d'),by simp[aBx]⟩
theorem aCv(r:Int)(A:OA)(d:LL)(c:Nat)(r':Int)(A':OA)(d':LL)(c':Nat)(w:World)(lo hi:Nat)(h:RSS w lo hi A d)(_b:(Lit.int .i64 r).wf=true)(_o:OkSS d)(hl:d.length+aAK d<=1048576)(lo' hi':Nat)(h':RSS w lo' hi' A' d')(a2:(Lit.int .i64 r').wf=true)(a3:OkSS d')(a4:d'.length+aAK d'<=1048576)(a1:Bool)(a0:aBx r d r' d' a1) :
  Calls Tryz.prog 73 #[.agg #[r,.slice A d.length c],.agg #[r',.slice A' d'.length c']] w (Stp (.bool a1) w):=
 aGV r r' A A' d d' c c' w lo hi lo' hi' h h' hl a1 a0
theorem aGr(r:Int)(A:OA)(d:LL)(c:Nat)(r':Int)(A':OA)(d':LL)(c':Nat)(w:World)(lo hi:Nat)(h:RSS w lo hi A d)(_b:(Lit.int .i64 r).wf=true)(_o:OkSS d)(hl:d.length+aAK d<=1048576)(lo' hi':Nat)(h':RSS w lo' hi' A' d')(a2:(Lit.int .i64 r').wf=true)(a3:OkSS d')(a4:d'.length+aAK d'<=1048576)(a1:Bool)(a0:aBx r d r' d' a1) :
  Calls Tryz.prog 89 #[.agg #[r,.slice A d.length c],.agg #[r',.slice A' d'.length c']] w (Stp (.bool a1) w):=
 aGI r r' A A' d d' c c' w lo hi lo' hi' h h' hl a1 a0
def aEb(r0:Int)(d0:LL)(r1 s1:Int)(d1:List Ed)(rr0 rs0:Int)(res0:List Ed)(res1:Bool):Prop:=PreIs r0 d0 r1 s1 d1 rr0 rs0 res0 res1
theorem aJF(r0:Int)(d0:LL)(r1 s1:Int)(d1:List Ed)(b0:(Lit.int .i64 r0).wf=true)(o0:OkSS d0)(a0:d0.length+aAK d0<=1048576)(a1:d1.length<=1048576):∃ rr0 rs0 res0 res1,aEb r0 d0 r1 s1 d1 rr0 rs0 res0 res1:=aSK r0 d0 r1 s1 d1
theorem aIT{r0:Int}{d0:LL}{r1 s1:Int}{d1:List Ed}{rr0 rs0:Int}{res0:List Ed}{res1:Bool}(h:aEb r0 d0 r1 s1 d1 rr0 rs0 res0 res1)(b0:(Lit.int .i64 r0).wf=true)(o0:OkSS d0)(a0:d0.length+aAK d0<=1048576)(a1:d1.length<=1048576):res0.length<=1048576:=by
 have:=PreIs.lens h;omega
theorem aJg(r0:Int)(A0:OA)(d0:LL)(c0:Nat)(r1 s1:Int)(A1:OA)(d1:List Ed)(c1:Nat)(w:World)(a6 a4:Nat)(h0:OSS w a6 a4 44 3 A0 c0 d0)(b0:(Lit.int .i64 r0).wf=true)(o0:OkSS d0)(a8:d0.length+aAK d0<=1048576)(a7 a5:Nat)(h1:OG w a7 a5 A1 c1 d1)(a9:d1.length<=1048576)(a2 a3:Int)(a0:List Ed)(a1:Bool)(h:aEb r0 d0 r1 s1 d1 a2 a3 a0 a1) :
  Calls Tryz.prog 76 #[.agg #[.int .i64 r0,.slice A0 d0.length c0],.agg #[.int .i64 r1,.int .i64 s1,.slice A1 d1.length c1]] w fun e w'=>∃(A:OA) (c:Nat),e=.returned (.tuple #[.agg #[.int .i64 a2,.int .i64 a3,.slice A a0.length c],.bool a1])/\OG w' w.heap.size w'.heap.size A c a0/\Mid 0 0 w w':=
 aKu r0 A0 d0 c0 r1 s1 A1 d1 c1 w a6 a4 a7 a5 h0.rss o0 a8 h1.rg a9 a2 a3 a0 a1 h
theorem aJa(r0:Int)(A0:OA)(d0:LL)(c0:Nat)(r1 s1:Int)(A1:OA)(d1:List Ed)(c1:Nat)(w:World)(a6 a4:Nat)(h0:OSS w a6 a4 44 3 A0 c0 d0)(b0:(Lit.int .i64 r0).wf=true)(o0:OkSS d0)(a8:d0.length+aAK d0<=1048576)(a7 a5:Nat)(h1:OG w a7 a5 A1 c1 d1)(a9:d1.length<=1048576)(a2 a3:Int)(a0:List Ed)(a1:Bool)(h:aEb r0 d0 r1 s1 d1 a2 a3 a0 a1) :
  Calls Tryz.prog 75 #[.agg #[.int .i64 r0,.slice A0 d0.length c0],.agg #[.int .i64 r1,.int .i64 s1,.slice A1 d1.length c1]] w fun e w'=>∃(A:OA) (c:Nat),e=.returned (.tuple #[.agg #[.int .i64 a2,.int .i64 a3,.slice A a0.length c],.bool a1])/\OG w' w.heap.size w'.heap.size A c a0/\Mid 0 0 w w':=
 aJX r0 A0 d0 c0 r1 s1 A1 d1 c1 w a6 a4 a7 a5 h0.rss o0 a8 h1.rg a9 h1.cnt.1 a2 a3 a0 a1 h
def aBB(n:Int)(r:Int)(res:LL)(b:Bool):Prop:=idM n=⟨r,res⟩/\idB n=b
theorem aFw(n:Int):∃ r res b,aBB n r res b:=⟨(idM n).rank,(idM n).imgs,_,rfl,rfl⟩
theorem aUq(n:Nat):aAK (idW n)=n:=by
 induction n with
|zero=>rfl
|succ k ih=>rw[aLP,aGZ,ih];rfl
theorem aFo{n r:Int}{res:LL}{b:Bool}(h:aBB n r res b):res.length+aAK res<=1048576:=by
 have h1:=congrArg Mor.imgs h.1;simp only at h1;rw[<- h1];unfold idM;split
 .simp only[aFD,aUq];omega
 simp[aAK]
theorem aFt(n:Int)(w:World)(_o:(Lit.int .i64 n).wf=true)(r:Int)(a0:LL)(b:Bool)(h:aBB n r a0 b) :
  Calls Tryz.prog 83 #[.int .i64 n] w fun e w'=>∃ A c,e=.returned (.tuple #[.agg #[.int .i64 r,.slice A a0.length c],.bool b]) /\
   OSS w' w w' 44 3 A c a0/\Mid 0 0 w w':=by
 have h1:=aDk n w;rw[h.1,h.2] at h1;exact h1
theorem aFq(n:Int)(w:World)(_o:(Lit.int .i64 n).wf=true)(r:Int)(a0:LL)(b:Bool)(h:aBB n r a0 b) :
  Calls Tryz.prog 82 #[.int .i64 n] w fun e w'=>∃ A c,e=.returned (.tuple #[.agg #[.int .i64 r,.slice A a0.length c],.bool b]) /\
   OSS w' w w' 44 3 A c a0/\Mid 0 0 w w':=by
 have h1:=aFE n w;rw[h.1,h.2] at h1;exact h1
theorem aKL(r n:Nat)(A:OA)(es:List Ed)(c:Nat)(Aw:OA)(wd:LI)(cw:Nat)(w:World)(lo hi lo' hi':Nat)(hr:RG w lo hi A es)(hw:RV w lo' hi' Aw (aAe wd))(hc:IsCor r n es)(a1:red [] wd=wd)(aJ:wd.length<=1048576)(a5:OkI wd)(b:Bool)(hb:b=true↔aLC es wd) :
  Calls Tryz.prog 50 #[aAJ r n A es.length c,.slice Aw wd.length cw] w fun e w'=>e=.returned (.bool b)/\Mid 0 0 w w':=by
 have a0:Mid 0 0 w (w.alloc (.cells #[r,n,.slice A es.length c] 35)):=oE _ _;have b0:=oJ w #[r,n,.slice A es.length c] 35;have HB:Hid (b=true↔goV es 0 wd=some 0):=oH (hb.trans aUy);have aK:=oH a5;have HC:=oH hc;have aL:=hc.gr.size;have hl:=hc.gr.len;have a8:=fun W (h:RV W lo' hi' Aw (aAe wd))=>aBk Aw wd cw W hi' h.rs h.1 a5 oO;rw[a1] at a8;have aG:=oH a8;have aD:∀(W:World) (A4:OA) (c4 a4 b4:Nat),RG W lo hi A es->RV W a4 b4 A4 (aAe wd)->Calls Tryz.prog 128 #[aAJ r n A es.length c,.int .i64 0,.slice A4 wd.length c4] W fun e w'=>∃(u:Int) (b:Bool),e=.returned (.tuple #[.int .i64 u,.bool b])/\(b=true->goV es 0 wd=some u)/\(b=false->goV es 0 wd=none)/\Mid 0 0 W w':=
  fun W A4 c4 a4 b4 h1 h2=>aEZ r n 0 A es c A4 wd c4 W lo hi a4 b4 h1 h2 hc.fol oO aJ a5
 have aH:=oH aD;clear hb a5 hc a8 a1 aD;go_enter Tryz.func50,Tryz.ntmps50
 go_wp2_with fail;generalize (w.alloc (.cells #[r,n,.slice A es.length c] 35))=w1 at a0 b0 |-;have aB:=Mid.drew1 w1;replace b0:=b0.mid aB oZr;replace a0:=a0.trans aB;obtain⟨p0,p1,p2⟩:=b0.c3 rfl;clear aB;refine aAo (S:=(fun w'=>w'.cell? ⟨w,0,none⟩=some (.int .i64 r)/\w'.cell? ⟨w,1,none⟩=some (.int .i64 n)/\w'.cell? ⟨w,2,none⟩=some (.slice A es.length c))) [] oK ⟨p0,p1,p2⟩ ?_;generalize World.drew w1=wz at b0 a0 p0 p1 p2 |-;have hS:wz.cell? ⟨w,0,none⟩=some (.int .i64 r)/\wz.cell? ⟨w,1,none⟩=some (.int .i64 n)/\wz.cell? ⟨w,2,none⟩=some (.slice A es.length c):=⟨p0,p1,p2⟩
 refine tkZ [] 0 rfl hS ?_;try simp only[oP]
 refine tkZ [] 1 rfl hS ?_;try simp only[oP]
 refine rdZ 2 rfl (fun K hK=>?_)
 (go_simp;(with_reducible refine(aG.out _ (hw.mid a0 oZl)).mono ?_);rintro en w4 ⟨A4,c4,rfl,aE,a3⟩;have a9:Mid 0 0 wz w4:=Mid.of_below a3;have a6:=b0.mid a9 oZr;go_wp2_with fail)
 refine hK.out _ _ (Or.inr (a6.c3 rfl)) (fun _=>?_);clear hK K;try simp only[oP]
 replace a0:=a0.trans a9;clear hS p0 p1 p2 b0;refine rdZ 3 rfl (fun K hK=>?_)
 (go_simp;(with_reducible refine(aH.out w4 A4 c4 _ _ (hr.mid a0 oZl) (aAz aE)).mono ?_);rintro en w5 ⟨u,bb,rfl,h1,h2,aA⟩;have a7:=a6.mid aA oZr;go_wp2_with fail)
 refine hK.out _ _ (Or.inr (a7.c3 rfl)) (fun _=>?_);clear hK K;try simp only[oP]
 replace a0:=a0.trans aA;have a2:=a7.c3 rfl;clear a6 a9 aA aE a3;have aC:=oH h1;have aF:=oH h2;clear h1 h2;refine tkZ [] 4 rfl a2 ?_;try simp only[oP]
 refine tkZ [] 5 rfl a2 ?_;try simp only[oP]
 refine tkZ [] 6 rfl a2 ?_;try simp only[oP]
 refine rdZ 7 rfl (fun K hK=>?_);go_simp;refine hK.out _ _ (Or.inr a2) (fun _=>?_);clear hK K;try simp only[oP]
 refine rdZ 8 rfl (fun K hK=>?_);go_simp;refine hK.out _ _ (Or.inr a2) (fun _=>?_);clear hK K;try simp only[oP]
 refine aAj oK ?_ _;clear a2;obtain⟨p0,p1,p2⟩:=a7.c3 rfl;go_wp2_with fail;with_reducible refine(aAH r n A es c _ _ _ (hr.mid a0 oZl) oO true (oX rfl HC.out)).mono ?_
 rintro en w6 ⟨rfl,aI⟩;replace a0:=a0.trans aI;cases bb
 .obtain rfl:b=false:=aAG HB.out fun h=>by have:=aF.out rfl;rw[h] at this;cases this
  go_wp2_with fail;go_ret;exact⟨rfl,a0⟩
 rcases(Decidable.em (u=0)).symm with hu|hu
 .have du:(u == 0)=false:=by simpa using hu
  obtain rfl:b=false:=aAG HB.out fun h=>by have:=aC.out rfl;rw[h] at this;injection this with this;exact hu this.symm
  clear hu;go_wp2_with fail;go_ret;exact⟨rfl,a0⟩
 subst hu;obtain rfl:b=true:=HB.out.2 (aC.out rfl);go_wp2_with fail;go_ret;exact⟨rfl,a0⟩
theorem aKK(r s:Int)(A:OA)(es:List Ed)(c:Nat)(Aw:OA)(wd:LI)(cw:Nat)(w:World)(lo hi lo' hi':Nat)(hr:RG w lo hi A es)(hw:RV w lo' hi' Aw (aAe wd))(hc:IsCor r s es)(a0:red [] wd=wd)(a2:wd.length<=1048576)(a1:OkI wd)(b:Bool)(hb:b=true↔InS es wd) :
  Calls Tryz.prog 50 #[aAJ r s A es.length c,.slice Aw wd.length cw] w fun e w'=>e=.returned (.bool b)/\Mid 0 0 w w':=by
 have h:aLC es wd↔InS es wd:=by have:=aPE hc.fol (wd:=wd);rwa [a0] at this
 obtain⟨a,n,rfl,rfl⟩:=hc.gr.nat;exact aKL a n A es c Aw wd cw w lo hi lo' hi' hr hw hc a0 a2 a1 b (hb.trans h.symm)
theorem aVo(es:List Ed)(w:LI):∃ b:Bool,b=true↔InS es w:=by
 classical
 exact⟨decide (InS es w),by simp⟩
theorem aFX{r:Int}{l:LL}{v:LI}(h:IsMor r l)(hv:IsW r v):aAC r l v (aAl l v) true:=⟨fun _=>⟨rfl,rfl⟩,fun k=>absurd ⟨h,hv⟩ k⟩
theorem aRd{r:Int}{l:LL}{v x:LI}(h:aAC r l v x true):IsMor r l/\IsW r v/\x=aAl l v:=by
 by_cases hg:IsMor r l/\IsW r v
 .exact⟨hg.1,hg.2,(h.1 hg).1⟩
 cases (h.2 hg).2
theorem aRo{r:Int}{d:LL}{r':Int}{d':LL}{rr:Int}{res:LL}(h:aBj r d r' d' rr res true):IsMor r d/\IsMor r' d'/\r'=r/\rr=r/\res=d'.map (aAl d)/\IsMor r res:=by
 by_cases hg:IsMor r d/\IsMor r' d'/\r=r'/\∀ l∈d',(aAl d l).length<=24
 .obtain⟨h1,h2, -⟩:=h.1 hg
  obtain⟨g1,g2,rfl,g4⟩:=hg;exact⟨g1,g2,rfl,h1,h2,h2 ▸ aPo g1 g2 g4⟩
 cases (h.2 hg).2.2
theorem aRp{r:Int}{d:LL}{r':Int}{d':LL}{rr:Int}{res:LL}{b:Bool}(h:aBj r d r' d' rr res b)(hw:(Lit.int .i64 r).wf=true):(Lit.int .i64 rr).wf=true/\OkSS res:=by
 by_cases hg:IsMor r d/\IsMor r' d'/\r=r'/\∀ l∈d',(aAl d l).length<=24
 .obtain⟨h1,h2,h3⟩:=h.1 hg
  have hm:IsMor r res:=by obtain⟨g1,g2,rfl,g4⟩:=hg;exact h2 ▸ aPo g1 g2 g4
  refine⟨by rw[h1];exact hw,⟨by have:=hm.2.1;have:=hm.2.2.1;omega,fun xs hx=>by have:=(hm.2.2.2 xs hx).2.2.1;omega⟩,fun xs hx=>?_⟩;exact(aIl (hm.2.2.2 xs hx)).1.ok
 obtain⟨h1,h2,h3⟩:=h.2 hg;subst h1 h2;exact⟨by decide,⟨by simp,by simp⟩,by simp⟩
theorem aUV{r:Int}{k:Nat}(e:r=(k:Int))(h1:1<=r)(h3:r<=3){v:LI}{q:Int}(hq:q<=9)(hl:((v.length:Nat):Int)<=q)(hr:LtR k v)(hd:Rd v):IsW r v:=
 aOD h1 h3 oO (fun y hy=>by have:=hr y hy;omega) hd
theorem MoB.exl{r:Int}{l:LL}(h:MoB r l){v:LI}(hv:v.length<=200):(aAl l v).length<=v.length * 5:=by
 have h1:=aLn (fun xs hx=>(h.2.2 xs hx).2.2) (fun xs hx=>(h.2.2 xs hx).1.ok) v;unfold aAl;rw[List.take_of_length_le hv];have h2:=aBu (aCO l v).flatten;omega
theorem aRC{r:Int}{d:LL}(h:IsMor r d){w:LI}(hw:IsW r w):LtW (aAl d w)/\red [] (aAl d w)=aAl d w:=by
 have hk:=(aLb h hw).lt h.k3;refine⟨hk,?_⟩;have e:=h.2.2.1;have kw:=aDo e hw;rw[aBW kw (by have:=hw.2.2.1;omega)];exact aJv (aCP h.atL kw)
theorem aTE{r:Int}{l:LL}{bs bi:Bool}(h1:aCZ r l bs)(h2:aDr r l bi)(h:bs=true):bi=true:=by
 have:=h1.1 h;exact h2.2 ⟨this.1,aSE this⟩
theorem Mid.here{w w':World}(m:Mid 0 0 w w'):Mid 0 0 w' w':=Mid.refl 0 0 w'
theorem aNS(A A':OA)(a b:LI)(c c':Nat)(w:World)(lo hi lo' hi':Nat)(h:OI w lo hi A c a)(h':OI w lo' hi' A' c' b)(ha:OkI a)(hb:OkI b)(hl:a.length+b.length<=1048576)(y:LI)(hy:red [] (a++b)=y) :
  Calls Tryz.prog 21 #[.slice A a.length c,.slice A' b.length c'] w fun e w'=>∃ A2 c2,e=.returned (.slice A2 y.length c2)/\OI w' w.heap.size w'.heap.size A2 c2 y/\Mid 0 0 w w':=by
 subst hy;refine(aDU A A' a b c c' w (OV.rv h).rsS (OV.rv h').rsS ha hb oO).mono ?_;rintro e w' ⟨A2,c2,rfl,ho,a0⟩;exact⟨A2,c2,rfl,OV.new ho,Mid.of_below a0⟩
theorem aTs{r0:Int}{d:LL}{r s:Int}{es:List Ed}{rr rs:Int}{res:List Ed}(h:PreIs r0 d r s es rr rs res true):IsMor r0 d:=by
 rcases h with⟨-,h, -⟩|⟨h, -⟩
 .cases h
 exact h.1
theorem aTO{n r:Int}{res:LL}{b:Bool}(h:aBB n r res b)(hn:(Lit.int .i64 n).wf=true):(Lit.int .i64 r).wf=true/\OkSS res:=by
 have h1:=h.1;unfold idM at h1;split at h1
 .rename_i h3
  injection h1 with h1 h2
  subst h1 h2;refine⟨hn,⟨by rw[aFD];omega,fun xs hx=>?_⟩,fun xs hx=>?_⟩
  .simp only[idW,List.mem_map,List.mem_range] at hx
   obtain⟨i,hi,rfl⟩:=hx;simp
  simp only[idW,List.mem_map,List.mem_range] at hx;obtain⟨i,hi,rfl⟩:=hx;intro x hx;simp at hx;subst hx
  skip
  omega
 injection h1 with h1 h2
 subst h1 h2;exact⟨by decide,⟨by simp,by simp⟩,by simp⟩
theorem aMC(rk:Int)(A:OA)(l:LL)(c:Nat)(w:World)(lo hi:Nat)(hr:RSS w lo hi A l)(aY:∀ xs∈l,OkI xs)(hl:l.length+aAK l<=1048576)(aZ:1<=rk/\rk<=3)(rr rs:Int)(aP:List Ed)(b:Bool)(aK:WsIs rk l rr rs aP b) :
  Calls Tryz.prog 166 #[.int .i64 rk,.slice A l.length c] w fun e w'=>∃ A1 c1,e=.returned (.tuple #[aAJ rr rs A1 aP.length c1,.bool b])/\OG w' w.heap.size w'.heap.size A1 c1 aP/\Mid 0 0 w w':=by
 have HR:=oH aK;have ae:=oH aY;clear aK aY;have aC:Mid 0 0 w (w.alloc (.cells #[(0:Int),(0:Int),.slice none 0 0] 35)):=oE _ _;have b2:=oJ w #[(0:Int),(0:Int),.slice none 0 0] 35;go_enter Tryz.func166,Tryz.ntmps166
 go_wp2_with fail;generalize w.alloc (.cells #[(0:Int),(0:Int),.slice none 0 0] 35)=w1 at aC b2 |-;have az:w.heap.size<w1.heap.size:=b2.1;with_reducible refine(aHU rk _ aZ).mono ?_
 rintro en w4 ⟨rfl,aO⟩;have aj:=aO.size;have aS:=oE w4 (.cells #[rk,(1:Int),.slice none 0 0] 35);have Y4:=oJ w4 #[rk,(1:Int),.slice none 0 0] 35;replace b2:=b2.mid aO oZr;replace aC:=aC.trans aO;have ag:=b2.1;replace b2:=b2.mid aS oZr;replace aC:=aC.trans aS;go_wp2_with fail;generalize w4.alloc (.cells #[rk,(1:Int),.slice none 0 0] 35)=w5 at b2 Y4 aC |-;have aa:w4.heap.size<w5.heap.size:=Y4.1;clear aS aO;generalize hG:w4.heap.size=Gb at Y4 ag aa;clear hG aj;have aw:=hr.size;go_loopw [8] (fun i wr=>∃(k:Nat) (A2:OA) (c2 aU:Nat) (g:Int × List Ed),k<=l.length/\i=.int .i64 k/\Hid (joinJ rk (l.take k)=some g)/\OG wr (Gb+1) aU A2 c2 g.2 /\
   Box wr w [(0:Int),(0:Int),.slice none 0 0]/\Box wr Gb [rk,.int .i64 g.1,.slice A2 g.2.length c2]/\Mid 0 0 w wr) (fun i _=>l.length - (intOf i).toNat)
 case atStart=>exact⟨0,none,0,_,(1,[]),oZ,rfl,oH rfl,OG.nil,b2,Y4,aC⟩
 clear b2 Y4 aC aa;obtain⟨wo,am⟩:∃ wo,wo=wr:=⟨_,rfl⟩
 subst am;obtain⟨k,A2,c2,aU,⟨gs,ge⟩,hk,rfl,HGE,a3,Z2,Z3,hm⟩:=hrel;dsimp only at a3 Z3;have au:Gb<wo.heap.size:=Z3.1;have ah:=(aLX aZ HGE.out).len;dsimp only at ah;by_cases hlt:k<l.length
 .obtain⟨Bp,op,Ap,cp,p,rfl, -,ar,hp,aB,aH⟩:=(hr.mid hm oZl).row hlt
  have ai:p.length<=1048576:=by have:=aBm (oG hp);omega
  have ay:(k:Int)<(l.length:Int):=by omega
  have ax:(0:Int)<=(k:Int):=by omega
  have aQ:Bp<wo.heap.size:=by omega
  have HP:=oH hp;clear hp;rcases(Decidable.em (p.length<=24)).symm with hp24|hp24
  .have aJ:joinJ rk l=none:=aGe (k:=k+1) (by rw[aDB HP.out,HGE.out,aLt hp24])
   obtain⟨rfl,rfl,rfl,rfl⟩:=HR.out.no aJ;have aW:(24:Int)<(p.length:Int):=by omega
   clear aJ HGE hp24;obtain⟨z0,z1,z2⟩:=Z2.c3 rfl;have zf:=Z2.2.2;go_wp2_with fail;refine oW (v:=.tuple #[.agg #[(0:Int),(0:Int),.slice none 0 0],.bool false]) (by simp[results,Tryz.results166,go_sem,z0,z1,z2,zf]) rfl ⟨none,0,rfl,OG.nil,?_⟩;repeat (first|exact hm|refine oQ ?_ (by simp;try omega) _)
  have aW:¬ (24:Int)<(p.length:Int):=by omega
  obtain⟨jr,js,je,jb,aV⟩:=aQY rk gs ge p;have aL:=oH aV;have hP:=fun W (h1:RG W (Gb+1) aU A2 ge) (h2:RV W lo hi Ap (aAe p))=>aMA rk gs A2 ge c2 Ap p cp W _ _ _ _ h1 h2 oO ai (ae.out p (oG HP.out)) jr js je jb aV;have aM:=oH hP;clear aV hP;go_wp2_with fail;have aD:=Mid.drew1 wo;have ak:=aD.size;replace Z2:=Z2.mid aD oZr;replace Z3:=Z3.mid aD oZr;replace a3:=a3.mid aD oZl;replace hm:=hm.trans aD;replace aH:=aH.mid aD oZl;replace aB:=aAa aD aQ oZr aB;obtain⟨q0,q1,q2⟩:=Z3.c3 rfl;clear aD;refine aAo (S:=(fun w'=>(w'.cell? ⟨Gb,0,none⟩=some (.int .i64 rk)/\w'.cell? ⟨Gb,1,none⟩=some (.int .i64 gs)/\w'.cell? ⟨Gb,2,none⟩=some (.slice A2 ge.length c2))/\w'.cell? ⟨Bp,op+k,none⟩=some (.slice Ap p.length cp))) [] oK ⟨⟨q0,q1,q2⟩,aB⟩ ?_;generalize World.drew wo=wz at Z2 Z3 a3 hm aH aB q0 q1 q2 ak |-;have hS:(wz.cell? ⟨Gb,0,none⟩=some (.int .i64 rk)/\wz.cell? ⟨Gb,1,none⟩=some (.int .i64 gs)/\wz.cell? ⟨Gb,2,none⟩=some (.slice A2 ge.length c2))/\wz.cell? ⟨Bp,op+k,none⟩=some (.slice Ap p.length cp):=⟨⟨q0,q1,q2⟩,aB⟩
  have aR:Bp<wz.heap.size:=by omega
  refine tkZ [] 0 rfl hS ?_;try simp only[oP]
  refine tkZ [] 1 rfl hS ?_;try simp only[oP]
  refine tkZ [] 2 rfl hS ?_;try simp only[oP]
  refine tkZ [] 3 rfl hS ?_;try simp only[oP]
  refine tkZ [] 4 rfl hS ?_;try simp only[oP]
  refine aBb (rs:=[5,9]) oK oM (AllReadyZ.cons rfl (fun K hK=>?_) (AllReadyZ.cons rfl (fun K hK=>?_) AllReadyZ.nil));focus
   (go_simp;(with_reducible refine(aM.out _ a3.rg aH).mono ?_);rintro en aA ⟨A6,c6,rfl,a9,a0⟩;have a8:=Z3.mid a0 oZr;have a2:=aAa a0 aR oZr aB;go_wp2_with fail)
   refine hK.out _ _ (Or.inr ⟨a8.c3 rfl,a2⟩) (fun _=>?_);clear hK K;try simp only[oP]
   replace Z2:=Z2.mid a0 oZr;replace hm:=hm.trans a0;have aX:=a0.size;have a4:=And.intro (a8.c3 rfl) a2;clear Z3 hS q0 q1 q2 a3 aM;refine tkZ [] 6 rfl a4 ?_;try simp only[oP]
   refine tkZ [] 7 rfl a4 ?_;try simp only[oP]
   refine tkZ [] 8 rfl a4 ?_;try simp only[oP]
   have a5:=oE aA (.cells #[(0:Int),(0:Int),.slice none 0 0] 35);have a6:=a8.mid a5 oZr;have a1:=aAa a5 oO oZr a2;refine rdZ 9 rfl (fun K hK=>?_);go_simp;refine hK.out _ _ (Or.inr ⟨a6.c3 rfl,a1⟩) (fun _=>?_);clear hK K;try simp only[oP]
   clear a5 a6 a1;have a5:=oE aA (.cells #[jr,js,.slice A6 je.length c6] 35);have a6:=a8.mid a5 oZr;have a1:=aAa a5 oO oZr a2;refine rdZ 10 rfl (fun K hK=>?_);go_simp;refine hK.out _ _ (Or.inr ⟨a6.c3 rfl,a1⟩) (fun _=>?_);clear hK K;try simp only[oP]
   refine rdZ 11 rfl (fun K hK=>?_);go_simp;refine hK.out _ _ (Or.inr ⟨a6.c3 rfl,a1⟩) (fun _=>?_);clear hK K;try simp only[oP]
   refine aAj oK ?_ _;have Zx:=oJ aA #[jr,js,.slice A6 je.length c6] 35;replace a9:=a9.mid a5 oZl;replace Z2:=Z2.mid a5 oZr;replace hm:=hm.trans a5;have aT:Gb+1<=aA.heap.size:=by omega
   have Z3:=a6;clear a8 a6 a4 a5 a2 a1 a0;generalize aA.alloc (.cells #[jr,js,.slice A6 je.length c6] 35)=w11 at Z2 Z3 Zx a9 hm |-;generalize aA.heap.size=Gz at Zx aT a9 |-
  rotate_left
  focus
   have a5:=oE wz (.cells #[(0:Int),(0:Int),.slice none 0 0] 35);have a6:=Z3.mid a5 oZr;have a1:=aAa a5 aR oZr aB;have Zx:=oJ wz #[(0:Int),(0:Int),.slice none 0 0] 35;have a7:=a3.mid a5 oZl;have aG:=aH.mid a5 oZl;have al:=a5.size;go_simp;refine hK.out _ _ (Or.inr ⟨a6.c3 rfl,a1⟩) (fun _=>?_);clear hK K;try simp only[oP]
   replace Z2:=Z2.mid a5 oZr;replace hm:=hm.trans a5;clear Z3 hS q0 q1 q2 a3 aH aB a5;have ab:wz.heap.size<(wz.alloc (.cells #[(0:Int),(0:Int),.slice none 0 0] 35)).heap.size:=Zx.1;generalize wz.alloc (.cells #[(0:Int),(0:Int),.slice none 0 0] 35)=wy at a6 Zx a7 aG a1 Z2 hm al ab |-;have af:Bp<wy.heap.size:=by omega
   refine rdZ 5 rfl (fun K hK=>?_)
   (go_simp;(with_reducible refine(aM.out _ a7.rg aG).mono ?_);rintro en aA ⟨A6,c6,rfl,a9,a0⟩;have a8:=a6.mid a0 oZr;have a2:=aAa a0 af oZr a1;go_wp2_with fail)
   refine hK.out _ _ (Or.inr ⟨a8.c3 rfl,a2⟩) (fun _=>?_);clear hK K;try simp only[oP]
   replace Z2:=Z2.mid a0 oZr;replace Zx:=Zx.mid a0 oZr;replace hm:=hm.trans a0;have aX:=a0.size;have a4:=And.intro (a8.c3 rfl) a2;clear a6 a7 aM aG a1;refine tkZ [] 6 rfl a4 ?_;try simp only[oP]
   refine tkZ [] 7 rfl a4 ?_;try simp only[oP]
   refine tkZ [] 8 rfl a4 ?_;try simp only[oP]
   have aq:=Zx.2.2;obtain⟨an,ao,ap⟩:=Zx.c3 rfl;have aE:=Mid.s3 aA wz jr js (.slice A6 je.length c6);have aN:=a8.mid aE;have aF:=aAa aE oO (Or.inl aR) a2;refine rdZ 10 rfl (fun K hK=>?_);go_simp;refine hK.out _ _ (Or.inr ⟨aN.c3 rfl,aF⟩) (fun _=>?_);clear hK K;try simp only[oP]
   refine rdZ 11 rfl (fun K hK=>?_);go_simp;refine hK.out _ _ (Or.inr ⟨aN.c3 rfl,aF⟩) (fun _=>?_);clear hK K;try simp only[oP]
   refine aAj oK ?_ _;replace a9:=a9.mid aE;replace Z2:=Z2.mid aE;replace Zx:=Zx.s3 jr js (.slice A6 je.length c6);replace hm:=hm.n3 wz oO jr js (.slice A6 je.length c6);have aT:Gb+1<=wz.heap.size:=by omega
   have Z3:=aN;clear a8 aN a4 aE a2 aF a0 an ao ap aq;generalize ((aA.setCell ⟨wz,0,none⟩ jr).setCell ⟨wz,1,none⟩ js).setCell ⟨wz,2,none⟩ (.slice A6 je.length c6)=w11 at Z2 Z3 Zx a9 hm |-;generalize wz.heap.size=Gz at Zx aT ab |-
  rotate_left
  all_goals
   cases jb
   .rcases aL.out with⟨hb0, -, -⟩|⟨-,aI,rfl,rfl,rfl⟩
    .cases hb0
    have aJ:joinJ rk l=none:=aGe (k:=k+1) (by rw[aDB HP.out,HGE.out,aGk hp24];exact aI);obtain⟨rfl,rfl,rfl,rfl⟩:=HR.out.no aJ;clear aJ aI aL HGE;obtain⟨z0,z1,z2⟩:=Z2.c3 rfl;have zf:=Z2.2.2;go_wp2_with fail;refine oW (v:=.tuple #[.agg #[(0:Int),(0:Int),.slice none 0 0],.bool false]) (by simp[results,Tryz.results166,go_sem,z0,z1,z2,zf]) rfl ⟨none,0,rfl,OG.nil,?_⟩;repeat (first|exact hm|refine oQ ?_ (by simp;try omega) _)
   obtain⟨aI,rfl⟩:jwA rk gs ge p=some (js,je)/\jr=rk:=by
    rcases aL.out with⟨-,h1,h2⟩|⟨h1, -⟩
    .exact⟨h1,h2⟩
    cases h1
   have ad:Hid (joinJ jr (l.take (k+1))=some (js,je)):=oH (by rw[aDB HP.out,HGE.out,aGk hp24];exact aI);clear aL aI HGE;have aE:=Mid.s3 w11 Gb jr js (.slice A6 je.length c6);have Y7:=Z3.s3 jr js (.slice A6 je.length c6);obtain⟨x0,x1,x2⟩:=Zx.c3 rfl;obtain⟨q0,q1,q2⟩:=Z3.c3 rfl;have qf:=Z3.2.2;go_wp2_with fail;go_roundw
   case rel=>exact⟨k+1,A6,c6,_,(js,je),hlt,by go_num,ad,(a9.wide (lo':=Gb+1) oO oN a9.size).mid aE (Or.inl oN),Z2.mid aE,Y7,hm.n3 Gb oO jr js (.slice A6 je.length c6)⟩
   simp[intOf];omega
 obtain rfl:k=l.length:=by omega
 rw[List.take_length] at HGE;obtain⟨rfl,rfl,rfl,rfl⟩:=HR.out.yes HGE.out;clear HR HGE;obtain⟨z0,z1,z2⟩:=Z2.c3 rfl;obtain⟨q0,q1,q2⟩:=Z3.c3 rfl;have zf:=Z2.2.2;have av:(w.heap.size == Gb)=false:=by simp;omega
 go_wp2_with fail;refine oW (v:=.tuple #[.agg #[rr,rs,.slice A2 aP.length c2],.bool true]) (by simp[results,Tryz.results166,go_sem,z0,z1,z2,zf,q0,q1,q2]) rfl ⟨A2,c2,rfl,?_,?_⟩
 .refine OG.wide (OG.mid a3 (a:=w.heap.size) (b:=w.heap.size+1) ?_ oL) oO (by have:=a3.size;simp;omega) oN
  repeat (first|exact Mid.refl _ _ _|refine Mid.stored ?_ _ (by simp;try omega) (by simp;try omega))
 repeat (first|exact hm|refine oQ ?_ (by simp;try omega) _)
theorem aNQ(r0:Int)(Ad:OA)(d:LL)(cd:Nat)(r s:Int)(A:OA)(es:List Ed)(c:Nat)(w:World)(lo hi ag aZ:Nat)(hd:RSS w lo hi Ad d)(aa:OkSS d)(av:d.length+aAK d<=1048576)(hr:RG w ag aZ A es)(hl:es.length<=1048576)(rr rs:Int)(aC:List Ed)(b:Bool)(aH:ImgIs r0 d r s es rr rs aC b) :
  Calls Tryz.prog 79 #[.agg #[.int .i64 r0,.slice Ad d.length cd],aAJ r s A es.length c] w fun e w'=>∃ A1 c1,e=.returned (.tuple #[aAJ rr rs A1 aC.length c1,.bool b])/\OG w' w.heap.size w'.heap.size A1 c1 aC/\Mid 0 0 w w':=by
 have HR:=oH aH;have aE:=oH aa;clear aH aa;have a1:Mid 0 0 w (((w.alloc (.cells #[r0,.slice Ad d.length cd] 76)).alloc (.cells #[r,s,.slice A es.length c] 35)).alloc (.cells #[(0:Int),(0:Int),.slice none 0 0] 35)):=((oE _ _).trans (oE _ _)).trans (oE _ _);have B0:=((oJ w #[r0,.slice Ad d.length cd] 76).mid (oE _ (.cells #[r,s,.slice A es.length c] 35)) oZr).mid (oE _ (.cells #[(0:Int),(0:Int),.slice none 0 0] 35)) oZr;have B1:=(oJ (w.alloc (.cells #[r0,.slice Ad d.length cd] 76)) #[r,s,.slice A es.length c] 35).mid (oE _ (.cells #[(0:Int),(0:Int),.slice none 0 0] 35)) oZr;have B2:=oJ ((w.alloc (.cells #[r0,.slice Ad d.length cd] 76)).alloc (.cells #[r,s,.slice A es.length c] 35)) #[(0:Int),(0:Int),.slice none 0 0] 35;simp only[World.size_alloc] at B1 B2;obtain⟨bm,aY⟩:=aAF (IsMor r0 d);have HM:=oH aY;obtain⟨bf,aX⟩:=aAF (IsCor r s es);have HF:=oH aX;clear aY aX;go_enter Tryz.func79,Tryz.ntmps79
 go_wp2_with fail;generalize hw1:((w.alloc (.cells #[r0,.slice Ad d.length cd] 76)).alloc (.cells #[r,s,.slice A es.length c] 35)).alloc (.cells #[(0:Int),(0:Int),.slice none 0 0] 35)=w1 at a1 B0 B1 B2 |-;have af:w1.heap.size=w.heap.size+1+1+1:=by rw[<- hw1];simp
 have HS:=oH af;clear hw1 af;with_reducible refine(aAq r0 Ad d cd _ _ _ (hd.mid a1 oZl) aE.out av bm HM.out).mono ?_
 rintro en w2 ⟨rfl,a8⟩;replace B0:=B0.mid a8 oZr;replace B1:=B1.mid a8 oZr;replace B2:=B2.mid a8 oZr;replace a1:=a1.trans a8;have p0:=B0.cell 0 rfl;have p1:=B0.cell 1 rfl;obtain⟨q0,q1,q2⟩:=B1.c3 rfl;cases bm with
|false=>
  have aB:¬ aJC r0 d r s es:=fun h=>by have:=HM.out.2 h.1;cases this
  obtain⟨rfl,rfl,rfl,rfl⟩:=HR.out.no aB;obtain⟨z0,z1,z2⟩:=B2.c3 rfl;have zf:=B2.2.2;go_wp2_with fail;refine oW (v:=.tuple #[.agg #[(0:Int),(0:Int),.slice none 0 0],.bool false]) (by simp[results,Tryz.results79,go_sem,z0,z1,z2,zf]) rfl ⟨none,0,rfl,OG.nil,?_⟩;repeat (first|exact a1|refine oQ ?_ (by simp;try omega) _)
|true=>
 have a3:=HM.out.1 rfl;have ay:=a8.size;clear a8 HM;go_wp2_with fail;with_reducible refine(aAH r s A es c _ _ _ (hr.mid a1 oZl) hl bf HF.out).mono ?_
 rintro en w3 ⟨rfl,a9⟩;replace B0:=B0.mid a9 oZr;replace B1:=B1.mid a9 oZr;replace B2:=B2.mid a9 oZr;replace a1:=a1.trans a9;have az:=a9.size;clear p0 p1 q0 q1 q2 a9;have p0:=B0.cell 0 rfl;have p1:=B0.cell 1 rfl;obtain⟨q0,q1,q2⟩:=B1.c3 rfl;cases bf with
|false=>
  have aB:¬ aJC r0 d r s es:=fun h=>by have:=HF.out.2 h.2.1;cases this
  obtain⟨rfl,rfl,rfl,rfl⟩:=HR.out.no aB;obtain⟨z0,z1,z2⟩:=B2.c3 rfl;have zf:=B2.2.2;go_wp2_with fail;refine oW (v:=.tuple #[.agg #[(0:Int),(0:Int),.slice none 0 0],.bool false]) (by simp[results,Tryz.results79,go_sem,z0,z1,z2,zf]) rfl ⟨none,0,rfl,OG.nil,?_⟩;repeat (first|exact a1|refine oQ ?_ (by simp;try omega) _)
|true=>
 have a0:=HF.out.1 rfl;clear HF;rcases(Decidable.em (r=r0)).symm with hrk|hrk
 .have aB:¬ aJC r0 d r s es:=fun h=>hrk h.2.2
  obtain⟨rfl,rfl,rfl,rfl⟩:=HR.out.no aB;have b4:(r != r0)=true:=by simpa using hrk
  obtain⟨z0,z1,z2⟩:=B2.c3 rfl;have zf:=B2.2.2;clear hrk a3 a0 aB HR;go_wp2_with fail;refine oW (v:=.tuple #[.agg #[(0:Int),(0:Int),.slice none 0 0],.bool false]) (by simp[results,Tryz.results79,go_sem,z0,z1,z2,zf]) rfl ⟨none,0,rfl,OG.nil,?_⟩;repeat (first|exact a1|refine oQ ?_ (by simp;try omega) _)
 have aN:=HR.out.yes ⟨a3,a0,hrk⟩;subst hrk;obtain⟨r,n,rfl,rfl⟩:=a0.gr.nat;have aw:=a0.gr.rank;have bA:=a0.gr.size;have bB:=a0.gr.len;have au:=aPj a0;have aV:=oH (fun(x:LI) (hx:x∈basA r es)=>aRh a0 hx);have aU:=oH (fun W h=>aOX r n A es c W ag aZ h a0);have ak:=oH a3.2.2.2;have aK:=oH (fun(xs:LI) (hx:xs∈d)=>(ak.out xs hx).2.2.1);have aQ:d.length<=1048576:=by omega
 have an:((r:Int) != (r:Int))=false:=by simp
 clear a0 a3 HR;go_wp2_with fail;with_reducible refine(aU.out _ (hr.mid a1 oZl)).mono ?_
 rintro en w4 ⟨A5,c5,rfl,aR,aA⟩;have aL:=aA.size;clear p0 p1 q0 q1 q2;replace B0:=B0.mid aA oZr;replace B1:=B1.mid aA oZr;replace B2:=B2.mid aA oZr;replace a1:=a1.trans aA;have b1:w.heap.size+3<=w3.heap.size:=by have:=HS.out;omega
 clear aA aU;generalize basA r es=BA at aR aV au aN |-;have aj:=oH aN;clear aN;have O0:=aAd w4 44 1;have a7:=oE w4 (.cells #[] 44);have aI:=aR.rss.mid a7 oZl;have a6:Grp (w4.alloc (.cells #[] 44)) w3 w3 w4 (some ⟨w4,0,none⟩) 0 0 [] A5 BA:=⟨aAh O0 aL,OwnRows.nil,aI,fun g hg=>.inr ((O0.lt g hg).1),aL⟩
 clear aR O0 aI;replace B0:=B0.mid a7 oZr;replace B1:=B1.mid a7 oZr;replace B2:=B2.mid a7 oZr;replace a1:=a1.trans a7;clear a7;go_wp2_with fail;generalize w4.alloc (.cells #[] 44)=w5 at a6 B0 B1 B2 a1 |-;generalize (some (⟨w4,0,none⟩:Addr))=AO at a6 |-;generalize w4.heap.size=Q at a6 aL;generalize w3.heap.size=L at a6 aL b1;go_loopw [7,8] (fun ov iv wr=>∃(k:Nat) (rows:List Row) (A1:OA) (c1:Nat),k<=BA.length/\iv=.int .i64 k/\ov=.slice A1 k c1/\Hid (aAt rows=(BA.take k).map (aAl d))/\Hid (Grp wr L L Q A1 k c1 rows A5 BA) /\
   Box wr w [r,.slice Ad d.length cd]/\Box wr (w.heap.size+1) [r,n,.slice A es.length c]/\Box wr (w.heap.size+1+1) [(0:Int),(0:Int),.slice none 0 0]/\Mid 0 0 w wr) (fun _ iv _=>BA.length - (intOf iv).toNat)
 case atStart=>exact⟨0,[],AO,0,oZ,rfl,rfl,oH rfl,oH a6,B0,B1,B2,a1⟩
 clear a6 B0 B1 B2 a1;obtain⟨wo,b2⟩:∃ wo,wo=wr:=⟨_,rfl⟩
 subst b2;obtain⟨k,rows,A1,c1,hk,rfl,rfl,HD,HG,B0,B1,B2,hm⟩:=hrel;by_cases hlt:k<BA.length
 .have a5:=Mid.drew1 wo
  have aD:=oH (HG.out.mid a5);obtain⟨Bd,od,Ak,ck,xs,ap,b8,aO,aT,a4,aS⟩:=aD.out.act.row hlt;subst ap;replace B0:=B0.mid a5 oZr;replace B1:=B1.mid a5 oZr;replace B2:=B2.mid a5 oZr;replace hm:=hm.trans a5;have aq:Bd<(World.drew wo).heap.size:=oT aO aD.out.act.size;obtain⟨b3,aJ⟩:=aV.out xs (oG aT);have al:=oH aT;have ai:=oH aJ;have bC:(0:Int)<=(k:Int):=by omega
  have bD:(k:Int)<(BA.length:Int):=by omega
  have p0:=B0.cell 0 rfl;have p1:=B0.cell 1 rfl;clear aT aJ HG;go_wp2_with fail;refine wp_region_still_tail 6 oK oK ?_;simp only[List.take_succ_cons,List.take_zero,List.drop_succ_cons,List.drop_zero];change wpStill _ _ (World.drew wo) (fun a'=>wpList _ _ _ _ a' (World.drew wo)) _ _;generalize World.drew wo=wz at aD B0 B1 B2 hm aq a4 aS p0 p1 a5 |-;repeat
   (with_reducible refine wpStill_step (fun K hK=>?_))
   go_simp
   first|(with_reducible refine hK _ ?_)
   clear hK K
  with_reducible refine wpStill_nil ?_
  have aW:=aDy Ad d cd Ak xs ck wz lo hi (hd.mid hm oZl) aS.rsS aK.out aE.out.2 ai.out aQ oO;go_wp2_with fail;with_reducible refine aW.mono ?_
  intro en w6 ad;obtain⟨A7,c7,rfl,ab,aF⟩:=RetI.get ad;replace B0:=B0.mid aF oZr;replace B1:=B1.mid aF oZr;replace B2:=B2.mid aF oZr;replace hm:=hm.trans aF;have ah:=oH ab;have ar:=B2.1;have b7:=aD.out.act.size;have b9:=aGE aK.out aE.out.2 xs;clear p0 p1 a4 ab aS ad aW a5;go_wp2_with (at_builtin;refine aFV rfl _ _ rfl rfl aD.out aF ⟨A7,c7,aAl d xs⟩ ah.out rfl oO ?_;intro A10 ao bE aM a2)
  go_roundw
  case rel=>
   refine⟨k+1,rows++[⟨A7,c7,aAl d xs⟩],A10,ao,oO,by go_num,rfl,oH ?_,oH aM,B0.mid a2,B1.mid a2,B2.mid a2,hm.transNew a2 oL⟩;rw[aAv,HD.out,aGm al.out,List.map_append]
   rfl
  simp[intOf];omega
 obtain rfl:k=BA.length:=by omega
 have hD:=HD.out;rw[List.take_length] at hD;have ax:aAK (BA.map (aAl d))<=BA.length * 4800:=by
  have:=aKy (m:=4800) (BA.map (aAl d)) (fun x hx=>by obtain⟨y, -,rfl⟩:=List.mem_map.1 hx;exact aGE aK.out aE.out.2 y)
  rwa [List.length_map] at this
 have ae:=HG.out.rss;rw[hD] at ae;have hC:=fun W lo hi h=>aMC r A1 (BA.map (aAl d)) c1 W lo hi h (fun x hx=>by obtain⟨y, -,rfl⟩:=List.mem_map.1 hx;exact aMX aK.out aE.out.2 y) (by rw[List.length_map];omega) aw rr rs aC b aj.out;simp only[List.length_map] at hC;have HC:=oH hC;have p0:=B0.cell 0 rfl;have p1:=B0.cell 1 rfl;clear hC hD HD ax;go_wp2_with fail;with_reducible refine(HC.out _ _ _ ae).mono ?_
 rintro en w8 ⟨A8,c8,rfl,b0,aG⟩;replace B0:=B0.mid aG oZr;replace B1:=B1.mid aG oZr;replace B2:=B2.mid aG oZr;replace hm:=hm.trans aG;have aO:=B2.1;have b5:=aG.size;have b6:L<=wo.heap.size:=by have:=HG.out.act.size;omega
 obtain⟨z0,z1,z2⟩:=B2.c3 rfl;have zf:=B2.2.2;clear p0 p1;have am:=oJ w8 #[rr,rs,.slice A8 aC.length c8] 35;have aP:w.heap.size+1+1<w8.heap.size:=aO;obtain⟨q0,q1,q2⟩:=am.c3 rfl;go_wp2_with fail;refine oW (v:=.tuple #[.agg #[rr,rs,.slice A8 aC.length c8],.bool b]) (by simp[results,Tryz.results79,go_sem,z0,z1,z2,zf,q0,q1,q2,aP,World.cell?_alloc_lt]) rfl ⟨A8,c8,rfl,?_,?_⟩
 .refine OG.wide (OG.mid b0 (a:=w.heap.size+2) (b:=w.heap.size+3) ?_ oL) oO (by simp;try omega) oN
  repeat (first|exact Mid.refl _ _ _|refine Mid.trans ?_ (Mid.zero (oE _ _))|refine Mid.stored ?_ _ (by simp;try omega) (by simp;try omega))
 repeat (first|exact hm|refine Mid.trans ?_ (oE _ _)|refine oQ ?_ (by simp;try omega) _)
theorem OSS.rowI{w:World}{lo hi c:Nat}{A:OA}{xss:LL}(h:OSS w lo hi 44 3 A c xss){k:Nat}(hk:k<xss.length) :
  ∃ b a0 A' c' xs,A=some ⟨b,a0,none⟩/\lo<=b/\b<hi/\xss[k]?=some xs/\w.cell? ⟨b,a0+k,none⟩=some (.slice A' xs.length c')/\RV w lo hi A' (aAe xs)/\xs.length<=c':=by
 obtain⟨_,rows,rfl,h2,h3⟩:=h;have a1:k<rows.length:=by rw[aAD] at hk;exact hk
 obtain⟨b,a0,e,hb,a3,hc⟩:=h2.rv.2 (by intro h0;have:=congrArg List.length h0;rw[aCx] at this;simp at this;subst this;simp at a1);obtain⟨r,hr⟩:=aAy rows a1;have a2:=h3.1 r (oG hr);obtain⟨A1,c1,he,hn, -⟩:=aAc a2.2.1;injection he with _ _ hcc
 exact⟨b,a0,r.A,r.c,r.xs,e,hb,a3,by simp[aAt,hr],hc k _ (by simp[aBi,hr,Row.v]),a2.rv,oO⟩
theorem aGq(rank:Int)(w:World)(h:1<=rank/\rank<=3) :
  Calls Tryz.prog 163 #[rank] w fun e w'=>e=.returned (.tuple #[aAJ rank 1 none 0 0,.bool true])/\Mid 0 0 w w':=by
 have a0:Mid 0 0 w (w.alloc (.cells #[(0:Int),(0:Int),.slice none 0 0] 35)):=oE _ _;have b2:=oJ w #[(0:Int),(0:Int),.slice none 0 0] 35;go_enter Tryz.func163,Tryz.ntmps163
 go_wp2_with fail;generalize w.alloc (.cells #[(0:Int),(0:Int),.slice none 0 0] 35)=w1 at a0 b2 |-;have a2:w.heap.size<w1.heap.size:=b2.1;with_reducible refine(aHx rank _ h).mono ?_
 rintro en w2 ⟨rfl,a1⟩;replace b2:=b2.mid a1 oZr;replace a0:=a0.trans a1;obtain⟨z0,z1,z2⟩:=b2.c3 rfl;have zf:=b2.2.2;go_wp2_with fail;refine oW (v:=.tuple #[.agg #[rank,(1:Int),.slice none 0 0],.bool true]) (by simp[results,Tryz.results163,go_sem,z0,z1,z2,zf]) rfl ⟨rfl,?_⟩;repeat (first|exact a0|refine oQ ?_ (by simp;try omega) _)
theorem aNm(r0:Int)(Ad:OA)(d:LL)(cd:Nat)(r s:Int)(A:OA)(es:List Ed)(c:Nat)(w:World)(lo hi ay am:Nat)(hd:RSS w lo hi Ad d)(ao:OkSS d)(b7:d.length+aAK d<=1048576)(hr:RG w ay am A es)(hl:es.length<=1048576)(ak:es.length<=c)(rr rs:Int)(aR:List Ed)(b:Bool)(aK:ImgIs r0 d r s es rr rs aR b) :
  Calls Tryz.prog 78 #[.agg #[.int .i64 r0,.slice Ad d.length cd],aAJ r s A es.length c] w fun e w'=>∃ A1 c1,e=.returned (.tuple #[aAJ rr rs A1 aR.length c1,.bool b])/\OG w' w.heap.size w'.heap.size A1 c1 aR/\Mid 0 0 w w':=by
 have HR:=oH aK;have aO:=oH ao;clear aK ao;have a1:Mid 0 0 w (((w.alloc (.cells #[r0,.slice Ad d.length cd] 76)).alloc (.cells #[r,s,.slice A es.length c] 35)).alloc (.cells #[(0:Int),(0:Int),.slice none 0 0] 35)):=((oE _ _).trans (oE _ _)).trans (oE _ _);have B0:=((oJ w #[r0,.slice Ad d.length cd] 76).mid (oE _ (.cells #[r,s,.slice A es.length c] 35)) oZr).mid (oE _ (.cells #[(0:Int),(0:Int),.slice none 0 0] 35)) oZr;have B1:=(oJ (w.alloc (.cells #[r0,.slice Ad d.length cd] 76)) #[r,s,.slice A es.length c] 35).mid (oE _ (.cells #[(0:Int),(0:Int),.slice none 0 0] 35)) oZr;have B2:=oJ ((w.alloc (.cells #[r0,.slice Ad d.length cd] 76)).alloc (.cells #[r,s,.slice A es.length c] 35)) #[(0:Int),(0:Int),.slice none 0 0] 35;simp only[World.size_alloc] at B1 B2;obtain⟨bm,aj⟩:=aAF (IsMor r0 d);have HM:=oH aj;obtain⟨bf,ai⟩:=aAF (IsCor r s es);have HF:=oH ai;clear aj ai;go_enter Tryz.func78,Tryz.ntmps78
 go_wp2_with fail;generalize hw1:((w.alloc (.cells #[r0,.slice Ad d.length cd] 76)).alloc (.cells #[r,s,.slice A es.length c] 35)).alloc (.cells #[(0:Int),(0:Int),.slice none 0 0] 35)=w1 at a1 B0 B1 B2 |-;have au:w1.heap.size=w.heap.size+1+1+1:=by rw[<- hw1];simp
 have HS:=oH au;clear hw1 au;with_reducible refine(aAs r0 Ad d cd _ _ _ (hd.mid a1 oZl) aO.out b7 bm HM.out).mono ?_
 rintro en w2 ⟨rfl,a9⟩;replace B0:=B0.mid a9 oZr;replace B1:=B1.mid a9 oZr;replace B2:=B2.mid a9 oZr;replace a1:=a1.trans a9;have p0:=B0.cell 0 rfl;have p1:=B0.cell 1 rfl;obtain⟨q0,q1,q2⟩:=B1.c3 rfl;cases bm with
|false=>
  have aC:¬ aJC r0 d r s es:=fun h=>by have:=HM.out.2 h.1;cases this
  obtain⟨rfl,rfl,rfl,rfl⟩:=HR.out.no aC;obtain⟨z0,z1,z2⟩:=B2.c3 rfl;have zf:=B2.2.2;go_wp2_with fail;refine oW (v:=.tuple #[.agg #[(0:Int),(0:Int),.slice none 0 0],.bool false]) (by simp[results,Tryz.results78,go_sem,z0,z1,z2,zf]) rfl ⟨none,0,rfl,OG.nil,?_⟩;repeat (first|exact a1|refine oQ ?_ (by simp;try omega) _)
|true=>
 have a5:=HM.out.1 rfl;have bB:=a9.size;clear a9 HM;go_wp2_with fail;with_reducible refine(aBl r s A es c _ _ _ (hr.mid a1 oZl) hl ak bf HF.out).mono ?_
 rintro en w3 ⟨rfl,aA⟩;replace B0:=B0.mid aA oZr;replace B1:=B1.mid aA oZr;replace B2:=B2.mid aA oZr;replace a1:=a1.trans aA;have bC:=aA.size;clear p0 p1 q0 q1 q2 aA;have p0:=B0.cell 0 rfl;have p1:=B0.cell 1 rfl;obtain⟨q0,q1,q2⟩:=B1.c3 rfl;cases bf with
|false=>
  have aC:¬ aJC r0 d r s es:=fun h=>by have:=HF.out.2 h.2.1;cases this
  obtain⟨rfl,rfl,rfl,rfl⟩:=HR.out.no aC;obtain⟨z0,z1,z2⟩:=B2.c3 rfl;have zf:=B2.2.2;go_wp2_with fail;refine oW (v:=.tuple #[.agg #[(0:Int),(0:Int),.slice none 0 0],.bool false]) (by simp[results,Tryz.results78,go_sem,z0,z1,z2,zf]) rfl ⟨none,0,rfl,OG.nil,?_⟩;repeat (first|exact a1|refine oQ ?_ (by simp;try omega) _)
|true=>
 have a0:=HF.out.1 rfl;clear HF;rcases(Decidable.em (r=r0)).symm with hrk|hrk
 .have aC:¬ aJC r0 d r s es:=fun h=>hrk h.2.2
  obtain⟨rfl,rfl,rfl,rfl⟩:=HR.out.no aC;have bH:(r != r0)=true:=by simpa using hrk
  obtain⟨z0,z1,z2⟩:=B2.c3 rfl;have zf:=B2.2.2;clear hrk a5 a0 aC HR;go_wp2_with fail;refine oW (v:=.tuple #[.agg #[(0:Int),(0:Int),.slice none 0 0],.bool false]) (by simp[results,Tryz.results78,go_sem,z0,z1,z2,zf]) rfl ⟨none,0,rfl,OG.nil,?_⟩;repeat (first|exact a1|refine oQ ?_ (by simp;try omega) _)
 have aT:=HR.out.yes ⟨a5,a0,hrk⟩;subst hrk;obtain⟨r,n,rfl,rfl⟩:=a0.gr.nat;have al:=a0.gr.rank;have bL:=a0.gr.size;have bM:=a0.gr.len;have b5:=aPj a0;have ae:=oH (fun(x:LI) (hx:x∈basA r es)=>aRh a0 hx);have ad:=oH (fun W h=>aOz r n A es c W ay am h ak a0);have b0:=oH a5.2.2.2;have aS:=oH (fun(xs:LI) (hx:xs∈d)=>(b0.out xs hx).2.2.1);have aV:d.length<=1048576:=by omega
 have b1:((r:Int) != (r:Int))=false:=by simp
 clear a0 a5 HR;go_wp2_with fail;with_reducible refine(aGq r _ al).mono ?_
 rintro en w4 ⟨rfl,aB⟩;have bE:=aB.size;clear p0 p1 q0 q1 q2;have aG:=oE w4 (.cells #[r,(1:Int),.slice none 0 0] 35);have Y4:=oJ w4 #[r,(1:Int),.slice none 0 0] 35;replace B0:=B0.mid aB oZr;replace B1:=B1.mid aB oZr;replace B2:=B2.mid aB oZr;replace a1:=a1.trans aB;have b4:w.heap.size+1+1<w4.heap.size:=B2.1;replace B0:=B0.mid aG oZr;replace B1:=B1.mid aG oZr;replace B2:=B2.mid aG oZr;replace a1:=a1.trans aG;obtain⟨q0,q1,q2⟩:=B1.c3 rfl;go_wp2_with fail;generalize w4.alloc (.cells #[r,(1:Int),.slice none 0 0] 35)=w5 at B0 B1 B2 Y4 a1 q0 q1 q2 |-;have av:w4.heap.size<w5.heap.size:=Y4.1;clear aG aB bE;generalize w4.heap.size=Gb at Y4 b4 av |-;with_reducible refine(ad.out _ (hr.mid a1 oZl)).mono ?_
 rintro en w6 ⟨A5,c5,rfl,aY,a8⟩;have aw:=a8.size;clear q0 q1 q2;replace B0:=B0.mid a8 oZr;replace B1:=B1.mid a8 oZr;replace B2:=B2.mid a8 oZr;replace Y4:=Y4.mid a8 oZr;replace a1:=a1.trans a8;clear a8 ad;generalize basA r es=BA at aY ae b5 aT |-;have aP:=oH aT;have a4:=oH aY;clear aT aY;generalize w6.heap.size=Q5 at a4 aw;generalize hQ:w5.heap.size=L5 at a4 aw av;clear hQ;go_wp2_with fail;go_loopw [38] (fun iv wr=>∃(k:Nat) (A2:OA) (c2 an:Nat) (g:Int × List Ed),k<=BA.length/\iv=.int .i64 k/\Hid (joinJ r ((BA.map (aAl d)).take k)=some g)/\OG wr (Gb+1) an A2 c2 g.2/\Hid (OSS wr L5 Q5 44 3 A5 c5 BA) /\
   Box wr w [r,.slice Ad d.length cd]/\Box wr (w.heap.size+1+1) [(0:Int),(0:Int),.slice none 0 0]/\Box wr Gb [r,.int .i64 g.1,.slice A2 g.2.length c2]/\Mid 0 0 w wr) (fun iv _=>BA.length - (intOf iv).toNat)
 case atStart=>exact⟨0,none,0,_,(1,[]),oZ,rfl,oH rfl,OG.nil,a4,B0,B2,Y4,a1⟩
 clear a4 B0 B1 B2 Y4 a1;obtain⟨wo,bF⟩:∃ wo,wo=wr:=⟨_,rfl⟩
 subst bF;obtain⟨k,A2,c2,an,⟨gs,ge⟩,hk,rfl,HGE,a2,a4,B0,Z2,Z3,hm⟩:=hrel;dsimp only at a2 Z3;have bJ:Gb<wo.heap.size:=Z3.1;have b9:=(aLX al HGE.out).len;dsimp only at b9;by_cases hlt:k<BA.length
 .obtain⟨Bd,od,Ak,ck,xs,b2,bK,b3,ab,aH,ar,aU⟩:=a4.out.rowI hlt
  subst b2;have bI:Bd<wo.heap.size:=oT b3 a4.out.size;obtain⟨bG,aL⟩:=ae.out xs (oG ab);have ax:(BA.map (aAl d))[k]?=some (aAl d xs):=by rw[List.getElem?_map,ab];rfl
  have HP:=oH ax;have bN:(0:Int)<=(k:Int):=by omega
  have bO:(k:Int)<(BA.length:Int):=by omega
  have ah:=aDt Ad d cd Ak xs ck wo lo hi (hd.mid hm oZl) ar.rsS aU aS.out aO.out.2 aL aV oO;have b8:=aGE aS.out aO.out.2 xs;have af:=oH (aMX aS.out aO.out.2 xs);have p0:=B0.cell 0 rfl;have p1:=B0.cell 1 rfl;clear ab aL ax;go_wp2_with fail;with_reducible refine ah.mono ?_
  intro en w7 aq;obtain⟨A7,c7,rfl,ap,a6⟩:=RetI.get aq;have aa:=aAz ap;have ag:=oH (a4.out.mid a6 oZl);have bP:=a6.size;clear p0 p1 aH ar aq ah ap a4;replace B0:=B0.mid a6 oZr;replace Z2:=Z2.mid a6 oZr;replace Z3:=Z3.mid a6 oZr;replace a2:=a2.mid a6 oZl;replace hm:=hm.trans a6;clear a6;generalize aAl d xs=x at HP b8 af aa |-;rcases(Decidable.em (x.length<=24)).symm with hp24|hp24
  .have aJ:joinJ r (BA.map (aAl d))=none:=aGe (k:=k+1) (by rw[aDB HP.out,HGE.out,aLt hp24])
   obtain⟨rfl,rfl,rfl,rfl⟩:=aP.out.no aJ;have aZ:(24:Int)<(x.length:Int):=by omega
   clear aJ HGE hp24;obtain⟨z0,z1,z2⟩:=Z2.c3 rfl;have zf:=Z2.2.2;go_wp2_with fail;refine oW (v:=.tuple #[.agg #[(0:Int),(0:Int),.slice none 0 0],.bool false]) (by simp[results,Tryz.results78,go_sem,z0,z1,z2,zf]) rfl ⟨none,0,rfl,OG.nil,?_⟩;repeat (first|exact hm|refine oQ ?_ (by simp;try omega) _)
  have aZ:¬ (24:Int)<(x.length:Int):=by omega
  obtain⟨jr,js,je,jb,aX⟩:=aQY r gs ge x;have aN:=oH aX;have hP:=aLV r gs A2 ge c2 A7 x c7 w7 _ _ _ _ a2.rg aa oO a2.cnt.1 oO af.out jr js je jb aX;clear aX;obtain⟨q0,q1,q2⟩:=Z3.c3 rfl;go_wp2_with fail;with_reducible refine hP.mono ?_
  rintro en aM ⟨A6,c6,rfl,aD,a3⟩;have aE:=oH (ag.out.mid a3 oZl);have bD:=a3.size;clear q0 q1 q2 ag hP aa a2;replace B0:=B0.mid a3 oZr;replace Z2:=Z2.mid a3 oZr;replace Z3:=Z3.mid a3 oZr;replace hm:=hm.trans a3;have a7:=oE aM (.cells #[jr,js,.slice A6 je.length c6] 35);have Zx:=oJ aM #[jr,js,.slice A6 je.length c6] 35;have aF:=oH (aE.out.mid a7 oZl);replace aD:=aD.mid a7 oZl;replace B0:=B0.mid a7 oZr;replace Z2:=Z2.mid a7 oZr;replace Z3:=Z3.mid a7 oZr;replace hm:=hm.trans a7;have bA:Gb+1<=aM.heap.size:=by omega
  clear a7 aE a3;cases jb
  .rcases aN.out with⟨hb0, -, -⟩|⟨-,aI, -⟩
   .cases hb0
   have aJ:joinJ r (BA.map (aAl d))=none:=aGe (k:=k+1) (by rw[aDB HP.out,HGE.out,aGk hp24];exact aI);obtain⟨rfl,rfl,rfl,rfl⟩:=aP.out.no aJ;clear aJ aI aN HGE;obtain⟨z0,z1,z2⟩:=Z2.c3 rfl;have zf:=Z2.2.2;go_wp2_with fail;refine oW (v:=.tuple #[.agg #[(0:Int),(0:Int),.slice none 0 0],.bool false]) (by simp[results,Tryz.results78,go_sem,z0,z1,z2,zf]) rfl ⟨none,0,rfl,OG.nil,?_⟩;repeat (first|exact hm|refine oQ ?_ (by simp;try omega) _)
  obtain⟨aI,rfl⟩:jwA r gs ge x=some (js,je)/\jr=r:=by
   rcases aN.out with⟨-,h1,h2⟩|⟨h1, -⟩
   .exact⟨h1,h2⟩
   cases h1
  have az:Hid (joinJ r ((BA.map (aAl d)).take (k+1))=some (js,je)):=oH (by rw[aDB HP.out,HGE.out,aGk hp24];exact aI);clear aN aI HGE;obtain⟨x0,x1,x2⟩:=Zx.c3 rfl;have xf:=Zx.2.2;obtain⟨q0,q1,q2⟩:=Z3.c3 rfl;have qf:=Z3.2.2;go_wp2_with fail;generalize aM.alloc (.cells #[r,js,.slice A6 je.length c6] 35)=w11 at B0 Z2 Z3 Zx aD aF hm x0 x1 x2 xf q0 q1 q2 qf |-;generalize aM.heap.size=Gz at Zx bA aD x0 x1 x2 xf |-;have aQ:=Mid.s3 w11 Gb r js (.slice A6 je.length c6);have Y7:=Z3.s3 r js (.slice A6 je.length c6);go_roundw
  case rel=>exact⟨k+1,A6,c6,_,(js,je),hlt,by go_num,az,(aD.wide (lo':=Gb+1) oO oN aD.size).mid aQ (Or.inl oN),oH (aF.out.mid aQ),B0.mid aQ,Z2.mid aQ,Y7,hm.n3 Gb oO r js (.slice A6 je.length c6)⟩
  simp[intOf];omega
 obtain rfl:k=BA.length:=by omega
 have aW:=HGE.out;rw[List.take_of_length_le (by rw[List.length_map];exact oN)] at aW;obtain⟨rfl,rfl,rfl,rfl⟩:=aP.out.yes aW;clear aP HGE aW;obtain⟨z0,z1,z2⟩:=Z2.c3 rfl;obtain⟨q0,q1,q2⟩:=Z3.c3 rfl;have zf:=Z2.2.2;have b6:(w.heap.size+1+1 == Gb)=false:=by simp;omega
 go_wp2_with fail;refine oW (v:=.tuple #[.agg #[r,rs,.slice A2 aR.length c2],.bool true]) (by simp[results,Tryz.results78,go_sem,z0,z1,z2,zf,q0,q1,q2]) rfl ⟨A2,c2,rfl,?_,?_⟩
 .refine OG.wide (OG.mid a2 (a:=w.heap.size+2) (b:=w.heap.size+3) ?_ oL) oO (by have:=a2.size;simp;omega) oN
  repeat (first|exact Mid.refl _ _ _|refine Mid.stored ?_ _ (by simp;try omega) (by simp;try omega))
 repeat (first|exact hm|refine oQ ?_ (by simp;try omega) _)
def aHf(r0:Int)(d0:LL)(r1 s1:Int)(d1:List Ed)(rr0 rs0:Int)(res0:List Ed)(res1:Bool):Prop:=ImgIs r0 d0 r1 s1 d1 rr0 rs0 res0 res1
theorem aMK(r0:Int)(d0:LL)(r1 s1:Int)(d1:List Ed)(b0:(Lit.int .i64 r0).wf=true)(o0:OkSS d0)(a0:d0.length+aAK d0<=1048576)(a1:d1.length<=1048576):∃ rr0 rs0 res0 res1,aHf r0 d0 r1 s1 d1 rr0 rs0 res0 res1:=aSJ r0 d0 r1 s1 d1
theorem aLB{r0:Int}{d0:LL}{r1 s1:Int}{d1:List Ed}{rr0 rs0:Int}{res0:List Ed}{res1:Bool}(h:aHf r0 d0 r1 s1 d1 rr0 rs0 res0 res1)(b0:(Lit.int .i64 r0).wf=true)(o0:OkSS d0)(a0:d0.length+aAK d0<=1048576)(a1:d1.length<=1048576):res0.length<=1048576:=by
 have:=ImgIs.lens h;omega
theorem aMF(r0:Int)(A0:OA)(d0:LL)(c0:Nat)(r1 s1:Int)(A1:OA)(d1:List Ed)(c1:Nat)(w:World)(a6 a4:Nat)(h0:OSS w a6 a4 44 3 A0 c0 d0)(b0:(Lit.int .i64 r0).wf=true)(o0:OkSS d0)(a8:d0.length+aAK d0<=1048576)(a7 a5:Nat)(h1:OG w a7 a5 A1 c1 d1)(a9:d1.length<=1048576)(a2 a3:Int)(a0:List Ed)(a1:Bool)(h:aHf r0 d0 r1 s1 d1 a2 a3 a0 a1) :
  Calls Tryz.prog 79 #[.agg #[.int .i64 r0,.slice A0 d0.length c0],.agg #[.int .i64 r1,.int .i64 s1,.slice A1 d1.length c1]] w fun e w'=>∃(A:OA) (c:Nat),e=.returned (.tuple #[.agg #[.int .i64 a2,.int .i64 a3,.slice A a0.length c],.bool a1])/\OG w' w.heap.size w'.heap.size A c a0/\Mid 0 0 w w':=
 aNQ r0 A0 d0 c0 r1 s1 A1 d1 c1 w a6 a4 a7 a5 h0.rss o0 a8 h1.rg a9 a2 a3 a0 a1 h
theorem aMu(r0:Int)(A0:OA)(d0:LL)(c0:Nat)(r1 s1:Int)(A1:OA)(d1:List Ed)(c1:Nat)(w:World)(a6 a4:Nat)(h0:OSS w a6 a4 44 3 A0 c0 d0)(b0:(Lit.int .i64 r0).wf=true)(o0:OkSS d0)(a8:d0.length+aAK d0<=1048576)(a7 a5:Nat)(h1:OG w a7 a5 A1 c1 d1)(a9:d1.length<=1048576)(a2 a3:Int)(a0:List Ed)(a1:Bool)(h:aHf r0 d0 r1 s1 d1 a2 a3 a0 a1) :
  Calls Tryz.prog 78 #[.agg #[.int .i64 r0,.slice A0 d0.length c0],.agg #[.int .i64 r1,.int .i64 s1,.slice A1 d1.length c1]] w fun e w'=>∃(A:OA) (c:Nat),e=.returned (.tuple #[.agg #[.int .i64 a2,.int .i64 a3,.slice A a0.length c],.bool a1])/\OG w' w.heap.size w'.heap.size A c a0/\Mid 0 0 w w':=
 aNm r0 A0 d0 c0 r1 s1 A1 d1 c1 w a6 a4 a7 a5 h0.rss o0 a8 h1.rg a9 h1.cnt.1 a2 a3 a0 a1 h
def aPe(x:Int):Prop:=x=1 \/ x=2 \/ x=3 \/ x = -1 \/ x = -2 \/ x = -3
theorem aUw{rk x:Int}(h3:rk<=3)(h:x≠0/\-rk<=x/\x<=rk):aPe x:=by unfold aPe;omega
def aOf(x:Int):List UInt8:=if x=1 then[97] else if x=2 then[98] else if x=3 then[99] else if x = -1 then[65] else if x = -2 then[66] else[67]
theorem aET(x:Int):(aOf x).length=1:=by
 unfold aOf;repeat (first|rfl|split)
def aHp(l:LI):List UInt8:=(l.map aOf).flatten
def aPx(l:LI):List UInt8:=if l=[] then[49] else aHp l
theorem aHq(l:LI):(aHp l).length=l.length:=by
 induction l with
|nil=>rfl
|cons x t ih=>
  have h:aHp (x::t)=aOf x++aHp t:=by simp[aHp]
  rw[h,List.length_append,aET,ih,List.length_cons];omega
theorem aLO{l:LI}(h:l.length<=24):(aPx l).length<=24:=by
 unfold aPx;split
 .simp
 rw[aHq];exact h
theorem aLd{l:LI}{k:Nat}{x:Int}(h:l[k]?=some x):aHp (l.take (k+1))=aHp (l.take k)++aOf x:=by
 obtain⟨h1,rfl⟩:=List.getElem?_eq_some_iff.1 h;rw[List.take_succ_eq_append_getElem h1];unfold aHp;rw[List.map_append,List.flatten_append];simp only[List.map_cons,List.map_nil,List.flatten_cons,List.flatten_nil,List.append_nil]
def aBf(d:LL)(k:Nat):List (List UInt8):=(List.range k).map fun(i:Nat)=>aOf ((i:Int)+1)++[62]++aPx (d.getD i [])
theorem aEf(d:LL)(k:Nat):(aBf d k).length=k:=by simp[aBf]
theorem aHB{d:LL}{k:Nat}{xs:LI}(h:d[k]?=some xs):aBf d (k+1)=aBf d k++[aOf ((k:Int)+1)++[62]++aPx xs]:=by
 simp[aBf,List.range_succ,List.getD,h]
theorem aLg{d:LL}(h:∀ xs∈d,xs.length<=24)(k:Nat):∀ x∈aBf d k,x.length<=26:=by
 intro x hx;obtain⟨i,hi,rfl⟩:=List.mem_map.1 hx;have h1:(d.getD i []).length<=24:=by
  rw[List.getD];cases hd:d[i]? with
 |none=>simp
 |some xs=>exact h xs (oG hd)
 have h2:=aLO h1;simp only[List.length_append,aET,List.length_cons,List.length_nil];omega
theorem aNt{d:LL}{k:Nat}{xs:LI}(h:d[k]?=some xs):aLE [32] (aBf d (k+1))=(if k=0 then[] else aLE [32] (aBf d k)++[32])++(aOf ((k:Int)+1)++[62]++aPx xs):=by
 rw[aHB h,aML];by_cases h0:k=0
 .subst h0
  simp[aBf]
 rw[if_neg h0,if_neg];intro h;have:=congrArg List.length h;rw[aEf,List.length_nil] at this;exact h0 this
def aNb(d:LL):List UInt8:=aNi [32] [] (aBf d d.length)
theorem aQv{d:LL}(h:0<d.length):aNb d=aLE [32] (aBf d d.length):=by
 unfold aNb aNi;rw[if_neg];intro h2;have:=congrArg List.length h2;rw[aEf,List.length_nil] at this;omega
theorem aFb{x lo hi:Int}{b:Bool}(h:inB x lo hi=b)(W:World):Calls Tryz.prog 108 #[x,lo,hi] W fun e w'=>e=.returned (.bool b)/\W=w':=h ▸ aAu x lo hi W
theorem aVI{x lo hi:Int}{b:Bool}(h:inB x lo hi=b)(W:World):Calls Tryz.prog 102 #[x,lo,hi] W fun e w'=>e=.returned (.bool b)/\W=w':=h ▸ aBw x lo hi W
theorem aFF(x:Int)(w:World)(hx:aPe x) :
  Calls Tryz.prog 171 #[x] w fun e w'=>e=.returned (.string (str (aOf x)))/\Mid 0 0 w w':=by
 rcases hx with rfl|rfl|rfl|rfl|rfl|rfl
 focus
  go_enter Tryz.func171,Tryz.ntmps171
  go_wp2_with fail;with_reducible refine(aFb (show inB 1 1 3=true from rfl) _).mono ?_
 rotate_left
 focus
  go_enter Tryz.func171,Tryz.ntmps171
  go_wp2_with fail;with_reducible refine(aFb (show inB 2 1 3=true from rfl) _).mono ?_
 rotate_left
 focus
  go_enter Tryz.func171,Tryz.ntmps171
  go_wp2_with fail;with_reducible refine(aFb (show inB 3 1 3=true from rfl) _).mono ?_
 rotate_left
 focus
  go_enter Tryz.func171,Tryz.ntmps171
  go_wp2_with fail;with_reducible refine(aFb (show inB (-1) 1 3=false from rfl) _).mono ?_
  rintro en w1 ⟨rfl,rfl⟩;go_wp2_with fail;with_reducible refine(aFb (show inB (-1) (-3) (-1)=true from rfl) _).mono ?_
 rotate_left
 focus
  go_enter Tryz.func171,Tryz.ntmps171
  go_wp2_with fail;with_reducible refine(aFb (show inB (-2) 1 3=false from rfl) _).mono ?_
  rintro en w1 ⟨rfl,rfl⟩;go_wp2_with fail;with_reducible refine(aFb (show inB (-2) (-3) (-1)=true from rfl) _).mono ?_
 rotate_left
 focus
  go_enter Tryz.func171,Tryz.ntmps171
  go_wp2_with fail;with_reducible refine(aFb (show inB (-3) 1 3=false from rfl) _).mono ?_
  rintro en w1 ⟨rfl,rfl⟩;go_wp2_with fail;with_reducible refine(aFb (show inB (-3) (-3) (-1)=true from rfl) _).mono ?_
 rotate_left
 all_goals
  rintro en w1 ⟨rfl,rfl⟩;go_wp2_with fail;go_ret;exact⟨by rfl,Mid.refl _ _ _⟩
theorem aKw(x:Int)(w:World)(hx:aPe x) :
  Calls Tryz.prog 173 #[x] w fun e w'=>e=.returned (.string (str (aOf x)))/\Mid 0 0 w w':=by
 rcases hx with rfl|rfl|rfl|rfl|rfl|rfl
 .go_enter Tryz.func173,Tryz.ntmps173
  go_wp2_with fail;go_ret;exact⟨by rfl,oE _ _⟩
 .go_enter Tryz.func173,Tryz.ntmps173
  go_wp2_with fail;go_ret;exact⟨by rfl,oE _ _⟩
 .go_enter Tryz.func173,Tryz.ntmps173
  go_wp2_with fail;go_ret;exact⟨by rfl,oE _ _⟩
 .go_enter Tryz.func173,Tryz.ntmps173
  go_wp2_with fail;go_ret;exact⟨by rfl,oE _ _⟩
 .go_enter Tryz.func173,Tryz.ntmps173
  go_wp2_with fail;go_ret;exact⟨by rfl,oE _ _⟩
 go_enter Tryz.func173,Tryz.ntmps173
 go_wp2_with fail;go_ret;exact⟨by rfl,oE _ _⟩
theorem aMD(x:Int)(w:World)(hx:aPe x) :
  Calls Tryz.prog 229 #[x] w fun e w'=>e=.returned (.bool true)/\Mid 0 0 w w':=by
 have h1:(x != 0)=true:=by unfold aPe at hx;simp;omega
 have h2:inB x (-3) 3=true:=by unfold inB aPe at *;simp;omega
 go_enter Tryz.func229,Tryz.ntmps229
 go_wp2_with fail;with_reducible refine(aVI h2 _).mono ?_
 rintro en w1 ⟨rfl,rfl⟩;go_wp2_with fail;go_ret;exact⟨rfl,Mid.refl _ _ _⟩
theorem aUx(x:Int):(str (aOf x)).toList.isEmpty=false:=by
 rw[ByteArray.toList_mk,List.isEmpty_eq_false_iff];intro h;have:=congrArg List.length h;rw[aET] at this;simp at this
theorem aTU{w:World}{lo hi:Nat}{A:OA}{xs:LI}(h:RV w lo hi A (aAe xs)){k:Nat}(hk:k<xs.length) :
  ∃ b a0 x,A=some ⟨b,a0,none⟩/\b<w.heap.size/\xs[k]?=some x/\w.cell? ⟨b,a0+k,none⟩=some (.int .i64 x):=by
 obtain⟨b,a0,x,hA,hb,hx,hc⟩:=h.rsS.int hk;exact⟨b,a0,x,hA,hb,hx,hc⟩
theorem aJW(A:OA)(l:LI)(c:Nat)(w:World)(lo hi:Nat)(hr:RV w lo hi A (aAe l))(hl:l.length<=24)(hx:∀ x∈l,aPe x) :
  Calls Tryz.prog 172 #[.slice A l.length c] w fun e w'=>e=.returned (.string (str (aPx l)))/\Mid 0 0 w w':=by
 have HX:=oH hx;clear hx;rcases Nat.eq_zero_or_pos l.length with h0|h0
 .have a3:=List.eq_nil_of_length_eq_zero h0
  subst a3;go_enter Tryz.func172,Tryz.ntmps172
  go_wp2_with fail;go_ret;exact⟨by rfl,Mid.refl _ _ _⟩
 have hz:((l.length:Int) == 0)=false:=beq_eq_false_iff_ne.2 oO;have a5:Hid ((⟨#[]⟩:ByteArray)=str (aHp (l.take 0))):=oH rfl;go_enter Tryz.func172,Tryz.ntmps172
 go_wp2_with fail;go_loopw [3,12] (fun sv kv wr=>∃(k:Nat) (s:ByteArray),kv=.int .i64 k/\sv=.string s/\k<=l.length/\Hid (s=str (aHp (l.take k)))/\Mid 0 0 w wr) (fun _ kv _=>l.length - (intOf kv).toNat)
 case atStart=>exact⟨0,⟨#[]⟩,rfl,rfl,oZ,a5,Mid.refl _ _ _⟩
 clear a5;obtain⟨wo,aA⟩:∃ wo,wo=wr:=⟨_,rfl⟩
 subst aA;obtain⟨k,s,rfl,rfl,hk,HS,hm⟩:=hrel;have aD:s.size<=24:=by rw[HS.out,aCA,aHq,List.length_take];omega
 by_cases hlt:k<l.length
 .obtain⟨b,aG,x,rfl,hb,a4,hc⟩:=aTU (hr.mid hm oZl) hlt
  have aB:(0:Int)<=(k:Int):=by omega
  have aC:(k:Int)<(l.length:Int):=by omega
  have h3:=HX.out x (oG a4);obtain⟨tb,a1⟩:∃ s,s=str (aOf x):=⟨_,rfl⟩
  have hT:=fun W=>aFF x W h3;have a7:=aUx x;rw[<- a1] at hT a7;have aE:tb.size<=1:=by rw[a1,aCA,aET];exact oN
  have aF:s.size+tb.size<=9223372036854775807:=by omega
  have a6:Hid (s++tb=str (aHp (l.take (k+1)))):=oH (by rw[HS.out,a1,aLd a4,aFa]);clear a1 a4;go_wp2_with fail;with_reducible refine(hT _).mono ?_
  rintro en w4 ⟨rfl,a8⟩;have a9:=hm.trans a8;go_wp2_with fail;go_roundw
  case rel=>exact⟨k+1,s++tb,by go_num,rfl,oO,a6,a9⟩
  simp[intOf];omega
 obtain rfl:k=l.length:=by omega
 have a0:s=str (aPx l):=by
  rw[HS.out,List.take_length,aPx,if_neg];intro h;rw[h] at h0;simp at h0
 have a2:=oH a0;clear a0;go_wp2_with fail;go_ret;exact⟨by rw[<- a2.out];rfl,hm⟩
theorem aKs(A:OA)(l:LI)(c:Nat)(w:World)(lo hi:Nat)(hr:RV w lo hi A (aAe l))(hl:l.length<=24)(hx:∀ x∈l,aPe x) :
  Calls Tryz.prog 174 #[.slice A l.length c] w fun e w'=>e=.returned (.string (str (aPx l)))/\Mid 0 0 w w':=by
 have HX:=oH hx;clear hx;have a5:Hid ((⟨#[]⟩:ByteArray)=str (aHp (l.take 0))):=oH rfl;go_enter Tryz.func174,Tryz.ntmps174
 go_wp2_with fail;go_loopw [3,4] (fun sv kv wr=>∃(k:Nat) (s:ByteArray),kv=.int .i64 k/\sv=.string s/\k<=l.length/\Hid (s=str (aHp (l.take k)))/\Mid 0 0 w wr) (fun _ kv _=>l.length - (intOf kv).toNat)
 case atStart=>exact⟨0,⟨#[]⟩,rfl,rfl,oZ,a5,Mid.refl _ _ _⟩
 clear a5;obtain⟨wo,aB⟩:∃ wo,wo=wr:=⟨_,rfl⟩
 subst aB;obtain⟨k,s,rfl,rfl,hk,HS,hm⟩:=hrel;have aF:s.size<=24:=by rw[HS.out,aCA,aHq,List.length_take];omega
 by_cases hlt:k<l.length
 .obtain⟨b,aI,x,rfl,hb,a4,hc⟩:=aTU (hr.mid hm oZl) hlt
  have aD:(0:Int)<=(k:Int):=by omega
  have aE:(k:Int)<(l.length:Int):=by omega
  have h3:=HX.out x (oG a4);obtain⟨tb,a1⟩:∃ s,s=str (aOf x):=⟨_,rfl⟩
  have hT:=fun W=>aKw x W h3;have hL:=fun W=>aMD x W h3;rw[<- a1] at hT;have aG:tb.size<=1:=by rw[a1,aCA,aET];exact oN
  have aH:s.size+tb.size<=9223372036854775807:=by omega
  have a7:Hid (s++tb=str (aHp (l.take (k+1)))):=oH (by rw[HS.out,a1,aLd a4,aFa]);clear a1 a4;go_wp2_with fail;with_reducible refine(hL _).mono ?_
  rintro en w3 ⟨rfl,a6⟩;have aC:=aAa a6 hb oZr hc;have a3:=hm.trans a6;clear hm hc;go_wp2_with fail;with_reducible refine(hT _).mono ?_
  rintro en w4 ⟨rfl,a8⟩;have a9:=a3.trans a8;go_wp2_with fail;go_roundw
  case rel=>exact⟨k+1,s++tb,by go_num,rfl,oO,a7,a9⟩
  simp[intOf];omega
 obtain rfl:k=l.length:=by omega
 by_cases hnil:l=[]
 .subst hnil
  have aA:s=⟨#[]⟩:=HS.out;subst aA;clear HS;go_wp2_with fail;go_ret;exact⟨by rfl,hm⟩
 have hs:=HS.out;rw[List.take_length] at hs;have hb:s.toList.isEmpty=false:=by
  rw[hs,ByteArray.toList_mk,List.isEmpty_eq_false_iff];intro h;have:=congrArg List.length h;rw[aHq,List.length_nil] at this;exact hnil (List.eq_nil_of_length_eq_zero this)
 have a0:s=str (aPx l):=by rw[hs,aPx,if_neg hnil]
 have a2:=oH a0;clear a0 hs HS;go_wp2_with fail;go_ret;exact⟨by rw[<- a2.out];rfl,hm⟩
def FormatMorphismIs(rk:Int)(d:LL)(res:ByteArray):Prop:=(IsMor rk d/\res=str (aNb d)) \/ (¬ IsMor rk d/\res=⟨#[]⟩)
theorem aGC(rk:Int)(d:LL)(b0:(Lit.int .i64 rk).wf=true)(o0:OkSS d)(a0:d.length+aAK d<=1048576):∃ res,FormatMorphismIs rk d res:=by
 by_cases h:IsMor rk d
 .exact⟨_,.inl ⟨h,rfl⟩⟩
 exact⟨_,.inr ⟨h,rfl⟩⟩
theorem FormatMorphismIs.no{rk:Int}{d:LL}{res:ByteArray}(h:FormatMorphismIs rk d res)(hn:¬ IsMor rk d):res=⟨#[]⟩:=by
 rcases h with⟨h, -⟩|⟨-,h⟩
 .exact absurd h hn
 exact h
theorem FormatMorphismIs.yes{rk:Int}{d:LL}{res:ByteArray}(h:FormatMorphismIs rk d res)(hn:IsMor rk d):res=str (aNb d):=by
 rcases h with⟨-,h⟩|⟨h, -⟩
 .exact h
 exact absurd hn h
theorem IsMor.let{rk:Int}{d:LL}(h:IsMor rk d){xs:LI}(hx:xs∈d):xs.length<=24/\∀ x∈xs,aPe x:=by
 have h1:=h.2.2.2 xs hx;exact⟨h1.2.2.1,fun x hx=>aUw h.2.1 (h1.2.2.2.1 x hx)⟩
theorem aVe(P:Prop):∃ b:Bool,b=true↔P:=by
 by_cases h:P
 .exact⟨true,oX rfl h⟩
 exact⟨false,iff_of_false Bool.false_ne_true h⟩
theorem aGK(rk:Int)(A:OA)(d:LL)(c:Nat)(w:World)(lo hi:Nat)(hr:RSS w lo hi A d)(aP:OkSS d)(hl:d.length+aAK d<=1048576)(aS:ByteArray)(a4:FormatMorphismIs rk d aS) :
  Calls Tryz.prog 87 #[.agg #[rk,.slice A d.length c]] w fun e w'=>e=.returned (.string aS)/\Mid 0 0 w w':=by
 have HR:=oH a4;have aV:=oH aP;clear a4 aP;obtain⟨b1,aF⟩:=aVe (IsMor rk d);have H1:=oH aF;have aL:=fun W h=>aAs rk A d c W lo hi h aV.out hl b1 aF;have aI:=oH aL;clear aF aL;have a0:Mid 0 0 w (w.alloc (.cells #[rk,.slice A d.length c] 76)):=oE _ _;have B0:=oJ w #[rk,.slice A d.length c] 76;have p0:=B0.cell 0 rfl;have p1:=B0.cell 1 rfl;go_enter Tryz.func87,Tryz.ntmps87
 go_wp2_with fail;generalize w.alloc (.cells #[rk,.slice A d.length c] 76)=w1 at a0 B0 p0 p1 |-;have an:w.heap.size<w1.heap.size:=B0.1;with_reducible refine(aI.out _ (hr.mid a0 oZl)).mono ?_
 rintro en w2 ⟨rfl,a9⟩;clear p0 p1;replace B0:=B0.mid a9 oZr;replace a0:=a0.trans a9;have ae:=a9.size;clear a9;cases b1 with
|false=>
  obtain rfl:=HR.out.no fun h=>by have:=H1.out.2 h;cases this
  go_wp2_with fail;go_ret;exact⟨rfl,a0⟩
|true=>
 have F1:=oH (H1.out.1 rfl);have aQ:=HR.out.yes F1.out;have aj:d.length<=3:=by have h1:=F1.out.2.2.1;have h2:=F1.out.2.1;omega
 have ai:0<d.length:=by have h1:=F1.out.2.2.1;have h2:=F1.out.1;omega
 have ad:(d.length:Int)=rk:=F1.out.2.2.1;have aE:=oH aQ;clear H1 aI HR aQ;have O0:=aAd w2 9 1;have a2:=oE w2 (.cells #[] 9);have p0:=B0.cell 0 rfl;have p1:=B0.cell 1 rfl;replace B0:=B0.mid a2 oZr;replace a0:=a0.trans a2;clear p0 p1;have p0:=B0.cell 0 rfl;have p1:=B0.cell 1 rfl;go_wp2_with fail;generalize w2.alloc (.cells #[] 9)=w3 at O0 a0 B0 p0 p1 a2 |-;have aH:=a2.size;have a6:Hid (w3.ownsRow w2 9 1 (.slice (some ⟨w2,0,none⟩) 0 0) 0 (aOg (aBf d 0))):=oH O0;clear O0 a2 p0 p1;generalize (some (⟨w2,0,none⟩:Addr))=A0 at a6 |-;generalize w2.heap.size=base at a6 ae aH;go_loopw [3,13] (fun ov kv wr=>∃(k:Nat) (A1:OA) (c1:Nat),kv=.int .i64 k/\ov=.slice A1 k c1/\k<=d.length/\Hid (wr.ownsRow base 9 1 (.slice A1 k c1) k (aOg (aBf d k)))/\base<=wr.heap.size/\Mid 0 0 w wr) (fun _ kv _=>d.length - (intOf kv).toNat)
 case atStart=>exact⟨0,A0,0,rfl,rfl,oZ,a6,aH,a0⟩
 clear a6 a0 aH B0;obtain⟨wo,af⟩:∃ wo,wo=wr:=⟨_,rfl⟩
 subst af;obtain⟨k,A1,c1,rfl,rfl,hk,HO,aM,hm⟩:=hrel;by_cases hlt:k<d.length
 .obtain⟨b,aw,Aw,cw,xs,hA, -,aY,aG,aa,aC⟩:=(hr.mid hm oZl).row hlt
  subst hA;have ah:b<wo.heap.size:=oT aY (oV hr.size hm.size);obtain⟨aR,ag⟩:=F1.out.let (oG aG);have aT:=oH aG;have al:(0:Int)<=(k:Int):=by omega
  have am:(k:Int)<(d.length:Int):=by omega
  have aW:aPe ((k:Int)+1):=by unfold aPe;omega
  obtain⟨tb,aD⟩:∃ s,s=str (aOf ((k:Int)+1)):=⟨_,rfl⟩
  obtain⟨fb,a7⟩:∃ s,s=str (aPx xs):=⟨_,rfl⟩
  have ar:tb.size=1:=by rw[aD,aCA,aET]
  have ak:fb.size<=24:=by rw[a7,aCA];exact aLO aR
  have aZ:(⟨#[62]⟩:ByteArray).size=1:=rfl;have hT:=fun W=>aFF ((k:Int)+1) W aW;have hF:=fun W h=>aJW Aw xs cw W lo hi h aR ag;rw[<- aD] at hT;rw[<- a7] at hF;have au:tb.size+(⟨#[62]⟩:ByteArray).size<=9223372036854775807:=by omega
  have av:(tb++(⟨#[62]⟩:ByteArray)).size+fb.size<=9223372036854775807:=by simp only[ByteArray.size_append];omega
  have HU:Hid (tb++(⟨#[62]⟩:ByteArray)++fb=str (aOf ((k:Int)+1)++[62]++aPx xs)):=oH (by
   rw[aD,a7]
   show str _++str [62]++str _=_
   rw[aFa,aFa])
  clear aD a7 aG;go_wp2_with fail;with_reducible refine(hT _).mono ?_
  rintro en w4 ⟨rfl,a3⟩;have aJ:=oH (aAb HO.out a3 oZl);have a5:=aC.mid a3 oZl;have ao:=a3.size;have aA:=hm.trans a3;clear HO hm aC a3 aa;go_wp2_with fail;with_reducible refine(hF _ a5).mono ?_
  rintro en w6 ⟨rfl,aB⟩;have aK:=oH (aAb aJ.out aB oZl);have ap:=aB.size;have aN:=aA.trans aB;clear aJ aA aB a5;go_wp2_with (at_builtin;refine MarkerS.to ?_)
  unfold MarkerS;refine aKT rfl _ _ rfl base A1 k c1 _ rfl aK.out _ _ HU.out rfl oO oO ?_;intro A8 c8 w8 aO a1;have aU:Hid (w8.ownsRow base 9 1 (.slice A8 (k+1) c8) (k+1) (aOg (aBf d (k+1)))):=oH (by rw[aHB aT.out];exact aO);have aq:=a1.size;have ab:=aN.transNew a1 oL;clear aO a1 aK aN HU;go_wp2_with fail;go_roundw
  case rel=>exact⟨k+1,A8,c8,by go_num,rfl,oO,aU,oO,ab⟩
  simp[intOf];omega
 obtain rfl:k=d.length:=by omega
 have ho:=HO.out;have a8:=aEf d d.length;obtain⟨L,hL⟩:∃ L,aBf d d.length=L:=⟨_,rfl⟩
 rw[hL] at ho a8;have aX:∀ x∈L,x.length<=1000:=by
  intro x hx;rw[<- hL] at hx;have:=aLg (fun xs hxs=>(F1.out.let hxs).1) _ x hx;omega
 have hG:=fun W h=>aQz A1 L c1 [32] [] W base wo h oO (by rw[a8];exact aHJ ho) aX oM;rw[a8] at hG;have aC:=OV.rv (⟨oN,ho,fun g hg=>(ho.lt g hg).2⟩:OV wo base wo 9 1 A1 c1 d.length (aOg L));have HL:=oH hL;clear HO ho a8 hL;go_wp2_with fail;with_reducible refine(hG _ aC).mono ?_
 rintro en w5 ⟨rfl,aA⟩;go_wp2_with fail;go_ret;exact⟨by rw[aE.out,aNb,HL.out];rfl,hm.trans aA⟩
theorem aGX(rk:Int)(A:OA)(d:LL)(c:Nat)(w:World)(lo hi:Nat)(hr:RSS w lo hi A d)(aN:OkSS d)(hl:d.length+aAK d<=1048576)(aI:ByteArray)(a2:FormatMorphismIs rk d aI) :
  Calls Tryz.prog 88 #[.agg #[rk,.slice A d.length c]] w fun e w'=>e=.returned (.string aI)/\Mid 0 0 w w':=by
 have HR:=oH a2;have aR:=oH aN;clear a2 aN;obtain⟨b1,aF⟩:=aVe (IsMor rk d);have H1:=oH aF;have aL:=fun W h=>aAq rk A d c W lo hi h aR.out hl b1 aF;have aJ:=oH aL;clear aF aL;have a5:Mid 0 0 w (w.alloc (.cells #[rk,.slice A d.length c] 76)):=oE _ _;have B0:=oJ w #[rk,.slice A d.length c] 76;have p0:=B0.cell 0 rfl;have p1:=B0.cell 1 rfl;go_enter Tryz.func88,Tryz.ntmps88
 go_wp2_with fail;generalize w.alloc (.cells #[rk,.slice A d.length c] 76)=w1 at a5 B0 p0 p1 |-;have am:w.heap.size<w1.heap.size:=B0.1;with_reducible refine(aJ.out _ (hr.mid a5 oZl)).mono ?_
 rintro en w2 ⟨rfl,aC⟩;clear p0 p1;replace B0:=B0.mid aC oZr;replace a5:=a5.trans aC;have an:=aC.size;clear aC;cases b1 with
|false=>
  obtain rfl:=HR.out.no fun h=>by have:=H1.out.2 h;cases this
  go_wp2_with fail;go_ret;exact⟨rfl,a5⟩
|true=>
 have F1:=oH (H1.out.1 rfl);have aO:=HR.out.yes F1.out;have ai:d.length<=3:=by have h1:=F1.out.2.2.1;have h2:=F1.out.2.1;omega
 have aY:0<d.length:=by have h1:=F1.out.2.2.1;have h2:=F1.out.1;omega
 have aH:(d.length:Int)=rk:=F1.out.2.2.1;have aE:=oH aO;clear H1 aJ HR aO;subst aH;have aK:Hid ((⟨#[]⟩:ByteArray)=str (aLE [32] (aBf d 0))):=oH rfl;go_wp2_with fail;go_loopw [3,4] (fun sv kv wr=>∃(k:Nat) (s:ByteArray),kv=.int .i64 k/\sv=.string s/\k<=d.length/\Hid (s=str (aLE [32] (aBf d k)))/\Box wr w.heap.size [.int .i64 d.length,.slice A d.length c]/\Mid 0 0 w wr) (fun _ kv _=>d.length - (intOf kv).toNat)
 case atStart=>exact⟨0,⟨#[]⟩,rfl,rfl,oZ,aK,B0,a5⟩
 clear aK a5 B0;obtain⟨wo,aa⟩:∃ wo,wo=wr:=⟨_,rfl⟩
 subst aa;obtain⟨k,s,rfl,rfl,hk,HS,B0,hm⟩:=hrel;have ao:s.size<=1000:=by
  rw[HS.out,aCA];have h1:=aPf [32] 26 (aBf d k) (aLg (fun xs hxs=>(F1.out.let hxs).1) k);rw[aEf] at h1;have h2:k * (26+[(32:UInt8)].length)<=3 * 27:=Nat.mul_le_mul oO oN;omega
 have p0:=B0.cell 0 rfl;have p1:=B0.cell 1 rfl;by_cases hlt:k<d.length
 .obtain⟨b,ar,Aw,cw,xs,hA, -,aT,aA,aM,aP⟩:=(hr.mid hm oZl).row hlt
  subst hA;have aU:b<wo.heap.size:=oT aT (oV hr.size hm.size);obtain⟨aQ,ab⟩:=F1.out.let (oG aA);have ah:=oH aA;have ak:(0:Int)<=(k:Int):=by omega
  have al:(k:Int)<(d.length:Int):=by omega
  have aS:aPe ((k:Int)+1):=by unfold aPe;omega
  obtain⟨tb,aD⟩:∃ s,s=str (aOf ((k:Int)+1)):=⟨_,rfl⟩
  obtain⟨fb,aB⟩:∃ s,s=str (aPx xs):=⟨_,rfl⟩
  have ap:tb.size=1:=by rw[aD,aCA,aET]
  have aj:fb.size<=24:=by rw[aB,aCA];exact aLO aQ
  have aX:(⟨#[62]⟩:ByteArray).size=1:=rfl;have hT:=fun W=>aKw ((k:Int)+1) W aS;have hF:=fun W h=>aKs Aw xs cw W lo hi h aQ ab;rw[<- aD] at hT;rw[<- aB] at hF;have a9:∀ m os,Calls Tryz.prog 174 #[.slice Aw xs.length cw] (wg wo m os) fun e w'=>e=.returned (.string fb)/\Mid 0 0 (wg wo m os) w':=fun m os=>hF _ (aP.mid (Mid.ofWg wo m os) oZl);have aq:IntKind.i64.wrap ((k:Int)+1)=(k:Int)+1:=oI _;have aV:w.heap.size<wo.heap.size:=B0.1;have r1:=aAf aV p1;have r2:=aAf aU aM;obtain⟨pre,a0⟩:∃ pre:List UInt8,pre=if k=0 then[] else aLE [32] (aBf d k)++[32]:=⟨_,rfl⟩
  have a4:=aNt aA;rw[<- a0] at a4;have a1:=oH a4;have a8:=oH aD;have a7:=oH aB;clear aD aB aA a4 aM hF aP;by_cases hz:k=0
  .have a6:Hid (s=str pre):=oH (by rw[HS.out,a0,if_pos hz];subst hz;rfl)
   have dk:decide ((0:Int)<(k:Int))=false:=by simp;omega
   have aZ:¬ (0:Int)<(k:Int):=by omega
   clear a0 hz;have ad:(s).size+tb.size<=9223372036854775807:=by first|omega|(simp only[ByteArray.size_append];omega)
   have ae:(s++tb).size+(⟨#[62]⟩:ByteArray).size<=9223372036854775807:=by simp only[ByteArray.size_append];omega
   have af:(s++tb++(⟨#[62]⟩:ByteArray)).size+fb.size<=9223372036854775807:=by simp only[ByteArray.size_append];omega
   have HU:Hid (s++tb++(⟨#[62]⟩:ByteArray)++fb=str (aLE [32] (aBf d (k+1)))):=oH (by
    rw[a1.out,a6.out,a8.out,a7.out]
    show str pre++str _++str [62]++str _=_
    simp only[aFa,List.append_assoc])
   clear a1 a8 a7 HS a6;go_wp2_with fail;refine wqg ?_;repeat
    (with_reducible refine wpQuiet_step (fun K hK=>?_))
    go_simp
    first|(with_reducible refine hK _ ?_)|(rw[if_neg oD];(with_reducible refine hK _ ?_))|(apply Exists.intro;refine⟨fun _=>?_,hK _ ?_⟩;(rw[if_neg oO];exact⟨rfl,rfl⟩))|(apply Exists.intro;refine⟨fun _=>?_,hK _ ?_⟩;(((first|(go_at_call 173;with_reducible exact Calls.wg_of (hT _))|(go_at_call 174;exact Calls.wg_of (a9 _ _))))))
    clear hK K
   with_reducible refine wpQuiet_nil ?_
   rintro _ ⟨⟨nq,osq⟩,rfl⟩;have a3:=Mid.ofWg wo nq osq;generalize wg wo nq osq=w4 at a3 |-;have B4:=B0.mid a3 oZr;have aG:=hm.trans a3;clear a3 r1 r2 hm B0 hT a9 p0 p1;go_wp2_with fail;go_roundw
   case rel=>exact⟨k+1,s++tb++(⟨#[62]⟩:ByteArray)++fb,by go_num,rfl,oO,HU,B4,aG⟩
   simp[intOf];omega
  have a6:Hid (s++(⟨#[32]⟩:ByteArray)=str pre):=oH (by rw[HS.out,a0,if_neg hz];exact aFa _ [32]);have dk:decide ((0:Int)<(k:Int))=true:=by simp;omega
  have aZ:(0:Int)<(k:Int):=by omega
  have aW:(⟨#[32]⟩:ByteArray).size=1:=rfl;have ag:s.size+(⟨#[32]⟩:ByteArray).size<=9223372036854775807:=by omega
  clear a0;have ad:(s++(⟨#[32]⟩:ByteArray)).size+tb.size<=9223372036854775807:=by first|omega|(simp only[ByteArray.size_append];omega)
  have ae:(s++(⟨#[32]⟩:ByteArray)++tb).size+(⟨#[62]⟩:ByteArray).size<=9223372036854775807:=by simp only[ByteArray.size_append];omega
  have af:(s++(⟨#[32]⟩:ByteArray)++tb++(⟨#[62]⟩:ByteArray)).size+fb.size<=9223372036854775807:=by simp only[ByteArray.size_append];omega
  have HU:Hid (s++(⟨#[32]⟩:ByteArray)++tb++(⟨#[62]⟩:ByteArray)++fb=str (aLE [32] (aBf d (k+1)))):=oH (by
   rw[a1.out,a6.out,a8.out,a7.out]
   show str pre++str _++str [62]++str _=_
   simp only[aFa,List.append_assoc])
  clear a1 a8 a7 HS a6;go_wp2_with fail;refine wqg ?_;repeat
   (with_reducible refine wpQuiet_step (fun K hK=>?_))
   go_simp
   first|(with_reducible refine hK _ ?_)|(rw[if_neg oD];(with_reducible refine hK _ ?_))|(apply Exists.intro;refine⟨fun _=>?_,hK _ ?_⟩;(rw[if_neg oO];exact⟨rfl,rfl⟩))|(apply Exists.intro;refine⟨fun _=>?_,hK _ ?_⟩;(((first|(go_at_call 173;with_reducible exact Calls.wg_of (hT _))|(go_at_call 174;exact Calls.wg_of (a9 _ _))))))
   clear hK K
  with_reducible refine wpQuiet_nil ?_
  rintro _ ⟨⟨nq,osq⟩,rfl⟩;have a3:=Mid.ofWg wo nq osq;generalize wg wo nq osq=w4 at a3 |-;have B4:=B0.mid a3 oZr;have aG:=hm.trans a3;clear a3 r1 r2 hm B0 hT a9 p0 p1;go_wp2_with fail;go_roundw
  case rel=>exact⟨k+1,s++(⟨#[32]⟩:ByteArray)++tb++(⟨#[62]⟩:ByteArray)++fb,by go_num,rfl,oO,HU,B4,aG⟩
  simp[intOf];omega
 obtain rfl:k=d.length:=by omega
 have a2:s=aI:=by rw[HS.out,aE.out,aQv aY]
 subst a2;clear p0 p1;have p0:=B0.cell 0 rfl;have p1:=B0.cell 1 rfl;go_wp2_with fail;go_ret;exact⟨rfl,hm⟩
theorem aGt(r0:Int)(A0:OA)(d0:LL)(c0:Nat)(w:World)(a2 a1:Nat)(h0:RSS w a2 a1 A0 d0)(b0:(Lit.int .i64 r0).wf=true)(o0:OkSS d0)(a3:d0.length+aAK d0<=1048576)(a0:ByteArray)(h:FormatMorphismIs r0 d0 a0) :
  Calls Tryz.prog 88 #[.agg #[r0,.slice A0 d0.length c0]] w fun e w'=>e=.returned (.string a0)/\Mid 0 0 w w':=aGX r0 A0 d0 c0 w a2 a1 h0 o0 a3 a0 h
theorem aGs(r0:Int)(A0:OA)(d0:LL)(c0:Nat)(w:World)(a2 a1:Nat)(h0:RSS w a2 a1 A0 d0)(b0:(Lit.int .i64 r0).wf=true)(o0:OkSS d0)(a3:d0.length+aAK d0<=1048576)(a0:ByteArray)(h:FormatMorphismIs r0 d0 a0) :
  Calls Tryz.prog 87 #[.agg #[r0,.slice A0 d0.length c0]] w fun e w'=>e=.returned (.string a0)/\Mid 0 0 w w':=aGK r0 A0 d0 c0 w a2 a1 h0 o0 a3 a0 h
section
open Go.RowKit
structure Sec (p:Prop):Prop where
 out:p
section
variable {W:World} {ops:Array Oper} {rest:List Oper} {o:Oper} {a:Act} {Q:Exit->Act->World->Prop}
end
section
variable {w w':World} {r:Int} {Bo M G:Nat} {A1:OA} {n1 c1:Nat} {sto stm:PS} {A2:OA} {n2 c2:Nat} {xs:List Ed}
end
end
theorem aJV(rk:Int)(A:OA)(d:LL)(c:Nat)(a2:Int)(w:World)(lo hi:Nat)(hr:RSS w lo hi A d)(ay:OkSS d)(hl:d.length+aAK d<=1048576)(aA:LL)(a3:FixIs rk d a2 aA) :
  Calls Tryz.prog 85 #[.agg #[.int .i64 rk,.slice A d.length c],.int .i64 a2] w fun e w'=>∃ A1 c1,e=.returned (.slice A1 aA.length c1)/\OSS w' w.heap.size w'.heap.size 44 3 A1 c1 aA/\Mid 0 0 w w':=by
 have HR:=oH a3;have aS:=oH ay;clear a3 ay;obtain⟨b1,aX⟩:=aAF (IsMor rk d);have H1:=oH aX;have an:=fun W h=>aAs rk A d c W lo hi h aS.out hl b1 aX;have ag:=oH an;clear aX an;have a5:Mid 0 0 w ((w.alloc (.cells #[rk,.slice A d.length c] 76)).alloc (.cells #[] 44)):=(oE _ _).trans (oE _ _);have B0:=(oJ w #[rk,.slice A d.length c] 76).mid (oE _ (.cells #[] 44)) oZr;have O0:=aAd (w.alloc (.cells #[rk,.slice A d.length c] 76)) 44 1;simp only[World.size_alloc] at O0;go_enter Tryz.func85,Tryz.ntmps85
 go_wp2_with fail;generalize hw1:(w.alloc (.cells #[rk,.slice A d.length c] 76)).alloc (.cells #[] 44)=w1 at a5 B0 O0 |-;have bR:w.heap.size+1<w1.heap.size:=(O0.lt _ rfl).2;clear hw1;with_reducible refine(ag.out _ (hr.mid a5 oZl)).mono ?_
 rintro en w2 ⟨rfl,aK⟩;replace B0:=B0.mid aK oZr;replace O0:=aAb O0 aK oZl;replace a5:=a5.trans aK;have bS:=aK.size;clear aK;cases b1 with
|false=>
  have aa:¬ aKC rk d a2:=fun h=>by have:=H1.out.2 h.1;cases this
  obtain rfl:=HR.out.no aa;go_wp2_with fail;go_ret;exact⟨_,_,rfl,OSS.mk' (aAh O0 oO) OwnRows.nil rfl,a5⟩
|true=>
 have F1:=oH (H1.out.1 rfl);clear H1 ag;have g1:1<=rk:=F1.out.1;have g2:rk<=3:=F1.out.2.1;rcases(Decidable.em (0<=a2/\a2<=4)).symm with hmo|hmo
 .have aJ:inB a2 0 4=false:=by unfold inB;simp;omega
  have aa:¬ aKC rk d a2:=fun h=>hmo h.2;go_wp2_with fail;with_reducible refine(aDm aJ _).mono ?_
  rintro en w3 ⟨rfl,rfl⟩;obtain rfl:=HR.out.no aa;go_wp2_with fail;go_ret;exact⟨_,_,rfl,OSS.mk' (aAh O0 oO) OwnRows.nil rfl,a5⟩
 have aJ:inB a2 0 4=true:=by unfold inB;simp;omega
 go_wp2_with fail;with_reducible refine(aDm aJ _).mono ?_
 rintro en w3 ⟨rfl,rfl⟩;have aQ:=HR.out.yes ⟨F1.out,hmo.1,hmo.2⟩;obtain⟨rn,rfl⟩:∃ n:Nat,rk=n:=⟨rk.toNat,oO⟩
 obtain⟨mn,rfl⟩:∃ n:Nat,a2=n:=⟨a2.toNat,oO⟩
 rw[Int.toNat_natCast,Int.toNat_natCast] at aQ;have p0:=B0.cell 0 rfl;have aY:=aJ;clear aJ aY HR;go_wp2_with fail;with_reducible refine(aKI rn mn _ oO oO oO).mono ?_
 rintro en w5 ⟨A5,c5,rfl,aw,aL⟩;have ao:(aAg rn).length<=6:=by rw[aBR];omega
 have az:=aQN (f:=okB) ao (n:=mn+1) oO;have ae:∀ v∈pre okB (aAg rn) (mn+1),v.length<=4/\∀ x∈v, -3<=x/\x<=3:=fun v hv=>by
  have h1:=aND hv;refine⟨oO,fun x hx=>?_⟩;have h2:=aAU.1 (h1.2 x hx);omega
 obtain⟨R,hR⟩:∃ R,pre okB (aAg rn) (mn+1)=R:=⟨_,rfl⟩
 rw[hR] at aQ az ae aw |-;have ah:Sec (aA=aMZ d R):=⟨aQ⟩
 have b5:=oH ae;have b2:=aL.size;have ap:∀ g,Value.ownBlock (.slice (some (⟨w.heap.size+1,0,none⟩:Addr)) 0 0)=some g->g<w2.heap.size \/ w5.heap.size<=g:=fun g hg=>Or.inl (O0.lt g hg).2;replace B0:=B0.mid aL oZr;replace O0:=aAb O0 aL oZl;replace a5:=a5.trans aL;obtain⟨-,a0,aW,aq,aH⟩:=aw;have a6:=oH aq.rv;have aO:Hid (SubR w5 (w.heap.size+1) w2.heap.size (some ⟨w.heap.size+1,0,none⟩) 0 0 [] a0):=oH ⟨O0,aH,List.nil_sublist _⟩;have aD:=oH ap;have b6:=oH aW;obtain⟨L,hL⟩:∃ L,R.length=L:=⟨_,rfl⟩
 have HL:=oH hL;have bK:L<=40000:=by omega
 have bA:w.heap.size+1<=w2.heap.size:=by omega
 have ai:Hid (a0.length=L):=oH (by rw[<- hL,<- aW,aAD]);rw[hL];have al:Hid (aAt ([]:List Row)=aMZ d (R.take 0)):=oH rfl;have aG:Hid (List.Sublist ([]:List Row) (a0.take 0)):=oH (List.nil_sublist _);generalize (some (⟨w.heap.size+1,0,none⟩:Addr))=AO at aO aD |-;generalize w2.heap.size=Lq at a6 aO aD b2 bA;generalize w5.heap.size=Hq at a6 aD b2;clear aQ ae az hR aq aH aW ap hL O0 aL p0 ao;go_wp2_with fail;go_loopw [5,23] (fun ov iv wr=>∃(k n1:Nat) (a1:List Row) (A1:OA) (c1:Nat),iv=.int .i64 k/\ov=.slice A1 n1 c1/\Hid (k<=L)/\Hid (aAt a1=aMZ d (R.take k))/\Hid (List.Sublist a1 (a0.take k))/\Hid (SubR wr (w.heap.size+1) Lq A1 n1 c1 a1 a0)/\Hid (RV wr Lq Hq A5 (aBi a0))/\Hid (∀ g,Value.ownBlock (.slice A1 n1 c1)=some g->g<Lq \/ Hq<=g)/\Box wr w.heap.size [.int .i64 rn,.slice A d.length c]/\Mid 0 0 w wr) (fun _ iv _=>L - (intOf iv).toNat)
 case atStart=>exact⟨0,0,[],AO,0,rfl,rfl,oH oZ,al,aG,aO,a6,aD,B0,a5⟩
 clear al aG aO a6 aD B0 a5;obtain⟨wo,bJ⟩:∃ wo,wo=wr:=⟨_,rfl⟩
 subst bJ;obtain⟨k,n1,a1,A1,c1,rfl,rfl,HK,HT,HSB,HS,a6,HD,B0,hm⟩:=hrel;have bO:=HK.out;have bQ:n1<=40000:=by have h1:=HS.out.len;have h2:=HSB.out.length_le;rw[List.length_take] at h2;omega
 by_cases hlt:k<L
 .obtain⟨rr,aN⟩:=aAy a0 (show k<a0.length by rw[ai.out];exact hlt)
  have af:R[k]?=some rr.xs:=by rw[<- b6.out];simp[aAt,aN]
  obtain⟨g5,o5,b9,bD,bC,av⟩:=a6.out.2 (by intro h0;have:=congrArg List.length h0;rw[aCx,ai.out] at this;simp at this;omega);subst b9;have bB:=av k rr.v (by simp[aBi,aN]);have aM:=oG aN;have ad:=HS.out.own.1 rr aM;have aR:=OV.rv ad;have aI:=aHJ ad.2.1;obtain⟨bI,b3⟩:=b5.out rr.xs (oG af);have aV:=oH af;have aj:=oH aN;obtain⟨Aw,cw,xw⟩:=rr;simp only[Row.v] at bB aR aI bI b3;simp only at aV;have bM:(0:Int)<=(k:Int):=by omega
  have bN:(k:Int)<(L:Int):=by omega
  have bE:g5<wo.heap.size:=oT bC a6.out.1;have p1:=B0.cell 1 rfl;have ab:OkI xw:=fun x hx=>by have:=b3 x hx;omega
  have am:=aDt A d c Aw xw cw wo lo hi (hr.mid hm oZl) aR.rsS aI (fun xs hx=>(F1.out.2.2.2 xs hx).2.2.1) aS.out.2 ab oO oO;clear aN af av aM ad;go_wp2_with fail;with_reducible refine am.mono ?_
  intro en w6 b0;obtain⟨A6,c6,rfl,ax,a9⟩:=RetI.get b0;clear b0 am p1;have bL:=aDA (fun xs hx=>(F1.out.2.2.2 xs hx).2.2.1) aS.out.2 xw;obtain⟨b,hb⟩:=aAF (aAl d xw=xw);have HB:=oH hb;have hE:=aDI A6 Aw (aAl d xw) xw c6 cw w6 _ _ (aAz ax).rs (aR.mid a9 oZl).rs oO b hb;have bT:=a9.size;have B6:=B0.mid a9 oZr;have ak:=oH (HS.out.mid a9);have aE:=oH (a6.out.mid a9 oZl);have aB:=hm.trans a9;clear hb a9 hm HS a6 B0 aR ax;go_wp2_with fail;with_reducible refine hE.mono ?_
  rintro en w7 ⟨rfl,nd,rfl⟩;have aC:=(Mid.refl 0 0 w6).drewN nd;have B7:=B6.mid aC oZr;have aF:=oH (ak.out.mid aC);have a4:=oH (aE.out.mid aC oZl);replace aB:=aB.trans aC;have bH:=aC.size;generalize w6.drewN nd=w7 at B7 aF a4 aB bH |-;clear hE B6 ak aE aC;cases b
  .have hq:¬ aAl d xw=xw:=fun h=>by have:=HB.out.2 h;cases this
   have a8:a0.take (k+1)=a0.take k++[⟨Aw,cw,xw⟩]:=by
    obtain⟨h1,h2⟩:=List.getElem?_eq_some_iff.1 aj.out;rw[List.take_succ_eq_append_getElem h1,h2]
   have a7:Hid (List.Sublist a1 (a0.take (k+1))):=oH (by rw[a8];exact HSB.out.trans (List.sublist_append_left _ _));have aU:Hid (aAt a1=aMZ d (R.take (k+1))):=oH (by
    rw[aHo aV.out,if_neg hq,List.append_nil];exact HT.out)
   clear a8 hq HB;go_wp2_with fail;go_roundw
   case rel=>exact⟨k+1,n1,_,A1,c1,by go_num,rfl,oH oO,aU,a7,aF,a4,HD,B7,aB⟩
   simp[intOf];omega
  have hq:=HB.out.1 rfl;have a8:a0.take (k+1)=a0.take k++[⟨Aw,cw,xw⟩]:=by
   obtain⟨h1,h2⟩:=List.getElem?_eq_some_iff.1 aj.out;rw[List.take_succ_eq_append_getElem h1,h2]
  have b8:=oH a8;have a7:Hid (List.Sublist (a1++[(⟨Aw,cw,xw⟩:Row)]) (a0.take (k+1))):=oH (by rw[a8];exact HSB.out.append (List.Sublist.refl _));have aU:Hid (aAt (a1++[(⟨Aw,cw,xw⟩:Row)])=aMZ d (R.take (k+1))):=oH (by
   rw[aHo aV.out,if_pos hq,aAv,HT.out];simp[aAt])
  clear a8 hq b8 HB;go_wp2_with (at_builtin;refine MarkerX.to ?_)
  unfold MarkerX;refine aGz rfl _ _ rfl rfl aF.out ⟨Aw,cw,xw⟩ (.slice Aw xw.length cw) rfl (a7.out.trans (List.take_sublist _ _)) rfl oO oO ?_;intro A8 c8 w8 ar aP au;have b7:=oH ar;have aT:=oH (a4.out.grown aP HD.out);have aZ:∀ g,Value.ownBlock (.slice A1 n1 c1)=some g->w.heap.size+1<=g:=fun g hg=>(aF.out.out.lt g hg).1;have B8:=B7.grown aP (by intro h0;have:=aZ _ h0;omega);have bG:=aB.grownNew aP (fun g hg=>by have:=aZ g hg;omega);have b4:Hid (∀ g,Value.ownBlock (.slice A8 (n1+1) c8)=some g->g<Lq \/ Hq<=g):=oH (by
   intro g hg;rcases au with h0|h0
   .exact HD.out g (h0 ▸ hg)
   .rw[h0] at hg
    injection hg with hg
    have:=a4.out.1;omega)
  clear ar aP au aZ aF a4 B7 aB HD HT HSB;go_wp2_with fail;go_roundw
  case rel=>exact⟨k+1,n1+1,_,A8,c8,by go_num,rfl,oH oO,aU,a7,b7,aT,b4,B8,bG⟩
  simp[intOf];omega
 obtain rfl:L=k:=by omega
 have bP:((L:Int)<(L:Int))=False:=by simp
 have a8:R.take L=R:=List.take_of_length_le (by rw[HL.out];exact oN);have a3:aAt a1=aA:=by rw[ah.1,<- a8];exact HT.out
 have bF:aA.length=n1:=by rw[<- a3,aAD];exact HS.out.len
 have HQ:Hid (OSS wo w wo 44 3 A1 c1 aA):=oH (OSS.mk' (aAh HS.out.out (Nat.le_succ _)) ⟨fun r hr=>(HS.out.own.1 r (HS.out.sub.subset hr)).wide oO oN oN,HS.out.own.2.sublist HS.out.sub⟩ a3);clear a8 a3 HS HT ah;subst bF;go_wp2_with fail;go_ret;exact⟨_,_,rfl,HQ.out,hm⟩
theorem aUU{r:Nat}(h1:1<=r)(h3:r<=3):IsFol r 1 (whG r):=by
 refine⟨aTW oN h1 h3,?_⟩;rcases r with _|_|_|_|r
 .omega
 .decide
 .decide
 .decide
 omega
theorem aQd{r:Nat}(h3:r<=3):∀ x∈aAg r,aAr (whG r) 0 x=0:=by
 rcases r with _|_|_|_|r
 .decide
 .decide
 .decide
 .decide
 omega
theorem aTV{r:Nat}(h3:r<=3):∀ w:LI,(∀ x∈w,x∈aAg r)->goV (whG r) 0 w=some 0
|[],_=>rfl
|x::t,h=>by
  have h1:=aQd h3 x (h x oM);rw[goV,h1,if_neg oO];exact aTV h3 t fun y hy=>h y (by simp[hy])
theorem aTX{r:Nat}(h3:r<=3)(w:LI)(h:∀ x∈w,x∈aAg r):(rdA (whG r) 0 w).1=0:=by rw[(aPL (whG r) w 0 0).1 (aTV h3 w h)]
theorem aTk{r n:Nat}(h3:r<=3):aOG (whG r) r n=pre okB (aAg r) (n+1):=by
 have e:pre (aAI (whG r)) (aAg r) (n+1)=pre okB (aAg r) (n+1):=aNC (fun w hw x hx=>by
  unfold aAI;rw[aTX h3 w hw,aQd h3 x hx];simp) _
 unfold aOG;rw[e];refine List.filter_eq_self.2 fun v hv=>?_;unfold aIX;rw[aTX h3 v (aND hv).2]
 rfl
theorem aKO(r n:Nat)(A:OA)(c:Nat)(w:World)(lo hi:Nat)(hr:RG w lo hi A (whG r))(a1:1<=r)(a0:r<=3)(hn:n<=4) :
  Calls Tryz.prog 48 #[aAJ r 1 A r c,.int .i64 0,.int .i64 n] w fun e w'=>∃ A1 c1,e=.returned (.slice A1 (pre okB (aAg r) (n+1)).length c1)/\OSS w' w.heap.size w'.heap.size 44 3 A1 c1 (pre okB (aAg r) (n+1))/\Mid 0 0 w w':=by
 have h:=aKt r 1 n A (whG r) c w lo hi hr (aUU a1 a0) hn;rw[aTk a0,aHa] at h;exact h
theorem aKr(rk:Int)(A:OA)(d:LL)(c:Nat)(a3:Int)(w:World)(lo hi:Nat)(hr:RSS w lo hi A d)(bB:OkSS d)(hl:d.length+aAK d<=1048576)(aI:LL)(a6:FixIs rk d a3 aI) :
  Calls Tryz.prog 86 #[.agg #[.int .i64 rk,.slice A d.length c],.int .i64 a3] w fun e w'=>∃ A1 c1,e=.returned (.slice A1 aI.length c1)/\OSS w' w.heap.size w'.heap.size 44 3 A1 c1 aI/\Mid 0 0 w w':=by
 have HR:=oH a6;have ag:=oH bB;clear a6 bB;obtain⟨b1,am⟩:=aAF (IsMor rk d);have H1:=oH am;have b2:=fun W h=>aAq rk A d c W lo hi h ag.out hl b1 am;have af:=oH b2;clear am b2;have a2:Mid 0 0 w ((w.alloc (.cells #[rk,.slice A d.length c] 76)).alloc (.cells #[] 44)):=(oE _ _).trans (oE _ _);have B0:=(oJ w #[rk,.slice A d.length c] 76).mid (oE _ (.cells #[] 44)) oZr;have O0:=aAd (w.alloc (.cells #[rk,.slice A d.length c] 76)) 44 1;simp only[World.size_alloc] at O0;have p0:=B0.cell 0 rfl;have p1:=B0.cell 1 rfl;go_enter Tryz.func86,Tryz.ntmps86
 go_wp2_with fail;generalize hw1:((w.alloc (.cells #[rk,.slice A d.length c] 76)).alloc (.cells #[] 44))=w1 at a2 B0 O0 p0 p1 |-;have bi:w.heap.size+1<w1.heap.size:=(O0.lt _ rfl).2;clear hw1;rcases(Decidable.em (1<=rk/\rk<=3)).symm with hrk|hrk
 .obtain rfl:b1=false:=by
   cases b1
   .rfl
   have h:=H1.out.1 rfl;exact absurd ⟨h.1,h.2.1⟩ hrk
  with_reducible refine(aJe rk _ hrk).mono ?_
  rintro en w2 ⟨rfl,aA⟩;clear p0 p1;replace B0:=B0.mid aA oZr;replace O0:=aAb O0 aA oZl;replace a2:=a2.trans aA;have bV:=aA.size;have a5:=oE w2 (.cells #[(0:Int),(0:Int),.slice none 0 0] 35);replace B0:=B0.mid a5 oZr;replace O0:=aAb O0 a5 oZl;replace a2:=a2.trans a5;have p0:=B0.cell 0 rfl;have p1:=B0.cell 1 rfl;have aT:¬ aKC rk d a3:=fun h=>hrk ⟨h.1.1,h.1.2.1⟩;go_wp2_with fail;generalize w2.alloc (.cells #[(0:Int),(0:Int),.slice none 0 0] 35)=w3 at B0 O0 a2 p0 p1 a5 |-;have bW:=a5.size;with_reducible refine(af.out _ (hr.mid a2 oZl)).mono ?_
  rintro en w4 ⟨rfl,a7⟩;clear p0 p1;replace B0:=B0.mid a7 oZr;replace O0:=aAb O0 a7 oZl;replace a2:=a2.trans a7;have bX:=a7.size;obtain rfl:=HR.out.no aT;go_wp2_with fail;go_ret;exact⟨_,_,rfl,OSS.mk' (aAh O0 oO) OwnRows.nil rfl,a2⟩
 obtain⟨rn,rfl⟩:∃ n:Nat,rk=n:=⟨rk.toNat,oO⟩
 have aU:1<=rn:=by omega
 have aV:rn<=3:=by omega
 with_reducible refine(aKv rn _ aU aV).mono ?_
 rintro en w2 ⟨AG,cG,rfl,hG,aA⟩;clear p0 p1;replace B0:=B0.mid aA oZr;replace O0:=aAb O0 aA oZl;replace a2:=a2.trans aA;have bV:=aA.size;have a5:=oE w2 (.cells #[rn,(1:Int),.slice AG rn cG] 35);have BG:=oJ w2 #[rn,(1:Int),.slice AG rn cG] 35;replace B0:=B0.mid a5 oZr;replace O0:=aAb O0 a5 oZl;replace hG:=hG.mid a5 oZl;replace a2:=a2.trans a5;have p0:=B0.cell 0 rfl;have p1:=B0.cell 1 rfl;go_wp2_with fail;generalize w2.alloc (.cells #[rn,(1:Int),.slice AG rn cG] 35)=w3 at B0 BG O0 hG a2 p0 p1 a5 |-;have bW:=a5.size;with_reducible refine(af.out _ (hr.mid a2 oZl)).mono ?_
 rintro en w4 ⟨rfl,a7⟩;clear p0 p1 a5 aA;replace B0:=B0.mid a7 oZr;replace BG:=BG.mid a7 oZr;replace O0:=aAb O0 a7 oZl;replace hG:=hG.mid a7 oZl;replace a2:=a2.trans a7;have bX:=a7.size;clear a7;cases b1 with
|false=>
  have aT:¬ aKC rn d a3:=fun h=>by have:=H1.out.2 h.1;cases this
  obtain rfl:=HR.out.no aT;go_wp2_with fail;go_ret;exact⟨_,_,rfl,OSS.mk' (aAh O0 oO) OwnRows.nil rfl,a2⟩
|true=>
 have F1:=oH (H1.out.1 rfl);clear H1 af;rcases(Decidable.em (0<=a3/\a3<=4)).symm with hmo|hmo
 .have ab:inB a3 0 4=false:=by unfold inB;simp;omega
  have aT:¬ aKC rn d a3:=fun h=>hmo h.2;go_wp2_with fail;with_reducible refine(aBQ ab _).mono ?_
  rintro en w5 ⟨rfl,rfl⟩;obtain rfl:=HR.out.no aT;go_wp2_with fail;go_ret;exact⟨_,_,rfl,OSS.mk' (aAh O0 oO) OwnRows.nil rfl,a2⟩
 have ab:inB a3 0 4=true:=by unfold inB;simp;omega
 go_wp2_with fail;with_reducible refine(aBQ ab _).mono ?_
 rintro en w5 ⟨rfl,rfl⟩;have ae:=HR.out.yes ⟨F1.out,hmo.1,hmo.2⟩;obtain⟨mn,rfl⟩:∃ n:Nat,a3=n:=⟨a3.toNat,oO⟩
 rw[Int.toNat_natCast,Int.toNat_natCast] at ae;have bU:mn<=4:=by omega
 obtain⟨q0,q1,q2⟩:=BG.c3 rfl;have bO:w2.heap.size<w4.heap.size:=BG.1;clear ab HR;go_wp2_with fail;with_reducible refine(aKO rn mn AG cG _ _ _ hG aU aV bU).mono ?_
 rintro en w5 ⟨A5,c5,rfl,b9,aR⟩;have b3:(aAg rn).length<=6:=by rw[aBR];omega
 have bC:=aQN (f:=okB) b3 (n:=mn+1) oO;have au:∀ v∈pre okB (aAg rn) (mn+1),v.length<=4/\∀ x∈v, -3<=x/\x<=3:=fun v hv=>by
  have h1:=aND hv;refine⟨oO,fun x hx=>?_⟩;have h2:=aAU.1 (h1.2 x hx);omega
 obtain⟨R,hR⟩:∃ R,pre okB (aAg rn) (mn+1)=R:=⟨_,rfl⟩
 rw[hR] at ae bC au b9 |-;have aw:Sec (aI=aMZ d R):=⟨ae⟩
 have bI:=oH au;have bE:=aR.size;have b4:∀ g,Value.ownBlock (.slice (some (⟨w.heap.size+1,0,none⟩:Addr)) 0 0)=some g->g<w4.heap.size \/ w5.heap.size<=g:=fun g hg=>Or.inl (O0.lt g hg).2;clear q0 q1 q2 hG BG;replace B0:=B0.mid aR oZr;replace O0:=aAb O0 aR oZl;replace a2:=a2.trans aR;obtain⟨-,a0,al,b5,aO⟩:=b9;have aF:=oH b5.rv;have aY:Hid (SubR w5 (w.heap.size+1) w4.heap.size (some ⟨w.heap.size+1,0,none⟩) 0 0 [] a0):=oH ⟨O0,aO,List.nil_sublist _⟩;have aK:=oH b4;have bJ:=oH al;obtain⟨L,hL⟩:∃ L,R.length=L:=⟨_,rfl⟩
 have HL:=oH hL;have bb:L<=40000:=by omega
 have bN:w.heap.size+1<=w4.heap.size:=by omega
 have ax:Hid (a0.length=L):=oH (by rw[<- hL,<- al,aAD]);rw[hL];have b0:Hid (aAt ([]:List Row)=aMZ d (R.take 0)):=oH rfl;have aN:Hid (List.Sublist ([]:List Row) (a0.take 0)):=oH (List.nil_sublist _);generalize (some (⟨w.heap.size+1,0,none⟩:Addr))=AO at aY aK |-;generalize w4.heap.size=Lq at aF aY aK bE bN;generalize w5.heap.size=Hq at aF aK bE;clear ae au bC hR b5 aO al b4 hL O0 aR b3 bO;go_wp2_with fail;go_loopw [5,9] (fun ov iv wr=>∃(k n1:Nat) (a1:List Row) (A1:OA) (c1:Nat),iv=.int .i64 k/\ov=.slice A1 n1 c1/\Hid (k<=L)/\Hid (aAt a1=aMZ d (R.take k))/\Hid (List.Sublist a1 (a0.take k))/\Hid (SubR wr (w.heap.size+1) Lq A1 n1 c1 a1 a0)/\Hid (RV wr Lq Hq A5 (aBi a0))/\Hid (∀ g,Value.ownBlock (.slice A1 n1 c1)=some g->g<Lq \/ Hq<=g)/\Box wr w.heap.size [.int .i64 rn,.slice A d.length c]/\Mid 0 0 w wr) (fun _ iv _=>L - (intOf iv).toNat)
 case atStart=>exact⟨0,0,[],AO,0,rfl,rfl,oH oZ,b0,aN,aY,aF,aK,B0,a2⟩
 clear b0 aN aY aF aK B0 a2;obtain⟨wo,ba⟩:∃ wo,wo=wr:=⟨_,rfl⟩
 subst ba;obtain⟨k,n1,a1,A1,c1,rfl,rfl,HK,HT,HSB,HS,aF,HD,B0,hm⟩:=hrel;have bf:=HK.out;have bh:n1<=40000:=by have h1:=HS.out.len;have h2:=HSB.out.length_le;rw[List.length_take] at h2;omega
 by_cases hlt:k<L
 .obtain⟨rr,aW⟩:=aAy a0 (show k<a0.length by rw[ax.out];exact hlt)
  have av:R[k]?=some rr.xs:=by rw[<- bJ.out];simp[aAt,aW]
  have a4:=Mid.drew1 wo;have aZ:=oH (HS.out.mid a4);have a9:=oH (aF.out.mid a4 oZl);have Bd:=B0.mid a4 oZr;have ad:=hm.trans a4;obtain⟨g5,o5,bM,bR,bP,b8⟩:=a9.out.2 (by intro h0;have:=congrArg List.length h0;rw[aCx,ax.out] at this;simp at this;omega);subst bM;have aG:=b8 k rr.v (by simp[aBi,aW]);have aS:=oG aW;have ar:=aZ.out.own.1 rr aS;have aX:=OV.rv ar;have ao:=aHJ ar.2.1;obtain⟨bZ,bG⟩:=bI.out rr.xs (oG av);have aj:=oH av;have ay:=oH aW;obtain⟨Aw,cw,xw⟩:=rr;simp only[Row.v] at aG aX ao bZ bG;simp only at aj;have bd:(0:Int)<=(k:Int):=by omega
  have be:(k:Int)<(L:Int):=by omega
  have aD:g5<(World.drew wo).heap.size:=oT bP a9.out.1;have p1:=Bd.cell 1 rfl;have aq:OkI xw:=fun x hx=>by have:=bG x hx;omega
  have ak:=aDy A d c Aw xw cw (World.drew wo) lo hi (hr.mid ad oZl) aX.rsS (fun xs hx=>(F1.out.2.2.2 xs hx).2.2.1) ag.out.2 aq oO oO;have an:w.heap.size<(World.drew wo).heap.size:=Bd.1;clear aW av b8 aS ar HS aF B0 hm;go_wp2_with fail;refine aAo (S:=(fun w'=>w'.cell? ⟨w,1,none⟩=some (.slice A d.length c)/\w'.cell? ⟨g5,o5+k,none⟩=some (.slice Aw xw.length cw))) [11] oK ⟨p1,aG⟩ ?_;generalize World.drew wo=wz at aZ a9 Bd ad aG aX aD p1 ak a4 an |-;have hS:wz.cell? ⟨w,1,none⟩=some (.slice A d.length c)/\wz.cell? ⟨g5,o5+k,none⟩=some (.slice Aw xw.length cw):=⟨p1,aG⟩
  refine tkZ [1,6,11] 0 rfl hS ?_;try simp only[oP]
  refine tkZ [6,11] 1 rfl hS ?_;try simp only[oP]
  refine tkZ [4,5,6,11] 2 rfl hS ?_;try simp only[oP]
  refine tkZ [4,5,6,11] 3 rfl hS ?_;try simp only[oP]
  refine tkZ [5,6,11] 4 rfl hS ?_;try simp only[oP]
  refine tkZ [6,11] 5 rfl hS ?_;try simp only[oP]
  refine tkZ [9,10,11] 7 rfl hS ?_;try simp only[oP]
  refine tkZ [9,10,11] 8 rfl hS ?_;try simp only[oP]
  refine tkZ [10,11] 9 rfl hS ?_;try simp only[oP]
  refine tkZ [11] 10 rfl hS ?_;try simp only[oP]
  refine rdZ 6 rfl (fun K hK=>?_)
  (go_simp;(with_reducible refine ak.mono ?_);intro en w6 bD;obtain⟨A6,c6,rfl,bA,aB⟩:=RetI.get bD;go_wp2_with fail)
  refine hK.out _ _ (Or.inr ⟨(Bd.mid aB oZr).cell 1 rfl,aAa aB aD oZr aG⟩) (fun _=>?_);clear hK K;try simp only[oP]
  have bc:=aDA (fun xs hx=>(F1.out.2.2.2 xs hx).2.2.1) ag.out.2 xw;obtain⟨b,hb⟩:=aAF (aAl d xw=xw);have HB:=oH hb;have hE:=aDT A6 Aw (aAl d xw) xw c6 cw w6 _ _ (aAz bA).rs (aX.mid aB oZl).rs oO b hb;have bY:=aB.size;have B6:=Bd.mid aB oZr;have az:=oH (aZ.out.mid aB);have aL:=oH (a9.out.mid aB oZl);have aJ:=ad.trans aB;have aP:=aAa aB aD oZr aG;have aQ:g5<w6.heap.size:=oT aD bY;clear hb aB ad aZ a9 Bd aX bA hS p1 aG ak a4 bD;refine rdZ 11 rfl (fun K hK=>?_)
  (go_simp;(with_reducible refine hE.mono ?_);rintro en w7 ⟨rfl,nd,rfl⟩;go_wp2_with fail)
  refine hK.out _ _ (Or.inl oM) (fun _=>?_);clear hK K;try simp only[oP]
  have a4:=(Mid.refl 0 0 w6).drewN nd;have B7:=B6.mid a4 oZr;have aM:=oH (az.out.mid a4);have a8:=oH (aL.out.mid a4 oZl);replace aJ:=aJ.trans a4;have bF:=a4.size;have aH:=aAa a4 aQ oZr aP;generalize w6.drewN nd=w7 at B7 aM a8 aJ bF aH a4 |-;have bQ:g5<w7.heap.size:=oT aQ bF;clear hE B6 az aL a4 aP;refine aAj oK ?_ _;cases b
  .have hq:¬ aAl d xw=xw:=fun h=>by have:=HB.out.2 h;cases this
   have aE:a0.take (k+1)=a0.take k++[⟨Aw,cw,xw⟩]:=by
    obtain⟨h1,h2⟩:=List.getElem?_eq_some_iff.1 ay.out;rw[List.take_succ_eq_append_getElem h1,h2]
   have aC:Hid (List.Sublist a1 (a0.take (k+1))):=oH (by rw[aE];exact HSB.out.trans (List.sublist_append_left _ _));have ai:Hid (aAt a1=aMZ d (R.take (k+1))):=oH (by
    rw[aHo aj.out,if_neg hq,List.append_nil];exact HT.out)
   clear aE hq HB aH;go_wp2_with fail;go_roundw
   case rel=>exact⟨k+1,n1,_,A1,c1,by go_num,rfl,oH oO,ai,aC,aM,a8,HD,B7,aJ⟩
   simp[intOf];omega
  have hq:=HB.out.1 rfl;have aE:a0.take (k+1)=a0.take k++[⟨Aw,cw,xw⟩]:=by
   obtain⟨h1,h2⟩:=List.getElem?_eq_some_iff.1 ay.out;rw[List.take_succ_eq_append_getElem h1,h2]
  have bL:=oH aE;have aC:Hid (List.Sublist (a1++[(⟨Aw,cw,xw⟩:Row)]) (a0.take (k+1))):=oH (by rw[aE];exact HSB.out.append (List.Sublist.refl _));have ai:Hid (aAt (a1++[(⟨Aw,cw,xw⟩:Row)])=aMZ d (R.take (k+1))):=oH (by
   rw[aHo aj.out,if_pos hq,aAv,HT.out];simp[aAt])
  clear aE hq bL HB;go_wp2_with (at_builtin;refine MarkerX.to ?_)
  unfold MarkerX;refine aGz rfl _ _ rfl rfl aM.out ⟨Aw,cw,xw⟩ (.slice Aw xw.length cw) rfl (aC.out.trans (List.take_sublist _ _)) rfl oO oO ?_;intro A8 c8 w8 b6 aa b7;have bK:=oH b6;have ah:=oH (a8.out.grown aa HD.out);have ap:∀ g,Value.ownBlock (.slice A1 n1 c1)=some g->w.heap.size+1<=g:=fun g hg=>(aM.out.out.lt g hg).1;have B8:=B7.grown aa (by intro h0;have:=ap _ h0;omega);have bT:=aJ.grownNew aa (fun g hg=>by have:=ap g hg;omega);have bH:Hid (∀ g,Value.ownBlock (.slice A8 (n1+1) c8)=some g->g<Lq \/ Hq<=g):=oH (by
   intro g hg;rcases b7 with h0|h0
   .exact HD.out g (h0 ▸ hg)
   .rw[h0] at hg
    injection hg with hg
    have:=a8.out.1;omega)
  clear b6 aa b7 ap aM a8 B7 aJ HD HT HSB aH;go_wp2_with fail;go_roundw
  case rel=>exact⟨k+1,n1+1,_,A8,c8,by go_num,rfl,oH oO,ai,aC,bK,ah,bH,B8,bT⟩
  simp[intOf];omega
 obtain rfl:L=k:=by omega
 have bg:((L:Int)<(L:Int))=False:=by simp
 have aE:R.take L=R:=List.take_of_length_le (by rw[HL.out];exact oN);have a6:aAt a1=aI:=by rw[aw.1,<- aE];exact HT.out
 have bS:aI.length=n1:=by rw[<- a6,aAD];exact HS.out.len
 have HQ:Hid (OSS wo w wo 44 3 A1 c1 aI):=oH (OSS.mk' (aAh HS.out.out (Nat.le_succ _)) ⟨fun r hr=>(HS.out.own.1 r (HS.out.sub.subset hr)).wide oO oN oN,HS.out.own.2.sublist HS.out.sub⟩ a6);clear aE a6 HS HT aw;subst bS;go_wp2_with fail;go_ret;exact⟨_,_,rfl,HQ.out,hm⟩
def aEa(r0:Int)(d0:LL)(x1:Int)(res0:LL):Prop:=FixIs r0 d0 x1 res0
theorem aJA(r0:Int)(d0:LL)(x1:Int)(b0:(Lit.int .i64 r0).wf=true)(o0:OkSS d0)(a0:d0.length+aAK d0<=1048576):∃ res0,aEa r0 d0 x1 res0:=aSI r0 d0 x1
theorem aIR{r0:Int}{d0:LL}{x1:Int}{res0:LL}(h:aEa r0 d0 x1 res0)(b0:(Lit.int .i64 r0).wf=true)(o0:OkSS d0)(a0:d0.length+aAK d0<=1048576):res0.length+aAK res0<=1048576:=FixIs.lens h
theorem aJf(r0:Int)(A0:OA)(d0:LL)(c0:Nat)(x1:Int)(w:World)(a2 a1:Nat)(h0:OSS w a2 a1 44 3 A0 c0 d0)(b0:(Lit.int .i64 r0).wf=true)(o0:OkSS d0)(a3:d0.length+aAK d0<=1048576)(o1:(Lit.int .i64 x1).wf=true)(a0:LL)(h:aEa r0 d0 x1 a0) :
  Calls Tryz.prog 86 #[.agg #[.int .i64 r0,.slice A0 d0.length c0],.int .i64 x1] w fun e w'=>∃(A:OA) (c:Nat),e=.returned (.slice A a0.length c)/\OSS w' w.heap.size w'.heap.size 44 3 A c a0/\Mid 0 0 w w':=
 aKr r0 A0 d0 c0 x1 w a2 a1 h0.rss o0 a3 a0 h
theorem aIZ(r0:Int)(A0:OA)(d0:LL)(c0:Nat)(x1:Int)(w:World)(a2 a1:Nat)(h0:OSS w a2 a1 44 3 A0 c0 d0)(b0:(Lit.int .i64 r0).wf=true)(o0:OkSS d0)(a3:d0.length+aAK d0<=1048576)(o1:(Lit.int .i64 x1).wf=true)(a0:LL)(h:aEa r0 d0 x1 a0) :
  Calls Tryz.prog 85 #[.agg #[.int .i64 r0,.slice A0 d0.length c0],.int .i64 x1] w fun e w'=>∃(A:OA) (c:Nat),e=.returned (.slice A a0.length c)/\OSS w' w.heap.size w'.heap.size 44 3 A c a0/\Mid 0 0 w w':=
 aJV r0 A0 d0 c0 x1 w a2 a1 h0.rss o0 a3 a0 h
section
open Go.ChangeShapes Go.WideShapes Go.ChangeAt Go.RowKit
open Go.Joins
theorem undSU6:Tryz.prog.underlying 22=some (.slice 5):=by kernel_rfl
theorem undU6:Tryz.prog.underlying 5=some (.int .u8):=by kernel_rfl
theorem cellsU:Tryz.prog.cellsOf 5=1:=by kernel_rfl
section
variable {H:Type} {enc:TypeId × Value->H} {P:Program} {W:World} {T E:TypeId}
theorem aLF(uT:P.underlying T=some (.slice E))(uE:P.underlying E=some (.int .u8))(cE:P.cellsOf E=1){fuel:Nat}{A:OA}{len c:Nat}{x:DataW H × List MemPlace}(h:DataW.trod enc P W 0 (fun _=>true) true fuel T [.slice A len c]=some x):∃ xs:LI,len=xs.length/\RV W 0 W.heap.size A (aHb xs)/\OkB xs/\xs.length<=9223372036854775807:=by
 rcases open_ints uT uE cE h with⟨hcs,_⟩|⟨a,l,cc,zs,hcs,_,hl,hm,hz,_,hcell,hwz⟩
 .simp at hcs
  obtain⟨rfl,rfl,rfl⟩:=hcs;exact⟨[],rfl,⟨oN,fun hn=>absurd rfl hn⟩,fun x hx=>by simp at hx,by simp⟩
 simp at hcs;obtain⟨rfl,rfl,rfl⟩:=hcs;simp at hz;refine⟨zs.take len,by simp;omega,⟨oN,fun hn=>?_⟩,fun x hx=>bounds_u8 (hwz x (List.mem_of_mem_take hx)),by unfold maxLen at hm;simp;omega⟩;have hp:0<zs.length:=by
  rcases Nat.eq_zero_or_pos zs.length with h0|h0
  .have:=List.eq_nil_of_length_eq_zero h0
   subst this;simp[aHb] at hn
  exact h0
 obtain⟨b,a0,rfl,hc⟩:=ints_at hcell hp;refine⟨b,a0,rfl,oZ,World.block_lt_of_cell? _ _ (hc 0 hp),fun j u hu=>?_⟩;have hj:j<zs.length:=by
  have:=(List.getElem?_eq_some_iff.1 hu).1;simp[aHb] at this;omega
 rw[hc j hj];unfold aHb at hu;rw[List.getElem?_map,List.getElem?_take] at hu;split at hu
 .rw[List.getElem?_eq_getElem hj] at hu
  simp at hu;rw[<- hu];simp[List.getD,List.getElem?_eq_getElem hj]
 simp at hu
theorem open_byteS(uT:P.underlying T=some (.slice E))(uE:P.underlying E=some (.int .u8))(cE:P.cellsOf E=1){r:Reach}{base:Nat}{v:Value}{d:DataW H}{ps:List MemPlace}(a1:Value.okWide P W r base T v)(h:DataW.Trod enc P W 0 (fun _=>true) true T v d ps):∃ A xs c,v=.slice A (List.length xs) c/\RV W 0 W.heap.size A (aHb xs)/\OkB xs/\xs.length<=9223372036854775807:=by
 obtain⟨A,len,c,rfl⟩:=okWide_slice uT a1;obtain⟨a0,hf⟩:=h;obtain⟨xs,rfl,h1,h2⟩:=aLF (A:=A) (len:=len) (c:=c) uT uE cE (by simpa [Value.cells] using hf);exact⟨A,xs,c,rfl,h1,h2⟩
end
end
end Go.Proofs.YtkimajabegojoaaGreat
