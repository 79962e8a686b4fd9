/- Lemmas. -/
import Derived.Test.YtkimajabegojoaaGreatMt14
import Derived.Test.YtkimajabegojoaaGreatMt2
import Derived.Test.YtkimajabegojoaaGreatMt7
import Derived.Test.YtkimajabegojoaaGreatMt4
import Derived.Test.YtkimajabegojoaaGreatMt1
import Derived.Deep.DeepCutAuto
import Derived.Deep.CutRange
namespace Go.Proofs.YtkimajabegojoaaGreat
set_option maxHeartbeats 40000000
set_option maxRecDepth 100000
open Go.RowKit
set_option linter.unusedVariables false
set_option linter.unusedSimpArgs false
theorem walk_Meets(A0:Option Addr)(d0:List Int)(c0:Nat)(w:World)(r0:RV w 0 w.heap.size A0 (aIz d0))(_o0:OkB d0)(_l0:d0.length<=9223372036854775807) :
  Calls Tryz.prog 4 #[.slice A0 d0.length c0] w fun e w'=>e=.returned (.bool true)/\Below w.heap.size w w':=by
 by_cases hbig:decide ((d0.length:Int) > 1048576)=true
 .go_enter Tryz.func4,Tryz.ntmps4
  go_wp2_with fail;with_reducible refine(aPQ A0 d0.length c0 w).mono ?_
  rintro e w1 ⟨rfl,rfl⟩;rw[hbig];go_wp2_with fail;go_ret;exact⟨rfl,Below.refl _ _⟩
 have hl0:d0.length<=1048576:=by simp at hbig;omega
 have hbig2:decide ((d0.length:Int) > 1048576)=false:=by simpa using hbig
 clear hbig _l0;obtain⟨L0,hL0⟩:∃ n,n=w.heap.size:=⟨_,rfl⟩
 rw[<- hL0];have hm:=Mid.refl 0 0 w;go_enter Tryz.func4,Tryz.ntmps4
 go_wp2_with fail;with_reducible refine(aPQ A0 d0.length c0 w).mono ?_
 rintro e w1 ⟨rfl,rfl⟩;rw[hbig2];go_wp2_with fail;with_reducible refine(aEL A0 d0 c0 _ _ _o0 hl0 r0).mono ?_
 rintro e wa1 ⟨r,s,A1,c1,es,r2,s2,A2,c2,es2,rfl,dg,dg2,o1,o2,m⟩;replace r0:=r0.mid m oZl;replace hm:=hm.trans m;clear m;have hl1:es.length<=1048576:=by have:=dg.len;omega
 have hl2:es2.length<=1048576:=by have:=dg2.len;omega
 clear dg dg2;have hc1:=o1.cnt.1;have hc2:=o2.cnt.1;obtain⟨rr,rs,res,b,hci⟩:=aGb r s es r2 s2 es2 hl1 hl2;have hl3:=aFJ hci hl1 hl2;have HCI:=oH hci;obtain⟨n,hn⟩:=aIu r s es r2 s2 es2 hl1 hl2;have HN:=oH hn;obtain⟨cr,hcr⟩:=aFZ r s es r2 s2 es2 hl1 hl2;have hlc:=aFI hcr hl1 hl2;have HCR:=oH hcr;clear hci hn hcr;have al:=Mid.alloc wa1 (.cells #[.int .i64 r,.int .i64 s,.slice A1 es.length c1] 35);have BA:=Box.new wa1 #[.int .i64 r,.int .i64 s,.slice A1 es.length c1] 35;obtain⟨nBA,hnBA⟩:∃ g,wa1.heap.size=g:=⟨_,rfl⟩
 replace r0:=r0.mid al oZl;replace o1:=o1.mid al oZl;replace o2:=o2.mid al oZl;replace hm:=hm.trans al;rw[hnBA] at BA;obtain⟨wBA,hwBA⟩:∃ x,wa1.alloc (.cells #[.int .i64 r,.int .i64 s,.slice A1 es.length c1] 35)=x:=⟨_,rfl⟩
 rw[hwBA] at r0 o1 o2 BA hm;clear al;have hzBA:wBA.heap.size=nBA+1:=by rw[<- hwBA,World.size_alloc,hnBA]
 have al:=Mid.alloc wBA (.cells #[.int .i64 r2,.int .i64 s2,.slice A2 es2.length c2] 35);have BB:=Box.new wBA #[.int .i64 r2,.int .i64 s2,.slice A2 es2.length c2] 35;replace r0:=r0.mid al oZl;replace o1:=o1.mid al oZl;replace o2:=o2.mid al oZl;replace BA:=BA.mid al oZr;replace hm:=hm.trans al;rw[hzBA] at BB;obtain⟨wBB,hwBB⟩:∃ x,wBA.alloc (.cells #[.int .i64 r2,.int .i64 s2,.slice A2 es2.length c2] 35)=x:=⟨_,rfl⟩
 rw[hwBB] at r0 o1 o2 BA BB hm;clear al;have BAl:=BA.1;obtain⟨BA0,BA1,BA2⟩:=BA.c3 rfl;have BBl:=BB.1;obtain⟨BB0,BB1,BB2⟩:=BB.c3 rfl;go_wp2_with fail;clear BAl BA0 BA1 BA2 BBl BB0 BB1 BB2 hnBA hwBA hzBA hwBB;with_reducible refine(aFM r s A1 es c1 r2 s2 A2 es2 c2 _ _ _ o1 hl1 _ _ o2 hl2 rr rs res b HCI.out).mono ?_
 rintro e wa2 ⟨A5,c5,rfl,o5,m⟩;replace r0:=r0.mid m oZl;replace o1:=o1.mid m oZl;replace o2:=o2.mid m oZl;replace BA:=BA.mid m oZr;replace BB:=BB.mid m oZr;replace hm:=hm.trans m;clear m;have al:=Mid.alloc wa2 (.cells #[.int .i64 rr,.int .i64 rs,.slice A5 res.length c5] 35);have B5:=Box.new wa2 #[.int .i64 rr,.int .i64 rs,.slice A5 res.length c5] 35;obtain⟨nB5,hnB5⟩:∃ g,wa2.heap.size=g:=⟨_,rfl⟩
 replace r0:=r0.mid al oZl;replace o1:=o1.mid al oZl;replace o2:=o2.mid al oZl;replace o5:=o5.mid al oZl;replace BA:=BA.mid al oZr;replace BB:=BB.mid al oZr;replace hm:=hm.trans al;rw[hnB5] at B5;obtain⟨wB5,hwB5⟩:∃ x,wa2.alloc (.cells #[.int .i64 rr,.int .i64 rs,.slice A5 res.length c5] 35)=x:=⟨_,rfl⟩
 rw[hwB5] at r0 o1 o2 o5 BA BB B5 hm;clear al;have BAl:=BA.1;obtain⟨BA0,BA1,BA2⟩:=BA.c3 rfl;have BBl:=BB.1;obtain⟨BB0,BB1,BB2⟩:=BB.c3 rfl;go_wp2_with fail;clear BAl BA0 BA1 BA2 BBl BB0 BB1 BB2 hnB5 hwB5;with_reducible refine(aFO r s A1 es c1 r2 s2 A2 es2 c2 _ _ _ o1 hl1 _ _ o2 hl2 rr rs res b HCI.out).mono ?_
 rintro e wa3 ⟨A7,c7,rfl,o7,m⟩;replace r0:=r0.mid m oZl;replace o1:=o1.mid m oZl;replace o2:=o2.mid m oZl;replace o5:=o5.mid m oZl;replace BA:=BA.mid m oZr;replace BB:=BB.mid m oZr;replace B5:=B5.mid m oZr;replace hm:=hm.trans m;clear m;have al:=Mid.alloc wa3 (.cells #[.int .i64 rr,.int .i64 rs,.slice A7 res.length c7] 35);have B7:=Box.new wa3 #[.int .i64 rr,.int .i64 rs,.slice A7 res.length c7] 35;obtain⟨nB7,hnB7⟩:∃ g,wa3.heap.size=g:=⟨_,rfl⟩
 replace r0:=r0.mid al oZl;replace o1:=o1.mid al oZl;replace o2:=o2.mid al oZl;replace o5:=o5.mid al oZl;replace o7:=o7.mid al oZl;replace BA:=BA.mid al oZr;replace BB:=BB.mid al oZr;replace B5:=B5.mid al oZr;replace hm:=hm.trans al;rw[hnB7] at B7;obtain⟨wB7,hwB7⟩:∃ x,wa3.alloc (.cells #[.int .i64 rr,.int .i64 rs,.slice A7 res.length c7] 35)=x:=⟨_,rfl⟩
 rw[hwB7] at r0 o1 o2 o5 o7 BA BB B5 B7 hm;clear al;have BAl:=BA.1;obtain⟨BA0,BA1,BA2⟩:=BA.c3 rfl;have BBl:=BB.1;obtain⟨BB0,BB1,BB2⟩:=BB.c3 rfl;go_wp2_with fail;clear BAl BA0 BA1 BA2 BBl BB0 BB1 BB2 hnB7 hwB7;with_reducible refine(aHY r s A1 es c1 r2 s2 A2 es2 c2 _ _ _ o1 hl1 _ _ o2 hl2 n HN.out).mono ?_
 rintro e wa4 ⟨rfl,m⟩;replace r0:=r0.mid m oZl;replace o1:=o1.mid m oZl;replace o2:=o2.mid m oZl;replace o5:=o5.mid m oZl;replace o7:=o7.mid m oZl;replace BA:=BA.mid m oZr;replace BB:=BB.mid m oZr;replace B5:=B5.mid m oZr;replace B7:=B7.mid m oZr;replace hm:=hm.trans m;clear m;have hc7:=o7.cnt.1;have hbb:(b != b)=false:=by simp
 replace o1:=o1.wide oZ o1.size oN;replace o2:=o2.wide oZ o2.size oN;replace o7:=o7.wide oZ o7.size oN;obtain⟨hL,hhL⟩:∃ x,x=wa4.heap.size:=⟨_,rfl⟩
 rw[<- hhL] at o1 o2 o7;clear hhL;go_upto_region 7 with fail
 go_cut [75] from 50 to 75 (fun v wx=>v=.bool false/\Box wx nBA [.int .i64 r,.int .i64 s,.slice A1 es.length c1]/\Box wx (nBA+1) [.int .i64 r2,.int .i64 s2,.slice A2 es2.length c2]/\Box wx nB7 [.int .i64 rr,.int .i64 rs,.slice A7 res.length c7]/\OG wx 0 hL A1 c1 es/\OG wx 0 hL A2 c2 es2/\OG wx 0 hL A7 c7 res/\RV wx 0 w.heap.size A0 (aIz d0)/\Mid 0 0 w wx)
 case first=>
  have hmd:=Mid.drew1 wa4;replace r0:=r0.mid hmd oZl;replace o1:=o1.mid hmd oZl;replace o2:=o2.mid hmd oZl;replace o5:=o5.mid hmd oZl;replace o7:=o7.mid hmd oZl;replace BA:=BA.mid hmd oZr;replace BB:=BB.mid hmd oZr;replace B5:=B5.mid hmd oZr;replace B7:=B7.mid hmd oZr;replace hm:=hm.trans hmd;clear hmd;have hS:=(And.intro (BA.c3 rfl) (And.intro (BB.c3 rfl) (And.intro (B5.c3 rfl) (B7.c3 rfl))))
  refine aAl (S:=(fun w'=>(w'.cell? ⟨nBA,0,none⟩=some (.int .i64 r)/\w'.cell? ⟨nBA,1,none⟩=some (.int .i64 s)/\w'.cell? ⟨nBA,2,none⟩=some (.slice A1 es.length c1))/\(w'.cell? ⟨nBA+1,0,none⟩=some (.int .i64 r2)/\w'.cell? ⟨nBA+1,1,none⟩=some (.int .i64 s2)/\w'.cell? ⟨nBA+1,2,none⟩=some (.slice A2 es2.length c2))/\(w'.cell? ⟨nB5,0,none⟩=some (.int .i64 rr)/\w'.cell? ⟨nB5,1,none⟩=some (.int .i64 rs)/\w'.cell? ⟨nB5,2,none⟩=some (.slice A5 res.length c5))/\(w'.cell? ⟨nB7,0,none⟩=some (.int .i64 rr)/\w'.cell? ⟨nB7,1,none⟩=some (.int .i64 rs)/\w'.cell? ⟨nB7,2,none⟩=some (.slice A7 res.length c7)))) [] (by kernel_rfl) hS ?_;generalize World.drew wa4=wz at hS r0 o1 o2 o5 o7 BA BB B5 B7 hm |-;clear hS;refine tkZ [] 0 rfl (And.intro (BA.c3 rfl) (And.intro (BB.c3 rfl) (And.intro (B5.c3 rfl) (B7.c3 rfl)))) ?_;try simp only[oP]
  refine tkZ [] 1 rfl (And.intro (BA.c3 rfl) (And.intro (BB.c3 rfl) (And.intro (B5.c3 rfl) (B7.c3 rfl)))) ?_;try simp only[oP]
  refine tkZ [] 2 rfl (And.intro (BA.c3 rfl) (And.intro (BB.c3 rfl) (And.intro (B5.c3 rfl) (B7.c3 rfl)))) ?_;try simp only[oP]
  refine tkZ [] 3 rfl (And.intro (BA.c3 rfl) (And.intro (BB.c3 rfl) (And.intro (B5.c3 rfl) (B7.c3 rfl)))) ?_;try simp only[oP]
  refine tkZ [] 4 rfl (And.intro (BA.c3 rfl) (And.intro (BB.c3 rfl) (And.intro (B5.c3 rfl) (B7.c3 rfl)))) ?_;try simp only[oP]
  refine tkZ [] 5 rfl (And.intro (BA.c3 rfl) (And.intro (BB.c3 rfl) (And.intro (B5.c3 rfl) (B7.c3 rfl)))) ?_;try simp only[oP]
  have HZ:=oH (aBi rr rs A5 res c5 rr rs A7 res c7 wz _ _ _ _ (OG.rg o5) (OG.rg o7) hl3 hl3 true (by simp));refine rdZ 6 rfl (fun K hK=>?_)
  (go_simp;(with_reducible refine(HZ.out).mono ?_);rintro en wz5 ⟨rfl,mz5⟩;have BAt:=BA.mid mz5 oZr;have BBt:=BB.mid mz5 oZr;have B5t:=B5.mid mz5 oZr;have B7t:=B7.mid mz5 oZr;go_wp2_with fail)
  refine hK.out _ _ (Or.inr (And.intro (BAt.c3 rfl) (And.intro (BBt.c3 rfl) (And.intro (B5t.c3 rfl) (B7t.c3 rfl))))) (fun _=>?_);clear hK K;try simp only[oP]
  clear HZ BAt BBt B5t B7t;replace r0:=r0.mid mz5 oZl;replace o1:=o1.mid mz5 oZl;replace o2:=o2.mid mz5 oZl;replace o5:=o5.mid mz5 oZl;replace o7:=o7.mid mz5 oZl;replace BA:=BA.mid mz5 oZr;replace BB:=BB.mid mz5 oZr;replace B5:=B5.mid mz5 oZr;replace B7:=B7.mid mz5 oZr;replace hm:=hm.trans mz5;clear mz5;clear hbb;refine tkZ [] 7 rfl (And.intro (BA.c3 rfl) (And.intro (BB.c3 rfl) (And.intro (B5.c3 rfl) (B7.c3 rfl)))) ?_;try simp only[oP]
  refine tkZ [] 8 rfl (And.intro (BA.c3 rfl) (And.intro (BB.c3 rfl) (And.intro (B5.c3 rfl) (B7.c3 rfl)))) ?_;try simp only[oP]
  refine tkZ [] 9 rfl (And.intro (BA.c3 rfl) (And.intro (BB.c3 rfl) (And.intro (B5.c3 rfl) (B7.c3 rfl)))) ?_;try simp only[oP]
  refine tkZ [] 10 rfl (And.intro (BA.c3 rfl) (And.intro (BB.c3 rfl) (And.intro (B5.c3 rfl) (B7.c3 rfl)))) ?_;try simp only[oP]
  refine tkZ [] 11 rfl (And.intro (BA.c3 rfl) (And.intro (BB.c3 rfl) (And.intro (B5.c3 rfl) (B7.c3 rfl)))) ?_;try simp only[oP]
  refine tkZ [] 12 rfl (And.intro (BA.c3 rfl) (And.intro (BB.c3 rfl) (And.intro (B5.c3 rfl) (B7.c3 rfl)))) ?_;try simp only[oP]
  have HZ:=oH (aIc r s A1 es c1 r2 s2 A2 es2 c2 wz5 _ _ o1 hl1 _ _ o2 hl2 n HN.out);refine rdZ 13 rfl (fun K hK=>?_)
  (go_simp;(with_reducible refine(HZ.out).mono ?_);rintro en wz6 ⟨rfl,mz6⟩;have BAt:=BA.mid mz6 oZr;have BBt:=BB.mid mz6 oZr;have B5t:=B5.mid mz6 oZr;have B7t:=B7.mid mz6 oZr;go_wp2_with fail)
  refine hK.out _ _ (Or.inr (And.intro (BAt.c3 rfl) (And.intro (BBt.c3 rfl) (And.intro (B5t.c3 rfl) (B7t.c3 rfl))))) (fun _=>?_);clear hK K;try simp only[oP]
  clear HZ BAt BBt B5t B7t;replace r0:=r0.mid mz6 oZl;replace o1:=o1.mid mz6 oZl;replace o2:=o2.mid mz6 oZl;replace o5:=o5.mid mz6 oZl;replace o7:=o7.mid mz6 oZl;replace BA:=BA.mid mz6 oZr;replace BB:=BB.mid mz6 oZr;replace B5:=B5.mid mz6 oZr;replace B7:=B7.mid mz6 oZr;replace hm:=hm.trans mz6;clear mz6;refine tkZ [] 14 rfl (And.intro (BA.c3 rfl) (And.intro (BB.c3 rfl) (And.intro (B5.c3 rfl) (B7.c3 rfl)))) ?_;try simp only[oP]
  refine tkZ [] 15 rfl (And.intro (BA.c3 rfl) (And.intro (BB.c3 rfl) (And.intro (B5.c3 rfl) (B7.c3 rfl)))) ?_;try simp only[oP]
  refine tkZ [] 16 rfl (And.intro (BA.c3 rfl) (And.intro (BB.c3 rfl) (And.intro (B5.c3 rfl) (B7.c3 rfl)))) ?_;try simp only[oP]
  refine tkZ [] 17 rfl (And.intro (BA.c3 rfl) (And.intro (BB.c3 rfl) (And.intro (B5.c3 rfl) (B7.c3 rfl)))) ?_;try simp only[oP]
  refine tkZ [] 18 rfl (And.intro (BA.c3 rfl) (And.intro (BB.c3 rfl) (And.intro (B5.c3 rfl) (B7.c3 rfl)))) ?_;try simp only[oP]
  refine tkZ [] 20 rfl (And.intro (BA.c3 rfl) (And.intro (BB.c3 rfl) (And.intro (B5.c3 rfl) (B7.c3 rfl)))) ?_;try simp only[oP]
  refine tkZ [] 21 rfl (And.intro (BA.c3 rfl) (And.intro (BB.c3 rfl) (And.intro (B5.c3 rfl) (B7.c3 rfl)))) ?_;try simp only[oP]
  have HZ:=oH (aFL r s A1 es c1 r2 s2 A2 es2 c2 wz6 _ _ o1 hl1 _ _ o2 hl2 cr HCR.out);refine rdZ 19 rfl (fun K hK=>?_)
  (go_simp;(with_reducible refine(HZ.out).mono ?_);rintro en wz7 ⟨Ap,cp,rfl,op,mz7⟩;have BAt:=BA.mid mz7 oZr;have BBt:=BB.mid mz7 oZr;have B5t:=B5.mid mz7 oZr;have B7t:=B7.mid mz7 oZr;go_wp2_with fail)
  refine hK.out _ _ (Or.inr (And.intro (BAt.c3 rfl) (And.intro (BBt.c3 rfl) (And.intro (B5t.c3 rfl) (B7t.c3 rfl))))) (fun _=>?_);clear hK K;try simp only[oP]
  clear HZ BAt BBt B5t B7t;replace r0:=r0.mid mz7 oZl;replace o1:=o1.mid mz7 oZl;replace o2:=o2.mid mz7 oZl;replace o5:=o5.mid mz7 oZl;replace o7:=o7.mid mz7 oZl;replace BA:=BA.mid mz7 oZr;replace BB:=BB.mid mz7 oZr;replace B5:=B5.mid mz7 oZr;replace B7:=B7.mid mz7 oZr;replace hm:=hm.trans mz7;clear mz7;have HZ:=oH (aFN r s A1 es c1 r2 s2 A2 es2 c2 wz7 _ _ o1 hl1 _ _ o2 hl2 cr HCR.out);refine rdZ 22 rfl (fun K hK=>?_)
  (go_simp;(with_reducible refine(HZ.out).mono ?_);rintro en wz8 ⟨Aq,cq,rfl,oq,mz8⟩;have BAt:=BA.mid mz8 oZr;have BBt:=BB.mid mz8 oZr;have B5t:=B5.mid mz8 oZr;have B7t:=B7.mid mz8 oZr;go_wp2_with fail)
  refine hK.out _ _ (Or.inr (And.intro (BAt.c3 rfl) (And.intro (BBt.c3 rfl) (And.intro (B5t.c3 rfl) (B7t.c3 rfl))))) (fun _=>?_);clear hK K;try simp only[oP]
  clear HZ BAt BBt B5t B7t;replace r0:=r0.mid mz8 oZl;replace o1:=o1.mid mz8 oZl;replace o2:=o2.mid mz8 oZl;replace o5:=o5.mid mz8 oZl;replace o7:=o7.mid mz8 oZl;replace op:=op.mid mz8 oZl;replace BA:=BA.mid mz8 oZr;replace BB:=BB.mid mz8 oZr;replace B5:=B5.mid mz8 oZr;replace B7:=B7.mid mz8 oZr;replace hm:=hm.trans mz8;clear mz8;have hrp:=OI.ri op;have hrq:=OI.ri oq;have HZ:=oH (aNu Ap cr cp Aq cq wz8 _ _ _ _ hrp hrq hlc);refine rdZ 23 rfl (fun K hK=>?_)
  (go_simp;(with_reducible refine(HZ.out).mono ?_);rintro en wz9 ⟨rfl,mz9⟩;have BAt:=BA.mid mz9 oZr;have BBt:=BB.mid mz9 oZr;have B5t:=B5.mid mz9 oZr;have B7t:=B7.mid mz9 oZr;go_wp2_with fail)
  refine hK.out _ _ (Or.inr (And.intro (BAt.c3 rfl) (And.intro (BBt.c3 rfl) (And.intro (B5t.c3 rfl) (B7t.c3 rfl))))) (fun _=>?_);clear hK K;try simp only[oP]
  clear HZ BAt BBt B5t B7t;replace r0:=r0.mid mz9 oZl;replace o1:=o1.mid mz9 oZl;replace o2:=o2.mid mz9 oZl;replace o5:=o5.mid mz9 oZl;replace o7:=o7.mid mz9 oZl;replace op:=op.mid mz9 oZl;replace oq:=oq.mid mz9 oZl;replace BA:=BA.mid mz9 oZr;replace BB:=BB.mid mz9 oZr;replace B5:=B5.mid mz9 oZr;replace B7:=B7.mid mz9 oZr;replace hm:=hm.trans mz9;clear mz9;clear hrp hrq;refine tkZ [] 24 rfl (And.intro (BA.c3 rfl) (And.intro (BB.c3 rfl) (And.intro (B5.c3 rfl) (B7.c3 rfl)))) ?_;try simp only[oP]
  refine tkZ [] 25 rfl (And.intro (BA.c3 rfl) (And.intro (BB.c3 rfl) (And.intro (B5.c3 rfl) (B7.c3 rfl)))) ?_;try simp only[oP]
  refine aAh (by kernel_rfl) ?_ _;go_wp2_with fail;go_meet
  case rel=>exact⟨rfl,BA,BB,B7,o1,o2,o7,r0,hm⟩
 case rest=>
 clear BA BB B5 B7 o1 o2 o5 o7 r0 hm HCR hlc hbb;obtain⟨rfl,BA,BB,B7,o1,o2,o7,r0,hm⟩:=hcut;obtain⟨ia,hia⟩:=aUm r s es;have HIA:=oH hia;obtain⟨ib,hib⟩:=aUm r2 s2 es2;have HIB:=oH hib;obtain⟨ra,hra⟩:=aCc r s es hl1;have HRA:=oH hra;obtain⟨rb,hrb⟩:=aCc r2 s2 es2 hl2;have HRB:=oH hrb;have hbp:=aUD (aRB hra hl1) (aRB hrb hl2);have HBP:=oH hbp;clear hia hib hra hrb hbp;go_upto_region 9 with fail
 go_cut [97] from 76 to 97 (fun v wx=>v=.bool false/\Box wx nBA [.int .i64 r,.int .i64 s,.slice A1 es.length c1]/\Box wx (nBA+1) [.int .i64 r2,.int .i64 s2,.slice A2 es2.length c2]/\Box wx nB7 [.int .i64 rr,.int .i64 rs,.slice A7 res.length c7]/\OG wx 0 hL A1 c1 es/\OG wx 0 hL A2 c2 es2/\OG wx 0 hL A7 c7 res/\RV wx 0 w.heap.size A0 (aIz d0)/\Mid 0 0 w wx)
 case first=>
  cases ia
  .have BA0:=aAb BA.1 (BA.cell 0 rfl)
   have BA1:=aAb BA.1 (BA.cell 1 rfl);have BA2:=aAb BA.1 (BA.cell 2 rfl);have BB0:=aAb BB.1 (BB.cell 0 rfl);have BB1:=aAb BB.1 (BB.cell 1 rfl);have BB2:=aAb BB.1 (BB.cell 2 rfl);have hq0:=fun m os=>aAn r s A1 es c1 (wg wc m os) _ _ (OG.rg (o1.mid (Mid.ofWg wc m os) oZl)) hl1 false HIA.out;refine wqg ?_;repeat
    (with_reducible refine wpQuiet_step (fun K hK=>?_))
    go_simp
    first|(with_reducible refine hK _ ?_)|(rw[if_neg (by decide)];(with_reducible refine hK _ ?_))|(apply Exists.intro;refine⟨fun _=>?_,hK _ ?_⟩;((first|(go_at_call 45;with_reducible exact Calls.wg_of (hq0 _ _)))))
    clear hK K
   with_reducible refine wpQuiet_nil ?_
   rintro _ ⟨⟨nq,osq⟩,rfl⟩;have hwg:=Mid.ofWg wc nq osq;generalize wg wc nq osq=wq40 at hwg |-;replace o1:=o1.mid hwg oZl;replace o2:=o2.mid hwg oZl;replace o7:=o7.mid hwg oZl;replace r0:=r0.mid hwg oZl;replace BA:=BA.mid hwg oZr;replace BB:=BB.mid hwg oZr;replace B7:=B7.mid hwg oZr;replace hm:=hm.trans hwg;clear hwg hq0 BA0 BA1 BA2 BB0 BB1 BB2;go_wp2_with fail;go_meet
   case rel=>exact⟨rfl,BA,BB,B7,o1,o2,o7,r0,hm⟩
  cases ib
  .have BA0:=aAb BA.1 (BA.cell 0 rfl)
   have BA1:=aAb BA.1 (BA.cell 1 rfl);have BA2:=aAb BA.1 (BA.cell 2 rfl);have BB0:=aAb BB.1 (BB.cell 0 rfl);have BB1:=aAb BB.1 (BB.cell 1 rfl);have BB2:=aAb BB.1 (BB.cell 2 rfl);have hq0:=fun m os=>aAn r s A1 es c1 (wg wc m os) _ _ (OG.rg (o1.mid (Mid.ofWg wc m os) oZl)) hl1 true HIA.out;have hq1:=fun m os=>aAn r2 s2 A2 es2 c2 (wg wc m os) _ _ (OG.rg (o2.mid (Mid.ofWg wc m os) oZl)) hl2 false HIB.out;refine wqg ?_;repeat
    (with_reducible refine wpQuiet_step (fun K hK=>?_))
    go_simp
    first|(with_reducible refine hK _ ?_)|(rw[if_neg (by decide)];(with_reducible refine hK _ ?_))|(apply Exists.intro;refine⟨fun _=>?_,hK _ ?_⟩;((first|(go_at_call 45;with_reducible exact Calls.wg_of (hq0 _ _))|(go_at_call 45;with_reducible exact Calls.wg_of (hq1 _ _)))))
    clear hK K
   with_reducible refine wpQuiet_nil ?_
   rintro _ ⟨⟨nq,osq⟩,rfl⟩;have hwg:=Mid.ofWg wc nq osq;generalize wg wc nq osq=wq40 at hwg |-;replace o1:=o1.mid hwg oZl;replace o2:=o2.mid hwg oZl;replace o7:=o7.mid hwg oZl;replace r0:=r0.mid hwg oZl;replace BA:=BA.mid hwg oZr;replace BB:=BB.mid hwg oZr;replace B7:=B7.mid hwg oZr;replace hm:=hm.trans hwg;clear hwg hq0 hq1 BA0 BA1 BA2 BB0 BB1 BB2;go_wp2_with fail;go_meet
   case rel=>exact⟨rfl,BA,BB,B7,o1,o2,o7,r0,hm⟩
  by_cases hrk:r=r2
  .subst hrk
   have hng:=aPw HN.out (HIA.out.1 rfl) (HIB.out.1 rfl) HRA.out HRB.out;obtain⟨P,hP⟩:∃ P,ra * rb=P:=⟨_,rfl⟩
   have hbp:=HBP.out;rw[hP] at hng hbp;have hw1:IntKind.i64.wrap P=P:=IntWalk.i64_in _ (by omega);have hw2:wrap64 P=P:=by unfold wrap64;omega
   rw[<- hP] at hw1 hw2 hng;clear hP hbp;have BA0:=aAb BA.1 (BA.cell 0 rfl);have BA1:=aAb BA.1 (BA.cell 1 rfl);have BA2:=aAb BA.1 (BA.cell 2 rfl);have BB0:=aAb BB.1 (BB.cell 0 rfl);have BB1:=aAb BB.1 (BB.cell 1 rfl);have BB2:=aAb BB.1 (BB.cell 2 rfl);have hq0:=fun m os=>aAn r s A1 es c1 (wg wc m os) _ _ (OG.rg (o1.mid (Mid.ofWg wc m os) oZl)) hl1 true HIA.out;have hq1:=fun m os=>aAn r s2 A2 es2 c2 (wg wc m os) _ _ (OG.rg (o2.mid (Mid.ofWg wc m os) oZl)) hl2 true HIB.out;have hq2:=fun m os=>aBt r s A1 es c1 (wg wc m os) _ _ (o1.mid (Mid.ofWg wc m os) oZl) hl1 ra HRA.out;have hq3:=fun m os=>aBt r s2 A2 es2 c2 (wg wc m os) _ _ (o2.mid (Mid.ofWg wc m os) oZl) hl2 rb HRB.out;refine wqg ?_;repeat
    (with_reducible refine wpQuiet_step (fun K hK=>?_))
    go_simp
    first|(with_reducible refine hK _ ?_)|(rw[if_neg (by decide)];(with_reducible refine hK _ ?_))|(apply Exists.intro;refine⟨fun _=>?_,hK _ ?_⟩;((first|(go_at_call 45;with_reducible exact Calls.wg_of (hq0 _ _))|(go_at_call 45;with_reducible exact Calls.wg_of (hq1 _ _))|(go_at_call 46;with_reducible exact Calls.wg_of (hq2 _ _))|(go_at_call 46;with_reducible exact Calls.wg_of (hq3 _ _)))))
    clear hK K
   with_reducible refine wpQuiet_nil ?_
   rintro _ ⟨⟨nq,osq⟩,rfl⟩;have hwg:=Mid.ofWg wc nq osq;generalize wg wc nq osq=wq40 at hwg |-;replace o1:=o1.mid hwg oZl;replace o2:=o2.mid hwg oZl;replace o7:=o7.mid hwg oZl;replace r0:=r0.mid hwg oZl;replace BA:=BA.mid hwg oZr;replace BB:=BB.mid hwg oZr;replace B7:=B7.mid hwg oZr;replace hm:=hm.trans hwg;clear hwg hq0 hq1 hq2 hq3 BA0 BA1 BA2 BB0 BB1 BB2;go_wp2_with fail;go_meet
   case rel=>exact⟨rfl,BA,BB,B7,o1,o2,o7,r0,hm⟩
  have hrk2:(r == r2)=false:=by simp[hrk]
  have BA0:=aAb BA.1 (BA.cell 0 rfl);have BA1:=aAb BA.1 (BA.cell 1 rfl);have BA2:=aAb BA.1 (BA.cell 2 rfl);have BB0:=aAb BB.1 (BB.cell 0 rfl);have BB1:=aAb BB.1 (BB.cell 1 rfl);have BB2:=aAb BB.1 (BB.cell 2 rfl);have hq0:=fun m os=>aAn r s A1 es c1 (wg wc m os) _ _ (OG.rg (o1.mid (Mid.ofWg wc m os) oZl)) hl1 true HIA.out;have hq1:=fun m os=>aAn r2 s2 A2 es2 c2 (wg wc m os) _ _ (OG.rg (o2.mid (Mid.ofWg wc m os) oZl)) hl2 true HIB.out;refine wqg ?_;repeat
   (with_reducible refine wpQuiet_step (fun K hK=>?_))
   go_simp
   first|(with_reducible refine hK _ ?_)|(rw[if_neg (by decide)];(with_reducible refine hK _ ?_))|(apply Exists.intro;refine⟨fun _=>?_,hK _ ?_⟩;((first|(go_at_call 45;with_reducible exact Calls.wg_of (hq0 _ _))|(go_at_call 45;with_reducible exact Calls.wg_of (hq1 _ _)))))
   clear hK K
  with_reducible refine wpQuiet_nil ?_
  rintro _ ⟨⟨nq,osq⟩,rfl⟩;have hwg:=Mid.ofWg wc nq osq;generalize wg wc nq osq=wq40 at hwg |-;replace o1:=o1.mid hwg oZl;replace o2:=o2.mid hwg oZl;replace o7:=o7.mid hwg oZl;replace r0:=r0.mid hwg oZl;replace BA:=BA.mid hwg oZr;replace BB:=BB.mid hwg oZr;replace B7:=B7.mid hwg oZr;replace hm:=hm.trans hwg;clear hwg hq0 hq1 BA0 BA1 BA2 BB0 BB1 BB2;go_wp2_with fail;go_meet
  case rel=>exact⟨rfl,BA,BB,B7,o1,o2,o7,r0,hm⟩
 case rest=>
 clear BA BB B7 o1 o2 o7 r0 hm HIA HIB HRA HRB HBP;obtain⟨rfl,BA,BB,B7,o1,o2,o7,r0,hm⟩:=hcut;go_upto_if 98 with fail
 go_cut [2] from 3 to 213 (fun v wx=>RV wx 0 w.heap.size A0 (aIz d0)/\Mid 0 0 w wx)
 case first=>
  cases b
  .go_wp2_with fail
   go_meet
   case rel=>exact⟨r0,hm⟩
  have hmp:=aQH HCI.out;have HMP:=oH hmp;obtain⟨rm,hrm⟩:=aCc rr rs res hl3;have HRM:=oH hrm;have hng:=aRC HCI.out HN.out hrm;clear hrm hmp;have B7l:=B7.1;obtain⟨B70,B71,B72⟩:=B7.c3 rfl;have BAl:=BA.1;obtain⟨BA0,BA1,BA2⟩:=BA.c3 rfl;go_wp2_with fail;clear B7l B70 B71 B72 BAl BA0 BA1 BA2;with_reducible refine(aFT rr rs A7 res c7 r s A1 es c1 _ _ _ _ _ (OG.rg o7) (OG.rg o1) hl3 hc7 hl1 hc1 true (iff_of_true rfl HMP.out.i1)).mono ?_
  rintro e wa41 ⟨rfl,m⟩;replace o1:=o1.mid m oZl;replace o2:=o2.mid m oZl;replace o7:=o7.mid m oZl;replace r0:=r0.mid m oZl;replace BA:=BA.mid m oZr;replace BB:=BB.mid m oZr;replace B7:=B7.mid m oZr;replace hm:=hm.trans m;clear m;have B7l:=B7.1;obtain⟨B70,B71,B72⟩:=B7.c3 rfl;have BBl:=BB.1;obtain⟨BB0,BB1,BB2⟩:=BB.c3 rfl;go_wp2_with fail;clear B7l B70 B71 B72 BBl BB0 BB1 BB2;with_reducible refine(aFT rr rs A7 res c7 r2 s2 A2 es2 c2 _ _ _ _ _ (OG.rg o7) (OG.rg o2) hl3 hc7 hl2 hc2 true (iff_of_true rfl HMP.out.i2)).mono ?_
  rintro e wa42 ⟨rfl,m⟩;replace o1:=o1.mid m oZl;replace o2:=o2.mid m oZl;replace o7:=o7.mid m oZl;replace r0:=r0.mid m oZl;replace BA:=BA.mid m oZr;replace BB:=BB.mid m oZr;replace B7:=B7.mid m oZr;replace hm:=hm.trans m;clear m;have B7l:=B7.1;obtain⟨B70,B71,B72⟩:=B7.c3 rfl;go_wp2_with fail;clear B7l B70 B71 B72;with_reducible refine(aBt rr rs A7 res c7 _ _ _ o7 hl3 rm HRM.out).mono ?_
  rintro e wa43 ⟨rfl,m⟩;replace o1:=o1.mid m oZl;replace o2:=o2.mid m oZl;replace o7:=o7.mid m oZl;replace r0:=r0.mid m oZl;replace BA:=BA.mid m oZr;replace BB:=BB.mid m oZr;replace B7:=B7.mid m oZr;replace hm:=hm.trans m;clear m;have BAl:=BA.1;obtain⟨BA0,BA1,BA2⟩:=BA.c3 rfl;go_wp2_with fail;clear BAl BA0 BA1 BA2;with_reducible refine(aJg r s A1 es c1 _ _ _ (OG.rg o1) HMP.out.c1).mono ?_
  rintro e wa44 ⟨A4,c4,l,rfl,hlw,o4,m⟩;replace o1:=o1.mid m oZl;replace o2:=o2.mid m oZl;replace o7:=o7.mid m oZl;replace r0:=r0.mid m oZl;replace BA:=BA.mid m oZr;replace BB:=BB.mid m oZr;replace B7:=B7.mid m oZr;replace hm:=hm.trans m;clear m;have HLW:=oH hlw;have hll:l.length<=38880:=hlw.1;clear hng hlw;replace o4:=o4.wide oZ (by have:=o4.rss;exact o4.1) oN;obtain⟨hM,hhM⟩:∃ x,x=wa44.heap.size:=⟨_,rfl⟩
  rw[<- hhM] at o4;clear hhM;go_wp2_with fail;go_loopw [11] (fun iv wr=>∃ i:Nat,iv=.int .i64 i/\i<=l.length/\Box wr (nBA+1) [.int .i64 r2,.int .i64 s2,.slice A2 es2.length c2]/\Box wr nB7 [.int .i64 rr,.int .i64 rs,.slice A7 res.length c7]/\OG wr 0 hL A2 c2 es2/\OG wr 0 hL A7 c7 res/\OSS wr 0 hM 44 3 A4 c4 l/\RV wr 0 w.heap.size A0 (aIz d0)/\Mid 0 0 w wr) (fun iv _=>l.length - (intOf iv).toNat)
  case atStart=>exact⟨0,by go_num,oZ,BB,B7,o2,o7,o4,r0,hm⟩
  clear BA BB B7 o2 o7 o4 r0 hm;obtain⟨i,rfl,hi,BB,B7,o2,o7,o4,r0,hm⟩:=hrel;have hi0:(0:Int)<=(i:Int):=by omega
  by_cases hlt:i<l.length
  .have hlt2:(i:Int)<(l.length:Int):=by omega
   obtain⟨bq,off,Ax,cx,x,hAl, -,hbq,hx,hcx,hrx⟩:=o4.rss.row hlt;obtain⟨hx1,hx2,hx3,hx4,hx5⟩:=HLW.out.2 x (List.mem_of_getElem? hx);obtain⟨bc,hbc⟩:=aUY es2 x;have HBC:=oH hbc;have HBD:Hid (bc=true↔IsCor rr rs res/\InS res x):=oH (hbc.trans ⟨fun h=>⟨HMP.out.c,(HMP.out.lang x hx2).2 ⟨hx3,h⟩⟩,fun h=>((HMP.out.lang x hx2).1 h.2).2⟩);have HOX:=oH hx4;have HWX:Hid (IsW r2 x):=oH (HMP.out.rk ▸ hx5);have hbw:bq<wr.heap.size:=Nat.lt_of_lt_of_le hbq o4.rss.size;subst hAl;clear hx hbc hx2 hx3 hx4 hx5;have k3:=aAb hbw hcx;go_upto_region 18 with fail
   clear hcx;have BB0:=aAb BB.1 (BB.cell 0 rfl);have BB1:=aAb BB.1 (BB.cell 1 rfl);have BB2:=aAb BB.1 (BB.cell 2 rfl);have B70:=aAb B7.1 (B7.cell 0 rfl);have B71:=aAb B7.1 (B7.cell 1 rfl);have B72:=aAb B7.1 (B7.cell 2 rfl);have hq0:=fun m os=>aKC rr rs A7 res c7 Ax x cx (wg wr m os) _ _ _ _ (OG.rg (o7.mid (Mid.ofWg wr m os) oZl)) (hrx.mid (Mid.ofWg wr m os) oZl) hl3 hc7 (by omega) HOX.out bc HBD.out;have hq1:=fun m os=>aJx r2 s2 A2 es2 c2 Ax x cx (wg wr m os) _ _ _ _ (OG.rg (o2.mid (Mid.ofWg wr m os) oZl)) (hrx.mid (Mid.ofWg wr m os) oZl) HMP.out.c2 HWX.out (by omega) HOX.out bc HBC.out;refine wqg ?_;repeat
    (with_reducible refine wpQuiet_step (fun K hK=>?_))
    go_simp
    first|(with_reducible refine hK _ ?_)|(rw[if_neg (by decide)];(with_reducible refine hK _ ?_))|(apply Exists.intro;refine⟨fun _=>?_,hK _ ?_⟩;((first|(go_at_call 49;with_reducible exact Calls.wg_of (hq0 _ _))|(go_at_call 50;with_reducible exact Calls.wg_of (hq1 _ _)))))
    clear hK K
   with_reducible refine wpQuiet_nil ?_
   rintro _ ⟨⟨nq,osq⟩,rfl⟩;have hwg:=Mid.ofWg wr nq osq;generalize wg wr nq osq=w6 at hwg |-;replace o2:=o2.mid hwg oZl;replace o7:=o7.mid hwg oZl;replace o4:=o4.mid hwg oZl;replace r0:=r0.mid hwg oZl;replace hrx:=hrx.mid hwg oZl;replace BB:=BB.mid hwg oZr;replace B7:=B7.mid hwg oZr;replace hm:=hm.trans hwg;clear hwg hrx k3 hq0 hq1 BB0 BB1 BB2 B70 B71 B72;have hbb:(bc != bc)=false:=by simp
   go_wp2_with fail;go_roundw
   case rel=>exact⟨i+1,by go_num,by omega,BB,B7,o2,o7,o4,r0,hm⟩
   simp[intOf];omega
  have hlt2:¬ (i:Int)<(l.length:Int):=by omega
  go_wp2_with fail;go_meet
  case rel=>exact⟨r0,hm⟩
 case rest=>
 clear BA BB B7 o1 o2 o7 r0 hm HCI HN hl1 hl2 hl3 hc1 hc2 hc7;obtain⟨r0,hm⟩:=hcut;go_wp2_with fail;with_reducible refine(aGu A0 d0 c0 _ _ _o0 hl0 r0).mono ?_
 rintro e wa201 ⟨r,s,A1,c1,es,r2,s2,A2,c2,es2,u,v,rfl,dg,dg2,⟨hu,hv⟩,o1,o2,m⟩;replace r0:=r0.mid m oZl;replace hm:=hm.trans m;clear m;have hl1:es.length<=1048576:=by have:=dg.len;omega
 have hl2:es2.length<=1048576:=by have:=dg2.len;omega
 clear dg dg2;obtain⟨pr,ps,pes,pb,hpi⟩:=aIv r s es r2 s2 es2 u v hl1 hl2;have hl3:=aHS hpi hl1 hl2;have HPI:=oH hpi;have hwu:(Lit.int .i64 u).wf=true:=aFG (by omega) (by omega);have hwv:(Lit.int .i64 v).wf=true:=aFG (by omega) (by omega);clear hpi hu hv;have al:=Mid.alloc wa201 (.cells #[.int .i64 r,.int .i64 s,.slice A1 es.length c1] 35);have BC:=Box.new wa201 #[.int .i64 r,.int .i64 s,.slice A1 es.length c1] 35;obtain⟨nBC,hnBC⟩:∃ g,wa201.heap.size=g:=⟨_,rfl⟩
 replace r0:=r0.mid al oZl;replace o1:=o1.mid al oZl;replace o2:=o2.mid al oZl;replace hm:=hm.trans al;rw[hnBC] at BC;obtain⟨wBC,hwBC⟩:∃ x,wa201.alloc (.cells #[.int .i64 r,.int .i64 s,.slice A1 es.length c1] 35)=x:=⟨_,rfl⟩
 rw[hwBC] at r0 o1 o2 BC hm;clear al;have hzBC:wBC.heap.size=nBC+1:=by rw[<- hwBC,World.size_alloc,hnBC]
 have al:=Mid.alloc wBC (.cells #[.int .i64 r2,.int .i64 s2,.slice A2 es2.length c2] 35);have BD:=Box.new wBC #[.int .i64 r2,.int .i64 s2,.slice A2 es2.length c2] 35;replace r0:=r0.mid al oZl;replace o1:=o1.mid al oZl;replace o2:=o2.mid al oZl;replace BC:=BC.mid al oZr;replace hm:=hm.trans al;rw[hzBC] at BD;obtain⟨wBD,hwBD⟩:∃ x,wBC.alloc (.cells #[.int .i64 r2,.int .i64 s2,.slice A2 es2.length c2] 35)=x:=⟨_,rfl⟩
 rw[hwBD] at r0 o1 o2 BC BD hm;clear al;have BCl:=BC.1;obtain⟨BC0,BC1,BC2⟩:=BC.c3 rfl;have BDl:=BD.1;obtain⟨BD0,BD1,BD2⟩:=BD.c3 rfl;go_wp2_with fail;clear BCl BC0 BC1 BC2 BDl BD0 BD1 BD2 hnBC hwBC hzBC hwBD;with_reducible refine(aHZ r s A1 es c1 r2 s2 A2 es2 c2 u v _ _ _ o1 hl1 _ _ o2 hl2 hwu hwv pr ps pes pb HPI.out).mono ?_
 rintro e wa202 ⟨A5,c5,rfl,o5,m⟩;replace r0:=r0.mid m oZl;replace o1:=o1.mid m oZl;replace o2:=o2.mid m oZl;replace BC:=BC.mid m oZr;replace BD:=BD.mid m oZr;replace hm:=hm.trans m;clear m;have al:=Mid.alloc wa202 (.cells #[.int .i64 pr,.int .i64 ps,.slice A5 pes.length c5] 35);have B16:=Box.new wa202 #[.int .i64 pr,.int .i64 ps,.slice A5 pes.length c5] 35;obtain⟨nB16,hnB16⟩:∃ g,wa202.heap.size=g:=⟨_,rfl⟩
 replace r0:=r0.mid al oZl;replace o1:=o1.mid al oZl;replace o2:=o2.mid al oZl;replace o5:=o5.mid al oZl;replace BC:=BC.mid al oZr;replace BD:=BD.mid al oZr;replace hm:=hm.trans al;rw[hnB16] at B16;obtain⟨wB16,hwB16⟩:∃ x,wa202.alloc (.cells #[.int .i64 pr,.int .i64 ps,.slice A5 pes.length c5] 35)=x:=⟨_,rfl⟩
 rw[hwB16] at r0 o1 o2 o5 BC BD B16 hm;clear al;have BCl:=BC.1;obtain⟨BC0,BC1,BC2⟩:=BC.c3 rfl;have BDl:=BD.1;obtain⟨BD0,BD1,BD2⟩:=BD.c3 rfl;go_wp2_with fail;clear BCl BC0 BC1 BC2 BDl BD0 BD1 BD2 hnB16 hwB16;with_reducible refine(aId r s A1 es c1 r2 s2 A2 es2 c2 u v _ _ _ o1 hl1 _ _ o2 hl2 hwu hwv pr ps pes pb HPI.out).mono ?_
 rintro e wa203 ⟨A7,c7,rfl,o7,m⟩;replace r0:=r0.mid m oZl;replace o1:=o1.mid m oZl;replace o2:=o2.mid m oZl;replace o5:=o5.mid m oZl;replace BC:=BC.mid m oZr;replace BD:=BD.mid m oZr;replace B16:=B16.mid m oZr;replace hm:=hm.trans m;clear m;have al:=Mid.alloc wa203 (.cells #[.int .i64 pr,.int .i64 ps,.slice A7 pes.length c7] 35);have B18:=Box.new wa203 #[.int .i64 pr,.int .i64 ps,.slice A7 pes.length c7] 35;obtain⟨nB18,hnB18⟩:∃ g,wa203.heap.size=g:=⟨_,rfl⟩
 replace r0:=r0.mid al oZl;replace o1:=o1.mid al oZl;replace o2:=o2.mid al oZl;replace o5:=o5.mid al oZl;replace o7:=o7.mid al oZl;replace BC:=BC.mid al oZr;replace BD:=BD.mid al oZr;replace B16:=B16.mid al oZr;replace hm:=hm.trans al;rw[hnB18] at B18;obtain⟨wB18,hwB18⟩:∃ x,wa203.alloc (.cells #[.int .i64 pr,.int .i64 ps,.slice A7 pes.length c7] 35)=x:=⟨_,rfl⟩
 rw[hwB18] at r0 o1 o2 o5 o7 BC BD B16 B18 hm;clear al;clear o1 o2 BC BD;clear hwu hwv;go_wp2_with fail;clear hnB18 hwB18;with_reducible refine(aEQ A0 d0 c0 _ _ _o0 hl0 r0).mono ?_
 rintro e wa204 ⟨r3,s3,A3,c3,es3,r4,s4,A4,c4,es4,Aw,cw,xs,rfl,dg,dg2,dx,o3,o4,ow,m⟩;replace r0:=r0.mid m oZl;replace o5:=o5.mid m oZl;replace o7:=o7.mid m oZl;replace B16:=B16.mid m oZr;replace B18:=B18.mid m oZr;replace hm:=hm.trans m;clear m;have hl4:es3.length<=1048576:=by have:=dg.len;omega
 have hl5:es4.length<=1048576:=by have:=dg2.len;omega
 have HOX:=oH (aUA dx.2.1);have hlx:xs.length<=1048576:=by have:=dx.1;omega
 clear dg dg2 dx;obtain⟨mr,ms,mes,mb,hmi⟩:=aGv r3 s3 es3 r4 s4 es4 xs hl4 hl5 HOX.out hlx;have hl6:=aGc hmi hl4 hl5 HOX.out hlx;have HMI:=oH hmi;clear hmi;have al:=Mid.alloc wa204 (.cells #[.int .i64 r3,.int .i64 s3,.slice A3 es3.length c3] 35);have BE:=Box.new wa204 #[.int .i64 r3,.int .i64 s3,.slice A3 es3.length c3] 35;obtain⟨nBE,hnBE⟩:∃ g,wa204.heap.size=g:=⟨_,rfl⟩
 replace r0:=r0.mid al oZl;replace o5:=o5.mid al oZl;replace o7:=o7.mid al oZl;replace o3:=o3.mid al oZl;replace o4:=o4.mid al oZl;replace ow:=ow.mid al oZl;replace B16:=B16.mid al oZr;replace B18:=B18.mid al oZr;replace hm:=hm.trans al;rw[hnBE] at BE;obtain⟨wBE,hwBE⟩:∃ x,wa204.alloc (.cells #[.int .i64 r3,.int .i64 s3,.slice A3 es3.length c3] 35)=x:=⟨_,rfl⟩
 rw[hwBE] at r0 o5 o7 o3 o4 ow B16 B18 BE hm;clear al;have hzBE:wBE.heap.size=nBE+1:=by rw[<- hwBE,World.size_alloc,hnBE]
 have al:=Mid.alloc wBE (.cells #[.int .i64 r4,.int .i64 s4,.slice A4 es4.length c4] 35);have BF:=Box.new wBE #[.int .i64 r4,.int .i64 s4,.slice A4 es4.length c4] 35;replace r0:=r0.mid al oZl;replace o5:=o5.mid al oZl;replace o7:=o7.mid al oZl;replace o3:=o3.mid al oZl;replace o4:=o4.mid al oZl;replace ow:=ow.mid al oZl;replace B16:=B16.mid al oZr;replace B18:=B18.mid al oZr;replace BE:=BE.mid al oZr;replace hm:=hm.trans al;rw[hzBE] at BF;obtain⟨wBF,hwBF⟩:∃ x,wBE.alloc (.cells #[.int .i64 r4,.int .i64 s4,.slice A4 es4.length c4] 35)=x:=⟨_,rfl⟩
 rw[hwBF] at r0 o5 o7 o3 o4 ow B16 B18 BE BF hm;clear al;have BEl:=BE.1;obtain⟨BE0,BE1,BE2⟩:=BE.c3 rfl;have BFl:=BF.1;obtain⟨BF0,BF1,BF2⟩:=BF.c3 rfl;go_wp2_with fail;clear BEl BE0 BE1 BE2 BFl BF0 BF1 BF2 hnBE hwBE hzBE hwBF;with_reducible refine(aGq r3 s3 A3 es3 c3 r4 s4 A4 es4 c4 Aw xs cw _ _ _ o3 hl4 _ _ o4 hl5 _ _ ow HOX.out hlx mr ms mes mb HMI.out).mono ?_
 rintro e wa205 ⟨A8,c8,rfl,o8,m⟩;replace r0:=r0.mid m oZl;replace o5:=o5.mid m oZl;replace o7:=o7.mid m oZl;replace o3:=o3.mid m oZl;replace o4:=o4.mid m oZl;replace ow:=ow.mid m oZl;replace B16:=B16.mid m oZr;replace B18:=B18.mid m oZr;replace BE:=BE.mid m oZr;replace BF:=BF.mid m oZr;replace hm:=hm.trans m;clear m;have al:=Mid.alloc wa205 (.cells #[.int .i64 mr,.int .i64 ms,.slice A8 mes.length c8] 35);have B23:=Box.new wa205 #[.int .i64 mr,.int .i64 ms,.slice A8 mes.length c8] 35;obtain⟨nB23,hnB23⟩:∃ g,wa205.heap.size=g:=⟨_,rfl⟩
 replace r0:=r0.mid al oZl;replace o5:=o5.mid al oZl;replace o7:=o7.mid al oZl;replace o3:=o3.mid al oZl;replace o4:=o4.mid al oZl;replace ow:=ow.mid al oZl;replace o8:=o8.mid al oZl;replace B16:=B16.mid al oZr;replace B18:=B18.mid al oZr;replace BE:=BE.mid al oZr;replace BF:=BF.mid al oZr;replace hm:=hm.trans al;rw[hnB23] at B23;obtain⟨wB23,hwB23⟩:∃ x,wa205.alloc (.cells #[.int .i64 mr,.int .i64 ms,.slice A8 mes.length c8] 35)=x:=⟨_,rfl⟩
 rw[hwB23] at r0 o5 o7 o3 o4 ow o8 B16 B18 BE BF B23 hm;clear al;have BEl:=BE.1;obtain⟨BE0,BE1,BE2⟩:=BE.c3 rfl;have BFl:=BF.1;obtain⟨BF0,BF1,BF2⟩:=BF.c3 rfl;go_wp2_with fail;clear BEl BE0 BE1 BE2 BFl BF0 BF1 BF2 hnB23 hwB23;with_reducible refine(aGs r3 s3 A3 es3 c3 r4 s4 A4 es4 c4 Aw xs cw _ _ _ o3 hl4 _ _ o4 hl5 _ _ ow HOX.out hlx mr ms mes mb HMI.out).mono ?_
 rintro e wa206 ⟨A9,c9,rfl,o9,m⟩;replace r0:=r0.mid m oZl;replace o5:=o5.mid m oZl;replace o7:=o7.mid m oZl;replace o3:=o3.mid m oZl;replace o4:=o4.mid m oZl;replace ow:=ow.mid m oZl;replace o8:=o8.mid m oZl;replace B16:=B16.mid m oZr;replace B18:=B18.mid m oZr;replace BE:=BE.mid m oZr;replace BF:=BF.mid m oZr;replace B23:=B23.mid m oZr;replace hm:=hm.trans m;clear m;have al:=Mid.alloc wa206 (.cells #[.int .i64 mr,.int .i64 ms,.slice A9 mes.length c9] 35);have B25:=Box.new wa206 #[.int .i64 mr,.int .i64 ms,.slice A9 mes.length c9] 35;obtain⟨nB25,hnB25⟩:∃ g,wa206.heap.size=g:=⟨_,rfl⟩
 replace r0:=r0.mid al oZl;replace o5:=o5.mid al oZl;replace o7:=o7.mid al oZl;replace o3:=o3.mid al oZl;replace o4:=o4.mid al oZl;replace ow:=ow.mid al oZl;replace o8:=o8.mid al oZl;replace o9:=o9.mid al oZl;replace B16:=B16.mid al oZr;replace B18:=B18.mid al oZr;replace BE:=BE.mid al oZr;replace BF:=BF.mid al oZr;replace B23:=B23.mid al oZr;replace hm:=hm.trans al;rw[hnB25] at B25;obtain⟨wB25,hwB25⟩:∃ x,wa206.alloc (.cells #[.int .i64 mr,.int .i64 ms,.slice A9 mes.length c9] 35)=x:=⟨_,rfl⟩
 rw[hwB25] at r0 o5 o7 o3 o4 ow o8 o9 B16 B18 BE BF B23 B25 hm;clear al;clear o3 o4 ow BE BF;go_wp2_with fail;clear hnB25 hwB25;with_reducible refine(aGa A0 d0 c0 _ _ _o0 hl0 r0).mono ?_
 rintro e wa207 ⟨r5,s5,A10,c10,es5,rfl,dg,o10,m⟩;replace r0:=r0.mid m oZl;replace o5:=o5.mid m oZl;replace o7:=o7.mid m oZl;replace o8:=o8.mid m oZl;replace o9:=o9.mid m oZl;replace B16:=B16.mid m oZr;replace B18:=B18.mid m oZr;replace B23:=B23.mid m oZr;replace B25:=B25.mid m oZr;replace hm:=hm.trans m;clear m;have hl7:es5.length<=1048576:=by have:=dg.len;omega
 clear dg;obtain⟨rd,hrd⟩:=aCc r5 s5 es5 hl7;have HRD:=oH hrd;clear hrd;have hc7:=o7.cnt.1;have al:=Mid.alloc wa207 (.cells #[.int .i64 r5,.int .i64 s5,.slice A10 es5.length c10] 35);have B27:=Box.new wa207 #[.int .i64 r5,.int .i64 s5,.slice A10 es5.length c10] 35;obtain⟨nB27,hnB27⟩:∃ g,wa207.heap.size=g:=⟨_,rfl⟩
 replace r0:=r0.mid al oZl;replace o5:=o5.mid al oZl;replace o7:=o7.mid al oZl;replace o8:=o8.mid al oZl;replace o9:=o9.mid al oZl;replace o10:=o10.mid al oZl;replace B16:=B16.mid al oZr;replace B18:=B18.mid al oZr;replace B23:=B23.mid al oZr;replace B25:=B25.mid al oZr;replace hm:=hm.trans al;rw[hnB27] at B27;obtain⟨wB27,hwB27⟩:∃ x,wa207.alloc (.cells #[.int .i64 r5,.int .i64 s5,.slice A10 es5.length c10] 35)=x:=⟨_,rfl⟩
 rw[hwB27] at r0 o5 o7 o8 o9 o10 B16 B18 B23 B25 B27 hm;clear al;go_upto_region 27 with fail
 clear hnB27 hwB27;have hmb:(mb == mb)=true:=by simp
 cases pb
 .have B160:=aAb B16.1 (B16.cell 0 rfl)
  have B161:=aAb B16.1 (B16.cell 1 rfl);have B162:=aAb B16.1 (B16.cell 2 rfl);have B180:=aAb B18.1 (B18.cell 0 rfl);have B181:=aAb B18.1 (B18.cell 1 rfl);have B182:=aAb B18.1 (B18.cell 2 rfl);have B230:=aAb B23.1 (B23.cell 0 rfl);have B231:=aAb B23.1 (B23.cell 1 rfl);have B232:=aAb B23.1 (B23.cell 2 rfl);have B250:=aAb B25.1 (B25.cell 0 rfl);have B251:=aAb B25.1 (B25.cell 1 rfl);have B252:=aAb B25.1 (B25.cell 2 rfl);have B270:=aAb B27.1 (B27.cell 0 rfl);have B271:=aAb B27.1 (B27.cell 1 rfl);have B272:=aAb B27.1 (B27.cell 2 rfl);have hq0:=fun m os=>aBi pr ps A5 pes c5 pr ps A7 pes c7 (wg wB27 m os) _ _ _ _ (OG.rg (o5.mid (Mid.ofWg wB27 m os) oZl)) (OG.rg (o7.mid (Mid.ofWg wB27 m os) oZl)) hl3 hl3 true (by simp);have hq1:=fun m os=>aBi mr ms A8 mes c8 mr ms A9 mes c9 (wg wB27 m os) _ _ _ _ (OG.rg (o8.mid (Mid.ofWg wB27 m os) oZl)) (OG.rg (o9.mid (Mid.ofWg wB27 m os) oZl)) hl6 hl6 true (by simp);have hq2:=fun m os=>aBt r5 s5 A10 es5 c10 (wg wB27 m os) _ _ (o10.mid (Mid.ofWg wB27 m os) oZl) hl7 rd HRD.out;have hq3:=fun m os=>aEr r5 s5 A10 es5 c10 (wg wB27 m os) _ _ (o10.mid (Mid.ofWg wB27 m os) oZl) hl7 rd HRD.out;refine wqg ?_;repeat
   (with_reducible refine wpQuiet_step (fun K hK=>?_))
   go_simp
   first|(with_reducible refine hK _ ?_)|(rw[if_neg (by decide)];(with_reducible refine hK _ ?_))|(apply Exists.intro;refine⟨fun _=>?_,hK _ ?_⟩;((first|(go_at_call 18;with_reducible exact Calls.wg_of (hq0 _ _))|(go_at_call 18;with_reducible exact Calls.wg_of (hq1 _ _))|(go_at_call 46;with_reducible exact Calls.wg_of (hq2 _ _))|(go_at_call 58;with_reducible exact Calls.wg_of (hq3 _ _)))))
   clear hK K
  with_reducible refine wpQuiet_nil ?_
  rintro _ ⟨⟨nq,osq⟩,rfl⟩;have hwg:=Mid.ofWg wB27 nq osq;generalize wg wB27 nq osq=wq207 at hwg |-;replace r0:=r0.mid hwg oZl;replace o5:=o5.mid hwg oZl;replace o7:=o7.mid hwg oZl;replace o8:=o8.mid hwg oZl;replace o9:=o9.mid hwg oZl;replace o10:=o10.mid hwg oZl;replace B16:=B16.mid hwg oZr;replace B18:=B18.mid hwg oZr;replace B23:=B23.mid hwg oZr;replace B25:=B25.mid hwg oZr;replace B27:=B27.mid hwg oZr;replace hm:=hm.trans hwg;clear hwg hq0 hq1 hq2 hq3 B160 B161 B162 B180 B181 B182 B230 B231 B232 B250 B251 B252 B270 B271 B272;have hb9:=hm.bel;rw[<- hL0] at hb9;go_wp2_with fail;go_ret;exact⟨rfl,hb9⟩
 have HPF:=oH (aNn HPI.out);have B160:=aAb B16.1 (B16.cell 0 rfl);have B161:=aAb B16.1 (B16.cell 1 rfl);have B162:=aAb B16.1 (B16.cell 2 rfl);have B180:=aAb B18.1 (B18.cell 0 rfl);have B181:=aAb B18.1 (B18.cell 1 rfl);have B182:=aAb B18.1 (B18.cell 2 rfl);have B230:=aAb B23.1 (B23.cell 0 rfl);have B231:=aAb B23.1 (B23.cell 1 rfl);have B232:=aAb B23.1 (B23.cell 2 rfl);have B250:=aAb B25.1 (B25.cell 0 rfl);have B251:=aAb B25.1 (B25.cell 1 rfl);have B252:=aAb B25.1 (B25.cell 2 rfl);have B270:=aAb B27.1 (B27.cell 0 rfl);have B271:=aAb B27.1 (B27.cell 1 rfl);have B272:=aAb B27.1 (B27.cell 2 rfl);have hq0:=fun m os=>aBi pr ps A5 pes c5 pr ps A7 pes c7 (wg wB27 m os) _ _ _ _ (OG.rg (o5.mid (Mid.ofWg wB27 m os) oZl)) (OG.rg (o7.mid (Mid.ofWg wB27 m os) oZl)) hl3 hl3 true (by simp);have hq1:=fun m os=>aBi mr ms A8 mes c8 mr ms A9 mes c9 (wg wB27 m os) _ _ _ _ (OG.rg (o8.mid (Mid.ofWg wB27 m os) oZl)) (OG.rg (o9.mid (Mid.ofWg wB27 m os) oZl)) hl6 hl6 true (by simp);have hq2:=fun m os=>aBt r5 s5 A10 es5 c10 (wg wB27 m os) _ _ (o10.mid (Mid.ofWg wB27 m os) oZl) hl7 rd HRD.out;have hq3:=fun m os=>aEr r5 s5 A10 es5 c10 (wg wB27 m os) _ _ (o10.mid (Mid.ofWg wB27 m os) oZl) hl7 rd HRD.out;have hq4:=fun m os=>aAR pr ps A7 pes c7 (wg wB27 m os) _ _ (OG.rg (o7.mid (Mid.ofWg wB27 m os) oZl)) hl3 hc7 true (iff_of_true rfl HPF.out);refine wqg ?_;repeat
  (with_reducible refine wpQuiet_step (fun K hK=>?_))
  go_simp
  first|(with_reducible refine hK _ ?_)|(rw[if_neg (by decide)];(with_reducible refine hK _ ?_))|(apply Exists.intro;refine⟨fun _=>?_,hK _ ?_⟩;((first|(go_at_call 18;with_reducible exact Calls.wg_of (hq0 _ _))|(go_at_call 18;with_reducible exact Calls.wg_of (hq1 _ _))|(go_at_call 46;with_reducible exact Calls.wg_of (hq2 _ _))|(go_at_call 58;with_reducible exact Calls.wg_of (hq3 _ _))|(go_at_call 59;with_reducible exact Calls.wg_of (hq4 _ _)))))
  clear hK K
 with_reducible refine wpQuiet_nil ?_
 rintro _ ⟨⟨nq,osq⟩,rfl⟩;have hwg:=Mid.ofWg wB27 nq osq;generalize wg wB27 nq osq=wq207 at hwg |-;replace r0:=r0.mid hwg oZl;replace o5:=o5.mid hwg oZl;replace o7:=o7.mid hwg oZl;replace o8:=o8.mid hwg oZl;replace o9:=o9.mid hwg oZl;replace o10:=o10.mid hwg oZl;replace B16:=B16.mid hwg oZr;replace B18:=B18.mid hwg oZr;replace B23:=B23.mid hwg oZr;replace B25:=B25.mid hwg oZr;replace B27:=B27.mid hwg oZr;replace hm:=hm.trans hwg;clear hwg hq0 hq1 hq2 hq3 hq4 B160 B161 B162 B180 B181 B182 B230 B231 B232 B250 B251 B252 B270 B271 B272;have hb9:=hm.bel;rw[<- hL0] at hb9;go_wp2_with fail;go_ret;exact⟨rfl,hb9⟩
end Go.Proofs.YtkimajabegojoaaGreat
