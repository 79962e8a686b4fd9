/- Lemmas. -/
import Derived.Test.YtkimajabegojoaaGreatMt10
import Derived.Test.YtkimajabegojoaaGreatMt11
import Derived.Test.YtkimajabegojoaaGreatMt13
import Derived.Test.YtkimajabegojoaaGreatMt12
import Derived.Test.YtkimajabegojoaaGreatMt9
import Derived.Test.YtkimajabegojoaaGreatMt5
import Derived.Test.YtkimajabegojoaaGreatMt7
import Derived.Test.YtkimajabegojoaaGreatMt6
import Derived.Test.YtkimajabegojoaaGreatMt4
import Derived.Test.YtkimajabegojoaaGreatMt2
import Derived.Lib.MinMax
import Derived.Test.YtkimajabegojoaaGreatMt1
namespace Go.Proofs.YtkimajabegojoaaGreat
set_option linter.unusedVariables false
set_option linter.unusedSimpArgs false
set_option maxHeartbeats 40000000
set_option maxRecDepth 100000
open Go.RowKit
def AllTo(es:List Ed)(l:List (List Int))(k:Nat):Prop:=∀ x∈l.take k,InS es x
theorem AllTo.succ{es:List Ed}{l:List (List Int)}{k:Nat}{x:List Int}(h:AllTo es l k)(hx:l[k]?=some x)(hi:InS es x):AllTo es l (k+1):=fun y hy=>by
 rw[List.take_add_one,hx] at hy;rcases List.mem_append.1 hy with hy|hy
 .exact h y hy
 .simp at hy
  rw[hy];exact hi
theorem AllTo.all{es:List Ed}{l:List (List Int)}(h:AllTo es l l.length):∀ x∈l,InS es x:=fun x hx=>h x (by rw[List.take_length];exact hx)
theorem aQA:∀ {l:List (List Int)} {x:List Int},x∈l->x.length<=aDR l
|a::l,x,h=>by
  rcases List.mem_cons.1 h with rfl|h
  .simp[aDR]
  .have:=aQA h
   simp only[aDR] at this |-;simp;omega
theorem aHT(r s:Int)(A:Option Addr)(es:List Ed)(c:Nat)(Al:Option Addr)(l:List (List Int))(cl:Nat)(w:World)(lo hi lo' hi':Nat)(hr:RG w lo hi A es)(hw:RSS w lo' hi' Al l)(hl:es.length<=1048576)(hcl:es.length<=c)(hll:l.length+aDR l<=1048576)(hok:∀ xs∈l,OkI xs)(b:Bool)(hb:b=true↔IsCor r s es/\∀ x∈l,InS es x) :
  Calls Tryz.prog 124 #[aAw r s A es.length c,.slice Al l.length cl] w fun e w'=>e=.returned (.bool b)/\Mid 0 0 w w':=by
 have hm0:Mid 0 0 w (w.alloc (.cells #[.int .i64 r,.int .i64 s,.slice A es.length c] 35)):=Mid.alloc _ _;have b0:=Box.new w #[.int .i64 r,.int .i64 s,.slice A es.length c] 35;have HB:=oH hb;have HOK:=oH hok;clear hb hok;by_cases h:IsCor r s es
 .obtain⟨r,n,rfl,rfl⟩:=h.gr.nat
  have HC:=oH h;clear h;have hsl:=aDR l;go_enter Tryz.func124,Tryz.ntmps124
  go_wp2_with fail;with_reducible refine(aAt r n A es c _ _ _ (hr.mid hm0 oZl) hl hcl true (iff_of_true rfl HC.out)).mono ?_
  rintro e w1 ⟨rfl,hm1⟩;have b1:=b0.mid hm1 oZr;replace hm1:=hm0.trans hm1;clear hm0 b0;obtain⟨p0,p1,p2⟩:=b1.c3 rfl;go_wp2_with fail;go_loopw [6,12] (fun _ i wr=>∃ k:Nat,k<=l.length/\i=.int .i64 k/\Hid (AllTo es l k)/\Box wr w.heap.size [.int .i64 r,.int .i64 n,.slice A es.length c]/\Mid 0 0 w wr) (fun _ i _=>l.length - (intOf i).toNat)
  case atStart=>exact⟨0,oZ,rfl,oH (by intro x hx;simp at hx),b1,hm1⟩
  obtain⟨k,hk,rfl,HA,bx,hm⟩:=hrel;clear b1 hm1 p0 p1 p2;by_cases hlt:k<l.length
  .obtain⟨bq,off,A1,c1,xs,hAl, -, -,hx,hcx,hrx⟩:=(hw.mid hm oZl).row hlt
   have hlx:=aTc (List.mem_of_getElem? hx) hll;have HOX:=oH (HOK.out xs (List.mem_of_getElem? hx));have HX:=oH hx;clear hx;have HRL:=oH (fun W (h:RV W lo' hi' A1 (aAd xs))=>aDL A1 xs c1 W hi' h.rs h.1 HOX.out (by omega));have hrl:(red [] xs).length<=1048576:=by have:=aCH xs;have:=aQA (List.mem_of_getElem? HX.out);omega
   have HRO:=oH (aMm HOX.out);obtain⟨rw0,hrw⟩:∃ x,red [] xs=x:=⟨_,rfl⟩
   obtain⟨v,hv⟩:=aNG (InS es xs);have hL:v=true↔aJp es rw0:=by
    rw[<- hrw,aKL HC.out.fol,hv]
   have HL:=oH hL;have HV:=oH hv;rw[hrw] at HRL hrl HRO;clear hrw hL hv;subst hAl;obtain⟨p0,p1,p2⟩:=bx.c3 rfl;go_wp2_with fail;have hmd:=Mid.drew1 wr;replace bx:=bx.mid hmd oZr;replace hrx:=hrx.mid hmd oZl;replace hm:=hm.trans hmd;clear hmd p0 p1 p2 hcx;obtain⟨p0,p1,p2⟩:=bx.c3 rfl;refine aAl (S:=(fun w'=>w'.cell? ⟨w.heap.size,0,none⟩=some (.int .i64 r)/\w'.cell? ⟨w.heap.size,1,none⟩=some (.int .i64 n)/\w'.cell? ⟨w.heap.size,2,none⟩=some (.slice A es.length c))) [] (by kernel_rfl) ⟨p0,p1,p2⟩ ?_;generalize World.drew wr=wz at bx hrx hm p0 p1 p2 |-;have hS:wz.cell? ⟨w.heap.size,0,none⟩=some (.int .i64 r)/\wz.cell? ⟨w.heap.size,1,none⟩=some (.int .i64 n)/\wz.cell? ⟨w.heap.size,2,none⟩=some (.slice A es.length c):=⟨p0,p1,p2⟩
   refine tkZ [] 0 rfl hS ?_;try simp only[oP]
   refine tkZ [] 1 rfl hS ?_;try simp only[oP]
   clear hS p0 p1 p2;refine rdZ 2 rfl (fun K hK=>?_)
   (go_simp;(with_reducible refine(HRL.out _ hrx).mono ?_);rintro en w5 ⟨A5,c5,rfl,ho5,hm5⟩;have b05:=bx.mid hm5 oZr;go_wp2_with fail)
   refine hK.out _ _ (Or.inr (b05.c3 rfl)) (fun _=>?_);clear hK K;try simp only[oP]
   replace hm:=hm.trans hm5;clear bx hrx;refine rdZ 3 rfl (fun K hK=>?_)
   (go_simp;(with_reducible refine(aJP r n A es c A5 rw0 c5 _ _ _ _ _ (hr.mid hm oZl) (RV.of_rs (Rs.of_own ho5) oN) HC.out.gr hrl HRO.out v HL.out).mono ?_);rintro en w6 ⟨rfl,hm6⟩;have b06:=b05.mid hm6 oZr;go_wp2_with fail)
   refine hK.out _ _ (Or.inr (b06.c3 rfl)) (fun _=>?_);clear hK K;try simp only[oP]
   replace hm:=hm.trans hm6;clear b05 ho5;have hS6:=b06.c3 rfl;refine tkZ [] 4 rfl hS6 ?_;try simp only[oP]
   refine aAh (by kernel_rfl) ?_ _;clear hS6;cases v
   .obtain rfl:b=false:=aBS HB.out (fun h=>by have:=HV.out.2 (h.2 xs (List.mem_of_getElem? HX.out));cases this)
    go_wp2_with fail;go_ret;exact⟨rfl,hm⟩
   go_wp2_with fail;go_roundw
   case rel=>exact⟨k+1,by omega,by go_num,oH (HA.out.succ HX.out (HV.out.1 rfl)),b06,hm⟩
   simp[intOf];omega
  obtain rfl:k=l.length:=by omega
  obtain rfl:b=true:=HB.out.2 ⟨HC.out,HA.out.all⟩;go_wp2_with fail;go_ret;exact⟨rfl,hm⟩
 obtain rfl:b=false:=aBS HB.out (fun h2=>h h2.1);have HN:=oH h;clear h HB;go_enter Tryz.func124,Tryz.ntmps124
 go_wp2_with fail;with_reducible refine(aAt r s A es c _ _ _ (hr.mid hm0 oZl) hl hcl false (iff_of_false (by simp) HN.out)).mono ?_
 rintro e w1 ⟨rfl,hm1⟩;go_wp2_with fail;go_ret;exact⟨rfl,hm0.trans hm1⟩
theorem aOG{m:Nat}:∀ {l:List (List Int)},(∀ x∈l,x.length<=m)->aDR l<=m * l.length
|[],_=>by simp[aDR]
|a::l,h=>by
  have h1:=aOG (l:=l) (fun x hx=>h x (List.mem_cons_of_mem _ hx));have h2:=h a List.mem_cons_self;simp only[aDR] at h1 |-;rw[List.map_cons,List.sum_cons,List.length_cons,Nat.mul_succ];omega
theorem aKF(r s:Int)(A:Option Addr)(es:List Ed)(c:Nat)(r2 s2:Int)(A2:Option Addr)(es2:List Ed)(c2:Nat)(w:World)(lo hi lo' hi':Nat)(hr:RG w lo hi A es)(hr2:RG w lo' hi' A2 es2)(hl:es.length<=1048576)(hcl:es.length<=c)(hl2:es2.length<=1048576)(hcl2:es2.length<=c2)(b:Bool)(hb:b=true↔IsCor r s es/\IsCor r2 s2 es2/\r=r2/\∀ x∈basA r.toNat es,InS es2 x) :
  Calls Tryz.prog 47 #[aAw r s A es.length c,aAw r2 s2 A2 es2.length c2] w fun e w'=>e=.returned (.bool b)/\Mid 0 0 w w':=by
 have hm0:Mid 0 0 w (w.alloc (.cells #[.int .i64 r,.int .i64 s,.slice A es.length c] 35)):=Mid.alloc _ _;have b0:=Box.new w #[.int .i64 r,.int .i64 s,.slice A es.length c] 35;have hsz:(w.alloc (.cells #[.int .i64 r,.int .i64 s,.slice A es.length c] 35)).heap.size=w.heap.size+1:=by simp
 generalize hw1:(w.alloc (.cells #[.int .i64 r,.int .i64 s,.slice A es.length c] 35))=w1 at hm0 b0 hsz;have hm1:Mid 0 0 w1 (w1.alloc (.cells #[.int .i64 r2,.int .i64 s2,.slice A2 es2.length c2] 35)):=Mid.alloc _ _;have b1:=Box.new w1 #[.int .i64 r2,.int .i64 s2,.slice A2 es2.length c2] 35;rw[hsz] at b1;replace b0:=b0.mid hm1 oZr;replace hm0:=hm0.trans hm1;clear hm1;have HB:=oH hb;clear hb;by_cases h:IsCor r s es
 .obtain⟨r,n,rfl,rfl⟩:=h.gr.nat
  have HC:=oH h;clear h;by_cases h2:IsCor r2 s2 es2
  .obtain⟨r2,n2,rfl,rfl⟩:=h2.gr.nat
   have HC2:=oH h2;clear h2;by_cases he:r=r2
   focus
    subst he;have HBL:=oH (show(basA r es).length+aDR (basA r es)<=1048576 by
     have h1:=aRO HC.out;have h2:=aOG (fun x hx=>(aPK HC.out (x:=x) hx).1);omega)
    have HBO:=oH (fun x hx=>(aPK HC.out (x:=x) hx).2);have HBB:=oH (show b=true↔IsCor r n2 es2/\∀ x∈basA r es,InS es2 x by
     rw[HB.out,Int.toNat_natCast];exact⟨fun h=>⟨h.2.1,h.2.2.2⟩,fun h=>⟨HC.out,h.1,rfl,h.2⟩⟩)
    clear HB;go_enter Tryz.func47,Tryz.ntmps47
    go_wp2_with fail;generalize (w1.alloc (.cells #[.int .i64 r,.int .i64 n2,.slice A2 es2.length c2] 35))=w2 at hm0 b0 b1 |-;have hmd:=Mid.drew1 w2;replace b0:=b0.mid hmd oZr;replace b1:=b1.mid hmd oZr;replace hm0:=hm0.trans hmd;obtain⟨p0,p1,p2⟩:=b0.c3 rfl;obtain⟨q0,q1,q2⟩:=b1.c3 rfl;clear hmd hw1 hsz;refine aAl (S:=(fun w'=>(w'.cell? ⟨w.heap.size,0,none⟩=some (.int .i64 r)/\w'.cell? ⟨w.heap.size,1,none⟩=some (.int .i64 n)/\w'.cell? ⟨w.heap.size,2,none⟩=some (.slice A es.length c))/\w'.cell? ⟨w.heap.size+1,0,none⟩=some (.int .i64 r)/\w'.cell? ⟨w.heap.size+1,1,none⟩=some (.int .i64 n2)/\w'.cell? ⟨w.heap.size+1,2,none⟩=some (.slice A2 es2.length c2))) [] (by kernel_rfl) ⟨⟨p0,p1,p2⟩,q0,q1,q2⟩ ?_;generalize World.drew w2=wz at b0 b1 hm0 p0 p1 p2 q0 q1 q2 |-;have hS:(wz.cell? ⟨w.heap.size,0,none⟩=some (.int .i64 r)/\wz.cell? ⟨w.heap.size,1,none⟩=some (.int .i64 n)/\wz.cell? ⟨w.heap.size,2,none⟩=some (.slice A es.length c))/\wz.cell? ⟨w.heap.size+1,0,none⟩=some (.int .i64 r)/\wz.cell? ⟨w.heap.size+1,1,none⟩=some (.int .i64 n2)/\wz.cell? ⟨w.heap.size+1,2,none⟩=some (.slice A2 es2.length c2):=⟨⟨p0,p1,p2⟩,q0,q1,q2⟩
    refine tkZ [] 0 rfl hS ?_;try simp only[oP]
    clear hS p0 p1 p2 q0 q1 q2;refine rdZ 1 rfl (fun K hK=>?_)
    (go_simp;(with_reducible refine(aAt r n A es c _ _ _ (hr.mid hm0 oZl) hl hcl true (iff_of_true rfl HC.out)).mono ?_);rintro en w3 ⟨rfl,hm3⟩;replace b0:=b0.mid hm3 oZr;replace b1:=b1.mid hm3 oZr;replace hm0:=hm0.trans hm3;go_wp2_with fail)
    refine hK.out _ _ (Or.inr ⟨b0.c3 rfl,b1.c3 rfl⟩) (fun _=>?_);clear hK K;try simp only[oP]
    have hS:(w3.cell? ⟨w.heap.size,0,none⟩=some (.int .i64 r)/\w3.cell? ⟨w.heap.size,1,none⟩=some (.int .i64 n)/\w3.cell? ⟨w.heap.size,2,none⟩=some (.slice A es.length c))/\w3.cell? ⟨w.heap.size+1,0,none⟩=some (.int .i64 r)/\w3.cell? ⟨w.heap.size+1,1,none⟩=some (.int .i64 n2)/\w3.cell? ⟨w.heap.size+1,2,none⟩=some (.slice A2 es2.length c2):=⟨b0.c3 rfl,b1.c3 rfl⟩
    refine tkZ [] 2 rfl hS ?_;try simp only[oP]
    refine tkZ [] 3 rfl hS ?_;try simp only[oP]
    clear hS;refine rdZ 4 rfl (fun K hK=>?_)
    (go_simp;(with_reducible refine(aAt r n2 A2 es2 c2 _ _ _ (hr2.mid hm0 oZl) hl2 hcl2 true (iff_of_true rfl HC2.out)).mono ?_);rintro en w4 ⟨rfl,hm4⟩;replace b0:=b0.mid hm4 oZr;replace b1:=b1.mid hm4 oZr;replace hm0:=hm0.trans hm4;go_wp2_with fail)
    refine hK.out _ _ (Or.inr ⟨b0.c3 rfl,b1.c3 rfl⟩) (fun _=>?_);clear hK K;try simp only[oP]
    have hS:(w4.cell? ⟨w.heap.size,0,none⟩=some (.int .i64 r)/\w4.cell? ⟨w.heap.size,1,none⟩=some (.int .i64 n)/\w4.cell? ⟨w.heap.size,2,none⟩=some (.slice A es.length c))/\w4.cell? ⟨w.heap.size+1,0,none⟩=some (.int .i64 r)/\w4.cell? ⟨w.heap.size+1,1,none⟩=some (.int .i64 n2)/\w4.cell? ⟨w.heap.size+1,2,none⟩=some (.slice A2 es2.length c2):=⟨b0.c3 rfl,b1.c3 rfl⟩
    refine tkZ [] 5 rfl hS ?_;try simp only[oP]
    refine tkZ [] 6 rfl hS ?_;try simp only[oP]
    refine tkZ [] 7 rfl hS ?_;try simp only[oP]
    refine tkZ [] 8 rfl hS ?_;try simp only[oP]
    refine tkZ [] 9 rfl hS ?_;try simp only[oP]
    refine tkZ [] 10 rfl hS ?_;try simp only[oP]
    refine tkZ [] 11 rfl hS ?_;try simp only[oP]
    refine tkZ [] 12 rfl hS ?_;try simp only[oP]
    refine tkZ [] 13 rfl hS ?_;try simp only[oP]
    refine tkZ [] 14 rfl hS ?_;try simp only[oP]
    refine tkZ [] 15 rfl hS ?_;try simp only[oP]
    clear hS;refine rdZ 16 rfl (fun K hK=>?_)
    (go_simp;(with_reducible refine(aMT r n A es c _ _ _ (hr.mid hm0 oZl) hcl HC.out).mono ?_);rintro en w5 ⟨A1,c1,rfl,ho1,hm5⟩;replace b0:=b0.mid hm5 oZr;replace b1:=b1.mid hm5 oZr;replace hm0:=hm0.trans hm5;go_wp2_with fail)
    refine hK.out _ _ (Or.inr ⟨b0.c3 rfl,b1.c3 rfl⟩) (fun _=>?_);clear hK K;try simp only[oP]
    refine rdZ 17 rfl (fun K hK=>?_)
    (go_simp;(with_reducible refine(aHT r n2 A2 es2 c2 A1 (basA r es) c1 _ _ _ _ _ (hr2.mid hm0 oZl) (ho1.rss) hl2 hcl2 HBL.out HBO.out b HBB.out).mono ?_);rintro en w6 ⟨rfl,hm6⟩;replace b0:=b0.mid hm6 oZr;replace b1:=b1.mid hm6 oZr;replace hm0:=hm0.trans hm6;go_wp2_with fail)
    refine hK.out _ _ (Or.inr ⟨b0.c3 rfl,b1.c3 rfl⟩) (fun _=>?_);clear hK K;try simp only[oP]
    clear ho1;have hS:(w6.cell? ⟨w.heap.size,0,none⟩=some (.int .i64 r)/\w6.cell? ⟨w.heap.size,1,none⟩=some (.int .i64 n)/\w6.cell? ⟨w.heap.size,2,none⟩=some (.slice A es.length c))/\w6.cell? ⟨w.heap.size+1,0,none⟩=some (.int .i64 r)/\w6.cell? ⟨w.heap.size+1,1,none⟩=some (.int .i64 n2)/\w6.cell? ⟨w.heap.size+1,2,none⟩=some (.slice A2 es2.length c2):=⟨b0.c3 rfl,b1.c3 rfl⟩
   rotate_left
   focus
    obtain rfl:b=false:=aBS HB.out (fun h=>he (by have:=h.2.2.1;omega));have HE:=oH (show ¬ ((r:Int)=r2) by omega);clear HB he;go_enter Tryz.func47,Tryz.ntmps47
    go_wp2_with fail;generalize (w1.alloc (.cells #[.int .i64 r2,.int .i64 n2,.slice A2 es2.length c2] 35))=w2 at hm0 b0 b1 |-;have hmd:=Mid.drew1 w2;replace b0:=b0.mid hmd oZr;replace b1:=b1.mid hmd oZr;replace hm0:=hm0.trans hmd;obtain⟨p0,p1,p2⟩:=b0.c3 rfl;obtain⟨q0,q1,q2⟩:=b1.c3 rfl;clear hmd hw1 hsz;refine aAl (S:=(fun w'=>(w'.cell? ⟨w.heap.size,0,none⟩=some (.int .i64 r)/\w'.cell? ⟨w.heap.size,1,none⟩=some (.int .i64 n)/\w'.cell? ⟨w.heap.size,2,none⟩=some (.slice A es.length c))/\w'.cell? ⟨w.heap.size+1,0,none⟩=some (.int .i64 r2)/\w'.cell? ⟨w.heap.size+1,1,none⟩=some (.int .i64 n2)/\w'.cell? ⟨w.heap.size+1,2,none⟩=some (.slice A2 es2.length c2))) [] (by kernel_rfl) ⟨⟨p0,p1,p2⟩,q0,q1,q2⟩ ?_;generalize World.drew w2=wz at b0 b1 hm0 p0 p1 p2 q0 q1 q2 |-;have hS:(wz.cell? ⟨w.heap.size,0,none⟩=some (.int .i64 r)/\wz.cell? ⟨w.heap.size,1,none⟩=some (.int .i64 n)/\wz.cell? ⟨w.heap.size,2,none⟩=some (.slice A es.length c))/\wz.cell? ⟨w.heap.size+1,0,none⟩=some (.int .i64 r2)/\wz.cell? ⟨w.heap.size+1,1,none⟩=some (.int .i64 n2)/\wz.cell? ⟨w.heap.size+1,2,none⟩=some (.slice A2 es2.length c2):=⟨⟨p0,p1,p2⟩,q0,q1,q2⟩
    refine tkZ [] 0 rfl hS ?_;try simp only[oP]
    clear hS p0 p1 p2 q0 q1 q2;refine rdZ 1 rfl (fun K hK=>?_)
    (go_simp;(with_reducible refine(aAt r n A es c _ _ _ (hr.mid hm0 oZl) hl hcl true (iff_of_true rfl HC.out)).mono ?_);rintro en w3 ⟨rfl,hm3⟩;replace b0:=b0.mid hm3 oZr;replace b1:=b1.mid hm3 oZr;replace hm0:=hm0.trans hm3;go_wp2_with fail)
    refine hK.out _ _ (Or.inr ⟨b0.c3 rfl,b1.c3 rfl⟩) (fun _=>?_);clear hK K;try simp only[oP]
    have hS:(w3.cell? ⟨w.heap.size,0,none⟩=some (.int .i64 r)/\w3.cell? ⟨w.heap.size,1,none⟩=some (.int .i64 n)/\w3.cell? ⟨w.heap.size,2,none⟩=some (.slice A es.length c))/\w3.cell? ⟨w.heap.size+1,0,none⟩=some (.int .i64 r2)/\w3.cell? ⟨w.heap.size+1,1,none⟩=some (.int .i64 n2)/\w3.cell? ⟨w.heap.size+1,2,none⟩=some (.slice A2 es2.length c2):=⟨b0.c3 rfl,b1.c3 rfl⟩
    refine tkZ [] 2 rfl hS ?_;try simp only[oP]
    refine tkZ [] 3 rfl hS ?_;try simp only[oP]
    clear hS;refine rdZ 4 rfl (fun K hK=>?_)
    (go_simp;(with_reducible refine(aAt r2 n2 A2 es2 c2 _ _ _ (hr2.mid hm0 oZl) hl2 hcl2 true (iff_of_true rfl HC2.out)).mono ?_);rintro en w4 ⟨rfl,hm4⟩;replace b0:=b0.mid hm4 oZr;replace b1:=b1.mid hm4 oZr;replace hm0:=hm0.trans hm4;go_wp2_with fail)
    refine hK.out _ _ (Or.inr ⟨b0.c3 rfl,b1.c3 rfl⟩) (fun _=>?_);clear hK K;try simp only[oP]
    have hS:(w4.cell? ⟨w.heap.size,0,none⟩=some (.int .i64 r)/\w4.cell? ⟨w.heap.size,1,none⟩=some (.int .i64 n)/\w4.cell? ⟨w.heap.size,2,none⟩=some (.slice A es.length c))/\w4.cell? ⟨w.heap.size+1,0,none⟩=some (.int .i64 r2)/\w4.cell? ⟨w.heap.size+1,1,none⟩=some (.int .i64 n2)/\w4.cell? ⟨w.heap.size+1,2,none⟩=some (.slice A2 es2.length c2):=⟨b0.c3 rfl,b1.c3 rfl⟩
    refine tkZ [] 5 rfl hS ?_;try simp only[oP]
    refine tkZ [] 6 rfl hS ?_;try simp only[oP]
    refine tkZ [] 7 rfl hS ?_;try simp only[oP]
    refine tkZ [] 8 rfl hS ?_;try simp only[oP]
    refine tkZ [] 9 rfl hS ?_;try simp only[oP]
    refine tkZ [] 10 rfl hS ?_;try simp only[oP]
    refine aAq [] (i:=11) (v:=.bool false) rfl (by kernel_rfl) (by kernel_rfl) (by kernel_rfl) (by kernel_rfl) (fun _ _ _ h=>h) (Or.inl ⟨by rfl,?_⟩) hS ?_;focus (intro w hSw;(try dsimp only at hSw);go_simp;have hE:=HE.out;first|rw[decide_eq_false hE]|rw[beq_false_of_ne hE]|simp[hE])
    try simp only[oP]
    refine tkZ [] 12 rfl hS ?_;try simp only[oP]
    refine tkZ [] 13 rfl hS ?_;try simp only[oP]
    refine aAq [] (i:=14) rfl (by kernel_rfl) (by kernel_rfl) (by kernel_rfl) (by kernel_rfl) (fun _ _ _ h=>h) (Or.inr ⟨by rfl,rfl⟩) hS ?_;try simp only[oP]
    refine aAq [] (i:=15) rfl (by kernel_rfl) (by kernel_rfl) (by kernel_rfl) (by kernel_rfl) (fun _ _ _ h=>h) (Or.inr ⟨by rfl,rfl⟩) hS ?_;try simp only[oP]
    refine rdZ 16 rfl (fun K hK=>?_);go_simp;refine hK.out _ _ (Or.inr hS) (fun _=>?_);clear hK K;try simp only[oP]
    refine rdZ 17 rfl (fun K hK=>?_);go_simp;refine hK.out _ _ (Or.inr hS) (fun _=>?_);clear hK K;try simp only[oP]
   rotate_left
   all_goals
    refine tkZ [] 18 rfl hS ?_;try simp only[oP]
    refine rdZ 19 rfl (fun K hK=>?_);go_simp;refine hK.out _ _ (Or.inr hS) (fun _=>?_);clear hK K;try simp only[oP]
    refine aAh (by kernel_rfl) ?_ _;clear hS;go_wp2_with fail;go_ret;exact⟨rfl,hm0⟩
  obtain rfl:b=false:=aBS HB.out (fun h=>h2 h.2.1);have HN2:=oH h2;clear HB h2;go_enter Tryz.func47,Tryz.ntmps47
  go_wp2_with fail;generalize (w1.alloc (.cells #[.int .i64 r2,.int .i64 s2,.slice A2 es2.length c2] 35))=w2 at hm0 b0 b1 |-;have hmd:=Mid.drew1 w2;replace b0:=b0.mid hmd oZr;replace b1:=b1.mid hmd oZr;replace hm0:=hm0.trans hmd;obtain⟨p0,p1,p2⟩:=b0.c3 rfl;obtain⟨q0,q1,q2⟩:=b1.c3 rfl;clear hmd hw1 hsz;refine aAl (S:=(fun w'=>(w'.cell? ⟨w.heap.size,0,none⟩=some (.int .i64 r)/\w'.cell? ⟨w.heap.size,1,none⟩=some (.int .i64 n)/\w'.cell? ⟨w.heap.size,2,none⟩=some (.slice A es.length c))/\w'.cell? ⟨w.heap.size+1,0,none⟩=some (.int .i64 r2)/\w'.cell? ⟨w.heap.size+1,1,none⟩=some (.int .i64 s2)/\w'.cell? ⟨w.heap.size+1,2,none⟩=some (.slice A2 es2.length c2))) [] (by kernel_rfl) ⟨⟨p0,p1,p2⟩,q0,q1,q2⟩ ?_;generalize World.drew w2=wz at b0 b1 hm0 p0 p1 p2 q0 q1 q2 |-;have hS:(wz.cell? ⟨w.heap.size,0,none⟩=some (.int .i64 r)/\wz.cell? ⟨w.heap.size,1,none⟩=some (.int .i64 n)/\wz.cell? ⟨w.heap.size,2,none⟩=some (.slice A es.length c))/\wz.cell? ⟨w.heap.size+1,0,none⟩=some (.int .i64 r2)/\wz.cell? ⟨w.heap.size+1,1,none⟩=some (.int .i64 s2)/\wz.cell? ⟨w.heap.size+1,2,none⟩=some (.slice A2 es2.length c2):=⟨⟨p0,p1,p2⟩,q0,q1,q2⟩
  refine tkZ [] 0 rfl hS ?_;try simp only[oP]
  clear hS p0 p1 p2 q0 q1 q2;refine rdZ 1 rfl (fun K hK=>?_)
  (go_simp;(with_reducible refine(aAt r n A es c _ _ _ (hr.mid hm0 oZl) hl hcl true (iff_of_true rfl HC.out)).mono ?_);rintro en w3 ⟨rfl,hm3⟩;replace b0:=b0.mid hm3 oZr;replace b1:=b1.mid hm3 oZr;replace hm0:=hm0.trans hm3;go_wp2_with fail)
  refine hK.out _ _ (Or.inr ⟨b0.c3 rfl,b1.c3 rfl⟩) (fun _=>?_);clear hK K;try simp only[oP]
  have hS:(w3.cell? ⟨w.heap.size,0,none⟩=some (.int .i64 r)/\w3.cell? ⟨w.heap.size,1,none⟩=some (.int .i64 n)/\w3.cell? ⟨w.heap.size,2,none⟩=some (.slice A es.length c))/\w3.cell? ⟨w.heap.size+1,0,none⟩=some (.int .i64 r2)/\w3.cell? ⟨w.heap.size+1,1,none⟩=some (.int .i64 s2)/\w3.cell? ⟨w.heap.size+1,2,none⟩=some (.slice A2 es2.length c2):=⟨b0.c3 rfl,b1.c3 rfl⟩
  refine tkZ [] 2 rfl hS ?_;try simp only[oP]
  refine tkZ [] 3 rfl hS ?_;try simp only[oP]
  clear hS;refine rdZ 4 rfl (fun K hK=>?_)
  (go_simp;(with_reducible refine(aAt r2 s2 A2 es2 c2 _ _ _ (hr2.mid hm0 oZl) hl2 hcl2 false (iff_of_false (by simp) HN2.out)).mono ?_);rintro en w4 ⟨rfl,hm4⟩;replace b0:=b0.mid hm4 oZr;replace b1:=b1.mid hm4 oZr;replace hm0:=hm0.trans hm4;go_wp2_with fail)
  refine hK.out _ _ (Or.inr ⟨b0.c3 rfl,b1.c3 rfl⟩) (fun _=>?_);clear hK K;try simp only[oP]
  have hS:(w4.cell? ⟨w.heap.size,0,none⟩=some (.int .i64 r)/\w4.cell? ⟨w.heap.size,1,none⟩=some (.int .i64 n)/\w4.cell? ⟨w.heap.size,2,none⟩=some (.slice A es.length c))/\w4.cell? ⟨w.heap.size+1,0,none⟩=some (.int .i64 r2)/\w4.cell? ⟨w.heap.size+1,1,none⟩=some (.int .i64 s2)/\w4.cell? ⟨w.heap.size+1,2,none⟩=some (.slice A2 es2.length c2):=⟨b0.c3 rfl,b1.c3 rfl⟩
  refine tkZ [] 5 rfl hS ?_;try simp only[oP]
  refine tkZ [] 6 rfl hS ?_;try simp only[oP]
  refine aAq [] (i:=7) rfl (by kernel_rfl) (by kernel_rfl) (by kernel_rfl) (by kernel_rfl) (fun _ _ _ h=>h) (Or.inr ⟨by rfl,rfl⟩) hS ?_;try simp only[oP]
  refine aAq [] (i:=8) rfl (by kernel_rfl) (by kernel_rfl) (by kernel_rfl) (by kernel_rfl) (fun _ _ _ h=>h) (Or.inr ⟨by rfl,rfl⟩) hS ?_;try simp only[oP]
  refine aAq [] (i:=9) rfl (by kernel_rfl) (by kernel_rfl) (by kernel_rfl) (by kernel_rfl) (fun _ _ _ h=>h) (Or.inr ⟨by rfl,rfl⟩) hS ?_;try simp only[oP]
  refine aAq [] (i:=10) rfl (by kernel_rfl) (by kernel_rfl) (by kernel_rfl) (by kernel_rfl) (fun _ _ _ h=>h) (Or.inr ⟨by rfl,rfl⟩) hS ?_;try simp only[oP]
  refine aAq [] (i:=11) rfl (by kernel_rfl) (by kernel_rfl) (by kernel_rfl) (by kernel_rfl) (fun _ _ _ h=>h) (Or.inr ⟨by rfl,rfl⟩) hS ?_;try simp only[oP]
  refine tkZ [] 12 rfl hS ?_;try simp only[oP]
  refine tkZ [] 13 rfl hS ?_;try simp only[oP]
  refine aAq [] (i:=14) rfl (by kernel_rfl) (by kernel_rfl) (by kernel_rfl) (by kernel_rfl) (fun _ _ _ h=>h) (Or.inr ⟨by rfl,rfl⟩) hS ?_;try simp only[oP]
  refine aAq [] (i:=15) rfl (by kernel_rfl) (by kernel_rfl) (by kernel_rfl) (by kernel_rfl) (fun _ _ _ h=>h) (Or.inr ⟨by rfl,rfl⟩) hS ?_;try simp only[oP]
  refine rdZ 16 rfl (fun K hK=>?_);go_simp;refine hK.out _ _ (Or.inr hS) (fun _=>?_);clear hK K;try simp only[oP]
  refine rdZ 17 rfl (fun K hK=>?_);go_simp;refine hK.out _ _ (Or.inr hS) (fun _=>?_);clear hK K;try simp only[oP]
  refine tkZ [] 18 rfl hS ?_;try simp only[oP]
  refine rdZ 19 rfl (fun K hK=>?_);go_simp;refine hK.out _ _ (Or.inr hS) (fun _=>?_);clear hK K;try simp only[oP]
  refine aAh (by kernel_rfl) ?_ _;clear hS;go_wp2_with fail;go_ret;exact⟨rfl,hm0⟩
 obtain rfl:b=false:=aBS HB.out (fun h2=>h h2.1);have HN:=oH h;clear HB h;go_enter Tryz.func47,Tryz.ntmps47
 go_wp2_with fail;generalize (w1.alloc (.cells #[.int .i64 r2,.int .i64 s2,.slice A2 es2.length c2] 35))=w2 at hm0 b0 b1 |-;have hmd:=Mid.drew1 w2;replace b0:=b0.mid hmd oZr;replace b1:=b1.mid hmd oZr;replace hm0:=hm0.trans hmd;obtain⟨p0,p1,p2⟩:=b0.c3 rfl;obtain⟨q0,q1,q2⟩:=b1.c3 rfl;clear hmd hw1 hsz;refine aAl (S:=(fun w'=>(w'.cell? ⟨w.heap.size,0,none⟩=some (.int .i64 r)/\w'.cell? ⟨w.heap.size,1,none⟩=some (.int .i64 s)/\w'.cell? ⟨w.heap.size,2,none⟩=some (.slice A es.length c))/\w'.cell? ⟨w.heap.size+1,0,none⟩=some (.int .i64 r2)/\w'.cell? ⟨w.heap.size+1,1,none⟩=some (.int .i64 s2)/\w'.cell? ⟨w.heap.size+1,2,none⟩=some (.slice A2 es2.length c2))) [] (by kernel_rfl) ⟨⟨p0,p1,p2⟩,q0,q1,q2⟩ ?_;generalize World.drew w2=wz at b0 b1 hm0 p0 p1 p2 q0 q1 q2 |-;have hS:(wz.cell? ⟨w.heap.size,0,none⟩=some (.int .i64 r)/\wz.cell? ⟨w.heap.size,1,none⟩=some (.int .i64 s)/\wz.cell? ⟨w.heap.size,2,none⟩=some (.slice A es.length c))/\wz.cell? ⟨w.heap.size+1,0,none⟩=some (.int .i64 r2)/\wz.cell? ⟨w.heap.size+1,1,none⟩=some (.int .i64 s2)/\wz.cell? ⟨w.heap.size+1,2,none⟩=some (.slice A2 es2.length c2):=⟨⟨p0,p1,p2⟩,q0,q1,q2⟩
 refine tkZ [] 0 rfl hS ?_;try simp only[oP]
 clear hS p0 p1 p2 q0 q1 q2;refine rdZ 1 rfl (fun K hK=>?_)
 (go_simp;(with_reducible refine(aAt r s A es c _ _ _ (hr.mid hm0 oZl) hl hcl false (iff_of_false (by simp) HN.out)).mono ?_);rintro en w3 ⟨rfl,hm3⟩;replace b0:=b0.mid hm3 oZr;replace b1:=b1.mid hm3 oZr;replace hm0:=hm0.trans hm3;go_wp2_with fail)
 refine hK.out _ _ (Or.inr ⟨b0.c3 rfl,b1.c3 rfl⟩) (fun _=>?_);clear hK K;try simp only[oP]
 have hS:(w3.cell? ⟨w.heap.size,0,none⟩=some (.int .i64 r)/\w3.cell? ⟨w.heap.size,1,none⟩=some (.int .i64 s)/\w3.cell? ⟨w.heap.size,2,none⟩=some (.slice A es.length c))/\w3.cell? ⟨w.heap.size+1,0,none⟩=some (.int .i64 r2)/\w3.cell? ⟨w.heap.size+1,1,none⟩=some (.int .i64 s2)/\w3.cell? ⟨w.heap.size+1,2,none⟩=some (.slice A2 es2.length c2):=⟨b0.c3 rfl,b1.c3 rfl⟩
 refine tkZ [] 2 rfl hS ?_;try simp only[oP]
 refine aAq [] (i:=3) rfl (by kernel_rfl) (by kernel_rfl) (by kernel_rfl) (by kernel_rfl) (fun _ _ _ h=>h) (Or.inr ⟨by rfl,rfl⟩) hS ?_;try simp only[oP]
 refine rdZ 4 rfl (fun K hK=>?_);go_simp;refine hK.out _ _ (Or.inr hS) (fun _=>?_);clear hK K;try simp only[oP]
 refine tkZ [] 5 rfl hS ?_;try simp only[oP]
 refine tkZ [] 6 rfl hS ?_;try simp only[oP]
 refine aAq [] (i:=7) rfl (by kernel_rfl) (by kernel_rfl) (by kernel_rfl) (by kernel_rfl) (fun _ _ _ h=>h) (Or.inr ⟨by rfl,rfl⟩) hS ?_;try simp only[oP]
 refine aAq [] (i:=8) rfl (by kernel_rfl) (by kernel_rfl) (by kernel_rfl) (by kernel_rfl) (fun _ _ _ h=>h) (Or.inr ⟨by rfl,rfl⟩) hS ?_;try simp only[oP]
 refine aAq [] (i:=9) rfl (by kernel_rfl) (by kernel_rfl) (by kernel_rfl) (by kernel_rfl) (fun _ _ _ h=>h) (Or.inr ⟨by rfl,rfl⟩) hS ?_;try simp only[oP]
 refine aAq [] (i:=10) rfl (by kernel_rfl) (by kernel_rfl) (by kernel_rfl) (by kernel_rfl) (fun _ _ _ h=>h) (Or.inr ⟨by rfl,rfl⟩) hS ?_;try simp only[oP]
 refine aAq [] (i:=11) rfl (by kernel_rfl) (by kernel_rfl) (by kernel_rfl) (by kernel_rfl) (fun _ _ _ h=>h) (Or.inr ⟨by rfl,rfl⟩) hS ?_;try simp only[oP]
 refine tkZ [] 12 rfl hS ?_;try simp only[oP]
 refine tkZ [] 13 rfl hS ?_;try simp only[oP]
 refine aAq [] (i:=14) rfl (by kernel_rfl) (by kernel_rfl) (by kernel_rfl) (by kernel_rfl) (fun _ _ _ h=>h) (Or.inr ⟨by rfl,rfl⟩) hS ?_;try simp only[oP]
 refine aAq [] (i:=15) rfl (by kernel_rfl) (by kernel_rfl) (by kernel_rfl) (by kernel_rfl) (fun _ _ _ h=>h) (Or.inr ⟨by rfl,rfl⟩) hS ?_;try simp only[oP]
 refine rdZ 16 rfl (fun K hK=>?_);go_simp;refine hK.out _ _ (Or.inr hS) (fun _=>?_);clear hK K;try simp only[oP]
 refine rdZ 17 rfl (fun K hK=>?_);go_simp;refine hK.out _ _ (Or.inr hS) (fun _=>?_);clear hK K;try simp only[oP]
 refine tkZ [] 18 rfl hS ?_;try simp only[oP]
 refine rdZ 19 rfl (fun K hK=>?_);go_simp;refine hK.out _ _ (Or.inr hS) (fun _=>?_);clear hK K;try simp only[oP]
 refine aAh (by kernel_rfl) ?_ _;clear hS;go_wp2_with fail;go_ret;exact⟨rfl,hm0⟩
theorem aFT(r s:Int)(A:Option Addr)(es:List Ed)(c:Nat)(r2 s2:Int)(A2:Option Addr)(es2:List Ed)(c2:Nat)(w:World)(lo hi lo' hi':Nat)(hr:RG w lo hi A es)(hr2:RG w lo' hi' A2 es2)(hl:es.length<=1048576)(hcl:es.length<=c)(hl2:es2.length<=1048576)(hcl2:es2.length<=c2)(b:Bool)(hb:b=true↔aNC r s es r2 s2 es2) :
  Calls Tryz.prog 47 #[aAw r s A es.length c,aAw r2 s2 A2 es2.length c2] w fun e w'=>e=.returned (.bool b)/\Mid 0 0 w w':=
 aKF r s A es c r2 s2 A2 es2 c2 w lo hi lo' hi' hr hr2 hl hcl hl2 hcl2 b hb
theorem aRv(r s:Int){es:List Ed}(hl:es.length<=1048576):-100<=rankI r s es/\rankI r s es<=2000000:=by
 unfold rankI;split
 .rename_i h
  have:=h.gr.size;omega
 omega
theorem aUY(es:List Ed)(w:List Int):∃ b:Bool,b=true↔InS es w:=by
 classical
 exact⟨decide (InS es w),by simp⟩
theorem aJx(r s:Int)(A:Option Addr)(es:List Ed)(c:Nat)(Aw:Option Addr)(wd:List Int)(cw:Nat)(w:World)(lo hi lo' hi':Nat)(hr:RG w lo hi A es)(hw:RV w lo' hi' Aw (aAd wd))(hc:IsCor r s es)(hword:IsW r wd)(hwl:wd.length<=1048576)(hok:OkI wd)(b:Bool)(hb:b=true↔InS es wd) :
  Calls Tryz.prog 50 #[aAw r s A es.length c,.slice Aw wd.length cw] w fun e w'=>e=.returned (.bool b)/\Mid 0 0 w w':=by
 have h:=aSk hc.fol hword;obtain⟨a,n,rfl,rfl⟩:=hc.gr.nat;exact aLd a n A es c Aw wd cw w lo hi lo' hi' hr hw hc hword hwl hok b (hb.trans h.symm)
theorem aUA{p:List Int}(h:LtW p):OkI p:=fun x hx=>by
 have:=h x hx;unfold Lt3 at this;omega
theorem aUx{r:Int}{w:List Int}(h1:1<=r)(h2:r<=3)(h3:w.length<=24)(hl:∀ y∈w,y≠0/\-r<=y/\y<=r)(hr:Rd w):IsW r w:=
 ⟨h1,h2,h3,hl,fun k x y hx hy e=>by
  obtain⟨hk,ex⟩:=List.getElem?_eq_some_iff.1 hx;obtain⟨hk2,ey⟩:=List.getElem?_eq_some_iff.1 hy;refine hr (w.take k) (w.drop (k+2)) x ?_;rw[<- e,<- ex,<- ey,<- List.drop_eq_getElem_cons hk2,<- List.drop_eq_getElem_cons hk,List.take_append_drop]⟩
def aPC(r:Int)(es:List Ed)(l:List (List Int)):Prop:=l.length<=38880/\∀ x∈l,x.length<=3/\LtW x/\InS es x/\OkI x/\IsW r x
theorem aSn{r n:Nat}{es:List Ed}(hf:IsFol r n es):aPC r es (aJv es r 3):=by
 have hr:=hf.gr.rank;refine⟨aQE (by omega) es (by omega),fun x hx=>?_⟩;obtain⟨h1,h2,h3,h4⟩:=aSm hf hx;have hp:Pa es 0 x 0:=by
  have:Pa es 0 (red [] x) 0:=h4
  rwa [aEH h3 h2] at this
 have hl:=hp.lets hf.gr.all;have hok:OkI x:=fun y hy=>by
  have:=h2 y hy;unfold Lt3 at this;omega
 exact⟨h1,h2,h4,hok,aUx (by omega) (by omega) (by omega) (fun y hy=>hl y hy) h3⟩
theorem aJg(r s:Int)(A:Option Addr)(es:List Ed)(c:Nat)(w:World)(lo hi:Nat)(hr:RG w lo hi A es)(hc:IsCor r s es) :
  Calls Tryz.prog 48 #[aAw r s A es.length c,.int .i64 0,.int .i64 3] w fun e w'=>∃ A1 c1 l,e=.returned (.slice A1 (List.length l) c1)/\aPC r es l/\OSS w' w.heap.size w'.heap.size 44 3 A1 c1 l/\Mid 0 0 w w':=by
 obtain⟨k,n,rfl,rfl⟩:=hc.gr.nat;have h1:=aJh k n 3 A es c w lo hi hr hc.fol (by decide);have h2:=aSn hc.fol;generalize aJv es k 3=l at h1 h2;refine h1.mono ?_;rintro e w' ⟨A1,c1,rfl,h3,h4⟩;exact⟨A1,c1,l,rfl,h2,h3,h4⟩
structure MeetPack (r s:Int) (es:List Ed) (r2 s2:Int) (es2:List Ed) (rr rs:Int) (res:List Ed):Prop where
 c1:IsCor r s es
 c2:IsCor r2 s2 es2
 c:IsCor rr rs res
 i1:aNC rr rs res r s es
 i2:aNC rr rs res r2 s2 es2
 rk:r2=r
 lang:∀ w,LtW w->(InS res w↔InS es w/\InS es2 w)
theorem aQH{r s:Int}{es:List Ed}{r2 s2:Int}{es2:List Ed}{rr rs:Int}{res:List Ed}(h:IntIs r s es r2 s2 es2 rr rs res true):MeetPack r s es r2 s2 es2 rr rs res:=by
 obtain⟨k1,k2,e1,e2,k3,hl⟩:=aJV h;subst e2;subst e1;exact⟨k1,k2,k3,aLP k3 k1 fun w lw hw=>((hl w lw).1 hw).1,aLP k3 k2 fun w lw hw=>((hl w lw).1 hw).2,rfl,hl⟩
theorem aUm(r s:Int)(es:List Ed):∃ b:Bool,b=true↔IsCor r s es:=by
 classical
 exact⟨decide (IsCor r s es),by simp⟩
theorem aRB{r s:Int}{es:List Ed}{x:Int}(h:aBw r s es x)(hl:es.length<=1048576):0<=x/\x<=2000000:=by
 have h1:x=max 0 (rankI r s es - 1):=h;have h2:=aRv r s hl;omega
theorem aUD{x y:Int}(hx:0<=x/\x<=2000000)(hy:0<=y/\y<=2000000):0<=x * y/\x * y<=4000000000000:=by
 have h1:=Int.mul_nonneg hx.1 hy.1;have h2:=Int.mul_le_mul hx.2 hy.2 hy.1 (by omega);omega
theorem aPw{r s:Int}{es:List Ed}{s2:Int}{es2:List Ed}{n x y:Int}(h:aFP r s es r s2 es2 n)(c1:IsCor r s es)(c2:IsCor r s2 es2)(hx:aBw r s es x)(hy:aBw r s2 es2 y):¬ x * y<n:=by
 have h1:=aPj h c1 c2 rfl;have e1:x=max 0 (rankI r s es - 1):=hx;have e2:y=max 0 (rankI r s2 es2 - 1):=hy;rw[<- e1,<- e2] at h1;exact Int.not_lt.2 h1
theorem aRC{r s:Int}{es:List Ed}{r' s':Int}{es':List Ed}{rr rs:Int}{res:List Ed}{n x:Int}(hi:IntIs r s es r' s' es' rr rs res true)(h:aFP r s es r' s' es' n)(hx:aBw rr rs res x):¬ n<x:=by
 have h1:=aQI hi h;have e1:x=max 0 (rankI rr rs res - 1):=hx;omega
theorem aNn{r s:Int}{es:List Ed}{r2 s2:Int}{es2:List Ed}{u v:Int}{rr rs:Int}{res:List Ed}(h:PullIs r s es r2 s2 es2 u v rr rs res true):IsFol rr rs res:=by
 by_cases hp:PullOk r s es r2 s2 es2 u v
 .obtain⟨-,e1,e2,e3⟩:=h.yes hp
  have hrk:=hp.rk;subst hrk;have:=aKV hp.f1 hp.f2 hp;rw[e1,e2,e3];exact this
 have:=h.no hp;simp at this
theorem aLS(p:Nat)(A:Option Addr)(bs:List Int)(c:Nat)(w:World)(hb:OkB bs)(hl:bs.length<=1048576)(h:Cur w p A bs c) :
  Calls Tryz.prog 111 #[.pointer (some ⟨p,0,none⟩),.int .i64 2] w fun e w'=>∃ x:Nat,e=.returned (.int .i64 x)/\x<2/\Cur w' p A bs c/\Mid p (p+1) w w':=aCh 2 (by omega) (by omega) p A bs c w hb hl h
theorem OI.capC{w:World}{lo hi:Nat}{A:Option Addr}{c:Nat}{xs:List Int}(h:OI w lo hi A c xs):xs.length<=c:=by
 obtain⟨A',c',he,hn, -⟩:=aAg h.2.1;injection he with _ _ hc
 omega
theorem aNu(A:Option Addr)(xs:List Int)(c:Nat)(A':Option Addr)(c':Nat)(w:World)(lo hi lo' hi':Nat)(h:RI w lo hi A xs)(h':RI w lo' hi' A' xs)(hl:xs.length<=1048576) :
  Calls Tryz.prog 42 #[.slice A xs.length c,.slice A' xs.length c'] w fun e w'=>e=.returned (.bool true)/\Mid 0 0 w w':=by
 refine(aMp A xs c A' xs c' w lo hi lo' hi' h h' hl hl true (by simp)).mono ?_;rintro e w' ⟨rfl,h⟩;exact⟨rfl,h⟩
theorem aEL(A:Option Addr)(bs:List Int)(c:Nat)(w:World)(hi:Nat)(hb:OkB bs)(hl:bs.length<=1048576)(hr:RV w 0 hi A (aIz bs)) :
  Calls Tryz.prog 37 #[.slice A bs.length c] w fun e w'=>∃ r s A1 c1 es r2 s2 A2 c2 es2,e=.returned (.tuple #[aAw r s A1 (List.length es) c1,aAw r2 s2 A2 (List.length es2) c2])/\DrG r s es/\DrG r2 s2 es2/\OG w' w.heap.size w'.heap.size A1 c1 es/\OG w' w.heap.size w'.heap.size A2 c2 es2/\Mid 0 0 w w':=by
 have hal:=Mid.alloc w (.cells #[.int .i64 0,.int .i64 0,.slice none 0 0] 35);have B2:=Box.new w #[.int .i64 0,.int .i64 0,.slice none 0 0] 35;have hal2:=Mid.alloc (w.alloc (.cells #[.int .i64 0,.int .i64 0,.slice none 0 0] 35)) (.cells #[.int .i64 0,.int .i64 0,.slice none 0 0] 35);have B3:=Box.new (w.alloc (.cells #[.int .i64 0,.int .i64 0,.slice none 0 0] 35)) #[.int .i64 0,.int .i64 0,.slice none 0 0] 35;rw[World.size_alloc] at B3;replace B2:=B2.mid hal2 oZr;replace hal:=hal.trans hal2;have hr0:=hr.mid hal oZl;go_enter Tryz.func37,Tryz.ntmps37
 go_wp2_with fail;clear hal2;generalize ((w.alloc (.cells #[.int .i64 0,.int .i64 0,.slice none 0 0] 35)).alloc (.cells #[.int .i64 0,.int .i64 0,.slice none 0 0] 35))=w1 at B2 B3 hr0 hal |-;have hs1:w.heap.size+1<w1.heap.size:=B3.1;with_reducible refine(aJT A bs c w1 hi hb hl hr0).mono ?_
 rintro e w2 ⟨r1,s1,Ae,ce,es,r2,s2,Ae2,ce2,es2,rfl,hg,hg2,hO,hO2,m2⟩;replace B2:=B2.mid m2 oZr;replace B3:=B3.mid m2 oZr;have hM:=hal.trans m2;have hs2:=m2.size;clear hal m2 hr0 hr;have HD:=oH hg;have HD2:=oH hg2;obtain⟨L1,hL1⟩:∃ l,es.length=l:=⟨_,rfl⟩
 obtain⟨L2,hL2⟩:∃ l,es2.length=l:=⟨_,rfl⟩
 have HL:=oH hL1;have HL2:=oH hL2;rw[hL1,hL2];clear hg hg2 hL1 hL2;have al5:=Mid.alloc w2 (.cells #[.int .i64 r1,.int .i64 s1,.slice Ae L1 ce] 35);have G5:=Box.new w2 #[.int .i64 r1,.int .i64 s1,.slice Ae L1 ce] 35;have al6:=Mid.alloc (w2.alloc (.cells #[.int .i64 r1,.int .i64 s1,.slice Ae L1 ce] 35)) (.cells #[.int .i64 r2,.int .i64 s2,.slice Ae2 L2 ce2] 35);have G6:=Box.new (w2.alloc (.cells #[.int .i64 r1,.int .i64 s1,.slice Ae L1 ce] 35)) #[.int .i64 r2,.int .i64 s2,.slice Ae2 L2 ce2] 35;rw[World.size_alloc] at G6;replace G5:=G5.mid al6 oZr;have al7:=al5.trans al6;replace B2:=B2.mid al7 oZr;replace B3:=B3.mid al7 oZr;replace hM:=hM.trans al7;have hO5:=hO.mid al7 oZl;have hO6:=hO2.mid al7 oZl;obtain⟨gb,hgb⟩:∃ g,w2.heap.size=g:=⟨_,rfl⟩
 obtain⟨w5,hw5⟩:∃ x,(w2.alloc (.cells #[.int .i64 r1,.int .i64 s1,.slice Ae L1 ce] 35)).alloc (.cells #[.int .i64 r2,.int .i64 s2,.slice Ae2 L2 ce2] 35)=x:=⟨_,rfl⟩
 rw[hgb] at G5 G6 hO5 hO6 hs2;rw[hw5] at B2 B3 G5 G6 hO5 hO6 hM;clear al5 al6 al7 hO hO2;have hcl:=G6.1;go_wp2_with fail;try rw[hw5]
 clear hw5 hgb;have hmd:=Mid.drew1 w5;replace B2:=B2.mid hmd oZr;replace B3:=B3.mid hmd oZr;replace G5:=G5.mid hmd oZr;replace G6:=G6.mid hmd oZr;replace hO5:=hO5.mid hmd oZl;replace hO6:=hO6.mid hmd oZl;replace hM:=hM.trans hmd;clear hmd;obtain⟨g0,g1,g2⟩:=G5.c3 rfl;obtain⟨k0,k1,k2⟩:=G6.c3 rfl;refine aAl (S:=(fun w'=>(w'.cell? ⟨gb,0,none⟩=some (.int .i64 r1)/\w'.cell? ⟨gb,1,none⟩=some (.int .i64 s1)/\w'.cell? ⟨gb,2,none⟩=some (.slice Ae L1 ce))/\w'.cell? ⟨gb+1,0,none⟩=some (.int .i64 r2)/\w'.cell? ⟨gb+1,1,none⟩=some (.int .i64 s2)/\w'.cell? ⟨gb+1,2,none⟩=some (.slice Ae2 L2 ce2))) [] (by kernel_rfl) ⟨⟨g0,g1,g2⟩,k0,k1,k2⟩ ?_;generalize World.drew w5=wz at B2 B3 G5 G6 hO5 hO6 hM g0 g1 g2 k0 k1 k2 |-;have hS:(wz.cell? ⟨gb,0,none⟩=some (.int .i64 r1)/\wz.cell? ⟨gb,1,none⟩=some (.int .i64 s1)/\wz.cell? ⟨gb,2,none⟩=some (.slice Ae L1 ce))/\wz.cell? ⟨gb+1,0,none⟩=some (.int .i64 r2)/\wz.cell? ⟨gb+1,1,none⟩=some (.int .i64 s2)/\wz.cell? ⟨gb+1,2,none⟩=some (.slice Ae2 L2 ce2):=⟨⟨g0,g1,g2⟩,k0,k1,k2⟩
 refine tkZ [] 0 rfl hS ?_;try simp only[oP]
 refine tkZ [] 1 rfl hS ?_;try simp only[oP]
 clear hS g0 g1 g2 k0 k1 k2;have G5l:=G5.1;have G6l:=G6.1;obtain⟨q0,q1,q2⟩:=B2.c3 rfl;have qf:=B2.2.2;have ql:=B2.1;have ql3:=B3.1;have hst:=Mid.s3 wz w.heap.size (.int .i64 r1) (.int .i64 s1) (.slice Ae L1 ce);have G5q:=G5.mid hst (Or.inr (by omega));have G6q:=G6.mid hst (Or.inr (by omega));have B3q:=B3.mid hst (Or.inr (by omega));have V2:=B2.s3 (.int .i64 r1) (.int .i64 s1) (.slice Ae L1 ce);have O1:=hO5.mid hst (Or.inl (by omega));have O2:=hO6.mid hst (Or.inl (by omega));have M1:=hM.transNew hst (Or.inl oN);have hz1:=hst.size;refine rdZ 2 rfl (fun K hK=>?_);go_simp;refine hK.out _ _ (Or.inr ⟨G5q.c3 rfl,G6q.c3 rfl⟩) (fun _=>?_);clear hK K;try simp only[oP]
 clear hst B2 B3 G5 G6 hO5 hO6 hM q0 q1 q2 qf ql G5l G6l;generalize ((wz.setCell ⟨w.heap.size,0,none⟩ (.int .i64 r1)).setCell ⟨w.heap.size,1,none⟩ (.int .i64 s1)).setCell ⟨w.heap.size,2,none⟩ (.slice Ae L1 ce)=wS at G5q G6q B3q V2 O1 O2 M1 hz1 |-;obtain⟨q0,q1,q2⟩:=B3q.c3 rfl;have qf:=B3q.2.2;have ql:=B3q.1;have ql2:=V2.1;have G5l:=G5q.1;have G6l:=G6q.1;have hst:=Mid.s3 wS (w.heap.size+1) (.int .i64 r2) (.int .i64 s2) (.slice Ae2 L2 ce2);have V2q:=V2.mid hst (Or.inl (by omega));have V3:=B3q.s3 (.int .i64 r2) (.int .i64 s2) (.slice Ae2 L2 ce2);replace G5q:=G5q.mid hst (Or.inr (by omega));replace G6q:=G6q.mid hst (Or.inr (by omega));have O9:=oH ((O1.mid hst (Or.inl (by omega))).wide (lo':=w.heap.size) (by omega) (Nat.le_trans O1.size hst.size) oN);have O9b:=oH ((O2.mid hst (Or.inl (by omega))).wide (lo':=w.heap.size) (by omega) (Nat.le_trans O2.size hst.size) oN);have M9:=oH (M1.transNew hst (Or.inl (by omega)));refine rdZ 3 rfl (fun K hK=>?_);go_simp;refine hK.out _ _ (Or.inr ⟨G5q.c3 rfl,G6q.c3 rfl⟩) (fun _=>?_);clear hK K;try simp only[oP]
 refine aAh (by kernel_rfl) ?_ _;clear hst O1 O2 M1 q0 q1 q2 qf ql B3q V2 G5q G6q;obtain⟨q0,q1,q2⟩:=V2q.c3 rfl;obtain⟨k0,k1,k2⟩:=V3.c3 rfl;go_wp2_with fail;refine bodyPost_ret (v:=.tuple #[.agg #[.int .i64 r1,.int .i64 s1,.slice Ae L1 ce],.agg #[.int .i64 r2,.int .i64 s2,.slice Ae2 L2 ce2]]) (by simp[results,Tryz.results37,go_sem,q0,q1,q2,k0,k1,k2]) rfl ⟨r1,s1,Ae,ce,es,r2,s2,Ae2,ce2,es2,?_,HD.out,HD2.out,O9.out,O9b.out,M9.out⟩;rw[HL.out,HL2.out]
theorem aGa(A:Option Addr)(bs:List Int)(c:Nat)(w:World)(hi:Nat)(hb:OkB bs)(hl:bs.length<=1048576)(hr:RV w 0 hi A (aIz bs)) :
  Calls Tryz.prog 57 #[.slice A bs.length c] w fun e w'=>∃ r s A' c' es,e=.returned (aAw r s A' (List.length es) c')/\DrG r s es/\OG w' w.heap.size w'.heap.size A' c' es/\Mid 0 0 w w':=by
 have hal:=Mid.alloc w (.cells #[.int .i64 0,.int .i64 0,.slice none 0 0] 35);have B2:=Box.new w #[.int .i64 0,.int .i64 0,.slice none 0 0] 35;have hr0:=hr.mid hal oZl;go_enter Tryz.func57,Tryz.ntmps57
 go_wp2_with fail;generalize (w.alloc (.cells #[.int .i64 0,.int .i64 0,.slice none 0 0] 35))=w1 at B2 hr0 hal |-;have hs1:w.heap.size<w1.heap.size:=B2.1;with_reducible refine(aGJ A bs c w1 hi hb hl hr0).mono ?_
 rintro e w2 ⟨p,rfl,hp,h2,m2⟩;replace B2:=B2.mid m2 oZr;have hM2:=hal.trans m2;have hs2:=m2.size;have hwp:w.heap.size<p:=by omega
 clear hal m2 hr0 hr;go_wp2_with fail;with_reducible refine(aPe p A bs c _ hb hl h2).mono ?_
 rintro e w3 ⟨r,s,Ae,ce,es,rfl,hg,hO,hC,m3⟩;replace B2:=B2.mid m3 (Or.inl hwp);have hM:=hM2.transNew m3 (Or.inl (by omega));have hs3:=m3.size;have HG:=oH hg;obtain⟨L,hL⟩:∃ l,es.length=l:=⟨_,rfl⟩
 have HL:=oH hL;rw[hL];clear hg hL h2 m3 hC hM2;obtain⟨q0,q1,q2⟩:=B2.c3 rfl;have qf:=B2.2.2;have ql:=B2.1;have hst:=Mid.s3 w3 w.heap.size (.int .i64 r) (.int .i64 s) (.slice Ae L ce);have O9:=oH ((hO.mid hst (Or.inl (by omega))).wide (lo':=w.heap.size) (by omega) (Nat.le_trans hO.size hst.size) oN);have M9:=oH (hM.transNew hst (Or.inl oN));clear hst hO hM;go_wp2_with fail;refine bodyPost_ret (v:=.agg #[.int .i64 r,.int .i64 s,.slice Ae L ce]) (by simp[results,Tryz.results57,go_sem,q0,q1,q2,qf]) rfl ⟨r,s,Ae,ce,es,?_,HG.out,O9.out,M9.out⟩;rw[HL.out]
theorem aEQ(A:Option Addr)(bs:List Int)(c:Nat)(w:World)(hi:Nat)(hb:OkB bs)(hl:bs.length<=1048576)(hr:RV w 0 hi A (aIz bs)) :
  Calls Tryz.prog 54 #[.slice A bs.length c] w fun e w'=>∃ r s A1 c1 es r2 s2 A2 c2 es2 Aw cw xs,e=.returned (.tuple #[aAw r s A1 (List.length es) c1,aAw r2 s2 A2 (List.length es2) c2,.slice Aw (List.length xs) cw])/\DrG r s es/\DrG r2 s2 es2/\(((xs.length:Nat):Int)<=3/\LtW xs/\Rd xs)/\OG w' w.heap.size w'.heap.size A1 c1 es/\OG w' w.heap.size w'.heap.size A2 c2 es2/\OI w' w.heap.size w'.heap.size Aw cw xs/\Mid 0 0 w w':=by
 have hal:=Mid.alloc w (.cells #[.int .i64 0,.int .i64 0,.slice none 0 0] 35);have B2:=Box.new w #[.int .i64 0,.int .i64 0,.slice none 0 0] 35;have hal2:=Mid.alloc (w.alloc (.cells #[.int .i64 0,.int .i64 0,.slice none 0 0] 35)) (.cells #[.int .i64 0,.int .i64 0,.slice none 0 0] 35);have B3:=Box.new (w.alloc (.cells #[.int .i64 0,.int .i64 0,.slice none 0 0] 35)) #[.int .i64 0,.int .i64 0,.slice none 0 0] 35;rw[World.size_alloc] at B3;replace B2:=B2.mid hal2 oZr;replace hal:=hal.trans hal2;have hr0:=hr.mid hal oZl;go_enter Tryz.func54,Tryz.ntmps54
 go_wp2_with fail;clear hal2;generalize ((w.alloc (.cells #[.int .i64 0,.int .i64 0,.slice none 0 0] 35)).alloc (.cells #[.int .i64 0,.int .i64 0,.slice none 0 0] 35))=w1 at B2 B3 hr0 hal |-;have hs1:w.heap.size+1<w1.heap.size:=B3.1;with_reducible refine(aGJ A bs c w1 hi hb hl hr0).mono ?_
 rintro e w2 ⟨p,rfl,hp,hC,m2⟩;have hp2:=hC.lt;replace B2:=B2.mid m2 oZr;replace B3:=B3.mid m2 oZr;replace hr0:=hr0.mid m2 oZl;have hM:=hal.trans m2;have hs2:=m2.size;clear hal m2 hr;go_wp2_with fail;with_reducible refine(aJT A bs c _ hi hb hl hr0).mono ?_
 rintro e w3 ⟨r1,s1,Ae,ce,es,r2,s2,Ae2,ce2,es2,rfl,hg,hg2,hO,hO2,m3⟩;replace B2:=B2.mid m3 oZr;replace B3:=B3.mid m3 oZr;replace hM:=hM.trans m3;replace hC:=hC.mid m3 (Or.inr rfl);have hs3:=m3.size;clear m3 hr0;have HD:=oH hg;have HD2:=oH hg2;obtain⟨L1,hL1⟩:∃ l,es.length=l:=⟨_,rfl⟩
 obtain⟨L2,hL2⟩:∃ l,es2.length=l:=⟨_,rfl⟩
 have HL:=oH hL1;have HL2:=oH hL2;rw[hL1,hL2];clear hg hg2 hL1 hL2;have al5:=Mid.alloc w3 (.cells #[.int .i64 r1,.int .i64 s1,.slice Ae L1 ce] 35);have G5:=Box.new w3 #[.int .i64 r1,.int .i64 s1,.slice Ae L1 ce] 35;have al6:=Mid.alloc (w3.alloc (.cells #[.int .i64 r1,.int .i64 s1,.slice Ae L1 ce] 35)) (.cells #[.int .i64 r2,.int .i64 s2,.slice Ae2 L2 ce2] 35);have G6:=Box.new (w3.alloc (.cells #[.int .i64 r1,.int .i64 s1,.slice Ae L1 ce] 35)) #[.int .i64 r2,.int .i64 s2,.slice Ae2 L2 ce2] 35;rw[World.size_alloc] at G6;replace G5:=G5.mid al6 oZr;have al7:=al5.trans al6;replace B2:=B2.mid al7 oZr;replace B3:=B3.mid al7 oZr;replace hM:=hM.trans al7;have hO5:=hO.mid al7 oZl;have hO6:=hO2.mid al7 oZl;obtain⟨gb,hgb⟩:∃ g,w3.heap.size=g:=⟨_,rfl⟩
 obtain⟨w5,hw5⟩:∃ x,(w3.alloc (.cells #[.int .i64 r1,.int .i64 s1,.slice Ae L1 ce] 35)).alloc (.cells #[.int .i64 r2,.int .i64 s2,.slice Ae2 L2 ce2] 35)=x:=⟨_,rfl⟩
 replace hC:=hC.mid al7 (Or.inr rfl);have hp5:=hC.lt;rw[hgb] at G5 G6 hO5 hO6 hs3;rw[hw5] at B2 B3 G5 G6 hO5 hO6 hM hC;clear al5 al6 al7 hO hO2;have hcl:=G6.1;have hpg:p<gb:=by omega
 go_wp2_with fail;try rw[hw5]
 clear hw5 hgb hp5;have hmd:=Mid.drew1 w5;replace B2:=B2.mid hmd oZr;replace B3:=B3.mid hmd oZr;replace G5:=G5.mid hmd oZr;replace G6:=G6.mid hmd oZr;replace hO5:=hO5.mid hmd oZl;replace hO6:=hO6.mid hmd oZl;replace hC:=hC.mid hmd (Or.inr rfl);replace hM:=hM.trans hmd;clear hmd;obtain⟨g0,g1,g2⟩:=G5.c3 rfl;obtain⟨k0,k1,k2⟩:=G6.c3 rfl;refine aAl (S:=(fun w'=>(w'.cell? ⟨gb,0,none⟩=some (.int .i64 r1)/\w'.cell? ⟨gb,1,none⟩=some (.int .i64 s1)/\w'.cell? ⟨gb,2,none⟩=some (.slice Ae L1 ce))/\w'.cell? ⟨gb+1,0,none⟩=some (.int .i64 r2)/\w'.cell? ⟨gb+1,1,none⟩=some (.int .i64 s2)/\w'.cell? ⟨gb+1,2,none⟩=some (.slice Ae2 L2 ce2))) [] (by kernel_rfl) ⟨⟨g0,g1,g2⟩,k0,k1,k2⟩ ?_;generalize World.drew w5=wz at B2 B3 G5 G6 hO5 hO6 hC hM g0 g1 g2 k0 k1 k2 |-;have hS:(wz.cell? ⟨gb,0,none⟩=some (.int .i64 r1)/\wz.cell? ⟨gb,1,none⟩=some (.int .i64 s1)/\wz.cell? ⟨gb,2,none⟩=some (.slice Ae L1 ce))/\wz.cell? ⟨gb+1,0,none⟩=some (.int .i64 r2)/\wz.cell? ⟨gb+1,1,none⟩=some (.int .i64 s2)/\wz.cell? ⟨gb+1,2,none⟩=some (.slice Ae2 L2 ce2):=⟨⟨g0,g1,g2⟩,k0,k1,k2⟩
 refine tkZ [] 0 rfl hS ?_;try simp only[oP]
 refine tkZ [] 1 rfl hS ?_;try simp only[oP]
 refine tkZ [] 2 rfl hS ?_;try simp only[oP]
 clear hS g0 g1 g2 k0 k1 k2;have HW:=oH (aOa 2 (by omega) (by omega) 3 (by omega) (by omega) p A bs c wz hb hl hC);have hpz:=hC.lt;have hgz:=G6.1;refine rdZ 3 rfl (fun K hK=>?_)
 (go_simp;(with_reducible refine(HW.out).mono ?_);rintro en w9 ⟨Aw,cw,xs,rfl,hx,ow,hC9,m9⟩;have G5n:=G5.mid m9 (Or.inr (by omega));have G6n:=G6.mid m9 (Or.inr (by omega));go_wp2_with fail)
 refine hK.out _ _ (Or.inr ⟨G5n.c3 rfl,G6n.c3 rfl⟩) (fun _=>?_);clear hK K;try simp only[oP]
 have HX:=oH hx;obtain⟨L9,hL9⟩:∃ l,xs.length=l:=⟨_,rfl⟩
 have HL9:=oH hL9;rw[hL9];replace B2:=B2.mid m9 (Or.inl (by omega));replace B3:=B3.mid m9 (Or.inl (by omega));replace hO5:=hO5.mid m9 (Or.inl (by omega));replace hO6:=hO6.mid m9 (Or.inl (by omega));replace hM:=hM.transNew m9 (Or.inl (by omega));have hz9:=m9.size;clear hx hL9 m9 hC hC9 HW G5 G6;have G5:=G5n;have G6:=G6n;clear G5n G6n;have G5l:=G5.1;have G6l:=G6.1;obtain⟨q0,q1,q2⟩:=B2.c3 rfl;have qf:=B2.2.2;have ql:=B2.1;have ql3:=B3.1;have hst:=Mid.s3 w9 w.heap.size (.int .i64 r1) (.int .i64 s1) (.slice Ae L1 ce);have G5q:=G5.mid hst (Or.inr (by omega));have G6q:=G6.mid hst (Or.inr (by omega));have B3q:=B3.mid hst (Or.inr (by omega));have V2:=B2.s3 (.int .i64 r1) (.int .i64 s1) (.slice Ae L1 ce);have O1:=hO5.mid hst (Or.inl (by omega));have O2:=hO6.mid hst (Or.inl (by omega));have owq:=ow.mid hst (Or.inl (by omega));have M1:=hM.transNew hst (Or.inl oN);have hz1:=hst.size;refine rdZ 4 rfl (fun K hK=>?_);go_simp;refine hK.out _ _ (Or.inr ⟨G5q.c3 rfl,G6q.c3 rfl⟩) (fun _=>?_);clear hK K;try simp only[oP]
 clear hst B2 B3 G5 G6 hO5 hO6 hM q0 q1 q2 qf ql G5l G6l ow;generalize ((w9.setCell ⟨w.heap.size,0,none⟩ (.int .i64 r1)).setCell ⟨w.heap.size,1,none⟩ (.int .i64 s1)).setCell ⟨w.heap.size,2,none⟩ (.slice Ae L1 ce)=wS at G5q G6q B3q V2 O1 O2 M1 hz1 owq |-;obtain⟨q0,q1,q2⟩:=B3q.c3 rfl;have qf:=B3q.2.2;have ql:=B3q.1;have ql2:=V2.1;have G5l:=G5q.1;have G6l:=G6q.1;have hst:=Mid.s3 wS (w.heap.size+1) (.int .i64 r2) (.int .i64 s2) (.slice Ae2 L2 ce2);have V2q:=V2.mid hst (Or.inl (by omega));have V3:=B3q.s3 (.int .i64 r2) (.int .i64 s2) (.slice Ae2 L2 ce2);replace G5q:=G5q.mid hst (Or.inr (by omega));replace G6q:=G6q.mid hst (Or.inr (by omega));have O9:=oH ((O1.mid hst (Or.inl (by omega))).wide (lo':=w.heap.size) (by omega) (Nat.le_trans O1.size hst.size) oN);have O9b:=oH ((O2.mid hst (Or.inl (by omega))).wide (lo':=w.heap.size) (by omega) (Nat.le_trans O2.size hst.size) oN);have ow9:=oH ((owq.mid hst (Or.inl (by omega))).wide (lo':=w.heap.size) (by omega) (Nat.le_trans owq.size hst.size) oN);have M9:=oH (M1.transNew hst (Or.inl (by omega)));refine rdZ 5 rfl (fun K hK=>?_);go_simp;refine hK.out _ _ (Or.inr ⟨G5q.c3 rfl,G6q.c3 rfl⟩) (fun _=>?_);clear hK K;try simp only[oP]
 have hSq:=And.intro (G5q.c3 rfl) (G6q.c3 rfl);refine tkZ [] 6 rfl hSq ?_;try simp only[oP]
 refine aAh (by kernel_rfl) ?_ _;clear hSq hst O1 O2 M1 q0 q1 q2 qf ql B3q V2 G5q G6q owq;obtain⟨q0,q1,q2⟩:=V2q.c3 rfl;obtain⟨k0,k1,k2⟩:=V3.c3 rfl;go_wp2_with fail;refine bodyPost_ret (v:=.tuple #[.agg #[.int .i64 r1,.int .i64 s1,.slice Ae L1 ce],.agg #[.int .i64 r2,.int .i64 s2,.slice Ae2 L2 ce2],.slice Aw L9 cw]) (by simp[results,Tryz.results54,go_sem,q0,q1,q2,k0,k1,k2]) rfl ⟨r1,s1,Ae,ce,es,r2,s2,Ae2,ce2,es2,Aw,cw,xs,?_,HD.out,HD2.out,HX.out,O9.out,O9b.out,ow9.out,M9.out⟩;rw[HL.out,HL2.out,HL9.out]
theorem aGu(A:Option Addr)(bs:List Int)(c:Nat)(w:World)(hi:Nat)(hb:OkB bs)(hl:bs.length<=1048576)(hr:RV w 0 hi A (aIz bs)) :
  Calls Tryz.prog 51 #[.slice A bs.length c] w fun e w'=>∃ r s A1 c1 es r2 s2 A2 c2 es2 u v,e=.returned (.tuple #[aAw r s A1 (List.length es) c1,aAw r2 s2 A2 (List.length es2) c2,.int .i64 u,.int .i64 v])/\DrG r s es/\DrG r2 s2 es2/\((-200<=u/\u<=200)/\(-200<=v/\v<=200))/\OG w' w.heap.size w'.heap.size A1 c1 es/\OG w' w.heap.size w'.heap.size A2 c2 es2/\Mid 0 0 w w':=by
 have hal:=Mid.alloc w (.cells #[.int .i64 0,.int .i64 0,.slice none 0 0] 35);have B2:=Box.new w #[.int .i64 0,.int .i64 0,.slice none 0 0] 35;have hal2:=Mid.alloc (w.alloc (.cells #[.int .i64 0,.int .i64 0,.slice none 0 0] 35)) (.cells #[.int .i64 0,.int .i64 0,.slice none 0 0] 35);have B3:=Box.new (w.alloc (.cells #[.int .i64 0,.int .i64 0,.slice none 0 0] 35)) #[.int .i64 0,.int .i64 0,.slice none 0 0] 35;rw[World.size_alloc] at B3;replace B2:=B2.mid hal2 oZr;replace hal:=hal.trans hal2;have hr0:=hr.mid hal oZl;go_enter Tryz.func51,Tryz.ntmps51
 go_wp2_with fail;clear hal2;generalize ((w.alloc (.cells #[.int .i64 0,.int .i64 0,.slice none 0 0] 35)).alloc (.cells #[.int .i64 0,.int .i64 0,.slice none 0 0] 35))=w1 at B2 B3 hr0 hal |-;have hs1:w.heap.size+1<w1.heap.size:=B3.1;with_reducible refine(aGJ A bs c w1 hi hb hl hr0).mono ?_
 rintro e w2 ⟨p,rfl,hp,hC,m2⟩;have hp2:=hC.lt;replace B2:=B2.mid m2 oZr;replace B3:=B3.mid m2 oZr;replace hr0:=hr0.mid m2 oZl;have hM:=hal.trans m2;have hs2:=m2.size;clear hal m2 hr;go_wp2_with fail;clear hr0;with_reducible refine(aLU p A bs c _ hb hl hC).mono ?_
 rintro e w3 ⟨r1,s1,Ae,ce,es,r2,s2,Ae2,ce2,es2,rfl,hg,hg2,hO,hO2,hCn,m3⟩;have hpw:=hC.lt;replace B2:=B2.mid m3 (Or.inl (by omega));replace B3:=B3.mid m3 (Or.inl (by omega));replace hM:=hM.transNew m3 (Or.inl (by omega));have hs3:=m3.size;have hsk:=hg.sz;have hsk2:=hg2.sz;clear m3 hC;have hC:=hCn;clear hCn;have HD:=oH hg;have HD2:=oH hg2;obtain⟨L1,hL1⟩:∃ l,es.length=l:=⟨_,rfl⟩
 obtain⟨L2,hL2⟩:∃ l,es2.length=l:=⟨_,rfl⟩
 have HL:=oH hL1;have HL2:=oH hL2;rw[hL1,hL2];clear hg hg2 hL1 hL2;have al5:=Mid.alloc w3 (.cells #[.int .i64 r1,.int .i64 s1,.slice Ae L1 ce] 35);have G5:=Box.new w3 #[.int .i64 r1,.int .i64 s1,.slice Ae L1 ce] 35;have al6:=Mid.alloc (w3.alloc (.cells #[.int .i64 r1,.int .i64 s1,.slice Ae L1 ce] 35)) (.cells #[.int .i64 r2,.int .i64 s2,.slice Ae2 L2 ce2] 35);have G6:=Box.new (w3.alloc (.cells #[.int .i64 r1,.int .i64 s1,.slice Ae L1 ce] 35)) #[.int .i64 r2,.int .i64 s2,.slice Ae2 L2 ce2] 35;rw[World.size_alloc] at G6;replace G5:=G5.mid al6 oZr;have al7:=al5.trans al6;replace B2:=B2.mid al7 oZr;replace B3:=B3.mid al7 oZr;replace hM:=hM.trans al7;have hO5:=hO.mid al7 oZl;have hO6:=hO2.mid al7 oZl;obtain⟨gb,hgb⟩:∃ g,w3.heap.size=g:=⟨_,rfl⟩
 obtain⟨w5,hw5⟩:∃ x,(w3.alloc (.cells #[.int .i64 r1,.int .i64 s1,.slice Ae L1 ce] 35)).alloc (.cells #[.int .i64 r2,.int .i64 s2,.slice Ae2 L2 ce2] 35)=x:=⟨_,rfl⟩
 replace hC:=hC.mid al7 (Or.inr rfl);rw[hgb] at G5 G6 hO5 hO6 hs3;rw[hw5] at B2 B3 G5 G6 hO5 hO6 hM hC;clear al5 al6 al7 hO hO2;have hcl:=G6.1;have hpg:p<gb:=by omega
 have hmx:max s1 1<=100/\1<=max s1 1:=by omega
 have ha1:IntKind.i64.wrap (max s1 1+1)=max s1 1+1:=IntWalk.i64_in _ (by omega);have ha2:wrap64 (max s1 1+1)=max s1 1+1:=by unfold wrap64;omega
 obtain⟨k1,hk1⟩:∃ k:Nat,max s1 1+1=(k:Int):=⟨(max s1 1+1).toNat,by omega⟩
 have hk1b:0<k1/\k1<=101:=by omega
 obtain⟨g0,g1,g2⟩:=G5.c3 rfl;have g5l:=G5.1;have hW:=aCh k1 (by omega) (by omega) p A bs c w5 hb hl hC;rw[<- hk1] at hW;have HW:=oH hW;clear hW hk1;go_wp2_with fail;try rw[hw5]
 clear hw5 hgb ha1 ha2 g0 g1 g2 g5l;with_reducible refine(HW.out).mono ?_
 rintro e w6 ⟨x1,rfl,hx1,hCn,m6⟩;replace B2:=B2.mid m6 (Or.inl (by omega));replace B3:=B3.mid m6 (Or.inl (by omega));replace G5:=G5.mid m6 (Or.inr (by omega));replace G6:=G6.mid m6 (Or.inr (by omega));replace hO5:=hO5.mid m6 (Or.inl (by omega));replace hO6:=hO6.mid m6 (Or.inl (by omega));replace hM:=hM.transNew m6 (Or.inl (by omega));have hsm6:=m6.size;clear hC m6;have hC:=hCn;clear hCn;clear HW;go_wp2_with fail;with_reducible refine(aLS p A bs c _ hb hl hC).mono ?_
 rintro e w7 ⟨x2,rfl,hx2,hCn,m7⟩;replace B2:=B2.mid m7 (Or.inl (by omega));replace B3:=B3.mid m7 (Or.inl (by omega));replace G5:=G5.mid m7 (Or.inr (by omega));replace G6:=G6.mid m7 (Or.inr (by omega));replace hO5:=hO5.mid m7 (Or.inl (by omega));replace hO6:=hO6.mid m7 (Or.inl (by omega));replace hM:=hM.transNew m7 (Or.inl (by omega));have hsm7:=m7.size;clear hC m7;have hC:=hCn;clear hCn;go_wp2_with fail;with_reducible refine(aLS p A bs c _ hb hl hC).mono ?_
 rintro e w8 ⟨x3,rfl,hx3,hCn,m8⟩;replace B2:=B2.mid m8 (Or.inl (by omega));replace B3:=B3.mid m8 (Or.inl (by omega));replace G5:=G5.mid m8 (Or.inr (by omega));replace G6:=G6.mid m8 (Or.inr (by omega));replace hO5:=hO5.mid m8 (Or.inl (by omega));replace hO6:=hO6.mid m8 (Or.inl (by omega));replace hM:=hM.transNew m8 (Or.inl (by omega));have hsm8:=m8.size;clear hC m8;have hC:=hCn;clear hCn;have hmul:0<=(x2:Int) * (x3:Int)/\(x2:Int) * (x3:Int)<=1:=by
  rcases(by omega:x2=0 \/ x2=1) with rfl|rfl <;> simp <;> omega
 have k1:∀ m:Int,0<=m->m<=1->IntKind.i64.wrap m=m:=fun m h0 h1=>IntWalk.i64_in _ (by omega);have k2:∀ m:Int,0<=m->m<=1->wrap64 m=m:=fun m h0 h1=>by unfold wrap64;omega
 have k3:∀ m:Int,0<=m->m<=1->IntKind.i64.wrap ((x1:Int) - m)=(x1:Int) - m:=fun m h0 h1=>IntWalk.i64_in _ (by omega);have k4:∀ m:Int,0<=m->m<=1->wrap64 ((x1:Int) - m)=(x1:Int) - m:=fun m h0 h1=>by unfold wrap64;omega
 have k5:∀ m:Int,0<=m->m<=1->-200<=(x1:Int) - m/\(x1:Int) - m<=200:=fun m h0 h1=>by omega
 have hw1:=k1 _ hmul.1 hmul.2;have hw2:=k2 _ hmul.1 hmul.2;have hw3:=k3 _ hmul.1 hmul.2;have hw4:=k4 _ hmul.1 hmul.2;have hvr0:=k5 _ hmul.1 hmul.2;clear k1 k2 k3 k4 k5 hmul;go_wp2_with fail;clear hw1 hw2 hw3 hw4;obtain⟨u,hu⟩:∃ v,(x1:Int) - (x2:Int) * (x3:Int)=v:=⟨_,rfl⟩
 rw[hu] at hvr0;have hur:=hvr0;rw[hu];clear hvr0 hu;have hmd:=Mid.drew1 w8;replace B2:=B2.mid hmd oZr;replace B3:=B3.mid hmd oZr;replace G5:=G5.mid hmd oZr;replace G6:=G6.mid hmd oZr;replace hO5:=hO5.mid hmd oZl;replace hO6:=hO6.mid hmd oZl;replace hC:=hC.mid hmd (Or.inr rfl);replace hM:=hM.trans hmd;clear hmd;obtain⟨g0,g1,g2⟩:=G5.c3 rfl;obtain⟨k0,k1,k2⟩:=G6.c3 rfl;refine aAl (S:=(fun w'=>(w'.cell? ⟨gb,0,none⟩=some (.int .i64 r1)/\w'.cell? ⟨gb,1,none⟩=some (.int .i64 s1)/\w'.cell? ⟨gb,2,none⟩=some (.slice Ae L1 ce))/\w'.cell? ⟨gb+1,0,none⟩=some (.int .i64 r2)/\w'.cell? ⟨gb+1,1,none⟩=some (.int .i64 s2)/\w'.cell? ⟨gb+1,2,none⟩=some (.slice Ae2 L2 ce2))) [] (by kernel_rfl) ⟨⟨g0,g1,g2⟩,k0,k1,k2⟩ ?_;generalize World.drew w8=wz at B2 B3 G5 G6 hO5 hO6 hC hM g0 g1 g2 k0 k1 k2 |-;have hS:(wz.cell? ⟨gb,0,none⟩=some (.int .i64 r1)/\wz.cell? ⟨gb,1,none⟩=some (.int .i64 s1)/\wz.cell? ⟨gb,2,none⟩=some (.slice Ae L1 ce))/\wz.cell? ⟨gb+1,0,none⟩=some (.int .i64 r2)/\wz.cell? ⟨gb+1,1,none⟩=some (.int .i64 s2)/\wz.cell? ⟨gb+1,2,none⟩=some (.slice Ae2 L2 ce2):=⟨⟨g0,g1,g2⟩,k0,k1,k2⟩
 have hmx2:max s2 1<=100/\1<=max s2 1:=by omega
 refine tkZ [] 0 rfl hS ?_;try simp only[oP]
 refine tkZ [] 1 rfl hS ?_;try simp only[oP]
 refine tkZ [] 2 rfl hS ?_;try simp only[oP]
 refine tkZ [] 3 rfl hS ?_;try simp only[oP]
 refine tkZ [] 4 rfl hS ?_;try simp only[oP]
 refine tkZ [] 5 rfl hS ?_;try simp only[oP]
 refine tkZ [] 6 rfl hS ?_;try simp only[oP]
 clear hS g0 g1 g2 k0 k1 k2;obtain⟨k9,hk9⟩:∃ k:Nat,max s2 1=(k:Int):=⟨(max s2 1).toNat,by omega⟩
 have hk9b:0<k9/\k9<=101:=by omega
 rw[hk9];clear hk9;have HW:=oH (aCh k9 (by omega) (by omega) p A bs c wz hb hl hC);have hpz:=hC.lt;have hgz:=G6.1;refine rdZ 7 rfl (fun K hK=>?_)
 (go_simp;(with_reducible refine(HW.out).mono ?_);rintro en w9 ⟨x9,rfl,hx9,hC9,m9⟩;have G5n:=G5.mid m9 (Or.inr (by omega));have G6n:=G6.mid m9 (Or.inr (by omega));go_wp2_with fail)
 refine hK.out _ _ (Or.inr ⟨G5n.c3 rfl,G6n.c3 rfl⟩) (fun _=>?_);clear hK K;try simp only[oP]
 have hvr9:-200<=(x9:Int)/\(x9:Int)<=200:=by omega
 have HX:=oH (And.intro hur hvr9);replace B2:=B2.mid m9 (Or.inl (by omega));replace B3:=B3.mid m9 (Or.inl (by omega));replace hO5:=hO5.mid m9 (Or.inl (by omega));replace hO6:=hO6.mid m9 (Or.inl (by omega));replace hM:=hM.transNew m9 (Or.inl (by omega));have hz9:=m9.size;clear m9 hC hC9 HW G5 G6 hx9 hur hvr9;have G5:=G5n;have G6:=G6n;clear G5n G6n;have G5l:=G5.1;have G6l:=G6.1;obtain⟨q0,q1,q2⟩:=B2.c3 rfl;have qf:=B2.2.2;have ql:=B2.1;have ql3:=B3.1;have hst:=Mid.s3 w9 w.heap.size (.int .i64 r1) (.int .i64 s1) (.slice Ae L1 ce);have G5q:=G5.mid hst (Or.inr (by omega));have G6q:=G6.mid hst (Or.inr (by omega));have B3q:=B3.mid hst (Or.inr (by omega));have V2:=B2.s3 (.int .i64 r1) (.int .i64 s1) (.slice Ae L1 ce);have O1:=hO5.mid hst (Or.inl (by omega));have O2:=hO6.mid hst (Or.inl (by omega));have M1:=hM.transNew hst (Or.inl oN);have hz1:=hst.size;refine rdZ 8 rfl (fun K hK=>?_);go_simp;refine hK.out _ _ (Or.inr ⟨G5q.c3 rfl,G6q.c3 rfl⟩) (fun _=>?_);clear hK K;try simp only[oP]
 clear hst B2 B3 G5 G6 hO5 hO6 hM q0 q1 q2 qf ql G5l G6l;generalize ((w9.setCell ⟨w.heap.size,0,none⟩ (.int .i64 r1)).setCell ⟨w.heap.size,1,none⟩ (.int .i64 s1)).setCell ⟨w.heap.size,2,none⟩ (.slice Ae L1 ce)=wS at G5q G6q B3q V2 O1 O2 M1 hz1  |-;obtain⟨q0,q1,q2⟩:=B3q.c3 rfl;have qf:=B3q.2.2;have ql:=B3q.1;have ql2:=V2.1;have G5l:=G5q.1;have G6l:=G6q.1;have hst:=Mid.s3 wS (w.heap.size+1) (.int .i64 r2) (.int .i64 s2) (.slice Ae2 L2 ce2);have V2q:=V2.mid hst (Or.inl (by omega));have V3:=B3q.s3 (.int .i64 r2) (.int .i64 s2) (.slice Ae2 L2 ce2);replace G5q:=G5q.mid hst (Or.inr (by omega));replace G6q:=G6q.mid hst (Or.inr (by omega));have O9:=oH ((O1.mid hst (Or.inl (by omega))).wide (lo':=w.heap.size) (by omega) (Nat.le_trans O1.size hst.size) oN);have O9b:=oH ((O2.mid hst (Or.inl (by omega))).wide (lo':=w.heap.size) (by omega) (Nat.le_trans O2.size hst.size) oN);have M9:=oH (M1.transNew hst (Or.inl (by omega)));refine rdZ 9 rfl (fun K hK=>?_);go_simp;refine hK.out _ _ (Or.inr ⟨G5q.c3 rfl,G6q.c3 rfl⟩) (fun _=>?_);clear hK K;try simp only[oP]
 have hSq:=And.intro (G5q.c3 rfl) (G6q.c3 rfl);refine tkZ [] 10 rfl hSq ?_;try simp only[oP]
 refine tkZ [] 11 rfl hSq ?_;try simp only[oP]
 refine aAh (by kernel_rfl) ?_ _;clear hSq hst O1 O2 M1 q0 q1 q2 qf ql B3q V2 G5q G6q;obtain⟨q0,q1,q2⟩:=V2q.c3 rfl;obtain⟨k0,k1,k2⟩:=V3.c3 rfl;go_wp2_with fail;refine bodyPost_ret (v:=.tuple #[.agg #[.int .i64 r1,.int .i64 s1,.slice Ae L1 ce],.agg #[.int .i64 r2,.int .i64 s2,.slice Ae2 L2 ce2],.int .i64 u,.int .i64 (x9:Int)]) (by simp[results,Tryz.results51,go_sem,q0,q1,q2,k0,k1,k2]) rfl ⟨r1,s1,Ae,ce,es,r2,s2,Ae2,ce2,es2,u,x9,?_,HD.out,HD2.out,HX.out,O9.out,O9b.out,M9.out⟩;rw[HL.out,HL2.out]
def aCb(r0 s0:Int)(d0:List Ed)(r1 s1:Int)(d1:List Ed)(rr0 rs0:Int)(res0:List Ed)(res1:Bool):Prop:=IntIs r0 s0 d0 r1 s1 d1 rr0 rs0 res0 res1
theorem aGb(r0 s0:Int)(d0:List Ed)(r1 s1:Int)(d1:List Ed)(hl0:d0.length<=1048576)(hl1:d1.length<=1048576):∃ rr0 rs0 res0 res1,aCb r0 s0 d0 r1 s1 d1 rr0 rs0 res0 res1:=aND r0 s0 d0 r1 s1 d1
theorem aFJ{r0 s0:Int}{d0:List Ed}{r1 s1:Int}{d1:List Ed}{rr0 rs0:Int}{res0:List Ed}{res1:Bool}(h:aCb r0 s0 d0 r1 s1 d1 rr0 rs0 res0 res1)(hl0:d0.length<=1048576)(hl1:d1.length<=1048576):res0.length<=1048576:=by
 have:=IntIs.lens h;omega
theorem aFO(r0 s0:Int)(A0:Option Addr)(d0:List Ed)(c0:Nat)(r1 s1:Int)(A1:Option Addr)(d1:List Ed)(c1:Nat)(w:World)(lo0 hi0:Nat)(h0:OG w lo0 hi0 A0 c0 d0)(hl0:d0.length<=1048576)(lo1 hi1:Nat)(h1:OG w lo1 hi1 A1 c1 d1)(hl1:d1.length<=1048576)(rr0 rs0:Int)(res0:List Ed)(res1:Bool)(h:aCb r0 s0 d0 r1 s1 d1 rr0 rs0 res0 res1) :
  Calls Tryz.prog 39 #[.agg #[.int .i64 r0,.int .i64 s0,.slice A0 d0.length c0],.agg #[.int .i64 r1,.int .i64 s1,.slice A1 d1.length c1]] w fun e w'=>∃(A:Option Addr) (c:Nat),e=.returned (.tuple #[.agg #[.int .i64 rr0,.int .i64 rs0,.slice A res0.length c],.bool res1])/\OG w' w.heap.size w'.heap.size A c res0/\Mid 0 0 w w':=
 aDC r0 s0 A0 d0 c0 r1 s1 A1 d1 c1 w lo0 hi0 lo1 hi1 h0.rg h1.rg hl0 hl1 rr0 rs0 res0 res1 h
theorem aFM(r0 s0:Int)(A0:Option Addr)(d0:List Ed)(c0:Nat)(r1 s1:Int)(A1:Option Addr)(d1:List Ed)(c1:Nat)(w:World)(lo0 hi0:Nat)(h0:OG w lo0 hi0 A0 c0 d0)(hl0:d0.length<=1048576)(lo1 hi1:Nat)(h1:OG w lo1 hi1 A1 c1 d1)(hl1:d1.length<=1048576)(rr0 rs0:Int)(res0:List Ed)(res1:Bool)(h:aCb r0 s0 d0 r1 s1 d1 rr0 rs0 res0 res1) :
  Calls Tryz.prog 38 #[.agg #[.int .i64 r0,.int .i64 s0,.slice A0 d0.length c0],.agg #[.int .i64 r1,.int .i64 s1,.slice A1 d1.length c1]] w fun e w'=>∃(A:Option Addr) (c:Nat),e=.returned (.tuple #[.agg #[.int .i64 rr0,.int .i64 rs0,.slice A res0.length c],.bool res1])/\OG w' w.heap.size w'.heap.size A c res0/\Mid 0 0 w w':=
 aDs r0 s0 A0 d0 c0 r1 s1 A1 d1 c1 w lo0 hi0 lo1 hi1 h0.rg h1.rg hl0 hl1 h0.cnt.1 h1.cnt.1 rr0 rs0 res0 res1 h
def aDJ(r0 s0:Int)(d0:List Ed)(r1 s1:Int)(d1:List Ed)(x2:Int)(x3:Int)(rr0 rs0:Int)(res0:List Ed)(res1:Bool):Prop:=PullIs r0 s0 d0 r1 s1 d1 x2 x3 rr0 rs0 res0 res1
theorem aIv(r0 s0:Int)(d0:List Ed)(r1 s1:Int)(d1:List Ed)(x2:Int)(x3:Int)(hl0:d0.length<=1048576)(hl1:d1.length<=1048576):∃ rr0 rs0 res0 res1,aDJ r0 s0 d0 r1 s1 d1 x2 x3 rr0 rs0 res0 res1:=aPG r0 s0 d0 r1 s1 d1 x2 x3
theorem aHS{r0 s0:Int}{d0:List Ed}{r1 s1:Int}{d1:List Ed}{x2:Int}{x3:Int}{rr0 rs0:Int}{res0:List Ed}{res1:Bool}(h:aDJ r0 s0 d0 r1 s1 d1 x2 x3 rr0 rs0 res0 res1)(hl0:d0.length<=1048576)(hl1:d1.length<=1048576):res0.length<=1048576:=by
 have:=PullIs.lens h;omega
theorem aId(r0 s0:Int)(A0:Option Addr)(d0:List Ed)(c0:Nat)(r1 s1:Int)(A1:Option Addr)(d1:List Ed)(c1:Nat)(x2:Int)(x3:Int)(w:World)(lo0 hi0:Nat)(h0:OG w lo0 hi0 A0 c0 d0)(hl0:d0.length<=1048576)(lo1 hi1:Nat)(h1:OG w lo1 hi1 A1 c1 d1)(hl1:d1.length<=1048576)(o2:(Lit.int .i64 x2).wf=true)(o3:(Lit.int .i64 x3).wf=true)(rr0 rs0:Int)(res0:List Ed)(res1:Bool)(h:aDJ r0 s0 d0 r1 s1 d1 x2 x3 rr0 rs0 res0 res1) :
  Calls Tryz.prog 53 #[.agg #[.int .i64 r0,.int .i64 s0,.slice A0 d0.length c0],.agg #[.int .i64 r1,.int .i64 s1,.slice A1 d1.length c1],.int .i64 x2,.int .i64 x3] w fun e w'=>∃(A:Option Addr) (c:Nat),e=.returned (.tuple #[.agg #[.int .i64 rr0,.int .i64 rs0,.slice A res0.length c],.bool res1])/\OG w' w.heap.size w'.heap.size A c res0/\Mid 0 0 w w':=
 aDE r0 s0 A0 d0 c0 r1 s1 A1 d1 c1 x2 x3 w lo0 hi0 lo1 hi1 h0.rg h1.rg hl0 hl1 rr0 rs0 res0 res1 h
theorem aHZ(r0 s0:Int)(A0:Option Addr)(d0:List Ed)(c0:Nat)(r1 s1:Int)(A1:Option Addr)(d1:List Ed)(c1:Nat)(x2:Int)(x3:Int)(w:World)(lo0 hi0:Nat)(h0:OG w lo0 hi0 A0 c0 d0)(hl0:d0.length<=1048576)(lo1 hi1:Nat)(h1:OG w lo1 hi1 A1 c1 d1)(hl1:d1.length<=1048576)(o2:(Lit.int .i64 x2).wf=true)(o3:(Lit.int .i64 x3).wf=true)(rr0 rs0:Int)(res0:List Ed)(res1:Bool)(h:aDJ r0 s0 d0 r1 s1 d1 x2 x3 rr0 rs0 res0 res1) :
  Calls Tryz.prog 52 #[.agg #[.int .i64 r0,.int .i64 s0,.slice A0 d0.length c0],.agg #[.int .i64 r1,.int .i64 s1,.slice A1 d1.length c1],.int .i64 x2,.int .i64 x3] w fun e w'=>∃(A:Option Addr) (c:Nat),e=.returned (.tuple #[.agg #[.int .i64 rr0,.int .i64 rs0,.slice A res0.length c],.bool res1])/\OG w' w.heap.size w'.heap.size A c res0/\Mid 0 0 w w':=
 aDt r0 s0 A0 d0 c0 r1 s1 A1 d1 c1 x2 x3 w lo0 hi0 lo1 hi1 h0.rg h1.rg hl0 hl1 h0.cnt.1 h1.cnt.1 rr0 rs0 res0 res1 h
def MeetIs(r s:Int)(es:List Ed)(r' s':Int)(es':List Ed)(wd:List Int)(rr rs:Int)(res:List Ed)(b:Bool):Prop:=
 ∃ r1 s1 es1 b1,CjIs r' s' es' wd r1 s1 es1 b1/\((b1=false/\b=false/\rr=0/\rs=0/\res=[]) \/ (b1=true/\IntIs r s es r1 s1 es1 rr rs res b))
theorem aPD(r s:Int)(es:List Ed)(r' s':Int)(es':List Ed)(wd:List Int):∃ rr rs res b,MeetIs r s es r' s' es' wd rr rs res b:=by
 obtain⟨r1,s1,es1,b1,h⟩:=aTg r' s' es' wd;cases b1
 .exact⟨_,_,_,_,r1,s1,es1,false,h,.inl ⟨rfl,rfl,rfl,rfl,rfl⟩⟩
 obtain⟨rr,rs,res,b,h2⟩:=aND r s es r1 s1 es1;exact⟨rr,rs,res,b,r1,s1,es1,true,h,.inr ⟨rfl,h2⟩⟩
theorem MeetIs.lens{r s:Int}{es:List Ed}{r' s':Int}{es':List Ed}{wd:List Int}{rr rs:Int}{res:List Ed}{b:Bool}(h:MeetIs r s es r' s' es' wd rr rs res b):res.length<=120:=by
 obtain⟨r1,s1,es1,b1,h1,⟨-, -, -, -,rfl⟩|⟨-,h2⟩⟩:=h
 .simp
 exact h2.lens
theorem aHc(r s:Int)(A:Option Addr)(es:List Ed)(c:Nat)(r' s':Int)(B:Option Addr)(es':List Ed)(d:Nat)(Aw:Option Addr)(wd:List Int)(cw:Nat)(w:World)(lo hi lo2 hi2 lo' hi':Nat)(hr:RG w lo hi A es)(hr2:RG w lo2 hi2 B es')(hl:es.length<=1048576)(hl2:es'.length<=1048576)(hcl:es.length<=c)(hcl2:es'.length<=d)(hw:RV w lo' hi' Aw (aAd wd))(hcw:wd.length<=cw)(hwl:wd.length<=1048576)(hok:OkI wd)(rr rs:Int)(res:List Ed)(b:Bool)(hres:MeetIs r s es r' s' es' wd rr rs res b) :
  Calls Tryz.prog 56 #[aAw r s A es.length c,aAw r' s' B es'.length d,.slice Aw wd.length cw] w fun e w'=>∃ A1 c1,e=.returned (.tuple #[aAw rr rs A1 res.length c1,.bool b])/\OG w' w.heap.size w'.heap.size A1 c1 res/\Mid 0 0 w w':=by
 have hm0:Mid 0 0 w (((w.alloc (.cells #[.int .i64 r,.int .i64 s,.slice A es.length c] 35)).alloc (.cells #[.int .i64 r',.int .i64 s',.slice B es'.length d] 35)).alloc (.cells #[.int .i64 0,.int .i64 0,.slice none 0 0] 35)):=((Mid.alloc _ _).trans (Mid.alloc _ _)).trans (Mid.alloc _ _);have B0:=((Box.new w #[.int .i64 r,.int .i64 s,.slice A es.length c] 35).mid (Mid.alloc _ (.cells #[.int .i64 r',.int .i64 s',.slice B es'.length d] 35)) oZr).mid (Mid.alloc _ (.cells #[.int .i64 0,.int .i64 0,.slice none 0 0] 35)) oZr;have B1:=(Box.new (w.alloc (.cells #[.int .i64 r,.int .i64 s,.slice A es.length c] 35)) #[.int .i64 r',.int .i64 s',.slice B es'.length d] 35).mid (Mid.alloc _ (.cells #[.int .i64 0,.int .i64 0,.slice none 0 0] 35)) oZr;have B2:=Box.new ((w.alloc (.cells #[.int .i64 r,.int .i64 s,.slice A es.length c] 35)).alloc (.cells #[.int .i64 r',.int .i64 s',.slice B es'.length d] 35)) #[.int .i64 0,.int .i64 0,.slice none 0 0] 35;simp only[World.size_alloc] at B1 B2;obtain⟨r1,s1,es1,b1,hcj,hcase⟩:=hres;have HCJ:=oH hcj;have HCASE:=oH hcase;have HOK:=oH hok;have hl1:=hcj.lens;clear hcj hcase hok;go_enter Tryz.func56,Tryz.ntmps56
 go_wp2_with fail;generalize ((w.alloc (.cells #[.int .i64 r,.int .i64 s,.slice A es.length c] 35)).alloc (.cells #[.int .i64 r',.int .i64 s',.slice B es'.length d] 35)).alloc (.cells #[.int .i64 0,.int .i64 0,.slice none 0 0] 35)=w1 at hm0 B0 B1 B2 |-;have hs1:w.heap.size+1+1<w1.heap.size:=B2.1;with_reducible refine(aEO r' s' B es' d Aw wd cw _ _ _ _ _ (hr2.mid hm0 oZl) (hw.mid hm0 oZl) hl2 hcl2 hcw hwl HOK.out r1 s1 es1 b1 HCJ.out).mono ?_
 rintro en w2 ⟨A2,c2,rfl,ho2,hm2⟩;have hs2:=hm2.size;have hc2:=ho2.cnt.1;have ha2:=Mid.alloc w2 (.cells #[.int .i64 r1,.int .i64 s1,.slice A2 es1.length c2] 35);have Y2:=Box.new w2 #[.int .i64 r1,.int .i64 s1,.slice A2 es1.length c2] 35;replace B0:=B0.mid hm2 oZr;replace B2:=B2.mid hm2 oZr;replace hm0:=hm0.trans hm2;have hb22:w.heap.size+1+1<w2.heap.size:=B2.1;cases b1 with
|false=>
  rcases HCASE.out with⟨-,rfl,rfl,rfl,rfl⟩|⟨h, -⟩
  .have z0:=B2.cell 0 rfl
   have z1:=B2.cell 1 rfl;have z2:=B2.cell 2 rfl;have zf:=B2.2.2;go_wp2_with fail;refine bodyPost_ret (v:=.tuple #[.agg #[.int .i64 0,.int .i64 0,.slice none 0 0],.bool false]) (by simp[results,Tryz.results56,go_sem,z0,z1,z2,zf,hb22,World.cell?_alloc_lt]) rfl ⟨none,0,rfl,OG.nil,?_⟩;repeat (first|exact hm0|refine Mid.trans ?_ (Mid.alloc _ _)|refine Mid.storeNew ?_ (by simp;try omega) _)
  cases h
|true=>
 rcases HCASE.out with⟨h, -⟩|⟨-,hint⟩
 .cases h
 have HI:=oH hint;clear hint HCASE HCJ;replace B0:=B0.mid ha2 oZr;replace B2:=B2.mid ha2 oZr;replace ho2:=ho2.mid ha2 oZl;replace hm0:=hm0.trans ha2;have hs3:=ha2.size;obtain⟨p0,p1,p2⟩:=B0.c3 rfl;obtain⟨y0,y1,y2⟩:=Y2.c3 rfl;go_wp2_with fail;generalize w2.alloc (.cells #[.int .i64 r1,.int .i64 s1,.slice A2 es1.length c2] 35)=w3 at hm0 B0 B2 ho2 Y2 hs3 p0 p1 p2 y0 y1 y2 |-;with_reducible refine(aDC r s A es c r1 s1 A2 es1 c2 w3 _ _ _ _ (hr.mid hm0 oZl) ho2.rg hl (by omega) rr rs res b HI.out).mono ?_
 rintro en w5 ⟨A5,c5,rfl,ho5,hm5⟩;have hs5:=hm5.size;replace B2:=B2.mid hm5 oZr;replace hm0:=hm0.trans hm5;have hb5:w.heap.size+1+1<w5.heap.size:=B2.1;have Y5:=Box.new w5 #[.int .i64 rr,.int .i64 rs,.slice A5 res.length c5] 35;obtain⟨z0,z1,z2⟩:=B2.c3 rfl;obtain⟨q0,q1,q2⟩:=Y5.c3 rfl;have zf:=B2.2.2;clear p0 p1 p2 y0 y1 y2;go_wp2_with fail;refine bodyPost_ret (v:=.tuple #[.agg #[.int .i64 rr,.int .i64 rs,.slice A5 res.length c5],.bool b]) (by simp[results,Tryz.results56,go_sem,z0,z1,z2,zf,q0,q1,q2,hb5,World.cell?_alloc_lt]) rfl ⟨A5,c5,rfl,?_,?_⟩
 .refine OG.wide (OG.mid ho5 (a:=w.heap.size+2) (b:=w.heap.size+3) ?_ (Or.inl (by omega))) (by omega) (by simp;try omega) oN
  repeat (first|exact Mid.refl _ _ _|refine Mid.trans ?_ (Mid.zero (Mid.alloc _ _))|refine Mid.stored ?_ _ (by simp;try omega) (by simp;try omega))
 repeat (first|exact hm0|refine Mid.trans ?_ (Mid.alloc _ _)|refine Mid.storeNew ?_ (by simp;try omega) _)
theorem aGF(r s:Int)(A:Option Addr)(es:List Ed)(c:Nat)(r' s':Int)(B:Option Addr)(es':List Ed)(d:Nat)(Aw:Option Addr)(wd:List Int)(cw:Nat)(w:World)(lo hi lo2 hi2 lo' hi':Nat)(hr:RG w lo hi A es)(hr2:RG w lo2 hi2 B es')(hl:es.length<=1048576)(hl2:es'.length<=1048576)(hcl:es.length<=c)(hcl2:es'.length<=d)(hw:RV w lo' hi' Aw (aAd wd))(hcw:wd.length<=cw)(hwl:wd.length<=1048576)(hok:OkI wd)(rr rs:Int)(res:List Ed)(b:Bool)(hres:MeetIs r s es r' s' es' wd rr rs res b) :
  Calls Tryz.prog 55 #[aAw r s A es.length c,aAw r' s' B es'.length d,.slice Aw wd.length cw] w fun e w'=>∃ A1 c1,e=.returned (.tuple #[aAw rr rs A1 res.length c1,.bool b])/\OG w' w.heap.size w'.heap.size A1 c1 res/\Mid 0 0 w w':=by
 have hm0:Mid 0 0 w (((w.alloc (.cells #[.int .i64 r,.int .i64 s,.slice A es.length c] 35)).alloc (.cells #[.int .i64 r',.int .i64 s',.slice B es'.length d] 35)).alloc (.cells #[.int .i64 0,.int .i64 0,.slice none 0 0] 35)):=((Mid.alloc _ _).trans (Mid.alloc _ _)).trans (Mid.alloc _ _);have B0:=((Box.new w #[.int .i64 r,.int .i64 s,.slice A es.length c] 35).mid (Mid.alloc _ (.cells #[.int .i64 r',.int .i64 s',.slice B es'.length d] 35)) oZr).mid (Mid.alloc _ (.cells #[.int .i64 0,.int .i64 0,.slice none 0 0] 35)) oZr;have B1:=(Box.new (w.alloc (.cells #[.int .i64 r,.int .i64 s,.slice A es.length c] 35)) #[.int .i64 r',.int .i64 s',.slice B es'.length d] 35).mid (Mid.alloc _ (.cells #[.int .i64 0,.int .i64 0,.slice none 0 0] 35)) oZr;have B2:=Box.new ((w.alloc (.cells #[.int .i64 r,.int .i64 s,.slice A es.length c] 35)).alloc (.cells #[.int .i64 r',.int .i64 s',.slice B es'.length d] 35)) #[.int .i64 0,.int .i64 0,.slice none 0 0] 35;simp only[World.size_alloc] at B1 B2;obtain⟨r1,s1,es1,b1,hcj,hcase⟩:=hres;have HCJ:=oH hcj;have HCASE:=oH hcase;have HOK:=oH hok;have hl1:=hcj.lens;clear hcj hcase hok;go_enter Tryz.func55,Tryz.ntmps55
 go_wp2_with fail;generalize ((w.alloc (.cells #[.int .i64 r,.int .i64 s,.slice A es.length c] 35)).alloc (.cells #[.int .i64 r',.int .i64 s',.slice B es'.length d] 35)).alloc (.cells #[.int .i64 0,.int .i64 0,.slice none 0 0] 35)=w1 at hm0 B0 B1 B2 |-;have hs1:w.heap.size+1+1<w1.heap.size:=B2.1;with_reducible refine(aEM r' s' B es' d Aw wd cw _ _ _ _ _ (hr2.mid hm0 oZl) (hw.mid hm0 oZl) hl2 hcl2 hcw hwl HOK.out r1 s1 es1 b1 HCJ.out).mono ?_
 rintro en w2 ⟨A2,c2,rfl,ho2,hm2⟩;have hs2:=hm2.size;have hc2:=ho2.cnt.1;have ha2:=Mid.alloc w2 (.cells #[.int .i64 r1,.int .i64 s1,.slice A2 es1.length c2] 35);have Y2:=Box.new w2 #[.int .i64 r1,.int .i64 s1,.slice A2 es1.length c2] 35;replace B0:=B0.mid hm2 oZr;replace B2:=B2.mid hm2 oZr;replace hm0:=hm0.trans hm2;have hb22:w.heap.size+1+1<w2.heap.size:=B2.1;cases b1 with
|false=>
  rcases HCASE.out with⟨-,rfl,rfl,rfl,rfl⟩|⟨h, -⟩
  .have z0:=B2.cell 0 rfl
   have z1:=B2.cell 1 rfl;have z2:=B2.cell 2 rfl;have zf:=B2.2.2;go_wp2_with fail;refine bodyPost_ret (v:=.tuple #[.agg #[.int .i64 0,.int .i64 0,.slice none 0 0],.bool false]) (by simp[results,Tryz.results55,go_sem,z0,z1,z2,zf,hb22,World.cell?_alloc_lt]) rfl ⟨none,0,rfl,OG.nil,?_⟩;repeat (first|exact hm0|refine Mid.trans ?_ (Mid.alloc _ _)|refine Mid.storeNew ?_ (by simp;try omega) _)
  cases h
|true=>
 rcases HCASE.out with⟨h, -⟩|⟨-,hint⟩
 .cases h
 have HI:=oH hint;clear hint HCASE HCJ;replace B0:=B0.mid ha2 oZr;replace B2:=B2.mid ha2 oZr;replace ho2:=ho2.mid ha2 oZl;replace hm0:=hm0.trans ha2;have hs3:=ha2.size;obtain⟨p0,p1,p2⟩:=B0.c3 rfl;obtain⟨y0,y1,y2⟩:=Y2.c3 rfl;go_wp2_with fail;generalize w2.alloc (.cells #[.int .i64 r1,.int .i64 s1,.slice A2 es1.length c2] 35)=w3 at hm0 B0 B2 ho2 Y2 hs3 p0 p1 p2 y0 y1 y2 |-;with_reducible refine(aDs r s A es c r1 s1 A2 es1 c2 w3 _ _ _ _ (hr.mid hm0 oZl) ho2.rg hl (by omega) hcl hc2 rr rs res b HI.out).mono ?_
 rintro en w5 ⟨A5,c5,rfl,ho5,hm5⟩;have hs5:=hm5.size;replace B2:=B2.mid hm5 oZr;replace hm0:=hm0.trans hm5;have hb5:w.heap.size+1+1<w5.heap.size:=B2.1;obtain⟨z0,z1,z2⟩:=B2.c3 rfl;have zf:=B2.2.2;clear p0 p1 p2 y0 y1 y2;go_wp2_with fail;refine bodyPost_ret (v:=.tuple #[.agg #[.int .i64 rr,.int .i64 rs,.slice A5 res.length c5],.bool b]) (by simp[results,Tryz.results55,go_sem,z0,z1,z2,zf]) rfl ⟨A5,c5,rfl,?_,?_⟩
 .refine OG.wide (OG.mid ho5 (a:=w.heap.size+2) (b:=w.heap.size+3) ?_ (Or.inl (by omega))) (by omega) (by simp) oN
  repeat (first|exact Mid.refl _ _ _|refine Mid.stored ?_ _ (by simp;try omega) (by simp;try omega))
 repeat (first|exact hm0|refine Mid.storeNew ?_ (by simp;try omega) _)
def aCr(r0 s0:Int)(d0:List Ed)(r1 s1:Int)(d1:List Ed)(d2:List Int)(rr0 rs0:Int)(res0:List Ed)(res1:Bool):Prop:=MeetIs r0 s0 d0 r1 s1 d1 d2 rr0 rs0 res0 res1
theorem aGv(r0 s0:Int)(d0:List Ed)(r1 s1:Int)(d1:List Ed)(d2:List Int)(hl0:d0.length<=1048576)(hl1:d1.length<=1048576)(o2:OkI d2)(hl2:d2.length<=1048576):∃ rr0 rs0 res0 res1,aCr r0 s0 d0 r1 s1 d1 d2 rr0 rs0 res0 res1:=aPD r0 s0 d0 r1 s1 d1 d2
theorem aGc{r0 s0:Int}{d0:List Ed}{r1 s1:Int}{d1:List Ed}{d2:List Int}{rr0 rs0:Int}{res0:List Ed}{res1:Bool}(h:aCr r0 s0 d0 r1 s1 d1 d2 rr0 rs0 res0 res1)(hl0:d0.length<=1048576)(hl1:d1.length<=1048576)(o2:OkI d2)(hl2:d2.length<=1048576):res0.length<=1048576:=by
 have:=MeetIs.lens h;omega
theorem aGs(r0 s0:Int)(A0:Option Addr)(d0:List Ed)(c0:Nat)(r1 s1:Int)(A1:Option Addr)(d1:List Ed)(c1:Nat)(A2:Option Addr)(d2:List Int)(c2:Nat)(w:World)(lo0 hi0:Nat)(h0:OG w lo0 hi0 A0 c0 d0)(hl0:d0.length<=1048576)(lo1 hi1:Nat)(h1:OG w lo1 hi1 A1 c1 d1)(hl1:d1.length<=1048576)(lo2 hi2:Nat)(h2:OI w lo2 hi2 A2 c2 d2)(o2:OkI d2)(hl2:d2.length<=1048576)(rr0 rs0:Int)(res0:List Ed)(res1:Bool)(h:aCr r0 s0 d0 r1 s1 d1 d2 rr0 rs0 res0 res1) :
  Calls Tryz.prog 56 #[.agg #[.int .i64 r0,.int .i64 s0,.slice A0 d0.length c0],.agg #[.int .i64 r1,.int .i64 s1,.slice A1 d1.length c1],.slice A2 d2.length c2] w fun e w'=>∃(A:Option Addr) (c:Nat),e=.returned (.tuple #[.agg #[.int .i64 rr0,.int .i64 rs0,.slice A res0.length c],.bool res1])/\OG w' w.heap.size w'.heap.size A c res0/\Mid 0 0 w w':=
 aHc r0 s0 A0 d0 c0 r1 s1 A1 d1 c1 A2 d2 c2 w lo0 hi0 lo1 hi1 lo2 hi2 h0.rg h1.rg hl0 hl1 h0.cnt.1 h1.cnt.1 h2.ri h2.capC hl2 o2 rr0 rs0 res0 res1 h
theorem aGq(r0 s0:Int)(A0:Option Addr)(d0:List Ed)(c0:Nat)(r1 s1:Int)(A1:Option Addr)(d1:List Ed)(c1:Nat)(A2:Option Addr)(d2:List Int)(c2:Nat)(w:World)(lo0 hi0:Nat)(h0:OG w lo0 hi0 A0 c0 d0)(hl0:d0.length<=1048576)(lo1 hi1:Nat)(h1:OG w lo1 hi1 A1 c1 d1)(hl1:d1.length<=1048576)(lo2 hi2:Nat)(h2:OI w lo2 hi2 A2 c2 d2)(o2:OkI d2)(hl2:d2.length<=1048576)(rr0 rs0:Int)(res0:List Ed)(res1:Bool)(h:aCr r0 s0 d0 r1 s1 d1 d2 rr0 rs0 res0 res1) :
  Calls Tryz.prog 55 #[.agg #[.int .i64 r0,.int .i64 s0,.slice A0 d0.length c0],.agg #[.int .i64 r1,.int .i64 s1,.slice A1 d1.length c1],.slice A2 d2.length c2] w fun e w'=>∃(A:Option Addr) (c:Nat),e=.returned (.tuple #[.agg #[.int .i64 rr0,.int .i64 rs0,.slice A res0.length c],.bool res1])/\OG w' w.heap.size w'.heap.size A c res0/\Mid 0 0 w w':=
 aGF r0 s0 A0 d0 c0 r1 s1 A1 d1 c1 A2 d2 c2 w lo0 hi0 lo1 hi1 lo2 hi2 h0.rg h1.rg hl0 hl1 h0.cnt.1 h1.cnt.1 h2.ri h2.capC hl2 o2 rr0 rs0 res0 res1 h
section
open Go.ChangeShapes Go.WideShapes Go.ChangeAt Go.RowKit
open Go.Joins
theorem undSU:Tryz.prog.underlying 22=some (.slice 5):=by kernel_rfl
theorem undU:Tryz.prog.underlying 5=some (.int .u8):=by kernel_rfl
theorem cellsU:Tryz.prog.cellsOf 5=1:=by kernel_rfl
section
variable {H:Type} {enc:TypeId × Value->H} {P:Program} {W:World} {T E:TypeId}
theorem aKt(uT:P.underlying T=some (.slice E))(uE:P.underlying E=some (.int .u8))(cE:P.cellsOf E=1){fuel:Nat}{A:Option Addr}{len c:Nat}{x:DataW H × List MemPlace}(h:DataW.trod enc P W 0 (fun _=>true) true fuel T [.slice A len c]=some x):∃ xs:List Int,len=xs.length/\RV W 0 W.heap.size A (aIz xs)/\OkB xs/\xs.length<=9223372036854775807:=by
 rcases open_ints uT uE cE h with⟨hcs,_⟩|⟨a,l,cc,zs,hcs,_,hl,hm,hz,_,hcell,hwz⟩
 .simp at hcs
  obtain⟨rfl,rfl,rfl⟩:=hcs;exact⟨[],rfl,⟨oN,fun hn=>absurd rfl hn⟩,fun x hx=>by simp at hx,by simp⟩
 simp at hcs;obtain⟨rfl,rfl,rfl⟩:=hcs;simp at hz;refine⟨zs.take len,by simp;omega,⟨oN,fun hn=>?_⟩,fun x hx=>bounds_u8 (hwz x (List.mem_of_mem_take hx)),by unfold maxLen at hm;simp;omega⟩;have hp:0<zs.length:=by
  rcases Nat.eq_zero_or_pos zs.length with h0|h0
  .have:=List.eq_nil_of_length_eq_zero h0
   subst this;simp[aIz] at hn
  exact h0
 obtain⟨b,off,rfl,hc⟩:=ints_at hcell hp;refine⟨b,off,rfl,oZ,World.block_lt_of_cell? _ _ (hc 0 hp),fun j u hu=>?_⟩;have hj:j<zs.length:=by
  have:=(List.getElem?_eq_some_iff.1 hu).1;simp[aIz] at this;omega
 rw[hc j hj];unfold aIz at hu;rw[List.getElem?_map,List.getElem?_take] at hu;split at hu
 .rw[List.getElem?_eq_getElem hj] at hu
  simp at hu;rw[<- hu];simp[List.getD,List.getElem?_eq_getElem hj]
 simp at hu
theorem open_byteS(uT:P.underlying T=some (.slice E))(uE:P.underlying E=some (.int .u8))(cE:P.cellsOf E=1){r:Reach}{base:Nat}{v:Value}{d:DataW H}{ps:List MemPlace}(hok:Value.okWide P W r base T v)(h:DataW.Trod enc P W 0 (fun _=>true) true T v d ps):∃ A xs c,v=.slice A (List.length xs) c/\RV W 0 W.heap.size A (aIz xs)/\OkB xs/\xs.length<=9223372036854775807:=by
 obtain⟨A,len,c,rfl⟩:=okWide_slice uT hok;obtain⟨fuel,hf⟩:=h;obtain⟨xs,rfl,h1,h2⟩:=aKt (A:=A) (len:=len) (c:=c) uT uE cE (by simpa [Value.cells] using hf);exact⟨A,xs,c,rfl,h1,h2⟩
end
end
end Go.Proofs.YtkimajabegojoaaGreat
