/- Lemmas. -/
import Derived.Test.YtkimajabegojoaaGreatMo15
import Derived.Test.YtkimajabegojoaaGreatMo7
import Derived.Test.YtkimajabegojoaaGreatMo11
import Derived.Test.YtkimajabegojoaaGreatMo2
import Derived.Test.YtkimajabegojoaaGreatMo10
import Derived.Deep.DeepCutAuto
import Derived.Deep.CutRange
namespace Go.Proofs.YtkimajabegojoaaGreat
set_option maxHeartbeats 40000000
set_option maxRecDepth 100000
open Go.RowKit
set_option linter.unusedVariables false
set_option linter.unusedSimpArgs false
theorem walk_Morphisms(A0:OA)(d0:LI)(c0:Nat)(w:World)(r0:RV w 0 w A0 (aHb d0))(bj:OkB d0)(fO:d0.length<=9223372036854775807) :
  Calls Tryz.prog 5 #[.slice A0 d0.length c0] w fun e w'=>e=.returned (.bool true)/\Below w w w':=by
 by_cases hbig:decide ((d0.length:Int) > 1048576)=true
 .go_enter Tryz.func5,Tryz.ntmps5
  go_wp2_with fail;with_reducible refine(aRm A0 d0.length c0 w).mono ?_
  rintro e w1 ⟨rfl,rfl⟩;rw[hbig];go_wp2_with fail;go_ret;exact⟨rfl,Below.refl _ _⟩
 have bk:d0.length<=1048576:=by simp at hbig;omega
 have dY:decide ((d0.length:Int) > 1048576)=false:=by simpa using hbig
 clear hbig fO;obtain⟨L0,el⟩:∃ n,n=w.heap.size:=⟨_,rfl⟩
 rw[<- el];have hm:=Mid.refl 0 0 w;go_enter Tryz.func5,Tryz.ntmps5
 go_wp2_with fail;with_reducible refine(aRm A0 d0.length c0 w).mono ?_
 rintro e w1 ⟨rfl,rfl⟩;rw[dY];go_wp2_with fail;with_reducible refine(aFv A0 d0 c0 _ _ bj bk r0).mono ?_
 rintro e eG ⟨r,A1,c1,l,A2,c2,xs,rfl,dg,dx,o1,ow,m⟩;replace r0:=r0.mid m oZl;replace hm:=hm.trans m;clear m;have HG:=oH dg;have aM:=dg.wf;have aH:=oH dg.ok;have aL:=dg.len;have fZ:xs.length<=6:=dx.1;have bN:xs.length<=1048576:=by omega
 have d9:=oH dx.2.1.ok;clear dg dx;obtain⟨x,b,eR⟩:=aHc r l xs aM aH.out aL d9.out bN;have eW:=aGA eR aM aH.out aL d9.out bN;have dJ:=oH eR;obtain⟨bm,er⟩:=aJD r l aM aH.out aL;have dK:=oH er;obtain⟨bi,ep⟩:=aIS r l aM aH.out aL;have bg:=oH ep;obtain⟨bs,et⟩:=aIa r l aM aH.out aL;have d8:=oH et;clear eR er ep et;have al:=oE eG (.cells #[r,.slice A1 l.length c1] 76);have B3:=oJ eG #[r,.slice A1 l.length c1] 76;obtain⟨cl,de⟩:∃ g,eG.heap.size=g:=⟨_,rfl⟩
 replace r0:=r0.mid al oZl;replace o1:=o1.mid al oZl;replace ow:=ow.mid al oZl;replace hm:=hm.trans al;rw[de] at B3;obtain⟨gF,dp⟩:∃ x,eG.alloc (.cells #[.int .i64 r,.slice A1 l.length c1] 76)=x:=⟨_,rfl⟩
 rw[dp] at r0 o1 ow B3 hm;clear al;have b4:=B3.1;have ae:=B3.cell 0 rfl;have a8:=B3.cell 1 rfl;go_wp2_with fail;clear b4 ae a8 de dp;with_reducible refine(aBU r A1 l c1 A2 xs c2 _ _ _ o1 aM aH.out aL _ _ ow d9.out bN x b dJ.out).mono ?_
 rintro e gG ⟨A4,c4,rfl,o4,m⟩;replace r0:=r0.mid m oZl;replace o1:=o1.mid m oZl;replace ow:=ow.mid m oZl;replace B3:=B3.mid m oZr;replace hm:=hm.trans m;clear m;have b4:=B3.1;have ae:=B3.cell 0 rfl;have a8:=B3.cell 1 rfl;go_wp2_with fail;clear b4 ae a8;with_reducible refine(aBV r A1 l c1 A2 xs c2 _ _ _ o1 aM aH.out aL _ _ ow d9.out bN x b dJ.out).mono ?_
 rintro e aA ⟨A5,c5,rfl,o5,m⟩;replace r0:=r0.mid m oZl;replace o1:=o1.mid m oZl;replace ow:=ow.mid m oZl;replace o4:=o4.mid m oZl;replace B3:=B3.mid m oZr;replace hm:=hm.trans m;clear m;replace o1:=o1.wide oZ o1.size oN;replace ow:=ow.wide oZ ow.size oN;replace o4:=o4.wide oZ o4.size oN;replace o5:=o5.wide oZ o5.size oN;obtain⟨hL,da⟩:∃ x,x=aA.heap.size:=⟨_,rfl⟩
 rw[<- da] at o1 ow o4 o5;clear da;have cz:(b != b)=false:=by simp
 go_upto_region 6 with fail
 go_cut [108] from 70 to 108 (fun v wx=>v=.bool false/\Box wx cl [r,.slice A1 l.length c1]/\OSS wx 0 hL 44 3 A1 c1 l/\OI wx 0 hL A2 c2 xs/\OI wx 0 hL A4 c4 x/\RV wx 0 w A0 (aHb d0)/\Mid 0 0 w wx)
 case first=>as_aux_lemma=>
  cases bs with
 |false=>
   have ae:=aAf B3.1 (B3.cell 0 rfl);have a8:=aAf B3.1 (B3.cell 1 rfl);have hq0:=fun m os=>aDR A4 x c4 A5 c5 (wg aA m os) _ _ _ _ (OI.ri (o4.mid (Mid.ofWg aA m os) oZl)) (OI.ri (o5.mid (Mid.ofWg aA m os) oZl)) eW;have cQ:=fun m os=>aFi r A1 l c1 (wg aA m os) _ _ (o1.mid (Mid.ofWg aA m os) oZl).rss aM aH.out aL bm dK.out;have df:=fun m os=>aFl r A1 l c1 (wg aA m os) _ _ (o1.mid (Mid.ofWg aA m os) oZl).rss aM aH.out aL bm dK.out;have di:=fun m os=>aBK r A1 l c1 (wg aA m os) _ _ (o1.mid (Mid.ofWg aA m os) oZl).rss aM aH.out aL bi bg.out;have dj:=fun m os=>aEi r A1 l c1 (wg aA m os) _ _ (o1.mid (Mid.ofWg aA m os) oZl).rss aM aH.out aL false d8.out;have dk:=fun m os=>aEK r A1 l c1 (wg aA m os) _ _ (o1.mid (Mid.ofWg aA m os) oZl).rss aM aH.out aL bi bg.out;have dl:=fun m os=>aEl r A1 l c1 (wg aA m os) _ _ (o1.mid (Mid.ofWg aA m os) oZl).rss aM aH.out aL false d8.out;refine wqg ?_;repeat
    (with_reducible refine wpQuiet_step (fun K hK=>?_))
    go_simp
    first|(with_reducible refine hK _ ?_)|(rw[if_neg oD];(with_reducible refine hK _ ?_))|(apply Exists.intro;refine⟨fun _=>?_,hK _ ?_⟩;((first|(go_at_call 42;with_reducible exact Calls.wg_of (hq0 _ _))|(go_at_call 63;with_reducible exact Calls.wg_of (cQ _ _))|(go_at_call 64;with_reducible exact Calls.wg_of (df _ _))|(go_at_call 65;with_reducible exact Calls.wg_of (di _ _))|(go_at_call 67;with_reducible exact Calls.wg_of (dj _ _))|(go_at_call 66;with_reducible exact Calls.wg_of (dk _ _))|(go_at_call 68;with_reducible exact Calls.wg_of (dl _ _)))))
    clear hK K
   with_reducible refine wpQuiet_nil ?_
   rintro _ ⟨⟨nq,osq⟩,rfl⟩;have aC:=Mid.ofWg aA nq osq;generalize wg aA nq osq=wq3 at aC |-;replace r0:=r0.mid aC oZl;replace o1:=o1.mid aC oZl;replace ow:=ow.mid aC oZl;replace o4:=o4.mid aC oZl;replace o5:=o5.mid aC oZl;replace B3:=B3.mid aC oZr;replace hm:=hm.trans aC;clear aC hq0 cQ df di dj dk dl ae a8;go_wp2_with fail;go_meet
   case rel=>exact⟨rfl,B3,o1,ow,o4,r0,hm⟩
 |true=>
   obtain rfl:bi=true:=aTE d8.out bg.out rfl;have ae:=aAf B3.1 (B3.cell 0 rfl);have a8:=aAf B3.1 (B3.cell 1 rfl);have hq0:=fun m os=>aDR A4 x c4 A5 c5 (wg aA m os) _ _ _ _ (OI.ri (o4.mid (Mid.ofWg aA m os) oZl)) (OI.ri (o5.mid (Mid.ofWg aA m os) oZl)) eW;have cQ:=fun m os=>aFi r A1 l c1 (wg aA m os) _ _ (o1.mid (Mid.ofWg aA m os) oZl).rss aM aH.out aL bm dK.out;have df:=fun m os=>aFl r A1 l c1 (wg aA m os) _ _ (o1.mid (Mid.ofWg aA m os) oZl).rss aM aH.out aL bm dK.out;have di:=fun m os=>aBK r A1 l c1 (wg aA m os) _ _ (o1.mid (Mid.ofWg aA m os) oZl).rss aM aH.out aL true bg.out;have dj:=fun m os=>aEi r A1 l c1 (wg aA m os) _ _ (o1.mid (Mid.ofWg aA m os) oZl).rss aM aH.out aL true d8.out;have dk:=fun m os=>aEK r A1 l c1 (wg aA m os) _ _ (o1.mid (Mid.ofWg aA m os) oZl).rss aM aH.out aL true bg.out;have dl:=fun m os=>aEl r A1 l c1 (wg aA m os) _ _ (o1.mid (Mid.ofWg aA m os) oZl).rss aM aH.out aL true d8.out;refine wqg ?_;repeat
    (with_reducible refine wpQuiet_step (fun K hK=>?_))
    go_simp
    first|(with_reducible refine hK _ ?_)|(rw[if_neg oD];(with_reducible refine hK _ ?_))|(apply Exists.intro;refine⟨fun _=>?_,hK _ ?_⟩;((first|(go_at_call 42;with_reducible exact Calls.wg_of (hq0 _ _))|(go_at_call 63;with_reducible exact Calls.wg_of (cQ _ _))|(go_at_call 64;with_reducible exact Calls.wg_of (df _ _))|(go_at_call 65;with_reducible exact Calls.wg_of (di _ _))|(go_at_call 67;with_reducible exact Calls.wg_of (dj _ _))|(go_at_call 66;with_reducible exact Calls.wg_of (dk _ _))|(go_at_call 68;with_reducible exact Calls.wg_of (dl _ _)))))
    clear hK K
   with_reducible refine wpQuiet_nil ?_
   rintro _ ⟨⟨nq,osq⟩,rfl⟩;have aC:=Mid.ofWg aA nq osq;generalize wg aA nq osq=wq3 at aC |-;replace r0:=r0.mid aC oZl;replace o1:=o1.mid aC oZl;replace ow:=ow.mid aC oZl;replace o4:=o4.mid aC oZl;replace o5:=o5.mid aC oZl;replace B3:=B3.mid aC oZr;replace hm:=hm.trans aC;clear aC hq0 cQ df di dj dk dl ae a8;go_wp2_with fail;go_meet
   case rel=>exact⟨rfl,B3,o1,ow,o4,r0,hm⟩
 case rest=>
 clear B3 o1 ow o4 o5 r0 hm dK d8 cz;obtain⟨rfl,B3,o1,ow,o4,r0,hm⟩:=hcut;have a0:=hm.here;go_upto_if 109 with fail
 go_cut [2] from 4 to 154 (fun v wx=>Box wx cl [r,.slice A1 l.length c1]/\OSS wx 0 hL 44 3 A1 c1 l/\RV wx 0 w A0 (aHb d0)/\Mid 0 0 w wx)
 case first=>as_aux_lemma=>
  cases b with
 |false=>
   go_wp2_with fail;go_meet
   case rel=>exact⟨(B3.mid a0 oZr),(o1.mid a0 oZl),(r0.mid a0 oZl),hm⟩
 |true=>
   obtain⟨cG,f5,eV⟩:=aRd dJ.out;have bh:=oH cG;have e7:=oH f5;have eQ:=oH eV;have fc:x.length<=4800:=by rw[eV];exact aDA (fun z hz=>(cG.2.2.2 z hz).2.2.1) aH.out.2 xs
   clear dJ f5 eV;have bS:=cG.1;have bT:=cG.2.1;obtain⟨k,rfl⟩:=Int.eq_ofNat_of_zero_le (show 0<=r by omega);have dc:1<=k:=by omega
   have dd:k<=3:=by omega
   clear bS bT;clear cG;have dm:=hm.size;have b4:=(B3.mid a0 oZr).1;have ae:=(B3.mid a0 oZr).cell 0 rfl;have a8:=(B3.mid a0 oZr).cell 1 rfl;go_wp2_with fail;clear b4 ae a8;with_reducible refine(aKB 45 oD oD 4 oD oD A0 d0 c0 _ _ _ bj bk (r0.mid a0 oZl) oO k dc dd).mono ?_
   rintro e g0 ⟨A9,c9,v,rfl,hv,o9,m⟩;replace hm:=hm.trans m;replace a0:=a0.trans m;clear m;have HV:Hid (IsW (k:Int) v):=oH (aUV rfl oO oO (show(4:Int)<=9 by decide) hv.1 hv.2.1 hv.2.2.2);have f2:v.length<=4:=by have:=hv.1;omega
   have cF:=oH hv.2.2.1.ok;clear hv dm;obtain⟨z,hz⟩:∃ z,aAl l v=z:=⟨_,rfl⟩
   have fD:Hid (aAC k l v z true):=oH (hz ▸ aFX bh.out HV.out);have fg:z.length<=20:=by have:=HG.out.exl (v:=v) oO;rw[hz] at this;omega
   obtain⟨y,hy⟩:∃ y,red [] (xs++v)=y:=⟨_,rfl⟩
   have HY:=oH hy;have ce:IsW k y:=by rw[<- hy];exact aUB e7.out HV.out oO
   have fe:y.length<=24:=ce.2.2.1;have dO:=oH (aIl ce).1.ok;obtain⟨u,hu⟩:∃ u,aAl l y=u:=⟨_,rfl⟩
   have fC:Hid (aAC k l y u true):=oH (hu ▸ aFX bh.out ce);have fN:Hid (red [] (x++z)=u):=oH (by rw[eQ.out,<- hz,<- hu,<- hy];exact(aQs bh.out e7.out HV.out).symm);have fa:u.length<=1048576:=by rw[<- hu];have:=aDA (fun z hz=>(bh.out.2.2.2 z hz).2.2.1) aH.out.2 y;omega
   have eP:Hid (OkI x):=oH (by rw[eQ.out];exact(aRC bh.out e7.out).1.ok);have fJ:Hid (OkI z):=oH (by rw[<- hz];exact(aRC bh.out HV.out).1.ok);have fM:Hid (bi=true->0<xs.length->¬ x.length=0):=oH (fun h1 h2 h3=>by have:=aQr bh.out (bg.out.1 h1).2 e7.out (by rw[<- eQ.out];exact List.length_eq_zero_iff.1 h3);rw[this] at h2;simp at h2);clear hz hy ce hu;have b4:=(B3.mid a0 oZr).1;have ae:=(B3.mid a0 oZr).cell 0 rfl;have a8:=(B3.mid a0 oZr).cell 1 rfl;go_wp2_with fail;clear b4 ae a8;with_reducible refine(aBU k A1 l c1 A9 v c9 _ _ _ (o1.mid a0 oZl) aM aH.out aL _ _ o9 cF.out oO z true fD.out).mono ?_
   rintro e dw ⟨A10,fP,rfl,eE,m⟩;replace o9:=o9.mid m oZl;replace hm:=hm.trans m;replace a0:=a0.trans m;clear m;go_upto_region 11 with fail
   have aW:=Mid.drew1 dw;replace o9:=o9.mid aW oZl;replace eE:=eE.mid aW oZl;replace hm:=hm.trans aW;replace a0:=a0.trans aW;clear aW;have b5:=(B3.mid a0 oZr)
   have hS:=(And.intro (b5.cell 0 rfl) (b5.cell 1 rfl))
   refine aAo (S:=(fun w'=>(w'.cell? ⟨cl,0,none⟩=some (.int .i64 (k:Int))/\w'.cell? ⟨cl,1,none⟩=some (.slice A1 l.length c1)))) [] oK hS ?_;generalize World.drew dw=wz at hS o9 eE a0 b5 hm |-;have hP:=fun W' (m:Mid 0 0 wz W')=>(And.intro ((b5.mid m oZr).cell 0 rfl) ((b5.mid m oZr).cell 1 rfl))
   clear hS b5;have a1:=hm.here;refine tkZ [] 0 rfl (hP _ a1) ?_;try simp only[oP]
   refine tkZ [] 1 rfl (hP _ a1) ?_;try simp only[oP]
   refine tkZ [] 2 rfl (hP _ a1) ?_;try simp only[oP]
   have HZ:=oH (aNS A2 A9 xs v c2 c9 wz _ _ _ _ (ow.mid a0 oZl) (o9.mid a1 oZl) d9.out cF.out oO y HY.out);refine rdZ 3 rfl (fun K hK=>?_)
   (go_simp;(with_reducible refine(HZ.out).mono ?_);rintro en ec ⟨A11,fQ,rfl,bA,br⟩;replace a1:=a1.trans br;go_wp2_with fail)
   refine hK.out _ _ (Or.inr (hP _ a1)) (fun _=>?_);clear hK K;try simp only[oP]
   clear HZ;replace hm:=hm.trans br;replace a0:=a0.trans br;clear br;have HZ:=oH (aBU k A1 l c1 A11 y fQ ec _ _ (o1.mid a0 oZl) aM aH.out aL _ _ bA dO.out oO u true fC.out);refine rdZ 4 rfl (fun K hK=>?_)
   (go_simp;(with_reducible refine(HZ.out).mono ?_);rintro en gB ⟨A12,fR,rfl,bb,bZ⟩;replace a1:=a1.trans bZ;go_wp2_with fail)
   refine hK.out _ _ (Or.inr (hP _ a1)) (fun _=>?_);clear hK K;try simp only[oP]
   clear HZ;replace bA:=bA.mid bZ oZl;replace hm:=hm.trans bZ;replace a0:=a0.trans bZ;clear bZ;refine tkZ [] 5 rfl (hP _ a1) ?_;try simp only[oP]
   refine tkZ [] 6 rfl (hP _ a1) ?_;try simp only[oP]
   refine tkZ [] 7 rfl (hP _ a1) ?_;try simp only[oP]
   refine tkZ [] 8 rfl (hP _ a1) ?_;try simp only[oP]
   refine tkZ [] 9 rfl (hP _ a1) ?_;try simp only[oP]
   refine aAj oK ?_ _;go_wp2_with fail;with_reducible refine(aNS A4 A10 x z c4 fP _ _ _ _ _ (o4.mid a0 oZl) (eE.mid a1 oZl) eP.out fJ.out oO u fN.out).mono ?_
   rintro e g1 ⟨A13,fS,rfl,bt,m⟩;replace bA:=bA.mid m oZl;replace bb:=bb.mid m oZl;replace hm:=hm.trans m;replace a0:=a0.trans m;replace a1:=a1.trans m;clear m;go_wp2_with fail;with_reducible refine(aDR A12 u fR A13 fS _ _ _ _ _ (OI.ri bb) (OI.ri bt) fa).mono ?_
   rintro e g2 ⟨rfl,m⟩;replace bA:=bA.mid m oZl;replace bb:=bb.mid m oZl;replace bt:=bt.mid m oZl;replace hm:=hm.trans m;replace a0:=a0.trans m;replace a1:=a1.trans m;clear m;cases bi with
  |false=>
    have b4:=(B3.mid a0 oZr).1;have ae:=(B3.mid a0 oZr).cell 0 rfl;have a8:=(B3.mid a0 oZr).cell 1 rfl;go_wp2_with fail;clear b4 ae a8;with_reducible refine(aBK k A1 l c1 _ _ _ (o1.mid a0 oZl).rss aM aH.out aL false bg.out).mono ?_
    rintro e dy ⟨rfl,m⟩;replace bA:=bA.mid m oZl;replace bb:=bb.mid m oZl;replace bt:=bt.mid m oZl;replace hm:=hm.trans m;replace a0:=a0.trans m;replace a1:=a1.trans m;clear m;go_wp2_with fail;go_meet
    case rel=>exact⟨(B3.mid a0 oZr),(o1.mid a0 oZl),(r0.mid a0 oZl),hm⟩
  |true=>
    by_cases hw0:0<xs.length
    .have fb:(0:Int)<(xs.length:Int):=by omega
     have gE:((x.length:Int) == 0)=false:=by have:=fM.out rfl hw0;rw[beq_eq_false_iff_ne];omega
     have b4:=(B3.mid a0 oZr).1;have ae:=(B3.mid a0 oZr).cell 0 rfl;have a8:=(B3.mid a0 oZr).cell 1 rfl;go_wp2_with fail;clear b4 ae a8;with_reducible refine(aBK k A1 l c1 _ _ _ (o1.mid a0 oZl).rss aM aH.out aL true bg.out).mono ?_
     rintro e dy ⟨rfl,m⟩;replace bA:=bA.mid m oZl;replace bb:=bb.mid m oZl;replace bt:=bt.mid m oZl;replace hm:=hm.trans m;replace a0:=a0.trans m;replace a1:=a1.trans m;clear m;go_wp2_with fail;go_meet
     case rel=>exact⟨(B3.mid a0 oZr),(o1.mid a0 oZl),(r0.mid a0 oZl),hm⟩
    .have fb:¬ (0:Int)<(xs.length:Int):=by omega
     have b4:=(B3.mid a0 oZr).1;have ae:=(B3.mid a0 oZr).cell 0 rfl;have a8:=(B3.mid a0 oZr).cell 1 rfl;go_wp2_with fail;clear b4 ae a8;with_reducible refine(aBK k A1 l c1 _ _ _ (o1.mid a0 oZl).rss aM aH.out aL true bg.out).mono ?_
     rintro e dy ⟨rfl,m⟩;replace bA:=bA.mid m oZl;replace bb:=bb.mid m oZl;replace bt:=bt.mid m oZl;replace hm:=hm.trans m;replace a0:=a0.trans m;replace a1:=a1.trans m;clear m;go_wp2_with fail;go_meet
     case rel=>exact⟨(B3.mid a0 oZr),(o1.mid a0 oZl),(r0.mid a0 oZl),hm⟩
 case rest=>
 clear a0 B3 o1 ow o4 r0 hm dJ bg fZ bN d9 eW;obtain⟨B3,o1,r0,hm⟩:=hcut;have a0:=hm.here;go_wp2_with fail;with_reducible refine(aEq A0 d0 c0 _ _ bj bk (r0.mid a0 oZl)).mono ?_
 rintro e c7 ⟨r1,A14,dA,l1,r2,A15,dB,l2,rfl,eA,dX,aD,aE,m⟩;replace hm:=hm.trans m;replace a0:=a0.trans m;clear m;have ei:=oH dX;have a4:=eA.wf;have a6:=oH eA.ok;have a7:=eA.len;have bY:=dX.wf;have b8:=oH dX.ok;have b9:=dX.len;clear eA dX;obtain⟨rr,a3,b,dZ⟩:=aFu r1 l1 r2 l2 a4 a6.out a7 bY b8.out b9;have bC:=aFm dZ a4 a6.out a7 bY b8.out b9;have dH:=(aRp dZ a4).1;have bL:=oH (aRp dZ a4).2;have dL:=oH dZ;clear dZ;have al:=oE c7 (.cells #[r1,.slice A14 l1.length dA] 76);have a5:=oJ c7 #[r1,.slice A14 l1.length dA] 76;obtain⟨eX,bO⟩:∃ g,c7.heap.size=g:=⟨_,rfl⟩
 replace aD:=aD.mid al oZl;replace aE:=aE.mid al oZl;replace hm:=hm.trans al;replace a0:=a0.trans al;rw[bO] at a5;obtain⟨bv,bU⟩:∃ x,c7.alloc (.cells #[.int .i64 r1,.slice A14 l1.length dA] 76)=x:=⟨_,rfl⟩
 rw[bU] at aD aE a5 a0 hm;clear al;have ch:bv.heap.size=eX+1:=by rw[<- bU,World.size_alloc,bO]
 have al:=oE bv (.cells #[r2,.slice A15 l2.length dB] 76);have aB:=oJ bv #[r2,.slice A15 l2.length dB] 76;replace aD:=aD.mid al oZl;replace aE:=aE.mid al oZl;replace a5:=a5.mid al oZr;replace hm:=hm.trans al;replace a0:=a0.trans al;rw[ch] at aB;obtain⟨fn,cR⟩:∃ x,bv.alloc (.cells #[.int .i64 r2,.slice A15 l2.length dB] 76)=x:=⟨_,rfl⟩
 rw[cR] at aD aE a5 aB a0 hm;clear al;have am:=a5.1;have aj:=a5.cell 0 rfl;have ak:=a5.cell 1 rfl;have bH:=aB.1;have bF:=aB.cell 0 rfl;have bG:=aB.cell 1 rfl;go_wp2_with fail;clear am aj ak bH bF bG bO bU ch cR;with_reducible refine(aFp r1 A14 l1 dA r2 A15 l2 dB _ _ _ aD a4 a6.out a7 _ _ aE bY b8.out b9 rr a3 b dL.out).mono ?_
 rintro e c8 ⟨A16,e8,rfl,bD,m⟩;replace aD:=aD.mid m oZl;replace aE:=aE.mid m oZl;replace a5:=a5.mid m oZr;replace aB:=aB.mid m oZr;replace hm:=hm.trans m;replace a0:=a0.trans m;clear m;have al:=oE c8 (.cells #[rr,.slice A16 a3.length e8] 76);have b2:=oJ c8 #[rr,.slice A16 a3.length e8] 76;obtain⟨fi,cH⟩:∃ g,c8.heap.size=g:=⟨_,rfl⟩
 replace aD:=aD.mid al oZl;replace aE:=aE.mid al oZl;replace bD:=bD.mid al oZl;replace a5:=a5.mid al oZr;replace aB:=aB.mid al oZr;replace hm:=hm.trans al;replace a0:=a0.trans al;rw[cH] at b2;obtain⟨fo,cS⟩:∃ x,c8.alloc (.cells #[.int .i64 rr,.slice A16 a3.length e8] 76)=x:=⟨_,rfl⟩
 rw[cS] at aD aE bD a5 aB b2 a0 hm;clear al;have am:=a5.1;have aj:=a5.cell 0 rfl;have ak:=a5.cell 1 rfl;have bH:=aB.1;have bF:=aB.cell 0 rfl;have bG:=aB.cell 1 rfl;go_wp2_with fail;clear am aj ak bH bF bG cH cS;with_reducible refine(aFs r1 A14 l1 dA r2 A15 l2 dB _ _ _ aD a4 a6.out a7 _ _ aE bY b8.out b9 rr a3 b dL.out).mono ?_
 rintro e cA ⟨A18,dP,rfl,ad,m⟩;replace aD:=aD.mid m oZl;replace aE:=aE.mid m oZl;replace bD:=bD.mid m oZl;replace a5:=a5.mid m oZr;replace aB:=aB.mid m oZr;replace b2:=b2.mid m oZr;replace hm:=hm.trans m;replace a0:=a0.trans m;clear m;have al:=oE cA (.cells #[rr,.slice A18 a3.length dP] 76);have aV:=oJ cA #[rr,.slice A18 a3.length dP] 76;obtain⟨fj,cI⟩:∃ g,cA.heap.size=g:=⟨_,rfl⟩
 replace aD:=aD.mid al oZl;replace aE:=aE.mid al oZl;replace bD:=bD.mid al oZl;replace ad:=ad.mid al oZl;replace a5:=a5.mid al oZr;replace aB:=aB.mid al oZr;replace b2:=b2.mid al oZr;replace hm:=hm.trans al;replace a0:=a0.trans al;rw[cI] at aV;obtain⟨fp,cT⟩:∃ x,cA.alloc (.cells #[.int .i64 rr,.slice A18 a3.length dP] 76)=x:=⟨_,rfl⟩
 rw[cT] at aD aE bD ad a5 aB b2 aV a0 hm;clear al;have cz:(b != b)=false:=by simp
 have ef:Hid (aBx rr a3 rr a3 true):=oH (oX rfl ⟨rfl,rfl⟩);have eJ:=b2.1;have eH:=b2.cell 0 rfl;have eI:=b2.cell 1 rfl;have co:=aV.1;have cm:=aV.cell 0 rfl;have cn:=aV.cell 1 rfl;go_wp2_with fail;clear eJ eH eI co cm cn cI cT;with_reducible refine(aCv rr A16 a3 e8 rr A18 a3 dP _ _ _ bD.rss dH bL.out bC _ _ ad.rss dH bL.out bC true ef.out).mono ?_
 rintro e g3 ⟨rfl,m⟩;replace aD:=aD.mid m oZl;replace aE:=aE.mid m oZl;replace bD:=bD.mid m oZl;replace ad:=ad.mid m oZl;replace a5:=a5.mid m oZr;replace aB:=aB.mid m oZr;replace b2:=b2.mid m oZr;replace aV:=aV.mid m oZr;replace hm:=hm.trans m;replace a0:=a0.trans m;clear m;clear bD b2;clear cz ef;go_upto_if 181 with fail
 go_cut [2] from 4 to 210 (fun v wx=>Box wx cl [r,.slice A1 l.length c1]/\OSS wx 0 hL 44 3 A1 c1 l/\RV wx 0 w A0 (aHb d0)/\Mid 0 0 w wx)
 case first=>as_aux_lemma=>
  cases b with
 |false=>
   go_wp2_with fail;go_meet
   case rel=>exact⟨(B3.mid a0 oZr),(o1.mid a0 oZl),(r0.mid a0 oZl),hm⟩
 |true=>
   obtain⟨bp,f0,rfl,rfl,f1,cG⟩:=aRo dL.out;have dM:=oH bp;have eO:=oH f0;have bh:=oH cG;have fK:=oH f1;clear dL f1 cG f0;have bS:=bp.1;have bT:=bp.2.1;obtain⟨k,rfl⟩:=Int.eq_ofNat_of_zero_le (show 0<=rr by omega);have dc:1<=k:=by omega
   have dd:k<=3:=by omega
   clear bS bT;clear bp;have dm:=hm.size;have am:=a5.1;have aj:=a5.cell 0 rfl;have ak:=a5.cell 1 rfl;go_wp2_with fail;clear am aj ak;with_reducible refine(aKB 30 oD oD 4 oD oD A0 d0 c0 _ _ _ bj bk (r0.mid a0 oZl) oO k dc dd).mono ?_
   rintro e g4 ⟨A20,ej,v,rfl,hv,bl,m⟩;replace aD:=aD.mid m oZl;replace aE:=aE.mid m oZl;replace ad:=ad.mid m oZl;replace a5:=a5.mid m oZr;replace aB:=aB.mid m oZr;replace aV:=aV.mid m oZr;replace hm:=hm.trans m;replace a0:=a0.trans m;clear m;have HV:Hid (IsW (k:Int) v):=oH (aUV rfl oO oO (show(4:Int)<=9 by decide) hv.1 hv.2.1 hv.2.2.2);have f2:v.length<=4:=by have:=hv.1;omega
   have cF:=oH hv.2.2.1.ok;clear hv dm;obtain⟨y,hy⟩:∃ y,aAl l2 v=y:=⟨_,rfl⟩
   have fd:y.length<=20:=by have:=ei.out.exl (v:=v) oO;rw[hy] at this;omega
   have ce:IsW k y:=by rw[<- hy];exact aLa eO.out HV.out (by rw[hy];omega)
   have dO:=oH (aIl ce).1.ok;obtain⟨z,hz⟩:∃ z,aAl a3 v=z:=⟨_,rfl⟩
   have f6:aAl l1 y=z:=by rw[<- hz,<- hy,fK.out];exact(aOs dM.out eO.out HV.out (by rw[hy];omega)).symm
   have f9:Hid (aAC k a3 v z true):=oH (hz ▸ aFX bh.out HV.out);have fA:Hid (aAC k l2 v y true):=oH (hy ▸ aFX eO.out HV.out);have fB:Hid (aAC k l1 y z true):=oH (f6 ▸ aFX dM.out ce);have fh:z.length<=1048576:=by rw[<- hz];have:=aDA (fun z hz=>(bh.out.2.2.2 z hz).2.2.1) bL.out.2 v;omega
   clear hy ce hz f6;have co:=aV.1;have cm:=aV.cell 0 rfl;have cn:=aV.cell 1 rfl;go_wp2_with fail;clear co cm cn;with_reducible refine(aBU k A18 a3 dP A20 v ej _ _ _ ad dH bL.out bC _ _ bl cF.out oO z true f9.out).mono ?_
   rintro e g5 ⟨A21,fT,rfl,d7,m⟩;replace aD:=aD.mid m oZl;replace aE:=aE.mid m oZl;replace ad:=ad.mid m oZl;replace bl:=bl.mid m oZl;replace a5:=a5.mid m oZr;replace aB:=aB.mid m oZr;replace aV:=aV.mid m oZr;replace hm:=hm.trans m;replace a0:=a0.trans m;clear m;have bH:=aB.1;have bF:=aB.cell 0 rfl;have bG:=aB.cell 1 rfl;go_wp2_with fail;clear bH bF bG;with_reducible refine(aBV k A15 l2 dB A20 v ej _ _ _ aE dH b8.out b9 _ _ bl cF.out oO y true fA.out).mono ?_
   rintro e g6 ⟨A22,fU,rfl,du,m⟩;replace aD:=aD.mid m oZl;replace aE:=aE.mid m oZl;replace ad:=ad.mid m oZl;replace bl:=bl.mid m oZl;replace d7:=d7.mid m oZl;replace a5:=a5.mid m oZr;replace aB:=aB.mid m oZr;replace aV:=aV.mid m oZr;replace hm:=hm.trans m;replace a0:=a0.trans m;clear m;have am:=a5.1;have aj:=a5.cell 0 rfl;have ak:=a5.cell 1 rfl;go_wp2_with fail;clear am aj ak;with_reducible refine(aBV k A14 l1 dA A22 y fU _ _ _ aD dH a6.out a7 _ _ du dO.out oO z true fB.out).mono ?_
   rintro e g7 ⟨A23,fV,rfl,ea,m⟩;replace aD:=aD.mid m oZl;replace aE:=aE.mid m oZl;replace ad:=ad.mid m oZl;replace bl:=bl.mid m oZl;replace d7:=d7.mid m oZl;replace du:=du.mid m oZl;replace a5:=a5.mid m oZr;replace aB:=aB.mid m oZr;replace aV:=aV.mid m oZr;replace hm:=hm.trans m;replace a0:=a0.trans m;clear m;go_wp2_with fail;with_reducible refine(aDR A21 z fT A23 fV _ _ _ _ _ (OI.ri d7) (OI.ri ea) fh).mono ?_
   rintro e g8 ⟨rfl,m⟩;replace aD:=aD.mid m oZl;replace aE:=aE.mid m oZl;replace ad:=ad.mid m oZl;replace bl:=bl.mid m oZl;replace d7:=d7.mid m oZl;replace du:=du.mid m oZl;replace ea:=ea.mid m oZl;replace a5:=a5.mid m oZr;replace aB:=aB.mid m oZr;replace aV:=aV.mid m oZr;replace hm:=hm.trans m;replace a0:=a0.trans m;clear m;go_wp2_with fail;go_meet
   case rel=>exact⟨(B3.mid a0 oZr),(o1.mid a0 oZl),(r0.mid a0 oZl),hm⟩
 case rest=>
 clear a0 B3 o1 r0 hm aD aE ad a5 aB aV ei a6 b8 bL dL bC dH a7 b9 a4 bY;obtain⟨B3,o1,r0,hm⟩:=hcut;have a0:=hm.here;go_wp2_with fail;with_reducible refine(aHe A0 d0 c0 _ _ bj bk (r0.mid a0 oZl)).mono ?_
 rintro e cB ⟨r1,A27,dC,l1,r2,s2,A28,dD,es,rfl,dg,dh,aI,aJ,m⟩;replace hm:=hm.trans m;replace a0:=a0.trans m;clear m;have HG:=oH dg;have a4:=dg.wf;have a6:=oH dg.ok;have a7:=dg.len;have bM:es.length<=1048576:=by have:=dh.len;omega
 clear dg dh;obtain⟨rr,rs,a3,b,hp⟩:=aJF r1 l1 r2 s2 es a4 a6.out a7 bM;have bC:=aIT hp a4 a6.out a7 bM;have HP:=oH hp;clear hp;have al:=oE cB (.cells #[r1,.slice A27 l1.length dC] 76);have a9:=oJ cB #[r1,.slice A27 l1.length dC] 76;obtain⟨eY,bP⟩:∃ g,cB.heap.size=g:=⟨_,rfl⟩
 replace aI:=aI.mid al oZl;replace aJ:=aJ.mid al oZl;replace hm:=hm.trans al;replace a0:=a0.trans al;rw[bP] at a9;obtain⟨bx,bV⟩:∃ x,cB.alloc (.cells #[.int .i64 r1,.slice A27 l1.length dC] 76)=x:=⟨_,rfl⟩
 rw[bV] at aI aJ a9 a0 hm;clear al;have ci:bx.heap.size=eY+1:=by rw[<- bV,World.size_alloc,bP]
 have al:=oE bx (.cells #[r2,s2,.slice A28 es.length dD] 35);have aF:=oJ bx #[r2,s2,.slice A28 es.length dD] 35;replace aI:=aI.mid al oZl;replace aJ:=aJ.mid al oZl;replace a9:=a9.mid al oZr;replace hm:=hm.trans al;replace a0:=a0.trans al;rw[ci] at aF;obtain⟨fq,cU⟩:∃ x,bx.alloc (.cells #[.int .i64 r2,.int .i64 s2,.slice A28 es.length dD] 35)=x:=⟨_,rfl⟩
 rw[cU] at aI aJ a9 aF a0 hm;clear al;have ap:=a9.1;have an:=a9.cell 0 rfl;have ao:=a9.cell 1 rfl;have cp:=aF.1;obtain⟨bI,bJ,bK⟩:=aF.c3 rfl;go_wp2_with fail;clear ap an ao cp bI bJ bK bP bV ci cU;with_reducible refine(aJa r1 A27 l1 dC r2 s2 A28 es dD _ _ _ aI a4 a6.out a7 _ _ aJ bM rr rs a3 b HP.out).mono ?_
 rintro e cC ⟨A29,e9,rfl,bE,m⟩;replace aI:=aI.mid m oZl;replace aJ:=aJ.mid m oZl;replace a9:=a9.mid m oZr;replace aF:=aF.mid m oZr;replace hm:=hm.trans m;replace a0:=a0.trans m;clear m;have al:=oE cC (.cells #[rr,rs,.slice A29 a3.length e9] 35);have bB:=oJ cC #[rr,rs,.slice A29 a3.length e9] 35;obtain⟨fk,cJ⟩:∃ g,cC.heap.size=g:=⟨_,rfl⟩
 replace aI:=aI.mid al oZl;replace aJ:=aJ.mid al oZl;replace bE:=bE.mid al oZl;replace a9:=a9.mid al oZr;replace aF:=aF.mid al oZr;replace hm:=hm.trans al;replace a0:=a0.trans al;rw[cJ] at bB;obtain⟨fr,cV⟩:∃ x,cC.alloc (.cells #[.int .i64 rr,.int .i64 rs,.slice A29 a3.length e9] 35)=x:=⟨_,rfl⟩
 rw[cV] at aI aJ bE a9 aF bB a0 hm;clear al;have ap:=a9.1;have an:=a9.cell 0 rfl;have ao:=a9.cell 1 rfl;have cp:=aF.1;obtain⟨bI,bJ,bK⟩:=aF.c3 rfl;go_wp2_with fail;clear ap an ao cp bI bJ bK cJ cV;with_reducible refine(aJg r1 A27 l1 dC r2 s2 A28 es dD _ _ _ aI a4 a6.out a7 _ _ aJ bM rr rs a3 b HP.out).mono ?_
 rintro e cD ⟨A31,dQ,rfl,aq,m⟩;replace aI:=aI.mid m oZl;replace aJ:=aJ.mid m oZl;replace bE:=bE.mid m oZl;replace a9:=a9.mid m oZr;replace aF:=aF.mid m oZr;replace bB:=bB.mid m oZr;replace hm:=hm.trans m;replace a0:=a0.trans m;clear m;have al:=oE cD (.cells #[rr,rs,.slice A31 a3.length dQ] 35);have a8:=oJ cD #[rr,rs,.slice A31 a3.length dQ] 35;obtain⟨fl,cK⟩:∃ g,cD.heap.size=g:=⟨_,rfl⟩
 replace aI:=aI.mid al oZl;replace aJ:=aJ.mid al oZl;replace bE:=bE.mid al oZl;replace aq:=aq.mid al oZl;replace a9:=a9.mid al oZr;replace aF:=aF.mid al oZr;replace bB:=bB.mid al oZr;replace hm:=hm.trans al;replace a0:=a0.trans al;rw[cK] at a8;obtain⟨fs,cW⟩:∃ x,cD.alloc (.cells #[.int .i64 rr,.int .i64 rs,.slice A31 a3.length dQ] 35)=x:=⟨_,rfl⟩
 rw[cW] at aI aJ bE aq a9 aF bB a8 a0 hm;clear al;have cz:(b != b)=false:=by simp
 have eK:=bB.1;obtain⟨B290,B291,B292⟩:=bB.c3 rfl;have eL:=a8.1;obtain⟨cq,cr,cs⟩:=a8.c3 rfl;go_wp2_with fail;clear eK B290 B291 B292 eL cq cr cs cK cW;with_reducible refine(aDp rr rs A29 a3 e9 rr rs A31 a3 dQ _ _ _ _ _ (OG.rg bE) (OG.rg aq) bC bC true oM).mono ?_
 rintro e g9 ⟨rfl,m⟩;replace aI:=aI.mid m oZl;replace aJ:=aJ.mid m oZl;replace bE:=bE.mid m oZl;replace aq:=aq.mid m oZl;replace a9:=a9.mid m oZr;replace aF:=aF.mid m oZr;replace bB:=bB.mid m oZr;replace a8:=a8.mid m oZr;replace hm:=hm.trans m;replace a0:=a0.trans m;clear m;clear bE bB;clear cz;go_upto_if 237 with fail
 go_cut [2] from 4 to 254 (fun v wx=>Box wx cl [r,.slice A1 l.length c1]/\OSS wx 0 hL 44 3 A1 c1 l/\RV wx 0 w A0 (aHb d0)/\Mid 0 0 w wx)
 case first=>as_aux_lemma=>
  cases b with
 |false=>
   go_wp2_with fail;go_meet
   case rel=>exact⟨(B3.mid a0 oZr),(o1.mid a0 oZl),(r0.mid a0 oZl),hm⟩
 |true=>
   have bp:=aTs HP.out;have dM:=oH bp;have eT:=aq.cnt.1;have bS:=bp.1;have bT:=bp.2.1;obtain⟨k,rfl⟩:=Int.eq_ofNat_of_zero_le (show 0<=r1 by omega);have dc:1<=k:=by omega
   have dd:k<=3:=by omega
   clear bS bT;clear bp;have dm:=hm.size;have ap:=a9.1;have an:=a9.cell 0 rfl;have ao:=a9.cell 1 rfl;go_wp2_with fail;clear ap an ao;with_reducible refine(aKB 20 oD oD 5 oD oD A0 d0 c0 _ _ _ bj bk (r0.mid a0 oZl) oO k dc dd).mono ?_
   rintro e gA ⟨A33,ek,v,rfl,hv,dI,m⟩;replace aI:=aI.mid m oZl;replace aJ:=aJ.mid m oZl;replace aq:=aq.mid m oZl;replace a9:=a9.mid m oZr;replace aF:=aF.mid m oZr;replace a8:=a8.mid m oZr;replace hm:=hm.trans m;replace a0:=a0.trans m;clear m;have HV:Hid (IsW (k:Int) v):=oH (aUV rfl oO oO (show(5:Int)<=9 by decide) hv.1 hv.2.1 hv.2.2.2);have f2:v.length<=5:=by have:=hv.1;omega
   have cF:=oH hv.2.2.1.ok;clear hv dm;obtain⟨ew,eu,au⟩:=aTt HP.out HV.out;obtain⟨y,hy⟩:∃ y,aAl l1 v=y:=⟨_,rfl⟩
   rw[hy] at au;obtain⟨bw,eS⟩:=aVo es y;have fE:Hid (bw=true↔IsCor rr rs a3/\InS a3 v):=oH (eS.trans ⟨fun h=>⟨ew,au.2 h⟩,fun h=>au.1 h.2⟩);have fF:=oH eS;have fG:=oH eu;have eD:=aRC dM.out HV.out;rw[hy] at eD;have fL:=oH eD.2;have dO:=oH eD.1.ok;have ff:y.length<=1048576:=by have:=HG.out.exl (v:=v) oO;rw[hy] at this;omega
   have HA:Hid (aAC k l1 v y true):=oH (hy ▸ aFX dM.out HV.out);have cz:(bw != bw)=false:=by simp
   clear ew eu au hy eS eD HP;have ap:=a9.1;have an:=a9.cell 0 rfl;have ao:=a9.cell 1 rfl;go_wp2_with fail;clear ap an ao;with_reducible refine(aBV k A27 l1 dC A33 v ek _ _ _ aI a4 a6.out a7 _ _ dI cF.out oO y true HA.out).mono ?_
   rintro e ai ⟨A34,fW,rfl,eb,m⟩;replace aI:=aI.mid m oZl;replace aJ:=aJ.mid m oZl;replace aq:=aq.mid m oZl;replace dI:=dI.mid m oZl;replace a9:=a9.mid m oZr;replace aF:=aF.mid m oZr;replace a8:=a8.mid m oZr;replace hm:=hm.trans m;replace a0:=a0.trans m;clear m;go_upto_region 34 with fail
   have cq:=aAf a8.1 (a8.cell 0 rfl);have cr:=aAf a8.1 (a8.cell 1 rfl);have cs:=aAf a8.1 (a8.cell 2 rfl);have bI:=aAf aF.1 (aF.cell 0 rfl);have bJ:=aAf aF.1 (aF.cell 1 rfl);have bK:=aAf aF.1 (aF.cell 2 rfl);have hq0:=fun m os=>aLS rr rs A31 a3 dQ A33 v ek (wg ai m os) _ _ _ _ (OG.rg (aq.mid (Mid.ofWg ai m os) oZl)) (OI.ri (dI.mid (Mid.ofWg ai m os) oZl)) bC eT oO cF.out bw fE.out;have cQ:=fun m os=>aKK r2 s2 A28 es dD A34 y fW (wg ai m os) _ _ _ _ (OG.rg (aJ.mid (Mid.ofWg ai m os) oZl)) (OI.ri (eb.mid (Mid.ofWg ai m os) oZl)) fG.out fL.out ff dO.out bw fF.out;refine wqg ?_;repeat
    (with_reducible refine wpQuiet_step (fun K hK=>?_))
    go_simp
    first|(with_reducible refine hK _ ?_)|(rw[if_neg oD];(with_reducible refine hK _ ?_))|(apply Exists.intro;refine⟨fun _=>?_,hK _ ?_⟩;((first|(go_at_call 49;with_reducible exact Calls.wg_of (hq0 _ _))|(go_at_call 50;with_reducible exact Calls.wg_of (cQ _ _)))))
    clear hK K
   with_reducible refine wpQuiet_nil ?_
   rintro _ ⟨⟨nq,osq⟩,rfl⟩;have aC:=Mid.ofWg ai nq osq;generalize wg ai nq osq=wq76 at aC |-;replace aI:=aI.mid aC oZl;replace aJ:=aJ.mid aC oZl;replace aq:=aq.mid aC oZl;replace dI:=dI.mid aC oZl;replace eb:=eb.mid aC oZl;replace a9:=a9.mid aC oZr;replace aF:=aF.mid aC oZr;replace a8:=a8.mid aC oZr;replace hm:=hm.trans aC;replace a0:=a0.trans aC;clear aC hq0 cQ cq cr cs bI bJ bK;go_wp2_with fail;go_meet
   case rel=>exact⟨(B3.mid a0 oZr),(o1.mid a0 oZl),(r0.mid a0 oZl),hm⟩
 case rest=>
 clear a0 B3 o1 r0 hm aI aJ aq a9 aF a8 HG a6 HP bC a7 a4 bM;obtain⟨B3,o1,r0,hm⟩:=hcut;have a0:=hm.here;go_wp2_with fail;with_reducible refine(aJz A0 d0 c0 _ _ bj bk (r0.mid a0 oZl)).mono ?_
 rintro e av ⟨r1,A36,dR,l1,r2,s2,A37,dS,es,rfl,dg,dh,aZ,aa,m⟩;replace hm:=hm.trans m;replace a0:=a0.trans m;clear m;have a4:=dg.wf;have a6:=oH dg.ok;have a7:=dg.len;have bM:es.length<=1048576:=by have:=dh.len;omega
 clear dg dh;obtain⟨rr,rs,a3,b,hp⟩:=aMK r1 l1 r2 s2 es a4 a6.out a7 bM;have bC:=aLB hp a4 a6.out a7 bM;have HP:=oH hp;clear hp;have al:=oE av (.cells #[r1,.slice A36 l1.length dR] 76);have aU:=oJ av #[r1,.slice A36 l1.length dR] 76;obtain⟨eZ,bQ⟩:∃ g,av.heap.size=g:=⟨_,rfl⟩
 replace aZ:=aZ.mid al oZl;replace aa:=aa.mid al oZl;replace hm:=hm.trans al;replace a0:=a0.trans al;rw[bQ] at aU;obtain⟨bz,bW⟩:∃ x,av.alloc (.cells #[.int .i64 r1,.slice A36 l1.length dR] 76)=x:=⟨_,rfl⟩
 rw[bW] at aZ aa aU a0 hm;clear al;have cj:bz.heap.size=eZ+1:=by rw[<- bW,World.size_alloc,bQ]
 have al:=oE bz (.cells #[r2,s2,.slice A37 es.length dS] 35);have af:=oJ bz #[r2,s2,.slice A37 es.length dS] 35;replace aZ:=aZ.mid al oZl;replace aa:=aa.mid al oZl;replace aU:=aU.mid al oZr;replace hm:=hm.trans al;replace a0:=a0.trans al;rw[cj] at af;obtain⟨ft,cX⟩:∃ x,bz.alloc (.cells #[.int .i64 r2,.int .i64 s2,.slice A37 es.length dS] 35)=x:=⟨_,rfl⟩
 rw[cX] at aZ aa aU af a0 hm;clear al;have cv:=aU.1;have ct:=aU.cell 0 rfl;have cu:=aU.cell 1 rfl;have cw:=af.1;obtain⟨B370,B371,B372⟩:=af.c3 rfl;go_wp2_with fail;clear cv ct cu cw B370 B371 B372 bQ bW cj cX;with_reducible refine(aMu r1 A36 l1 dR r2 s2 A37 es dS _ _ _ aZ a4 a6.out a7 _ _ aa bM rr rs a3 b HP.out).mono ?_
 rintro e aw ⟨A38,dT,rfl,bu,m⟩;replace aZ:=aZ.mid m oZl;replace aa:=aa.mid m oZl;replace aU:=aU.mid m oZr;replace af:=af.mid m oZr;replace hm:=hm.trans m;replace a0:=a0.trans m;clear m;have al:=oE aw (.cells #[rr,rs,.slice A38 a3.length dT] 35);have cE:=oJ aw #[rr,rs,.slice A38 a3.length dT] 35;obtain⟨d5,cL⟩:∃ g,aw.heap.size=g:=⟨_,rfl⟩
 replace aZ:=aZ.mid al oZl;replace aa:=aa.mid al oZl;replace bu:=bu.mid al oZl;replace aU:=aU.mid al oZr;replace af:=af.mid al oZr;replace hm:=hm.trans al;replace a0:=a0.trans al;rw[cL] at cE;obtain⟨fu,cY⟩:∃ x,aw.alloc (.cells #[.int .i64 rr,.int .i64 rs,.slice A38 a3.length dT] 35)=x:=⟨_,rfl⟩
 rw[cY] at aZ aa bu aU af cE a0 hm;clear al;have cv:=aU.1;have ct:=aU.cell 0 rfl;have cu:=aU.cell 1 rfl;have cw:=af.1;obtain⟨B370,B371,B372⟩:=af.c3 rfl;go_wp2_with fail;clear cv ct cu cw B370 B371 B372 cL cY;with_reducible refine(aMF r1 A36 l1 dR r2 s2 A37 es dS _ _ _ aZ a4 a6.out a7 _ _ aa bM rr rs a3 b HP.out).mono ?_
 rintro e ax ⟨A40,dU,rfl,eF,m⟩;replace aZ:=aZ.mid m oZl;replace aa:=aa.mid m oZl;replace bu:=bu.mid m oZl;replace aU:=aU.mid m oZr;replace af:=af.mid m oZr;replace cE:=cE.mid m oZr;replace hm:=hm.trans m;replace a0:=a0.trans m;clear m;have al:=oE ax (.cells #[rr,rs,.slice A40 a3.length dU] 35);have eM:=oJ ax #[rr,rs,.slice A40 a3.length dU] 35;obtain⟨d6,cM⟩:∃ g,ax.heap.size=g:=⟨_,rfl⟩
 replace aZ:=aZ.mid al oZl;replace aa:=aa.mid al oZl;replace bu:=bu.mid al oZl;replace eF:=eF.mid al oZl;replace aU:=aU.mid al oZr;replace af:=af.mid al oZr;replace cE:=cE.mid al oZr;replace hm:=hm.trans al;replace a0:=a0.trans al;rw[cM] at eM;obtain⟨fv,cZ⟩:∃ x,ax.alloc (.cells #[.int .i64 rr,.int .i64 rs,.slice A40 a3.length dU] 35)=x:=⟨_,rfl⟩
 rw[cZ] at aZ aa bu eF aU af cE eM a0 hm;clear al;clear aZ aa aU af;clear a6 a7 a4 bM HP;have a2:=hm.here;go_wp2_with fail;clear cM cZ;with_reducible refine(aHd A0 d0 c0 _ _ bj bk (r0.mid a0 oZl)).mono ?_
 rintro e ay ⟨r3,A42,dE,l3,q,rfl,dg,hq,aK,m⟩;replace hm:=hm.trans m;replace a0:=a0.trans m;replace a2:=a2.trans m;clear m;have bq:=dg.wf;have bn:=oH dg.ok;have bo:=dg.len;have f4:(Lit.int .i64 q).wf=true:=aJy oO oO;obtain⟨fw,eU⟩:=aJA r3 l3 q bq bn.out bo;have fY:=aIR eU bq bn.out bo;have eh:=oH eU;have fX:fw.length<=1048576:=by omega
 have fI:Hid (∀ x∈fw,x.length<=1048576):=oH (fun x hx=>by have:=aBm hx;omega);clear dg eU fY hq;have al:=oE ay (.cells #[r3,.slice A42 l3.length dE] 76);have aG:=oJ ay #[r3,.slice A42 l3.length dE] 76;obtain⟨dr,cN⟩:∃ g,ay.heap.size=g:=⟨_,rfl⟩
 replace aK:=aK.mid al oZl;replace hm:=hm.trans al;replace a0:=a0.trans al;replace a2:=a2.trans al;rw[cN] at aG;obtain⟨fx,ca⟩:∃ x,ay.alloc (.cells #[.int .i64 r3,.slice A42 l3.length dE] 76)=x:=⟨_,rfl⟩
 rw[ca] at aK aG a0 a2 hm;clear al;go_wp2_with fail;clear cN ca;with_reducible refine(aEr A0 d0 c0 _ _ bj bk (r0.mid a0 oZl)).mono ?_
 rintro e f7 ⟨n,rfl,hn,m⟩;replace aK:=aK.mid m oZl;replace aG:=aG.mid m oZr;replace hm:=hm.trans m;replace a0:=a0.trans m;replace a2:=a2.trans m;clear m;have dq:(Lit.int .i64 n).wf=true:=aJy oO oO;obtain⟨ir,il,ib,db⟩:=aFw n;have ez:=aFo db;have f3:=(aTO db dq).1;have dN:=oH (aTO db dq).2;have eN:=oH db;clear db hn;go_wp2_with fail;with_reducible refine(aFq n _ dq ir il ib eN.out).mono ?_
 rintro e az ⟨A45,dV,rfl,aY,m⟩;replace aK:=aK.mid m oZl;replace aG:=aG.mid m oZr;replace hm:=hm.trans m;replace a0:=a0.trans m;replace a2:=a2.trans m;clear m;have al:=oE az (.cells #[ir,.slice A45 il.length dV] 76);have aN:=oJ az #[ir,.slice A45 il.length dV] 76;obtain⟨ds,cO⟩:∃ g,az.heap.size=g:=⟨_,rfl⟩
 replace aK:=aK.mid al oZl;replace aY:=aY.mid al oZl;replace aG:=aG.mid al oZr;replace hm:=hm.trans al;replace a0:=a0.trans al;replace a2:=a2.trans al;rw[cO] at aN;obtain⟨fy,cb⟩:∃ x,az.alloc (.cells #[.int .i64 ir,.slice A45 il.length dV] 76)=x:=⟨_,rfl⟩
 rw[cb] at aK aY aG aN a0 a2 hm;clear al;go_wp2_with fail;clear cO cb;with_reducible refine(aFt n _ dq ir il ib eN.out).mono ?_
 rintro e b0 ⟨A47,dW,rfl,ar,m⟩;replace aK:=aK.mid m oZl;replace aY:=aY.mid m oZl;replace aG:=aG.mid m oZr;replace aN:=aN.mid m oZr;replace hm:=hm.trans m;replace a0:=a0.trans m;replace a2:=a2.trans m;clear m;have al:=oE b0 (.cells #[ir,.slice A47 il.length dW] 76);have ab:=oJ b0 #[ir,.slice A47 il.length dW] 76;obtain⟨dt,cP⟩:∃ g,b0.heap.size=g:=⟨_,rfl⟩
 replace aK:=aK.mid al oZl;replace aY:=aY.mid al oZl;replace ar:=ar.mid al oZl;replace aG:=aG.mid al oZr;replace aN:=aN.mid al oZr;replace hm:=hm.trans al;replace a0:=a0.trans al;replace a2:=a2.trans al;rw[cP] at ab;obtain⟨fz,cc⟩:∃ x,b0.alloc (.cells #[.int .i64 ir,.slice A47 il.length dW] 76)=x:=⟨_,rfl⟩
 rw[cc] at aK aY ar aG aN ab a0 a2 hm;clear al;clear eN dq;go_wp2_with fail;clear cP cc;with_reducible refine(aFn A0 d0 c0 _ _ bj bk (r0.mid a0 oZl)).mono ?_
 rintro e b1 ⟨r4,A49,dF,l4,r5,A50,dG,l5,rfl,eB,eC,bc,bd,m⟩;replace aK:=aK.mid m oZl;replace aY:=aY.mid m oZl;replace ar:=ar.mid m oZl;replace aG:=aG.mid m oZr;replace aN:=aN.mid m oZr;replace ab:=ab.mid m oZr;replace hm:=hm.trans m;replace a0:=a0.trans m;replace a2:=a2.trans m;clear m;have d3:=eB.wf;have cx:=oH eB.ok;have d1:=eB.len;have d4:=eC.wf;have cy:=oH eC.ok;have d2:=eC.len;obtain⟨be,eo⟩:=aGB r4 l4 r5 l5 d3 cx.out d1 d4 cy.out d2;have ee:=oH eo;have fH:Hid (aBx ir il ir il true):=oH (oX rfl ⟨rfl,rfl⟩);obtain⟨fm,ey⟩:=aGC r l aM aH.out aL;have eg:=oH ey;clear eB eC eo ey;have cz:(b == b)=true:=by simp
 have gD:(ib == ib)=true:=by simp
 have gC:(be == be)=true:=by simp
 have al:=oE b1 (.cells #[r4,.slice A49 l4.length dF] 76);have b7:=oJ b1 #[r4,.slice A49 l4.length dF] 76;obtain⟨ba,bR⟩:∃ g,b1.heap.size=g:=⟨_,rfl⟩
 replace aK:=aK.mid al oZl;replace aY:=aY.mid al oZl;replace ar:=ar.mid al oZl;replace bc:=bc.mid al oZl;replace bd:=bd.mid al oZl;replace aG:=aG.mid al oZr;replace aN:=aN.mid al oZr;replace ab:=ab.mid al oZr;replace hm:=hm.trans al;replace a0:=a0.trans al;replace a2:=a2.trans al;rw[bR] at b7;obtain⟨c6,bX⟩:∃ x,b1.alloc (.cells #[.int .i64 r4,.slice A49 l4.length dF] 76)=x:=⟨_,rfl⟩
 rw[bX] at aK aY ar bc bd aG aN ab b7 a0 a2 hm;clear al;have ck:c6.heap.size=ba+1:=by rw[<- bX,World.size_alloc,bR]
 have al:=oE c6 (.cells #[r5,.slice A50 l5.length dG] 76);have bf:=oJ c6 #[r5,.slice A50 l5.length dG] 76;replace aK:=aK.mid al oZl;replace aY:=aY.mid al oZl;replace ar:=ar.mid al oZl;replace bc:=bc.mid al oZl;replace bd:=bd.mid al oZl;replace aG:=aG.mid al oZr;replace aN:=aN.mid al oZr;replace ab:=ab.mid al oZr;replace b7:=b7.mid al oZr;replace hm:=hm.trans al;replace a0:=a0.trans al;replace a2:=a2.trans al;rw[ck] at bf;obtain⟨dv,cd⟩:∃ x,c6.alloc (.cells #[.int .i64 r5,.slice A50 l5.length dG] 76)=x:=⟨_,rfl⟩
 rw[cd] at aK aY ar bc bd aG aN ab b7 bf a0 a2 hm;clear al;go_upto_region 44 with fail
 clear bR bX ck cd;have aW:=Mid.drew1 dv;replace aK:=aK.mid aW oZl;replace aY:=aY.mid aW oZl;replace ar:=ar.mid aW oZl;replace bc:=bc.mid aW oZl;replace bd:=bd.mid aW oZl;replace aG:=aG.mid aW oZr;replace aN:=aN.mid aW oZr;replace ab:=ab.mid aW oZr;replace b7:=b7.mid aW oZr;replace bf:=bf.mid aW oZr;replace hm:=hm.trans aW;replace a0:=a0.trans aW;replace a2:=a2.trans aW;clear aW;have b3:=(cE.mid a2 oZr)
 have b6:=(eM.mid a2 oZr)
 have b5:=(B3.mid a0 oZr)
 have hS:=(And.intro (b3.c3 rfl) (And.intro (b6.c3 rfl) (And.intro (And.intro (aG.cell 0 rfl) (aG.cell 1 rfl)) (And.intro (And.intro (aN.cell 0 rfl) (aN.cell 1 rfl)) (And.intro (And.intro (ab.cell 0 rfl) (ab.cell 1 rfl)) (And.intro (And.intro (b5.cell 0 rfl) (b5.cell 1 rfl)) (And.intro (And.intro (b7.cell 0 rfl) (b7.cell 1 rfl)) (And.intro (bf.cell 0 rfl) (bf.cell 1 rfl)))))))))
 refine aAo (S:=(fun w'=>(w'.cell? ⟨d5,0,none⟩=some (.int .i64 rr)/\w'.cell? ⟨d5,1,none⟩=some (.int .i64 rs)/\w'.cell? ⟨d5,2,none⟩=some (.slice A38 a3.length dT))/\(w'.cell? ⟨d6,0,none⟩=some (.int .i64 rr)/\w'.cell? ⟨d6,1,none⟩=some (.int .i64 rs)/\w'.cell? ⟨d6,2,none⟩=some (.slice A40 a3.length dU))/\(w'.cell? ⟨dr,0,none⟩=some (.int .i64 r3)/\w'.cell? ⟨dr,1,none⟩=some (.slice A42 l3.length dE))/\(w'.cell? ⟨ds,0,none⟩=some (.int .i64 ir)/\w'.cell? ⟨ds,1,none⟩=some (.slice A45 il.length dV))/\(w'.cell? ⟨dt,0,none⟩=some (.int .i64 ir)/\w'.cell? ⟨dt,1,none⟩=some (.slice A47 il.length dW))/\(w'.cell? ⟨cl,0,none⟩=some (.int .i64 r)/\w'.cell? ⟨cl,1,none⟩=some (.slice A1 l.length c1))/\(w'.cell? ⟨ba,0,none⟩=some (.int .i64 r4)/\w'.cell? ⟨ba,1,none⟩=some (.slice A49 l4.length dF))/\(w'.cell? ⟨(ba+1),0,none⟩=some (.int .i64 r5)/\w'.cell? ⟨(ba+1),1,none⟩=some (.slice A50 l5.length dG)))) [] oK hS ?_;generalize World.drew dv=wz at hS aK aY ar bc bd aG aN ab b7 bf a0 a2 b3 b6 b5 hm |-;have hP:=fun W' (m:Mid 0 0 wz W')=>(And.intro (And.intro ((b3.mid m oZr).cell 0 rfl) (And.intro ((b3.mid m oZr).cell 1 rfl) ((b3.mid m oZr).cell 2 rfl))) (And.intro (And.intro ((b6.mid m oZr).cell 0 rfl) (And.intro ((b6.mid m oZr).cell 1 rfl) ((b6.mid m oZr).cell 2 rfl))) (And.intro (And.intro ((aG.mid m oZr).cell 0 rfl) ((aG.mid m oZr).cell 1 rfl)) (And.intro (And.intro ((aN.mid m oZr).cell 0 rfl) ((aN.mid m oZr).cell 1 rfl)) (And.intro (And.intro ((ab.mid m oZr).cell 0 rfl) ((ab.mid m oZr).cell 1 rfl)) (And.intro (And.intro ((b5.mid m oZr).cell 0 rfl) ((b5.mid m oZr).cell 1 rfl)) (And.intro (And.intro ((b7.mid m oZr).cell 0 rfl) ((b7.mid m oZr).cell 1 rfl)) (And.intro ((bf.mid m oZr).cell 0 rfl) ((bf.mid m oZr).cell 1 rfl)))))))))
 clear hS b3 b5 b6 aG aN ab b7 bf;have a1:=hm.here;refine tkZ [] 0 rfl (hP _ a1) ?_;try simp only[oP]
 refine tkZ [] 1 rfl (hP _ a1) ?_;try simp only[oP]
 refine tkZ [] 2 rfl (hP _ a1) ?_;try simp only[oP]
 refine tkZ [] 3 rfl (hP _ a1) ?_;try simp only[oP]
 refine tkZ [] 4 rfl (hP _ a1) ?_;try simp only[oP]
 refine tkZ [] 5 rfl (hP _ a1) ?_;try simp only[oP]
 have HZ:=oH (aDp rr rs A38 a3 dT rr rs A40 a3 dU wz _ _ _ _ (OG.rg (bu.mid a2 oZl)) (OG.rg (eF.mid a2 oZl)) bC bC true oM);refine rdZ 6 rfl (fun K hK=>?_)
 (go_simp;(with_reducible refine(HZ.out).mono ?_);rintro en dz ⟨rfl,ag⟩;replace a1:=a1.trans ag;go_wp2_with fail)
 refine hK.out _ _ (Or.inr (hP _ a1)) (fun _=>?_);clear hK K;try simp only[oP]
 clear HZ;replace hm:=hm.trans ag;replace a0:=a0.trans ag;replace a2:=a2.trans ag;clear ag;refine tkZ [] 7 rfl (hP _ a1) ?_;try simp only[oP]
 refine tkZ [] 8 rfl (hP _ a1) ?_;try simp only[oP]
 refine tkZ [] 9 rfl (hP _ a1) ?_;try simp only[oP]
 refine tkZ [] 10 rfl (hP _ a1) ?_;try simp only[oP]
 refine tkZ [] 12 rfl (hP _ a1) ?_;try simp only[oP]
 refine tkZ [] 13 rfl (hP _ a1) ?_;try simp only[oP]
 have HZ:=oH (aIZ r3 A42 l3 dE q dz _ _ (aK.mid a1 oZl) bq bn.out bo f4 fw eh.out);refine rdZ 11 rfl (fun K hK=>?_)
 (go_simp;(with_reducible refine(HZ.out).mono ?_);rintro en e0 ⟨Af,cf,rfl,of,ah⟩;replace a1:=a1.trans ah;go_wp2_with fail)
 refine hK.out _ _ (Or.inr (hP _ a1)) (fun _=>?_);clear hK K;try simp only[oP]
 clear HZ;replace hm:=hm.trans ah;replace a0:=a0.trans ah;replace a2:=a2.trans ah;clear ah;have HZ:=oH (aJf r3 A42 l3 dE q e0 _ _ (aK.mid a1 oZl) bq bn.out bo f4 fw eh.out);refine rdZ 14 rfl (fun K hK=>?_)
 (go_simp;(with_reducible refine(HZ.out).mono ?_);rintro en e1 ⟨Ag,cg,rfl,og,aX⟩;replace a1:=a1.trans aX;go_wp2_with fail)
 refine hK.out _ _ (Or.inr (hP _ a1)) (fun _=>?_);clear hK K;try simp only[oP]
 clear HZ;replace of:=of.mid aX oZl;replace hm:=hm.trans aX;replace a0:=a0.trans aX;replace a2:=a2.trans aX;clear aX;have HZ:=oH (aNJ Af fw cf Ag cg e1 _ _ _ _ of.rss og.rss fX fI.out);refine rdZ 15 rfl (fun K hK=>?_)
 (go_simp;(with_reducible refine(HZ.out).mono ?_);rintro en e2 ⟨rfl,aO⟩;replace a1:=a1.trans aO;go_wp2_with fail)
 refine hK.out _ _ (Or.inr (hP _ a1)) (fun _=>?_);clear hK K;try simp only[oP]
 clear HZ;replace of:=of.mid aO oZl;replace og:=og.mid aO oZl;replace hm:=hm.trans aO;replace a0:=a0.trans aO;replace a2:=a2.trans aO;clear aO;refine tkZ [] 16 rfl (hP _ a1) ?_;try simp only[oP]
 refine tkZ [] 17 rfl (hP _ a1) ?_;try simp only[oP]
 refine tkZ [] 18 rfl (hP _ a1) ?_;try simp only[oP]
 refine tkZ [] 19 rfl (hP _ a1) ?_;try simp only[oP]
 refine tkZ [] 20 rfl (hP _ a1) ?_;try simp only[oP]
 refine tkZ [] 21 rfl (hP _ a1) ?_;try simp only[oP]
 refine tkZ [] 22 rfl (hP _ a1) ?_;try simp only[oP]
 refine tkZ [] 23 rfl (hP _ a1) ?_;try simp only[oP]
 refine tkZ [] 24 rfl (hP _ a1) ?_;try simp only[oP]
 have HZ:=oH (aCv ir A45 il dV ir A47 il dW e2 _ _ (aY.mid a1 oZl).rss f3 dN.out ez _ _ (ar.mid a1 oZl).rss f3 dN.out ez true fH.out);refine rdZ 25 rfl (fun K hK=>?_)
 (go_simp;(with_reducible refine(HZ.out).mono ?_);rintro en e3 ⟨rfl,aP⟩;replace a1:=a1.trans aP;go_wp2_with fail)
 refine hK.out _ _ (Or.inr (hP _ a1)) (fun _=>?_);clear hK K;try simp only[oP]
 clear HZ;replace of:=of.mid aP oZl;replace og:=og.mid aP oZl;replace hm:=hm.trans aP;replace a0:=a0.trans aP;replace a2:=a2.trans aP;clear aP;refine tkZ [] 26 rfl (hP _ a1) ?_;try simp only[oP]
 refine tkZ [] 27 rfl (hP _ a1) ?_;try simp only[oP]
 refine tkZ [] 28 rfl (hP _ a1) ?_;try simp only[oP]
 refine tkZ [] 30 rfl (hP _ a1) ?_;try simp only[oP]
 have HZ:=oH (aGs r A1 l c1 e3 _ _ (o1.mid a0 oZl).rss aM aH.out aL fm eg.out);refine rdZ 29 rfl (fun K hK=>?_)
 (go_simp;(with_reducible refine(HZ.out).mono ?_);rintro en e4 ⟨rfl,aQ⟩;replace a1:=a1.trans aQ;go_wp2_with fail)
 refine hK.out _ _ (Or.inr (hP _ a1)) (fun _=>?_);clear hK K;try simp only[oP]
 clear HZ;replace of:=of.mid aQ oZl;replace og:=og.mid aQ oZl;replace hm:=hm.trans aQ;replace a0:=a0.trans aQ;replace a2:=a2.trans aQ;clear aQ;have HZ:=oH (aGt r A1 l c1 e4 _ _ (o1.mid a0 oZl).rss aM aH.out aL fm eg.out);refine rdZ 31 rfl (fun K hK=>?_)
 (go_simp;(with_reducible refine(HZ.out).mono ?_);rintro en e5 ⟨rfl,aR⟩;replace a1:=a1.trans aR;go_wp2_with fail)
 refine hK.out _ _ (Or.inr (hP _ a1)) (fun _=>?_);clear hK K;try simp only[oP]
 clear HZ;replace of:=of.mid aR oZl;replace og:=og.mid aR oZl;replace hm:=hm.trans aR;replace a0:=a0.trans aR;replace a2:=a2.trans aR;clear aR;refine tkZ [] 32 rfl (hP _ a1) ?_;try simp only[oP]
 refine tkZ [] 33 rfl (hP _ a1) ?_;try simp only[oP]
 refine tkZ [] 34 rfl (hP _ a1) ?_;try simp only[oP]
 refine tkZ [] 35 rfl (hP _ a1) ?_;try simp only[oP]
 refine tkZ [] 36 rfl (hP _ a1) ?_;try simp only[oP]
 refine tkZ [] 38 rfl (hP _ a1) ?_;try simp only[oP]
 refine tkZ [] 39 rfl (hP _ a1) ?_;try simp only[oP]
 have HZ:=oH (aGr r4 A49 l4 dF r5 A50 l5 dG e5 _ _ (bc.mid a1 oZl).rss d3 cx.out d1 _ _ (bd.mid a1 oZl).rss d4 cy.out d2 be ee.out);refine rdZ 37 rfl (fun K hK=>?_)
 (go_simp;(with_reducible refine(HZ.out).mono ?_);rintro en e6 ⟨rfl,aS⟩;replace a1:=a1.trans aS;go_wp2_with fail)
 refine hK.out _ _ (Or.inr (hP _ a1)) (fun _=>?_);clear hK K;try simp only[oP]
 clear HZ;replace of:=of.mid aS oZl;replace og:=og.mid aS oZl;replace hm:=hm.trans aS;replace a0:=a0.trans aS;replace a2:=a2.trans aS;clear aS;have HZ:=oH (aCv r4 A49 l4 dF r5 A50 l5 dG e6 _ _ (bc.mid a1 oZl).rss d3 cx.out d1 _ _ (bd.mid a1 oZl).rss d4 cy.out d2 be ee.out);refine rdZ 40 rfl (fun K hK=>?_)
 (go_simp;(with_reducible refine(HZ.out).mono ?_);rintro en f8 ⟨rfl,aT⟩;replace a1:=a1.trans aT;go_wp2_with fail)
 refine hK.out _ _ (Or.inr (hP _ a1)) (fun _=>?_);clear hK K;try simp only[oP]
 clear HZ;replace of:=of.mid aT oZl;replace og:=og.mid aT oZl;replace hm:=hm.trans aT;replace a0:=a0.trans aT;replace a2:=a2.trans aT;clear aT;refine tkZ [] 41 rfl (hP _ a1) ?_;try simp only[oP]
 refine tkZ [] 42 rfl (hP _ a1) ?_;try simp only[oP]
 refine tkZ [] 43 rfl (hP _ a1) ?_;try simp only[oP]
 refine aAj oK ?_ _;have em:=hm.bel;rw[<- el] at em;go_wp2_with fail;go_ret;exact⟨rfl,em⟩
end Go.Proofs.YtkimajabegojoaaGreat
