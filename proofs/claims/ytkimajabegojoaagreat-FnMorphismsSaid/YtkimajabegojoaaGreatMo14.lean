/- Lemmas. -/
import Derived.Test.YtkimajabegojoaaGreatMo13
import Derived.Test.YtkimajabegojoaaGreatMo9
import Derived.Test.YtkimajabegojoaaGreatMo11
import Derived.Test.YtkimajabegojoaaGreatMo6
import Derived.Test.YtkimajabegojoaaGreatMo12
import Derived.Test.YtkimajabegojoaaGreatMo5
namespace Go.Proofs.YtkimajabegojoaaGreat
set_option linter.unusedVariables false
set_option linter.unusedSimpArgs false
set_option maxHeartbeats 40000000
set_option maxRecDepth 100000
open Go.RowKit
theorem aOO{w:World}{lo hi c n g c':Nat}{d:LL}{A':OA}{x:LI}(h:OSS w lo hi 44 3 (some ⟨g,0,none⟩) c d)(a3:lo<=hi)(ho:OI w hi w A' c' x) :
  OSS (w.setCell ⟨g,n,none⟩ (.slice A' x.length c')) lo w 44 3 (some ⟨g,0,none⟩) c (d.set n x):=by
 obtain⟨rows,hD,a0,a5,a1⟩:=h.cut;have hs:=h.size;have hp:=a1.replace (k:=n) (hi':=w.heap.size) (r:=⟨A',c',x⟩) (base:=hi) ho.2.1 oN a3 hs oN ho.2.2;have a4:=hp.grown a0 oD (aAZ w g n (.slice A' x.length c'));have a2:=aBF a0 n (.slice A' x.length c') rfl;have hz:(w.setCell ⟨g,n,none⟩ (.slice A' x.length c')).heap.size=w.heap.size:=World.size_setCell _ _ _;have h2:=OSS.mk' (w:=w.setCell ⟨g,n,none⟩ (.slice A' x.length c')) (tI:=3) (rows:=rows.set n ⟨A',c',x⟩) (xss:=d.set n x) (by rw[aSv];exact a2) (by rw[hz];exact a4) (by rw[aSu,hD]);rw[hz] at h2;exact h2
def aKE:Nat->Nat × Nat
|0=>(1,2)
|n+1=>((aKE n).2,(aKE n).1+(aKE n).2)
theorem aRD:∀ n,1<=(aKE n).1/\(aKE n).1<=(aKE n).2
|0=>by decide
|n+1=>by have:=aRD n;simp only[aKE];omega
theorem aVG{t:Nat}(h:t<=2):(aKE t).1<=3/\(aKE t).2<=5:=by
 rcases(show t=0 \/ t=1 \/ t=2 by omega) with rfl|rfl|rfl <;> decide
structure FibW (t:Nat) (l:LL):Prop where
 one:∀ xs∈l,LtW xs/\Rd xs/\xs.length<=(aKE t).1
 two:∀(i k:Nat) (a b:LI),i≠k->l[i]?=some a->l[k]?=some b->a.length+b.length<=(aKE t).2
theorem FibW.put{t i:Nat}{l:LL}{x:LI}(h:FibW t l)(hx:LtW x)(hr:Rd x)(hl:x.length<=(aKE t).2):FibW (t+1) (l.set i x):=by
 have hf:=aRD t;refine⟨fun xs hm=>?_,fun j k a b hjk ha hb=>?_⟩
 .rcases List.mem_or_eq_of_mem_set hm with hm|rfl
  .have:=h.one xs hm
   exact⟨this.1,this.2.1,by have:=this.2.2;simp only[aKE];omega⟩
  exact⟨hx,hr,by simp only[aKE];omega⟩
 have one:∀ {j:Nat} {a:LI},j≠i->(l.set i x)[j]?=some a->a.length<=(aKE t).1/\l[j]?=some a:=by
  intro j a hj ha;rw[List.getElem?_set_ne (fun e=>hj e.symm)] at ha;exact⟨(h.one a (oG ha)).2.2,ha⟩
 have a0:∀ {a:LI},(l.set i x)[i]?=some a->a=x:=by
  intro a ha;rw[List.getElem?_set] at ha;simp at ha;exact ha.2.symm
 simp only[aKE];by_cases hj:j=i
 .subst hj
  have h1:=a0 ha;have h2:=(one (fun e=>hjk e.symm) hb).1;subst h1;omega
 have h1:=one hj ha;by_cases hk:k=i
 .subst hk
  have h2:=a0 hb;subst h2;omega
 have:=h.two j k a b hjk h1.2 (one hk hb).2;omega
theorem aTN(r:Nat)(a0:r<=3):FibW 0 (idW r):=by
 refine⟨fun xs hx=>?_,fun i k a b _ ha hb=>?_⟩
 .simp only[idW,List.mem_map,List.mem_range] at hx
  obtain⟨i,hi,rfl⟩:=hx;exact⟨fun x hx=>by simp at hx;subst hx;unfold Lt3;omega,fun a b x h=>by have:=congrArg List.length h;simp at this;omega,by simp[aKE]⟩
 simp only[idW,List.getElem?_map] at ha hb;obtain⟨x,_,rfl⟩:=Option.map_eq_some_iff.1 ha;obtain⟨y,_,rfl⟩:=Option.map_eq_some_iff.1 hb;simp[aKE]
theorem aVn(r:Nat)(a0:1<=r)(a1:r<=3)(w:World) :
  Calls Tryz.prog 83 #[.int .i64 r] w fun e w'=>∃ A c,e=.returned (.tuple #[.agg #[.int .i64 r,.slice A r c],.bool true])/\OSS w' w.heap.size w'.heap.size 44 3 A c (idW r)/\Mid 0 0 w w':=by
 have hi:idM (r:Int)=⟨r,idW r⟩:=by unfold idM;rw[if_pos oO];rfl
 have hb:idB (r:Int)=true:=by simp[idB,inB];omega
 have:=aDk (r:Int) w;rw[hi,hb] at this;simp only[aFD] at this;exact this
theorem aMh{w:World}{lo hi c n g:Nat}{d:LL}(h:OSS w lo hi 44 3 (some ⟨g,0,none⟩) c d)(hn:n<d.length):(∃ u,w.cell? ⟨g,n,none⟩=some u)/\w.frozen? ⟨g,n,none⟩=false:=by
 obtain⟨rows,hD,a0,a2,a1⟩:=h.cut;obtain⟨u,_,hu⟩:=aEC a0 hn;exact⟨⟨u,hu⟩,a0.frozenAt n⟩
theorem aKc(p:Nat)(A:OA)(bs:LI)(c:Nat)(w:World)(hb:OkB bs)(hl:bs.length<=1048576)(h:Cur w p A bs c) :
  Calls Tryz.prog 92 #[.pointer (some ⟨p,0,none⟩)] w fun e w'=>∃ r A' c' l,e=.returned (.agg #[.int .i64 r,.slice A' (List.length l) c'])/\(1<=r/\r<=3/\(l.length:Int)=r/\∀ xs∈l,LtW xs/\Rd xs/\xs.length<=5)/\OSS w' w.heap.size w'.heap.size 44 3 A' c' l/\Cur w' p A bs c/\Mid p (p+1) w w':=by
 have bU:=h.lt;have aJ:=oE w (.cells #[(0:Int),.slice none 0 0] 76);have B2:=oJ w #[(0:Int),.slice none 0 0] 76;obtain⟨w1,bZ⟩:∃ x,w.alloc (.cells #[.int .i64 0,.slice none 0 0] 76)=x:=⟨_,rfl⟩
 have h1:=h.mid aJ (Or.inr rfl);go_enter Tryz.func92,Tryz.ntmps92
 rw[bZ] at B2 aJ h1;have cG:w.heap.size<w1.heap.size:=B2.1;have ag:=oE w1 (.cells #[(1:Int),(2:Int),(2:Int),(2:Int),(3:Int)] 3);have aq:=oJ w1 #[(1:Int),(2:Int),(2:Int),(2:Int),(3:Int)] 3;have h0:=h1.mid ag (Or.inr rfl);have e1:(w.alloc (.cells #[(0:Int),.slice none 0 0] 76)).heap.size=w1.heap.size:=by rw[bZ]
 go_wp2_with fail;generalize w1.alloc (.cells #[(1:Int),(2:Int),(2:Int),(2:Int),(3:Int)] 3)=w2 at aq h0 ag |-;have bp:w1.heap.size<w2.heap.size:=aq.1;have bV:RI w2 w1 (w1.heap.size+1) (some ⟨w1,0,none⟩) [1,2,2,2,3]:=
  ⟨bp,fun _=>⟨w1.heap.size,0,rfl,oN,oS,fun j u hu=>by rw[Nat.zero_add];exact aq.2.1 j u (by simpa [aAe] using hu)⟩⟩
 with_reducible refine(aDC (some ⟨w1,0,none⟩) [1,2,2,2,3] 5 5 rfl oD oD p A bs c _ w1 _ bV oL hb hl h0).mono ?_
 rintro e w3 ⟨r,rfl,bW,h3,m3⟩;have hr:1<=r/\r<=3:=by simp at bW;omega
 obtain⟨R,rfl⟩:=Int.eq_ofNat_of_zero_le (show 0<=r by omega);have hR:1<=R/\R<=3:=by omega
 have bT:=(aJ.zero.trans ag.zero).trans m3;have B3:=(B2.mid ag oZr).mid m3;have br:=m3.size;have bq:w1.heap.size<w3.heap.size:=by omega
 clear bV aq bW h0 ag m3 B2 h1 aJ e1 hr;go_wp2_with fail;with_reducible refine(aVn R hR.1 hR.2 w3).mono ?_
 rintro e w4 ⟨Ai,ci,rfl,ho,m4⟩;have bt:=m4.size;obtain⟨g,hg⟩:∃ g,w4.heap.size=g:=⟨_,rfl⟩
 have aB:=oE w4 (.cells #[R,.slice Ai R ci] 76);have B4:=oJ w4 #[R,.slice Ai R ci] 76;have av:=ho.mid aB oZl;have h4:=(h3.mid m4 (Or.inr rfl)).mid aB (Or.inr rfl);have B5:=(B3.mid m4 oZr).mid aB oZr;have b5:=(bT.trans m4.zero).trans aB.zero;obtain⟨gi,bk⟩:∃ gi,Ai=some ⟨gi,0,none⟩/\w3.heap.size<=gi/\gi<g:=by
  obtain⟨rows,hD,b8,bS,bX⟩:=ho.cut;obtain⟨gi,rfl,h1,h2⟩:=aAS b8 (by rw[aFD];omega);exact⟨gi,rfl,h1,oO⟩
 obtain⟨rfl,bl,c9⟩:=bk;go_wp2_with fail;obtain⟨w5,ba⟩:∃ x,w4.alloc (.cells #[.int .i64 R,.slice (some ⟨gi,0,none⟩) R ci] 76)=x:=⟨_,rfl⟩
 rw[ba] at aB B4 av h4 B5 b5 |-;rw[hg] at B4 av;have c6:g<w5.heap.size:=B4.1;clear h3 m4 aB B3 bT ba ho;with_reducible refine(aGL 3 oD oD p A bs c _ hb hl h4).mono ?_
 rintro e w6 ⟨b6,rfl,h6,m6⟩;have cH:=m6.size;have O6:=av.mid m6;replace B4:=B4.mid m6;replace B5:=B5.mid m6;have b7:=b5.trans m6;obtain⟨lo,bR⟩:∃ x,w3.heap.size=x:=⟨_,rfl⟩
 rw[bR] at O6 bl bt;have cE:w1.heap.size<lo:=by omega
 have cD:lo<g:=by omega
 clear av h4 m6 b5 bR br;cases b6
 .go_wp2_with fail
  with_reducible refine(aAQ 4 oD oD p A bs c _ hb hl h6).mono ?_
  rintro e w7 ⟨n0,rfl,cF,h7,m7⟩;have bu:=m7.size;have O7:=oH ((O6.mid m7).wide (hi':=w7.heap.size) oN oO oN);replace B4:=B4.mid m7;replace B5:=B5.mid m7;have bo:=b7.trans m7;clear O6 h6 m7 b7;go_wp2_with fail;go_loopw [7] (fun nv wr=>∃(n t:Nat) (l:LL),nv=.int .i64 n/\t+n<=3/\Hid (l.length=R)/\Hid (FibW t l)/\Hid (OSS wr lo wr.heap.size 44 3 (some ⟨gi,0,none⟩) ci l)/\Box wr g [.int .i64 R,.slice (some ⟨gi,0,none⟩) R ci]/\Box wr w.heap.size [.int .i64 0,.slice none 0 0]/\Cur wr p A bs c/\Mid p (p+1) w wr)
   (fun nv _=>aQW nv)
  case atStart=>exact⟨n0,0,idW R,rfl,oO,oH (aFD R),oH (aTN R hR.2),O7,B4,B5,h7,bo⟩
  obtain⟨n,t,l,rfl,cK,HLl,HF,HO,hB,a7,hC,hM⟩:=hrel;have bv:g<wr.heap.size:=hB.1;by_cases bS:0<n
  .go_wp2_with fail
   with_reducible refine(aAQ (R:Int) oO oO p A bs c _ hb hl hC).mono ?_
   rintro e w8 ⟨i,rfl,hi,bP,m8⟩;have cI:=m8.size;have M8:=hM.trans m8;have bJ:=hB.mid m8;have aa:=a7.mid m8;have O8:=HO.out.mid m8;clear hC hM hB a7 HO m8;go_wp2_with fail;with_reducible refine(aAQ (R:Int) oO oO p A bs c _ hb hl bP).mono ?_
   rintro e w9 ⟨k,rfl,hk,bQ,m9⟩;have cJ:=m9.size;have M9:=M8.trans m9;have am:=bJ.mid m9;have ab:=aa.mid m9;have O9:=(O8.mid m9).wide (hi':=w9.heap.size) oN oO oN;have c8:g<w9.heap.size:=am.1;clear bP M8 bJ aa O8 m9;have au:=HLl.out;obtain⟨b_,bx,Aw,cw,v0,aQ,c1,c2,bE,b4,ak⟩:=O9.rss.row (k:=k) oO;injection aQ with aQ
   injection aQ with hbb1 hbb2
   subst hbb1;subst hbb2;rw[Nat.zero_add] at b4;have aj:=HF.out.one v0 (oG bE);have bd:=oH bE;have a4:=oH aj;obtain⟨V,hV⟩:∃ n,v0.length=n:=⟨_,rfl⟩
   have HV:=oH hV;rw[hV] at b4;have k1:=am.cell 1 rfl;have cC:(k:Int)<(R:Int):=hk;have cB:(0:Int)<=(k:Int):=by omega
   have bM:=oH O9;clear bE aj hV O9;go_wp2_with fail;with_reducible refine(aGL 2 oD oD p A bs c _ hb hl bQ).mono ?_
   rintro e aw ⟨bf,rfl,aI,aS⟩;have al:=aS.size;have an:=M9.trans aS;have aG:=am.mid aS;have a8:=ab.mid aS;have ao:=oH ((bM.out.mid aS).wide (hi':=aw.heap.size) oN al oN);have a9:=RV.wide (ak.mid aS) oN al oN;clear bQ M9 am ab bM aS ak k1 b4;cases bf
   focus
    obtain⟨a5,rfl⟩:∃ x,x=aw:=⟨_,rfl⟩
    obtain⟨Av,rfl⟩:∃ x,x=Aw:=⟨_,rfl⟩
    obtain⟨cv,rfl⟩:∃ x,x=cw:=⟨_,rfl⟩
    obtain⟨v,hv⟩:∃ x,x=v0:=⟨_,rfl⟩
    have aV:Hid (v.length=V):=oH (by rw[hv];exact HV.out);have aM:Hid (LtW v/\Rd v):=oH (by rw[hv];exact⟨a4.out.1,a4.out.2.1⟩);have rv:RV a5 0 a5 Av (aAe v):=by rw[hv];exact a9.wide oZ oN oN
    have aW:=ao;have a2:=aG;have a1:=a8;have aK:=aI;have aL:=an;clear hv a9 ao aG a8 aI an
   rotate_left
   focus
    have aU:=aFj Aw v0 cw aw a9.rsS a4.out.1.ok (by have:=a4.out.2.2;have:=HV.out;have h9:=aVG (t:=t) oO;omega);rw[HV.out] at aU;obtain⟨v,hv⟩:∃ x,aAE v0=x:=⟨_,rfl⟩
    have bF:v.length=V:=by rw[<- hv,aBE];exact HV.out
    rw[hv,bF] at aU;have aU:=oH aU;have aV:=oH bF;have aM:Hid (LtW v/\Rd v):=oH (by rw[<- hv];exact⟨a4.out.1.inv,a4.out.2.1.inv a4.out.1⟩);clear bF hv;go_wp2_with fail;with_reducible refine(aU.out).mono ?_
    rintro e a5 ⟨Av,cv,rfl,ai,ah⟩;have aT:Mid 0 0 aw a5:=Mid.of_below ah;have b9:=aT.size;have rv:RV a5 0 a5 Av (aAe v):=(aAz ai).wide oZ oN oN;have aW:=oH ((ao.out.mid aT oZl).wide (hi':=a5.heap.size) oN b9 oN);have a2:=aG.mid aT oZr;have a1:=a8.mid aT oZr;have aK:=aI.mid aT (Or.inr rfl);have aL:=an.trans aT.zero;clear ai ah aT aU a9 ao aG a8 aI an
   rotate_left
   all_goals
    have bz:V<=3:=by have:=a4.out.2.2;have:=HV.out;have h9:=aVG (t:=t) oO;omega
    by_cases hik:i=k
    .subst hik
     have az:=oH (fun W (h:RV W 0 W Av (aAe v))=>aFj Av v cv W h.rsS aM.out.1.ok (by have:=aV.out;omega));obtain⟨x,hx⟩:∃ x,aAE v=x:=⟨_,rfl⟩
     have bG:x.length=V:=by rw[<- hx,aBE];exact aV.out
     have bK:Hid (LtW x/\Rd x):=oH (by rw[<- hx];exact⟨aM.out.1.inv,aM.out.2.inv aM.out.1⟩);rw[hx,bG,aV.out] at az;have b0:=oH bG;replace a2:=a2.mid (Mid.drew1 a5) oZr;replace a1:=a1.mid (Mid.drew1 a5) oZr;replace aK:=aK.mid (Mid.drew1 a5) (Or.inr rfl);replace aL:=aL.trans (Mid.drew1 a5).zero;have aX:=(aW.out.mid (Mid.drew1 a5) oZl).wide oN oN oN;have aY:=(rv.mid (Mid.drew1 a5) oZl).wide oN oN oN;have k1:=a2.cell 1 rfl;clear aW rv hx bG;go_wp2_with fail;refine aAo (S:=(fun w'=>w'.cell? ⟨g,1,none⟩=some (.slice (some ⟨gi,0,none⟩) R ci))) [] oK k1 ?_;generalize World.drew a5=wz at a2 a1 aK aL aX aY k1 |-;have aX:=aX.wide (hi':=wz.heap.size) oN aX.size oN;have aY:RV wz 0 wz Av (aAe v):=aY.wide oN aY.1 oN;have bm:g<wz.heap.size:=a2.1;refine tkZ [] 0 rfl k1 ?_;try simp only[oP]
     refine tkZ [] 1 rfl k1 ?_;try simp only[oP]
     refine tkZ [] 2 rfl k1 ?_;try simp only[oP]
     refine tkZ [] 3 rfl k1 ?_;try simp only[oP]
     refine rdZ 4 rfl (fun K hK=>?_)
     (go_simp;(with_reducible refine(az.out wz aY).mono ?_);rintro e aD ⟨A12,aP,rfl,aF,aC⟩;have a3:=a2.mid (Mid.of_below (lo:=0) (hi:=0) aC) oZr;go_wp2_with fail)
     refine hK.out _ _ (Or.inr (a3.cell 1 rfl)) (fun _=>?_);clear hK K;try simp only[oP]
     have aA:Mid 0 0 wz aD:=Mid.of_below aC;have bH:=a3.cell 1 rfl;have bA:=aA.size;have aN:=aX.mid aA oZl;have a6:=a1.mid aA oZr;have aZ:=aK.mid aA (Or.inr rfl);have af:=aL.trans aA.zero;obtain⟨⟨z,hz⟩,ar⟩:=aMh (n:=i) aN oO;have ox:OI aD wz aD A12 aP x:=by unfold OI;rw[b0.out];exact OV.new aF
     have aO:=aOO (n:=i) aN oO ox;rw[b0.out] at aO;have a0:=oU aD gi i (.slice A12 V aP);have aH:=a3.mid a0 oO;have aE:=a6.mid a0 oO;have ax:=aZ.mid a0 oO;have b1:=af.transNew a0 oL;refine tkZ [] 5 rfl bH ?_;try simp only[oP]
     refine rdZ 6 rfl (fun K hK=>?_);go_simp;refine hK.out _ _ (Or.inr (aH.cell 1 rfl)) (fun _=>?_);clear hK K;try simp only[oP]
     refine aAj oK ?_ _;have b2:=oH (aO.wide (hi':=(aD.setCell ⟨gi,i,none⟩ (.slice A12 V aP)).heap.size) oN a0.size oN);have ae:Hid ((l.set i x).length=R):=oH (by rw[List.length_set];exact au);have ay:Hid (FibW (t+1) (l.set i x)):=oH (HF.out.put bK.out.1 bK.out.2 (by have h1:=b0.out;have h2:=HV.out;have h3:=a4.out.2.2;have h4:=(aRD t).2;omega));clear aO aN a0 a3 a6 aZ af ox aA hz ar aX a2 a1 aK aL k1 bH aY az aF aC;go_wp2_with fail;go_roundw
     case rel=>exact⟨n - 1,t+1,l.set i x,by go_num,oO,ae,ay,b2,aH,aE,ax,b1⟩
     simp[aQW];omega
    have d1:((i:Int) == (k:Int))=false:=by simp;omega
    obtain⟨b_,bx,Au,cu,u0,aQ,c4,c5,bC,b3,bY⟩:=aW.out.rss.row (k:=i) oO;injection aQ with aQ
    injection aQ with hbb1 hbb2
    subst hbb1;subst hbb2;rw[Nat.zero_add] at b3;have bD:=HF.out.one u0 (oG bC);have bB:=HF.out.two i k u0 v0 hik bC bd.out;have h9:=aVG (t:=t) oO;have bg:u0.length+v.length<=(aKE t).2:=by have h1:=aV.out;have h2:=HV.out;omega
    have ad:=aDU Au Av u0 v cu cv a5 bY.rsS rv.rsS bD.1.ok aM.out.1.ok oO;obtain⟨y,hy⟩:∃ x,red [] (u0++v)=x:=⟨_,rfl⟩
    have bw:y.length<=u0.length+v.length:=by rw[<- hy];have:=aMr [] (u0++v);rw[List.length_append] at this;simpa using this
    have aR:LtW (u0++v):=fun z hz=>(List.mem_append.1 hz).elim (bD.1 z) (aM.out.1 z);have ay:Hid (FibW (t+1) (l.set i y)):=oH (HF.out.put (by rw[<- hy];exact LtW.red LtW.nil aR) (by rw[<- hy];exact aHO aR) oO);have ae:Hid ((l.set i y).length=R):=oH (by rw[List.length_set];exact au);obtain⟨U,hU⟩:∃ n,u0.length=n:=⟨_,rfl⟩
    obtain⟨Y,hY⟩:∃ n,y.length=n:=⟨_,rfl⟩
    have c0:(Y:Int)<=8:=by omega
    rw[hy,hU,aV.out,hY] at ad;rw[hU] at b3;have ad:=oH ad;have bL:=oH hY;have k1:=a2.cell 1 rfl;have bn:(0:Int)<=(i:Int):=by omega
    clear hy bw aR hU hY bg bB bD bC bY;go_wp2_with fail;with_reducible refine(ad.out).mono ?_
    rintro e aD ⟨A12,aP,rfl,aF,aC⟩;have aA:Mid 0 0 a5 aD:=Mid.of_below aC;have bA:=aA.size;have aN:=aW.out.mid aA oZl;have a3:=a2.mid aA oZr;have a6:=a1.mid aA oZr;have aZ:=aK.mid aA (Or.inr rfl);have af:=aL.trans aA.zero;have bj:g<aD.heap.size:=a3.1;obtain⟨⟨z,hz⟩,ar⟩:=aMh (n:=i) aN oO;have ox:OI aD a5 aD A12 aP y:=by unfold OI;rw[bL.out];exact OV.new aF
    have bi:g<a5.heap.size:=a2.1;have aO:=aOO (n:=i) aN oO ox;rw[bL.out] at aO;have a0:=oU aD gi i (.slice A12 Y aP);have aH:=a3.mid a0 oO;have aE:=a6.mid a0 oO;have ax:=aZ.mid a0 oO;have b1:=af.transNew a0 oL;have b2:=oH (aO.wide (hi':=(aD.setCell ⟨gi,i,none⟩ (.slice A12 Y aP)).heap.size) oN a0.size oN);have bH:=a3.cell 1 rfl;clear aO aN a0 a3 a6 aZ af ox aA aW a2 a1 aK aL k1 b3 ad aF aC rv;go_wp2_with fail;go_roundw
    case rel=>exact⟨n - 1,t+1,l.set i y,by go_num,oO,ae,ay,b2,aH,aE,ax,b1⟩
    simp[aQW];omega
  have HW:Hid (∀ xs∈l,LtW xs/\Rd xs/\xs.length<=5):=oH (fun xs hx=>by
   have h1:=HF.out.one xs hx;have h2:(aKE t).1<=5:=by
    rcases(show t=0 \/ t=1 \/ t=2 \/ t=3 by omega) with rfl|rfl|rfl|rfl <;> decide
   exact⟨h1.1,h1.2.1,oO⟩)
  have q0:=hB.cell 0 rfl;have q1:=hB.cell 1 rfl;have p0:=a7.cell 0 rfl;have p1:=a7.cell 1 rfl;have pf:=a7.2.2;have bh:=a7.1;have a0:=(oU wr w 0 (.int .i64 (R:Int))).trans (oU _ w 1 (.slice (some ⟨gi,0,none⟩) R ci));have C9:=oH (hC.mid a0 (Or.inl bU));have M9:=oH (hM.transNew a0 (Or.inl oN));have O9:=oH ((HO.out.mid a0).wide (lo':=w.heap.size) oO a0.size oN);clear a0 hC hM HO;go_wp2_with fail;refine oW (v:=.agg #[.int .i64 (R:Int),.slice (some ⟨gi,0,none⟩) R ci]) (by simp[results,Tryz.results92,go_sem,p0,p1,pf,q0,q1]) rfl ⟨(R:Int),some ⟨gi,0,none⟩,ci,l,?_,⟨oO,oO,by rw[HLl.out],HW.out⟩,O9.out,C9.out,M9.out⟩;rw[HLl.out]
 go_wp2_with fail;go_loopw [6] (fun iv wr=>∃(i:Nat) (l:LL),iv=.int .i64 i/\Hid (i<=R)/\Hid (l.length=R)/\Hid (∀ xs∈l,LtW xs/\Rd xs/\xs.length<=5)/\Hid (OSS wr lo wr.heap.size 44 3 (some ⟨gi,0,none⟩) ci l)/\Box wr g [.int .i64 R,.slice (some ⟨gi,0,none⟩) R ci]/\Box wr w.heap.size [.int .i64 0,.slice none 0 0]/\Cur wr p A bs c/\Mid p (p+1) w wr)
  (fun iv _=>R - (intOf iv).toNat)
 case atStart=>exact⟨0,idW R,rfl,oH oZ,oH (aFD R),oH (fun xs hx=>by have:=(aTN R hR.2).one xs hx;exact⟨this.1,this.2.1,by have:=this.2.2;simp only[aKE] at this;omega⟩),oH (O6.wide oN oO oN),B4,B5,h6,b7⟩
 obtain⟨i,l,rfl,HI,HLl,HW,HO,hB,a7,hC,hM⟩:=hrel;have hi:=HI.out;by_cases bS:i<R
 .have cA:(i:Int)<(R:Int):=by omega
  have bn:(0:Int)<=(i:Int):=by omega
  have au:=HLl.out;replace hB:=hB.mid (Mid.drew1 wr) oZr;replace a7:=a7.mid (Mid.drew1 wr) oZr;replace hC:=hC.mid (Mid.drew1 wr) (Or.inr rfl);replace hM:=hM.trans (Mid.drew1 wr).zero;have hO:=(HO.out.mid (Mid.drew1 wr) oZl).wide oN oN oN;have k1:=hB.cell 1 rfl;clear HO;go_wp2_with fail;refine aAo (S:=(fun w'=>w'.cell? ⟨g,1,none⟩=some (.slice (some ⟨gi,0,none⟩) R ci))) [] oK k1 ?_;generalize World.drew wr=wz at hB a7 hC hM hO k1 |-;have hO:=hO.wide (hi':=wz.heap.size) oN hO.size oN;have bm:g<wz.heap.size:=hB.1;refine tkZ [] 0 rfl k1 ?_;try simp only[oP]
  refine tkZ [] 1 rfl k1 ?_;try simp only[oP]
  refine tkZ [] 2 rfl k1 ?_;try simp only[oP]
  refine tkZ [] 3 rfl k1 ?_;try simp only[oP]
  refine tkZ [] 4 rfl k1 ?_;try simp only[oP]
  refine rdZ 5 rfl (fun K hK=>?_)
  (go_simp;(with_reducible refine(aMa (R:Int) oO oO 3 oD oD p A bs c _ hb hl hC).mono ?_);rintro e w7 ⟨A7,c7,x,rfl,hx,ox,bO,m7⟩;have ap:=hB.mid m7;go_wp2_with fail)
  refine hK.out _ _ (Or.inr (ap.cell 1 rfl)) (fun _=>?_);clear hK K;try simp only[oP]
  have bb:=ap.cell 1 rfl;have bu:=m7.size;have O7:=hO.mid m7;have bI:=a7.mid m7;have M7:=hM.trans m7;obtain⟨⟨u,hu⟩,ar⟩:=aMh (n:=i) O7 oO;have O8:=aOO (n:=i) O7 oO ox;have a0:=oU w7 gi i (.slice A7 x.length c7);have bN:=ap.mid a0 oO;have bc:=bI.mid a0 oO;have C8:=bO.mid a0 oO;have M8:=M7.transNew a0 oL;have HX:=oH hx;refine tkZ [] 6 rfl bb ?_;try simp only[oP]
  refine rdZ 7 rfl (fun K hK=>?_);go_simp;refine hK.out _ _ (Or.inr (bN.cell 1 rfl)) (fun _=>?_);clear hK K;try simp only[oP]
  refine aAj oK ?_ _;have O9:=oH (O8.wide (hi':=(w7.setCell ⟨gi,i,none⟩ (.slice A7 x.length c7)).heap.size) oN a0.size oN);have ae:Hid ((l.set i x).length=R):=oH (by rw[List.length_set];exact au);have be:Hid (∀ xs∈l.set i x,LtW xs/\Rd xs/\xs.length<=5):=oH (by
   intro xs hm;rcases List.mem_or_eq_of_mem_set hm with hm|rfl
   .exact HW.out xs hm
   .exact⟨HX.out.2.1,HX.out.2.2,by have:=HX.out.1;omega⟩)
  clear O8 a0 ap bI bO M7 O7 ox m7 hx hu ar hO hB a7 hC hM k1 bb HX;go_wp2_with fail;go_roundw
  case rel=>exact⟨i+1,l.set i x,by go_num,oH oO,ae,be,O9,bN,bc,C8,M8⟩
  simp[intOf];omega
 obtain rfl:i=R:=by omega
 have bv:g<wr.heap.size:=hB.1;have q0:=hB.cell 0 rfl;have q1:=hB.cell 1 rfl;have p0:=a7.cell 0 rfl;have p1:=a7.cell 1 rfl;have pf:=a7.2.2;have bh:=a7.1;have a0:=(oU wr w 0 (.int .i64 (i:Int))).trans (oU _ w 1 (.slice (some ⟨gi,0,none⟩) i ci));have C9:=oH (hC.mid a0 (Or.inl bU));have M9:=oH (hM.transNew a0 (Or.inl oN));have O9:=oH ((HO.out.mid a0).wide (lo':=w.heap.size) oO a0.size oN);clear a0 hC hM HO;go_wp2_with fail;refine oW (v:=.agg #[.int .i64 (i:Int),.slice (some ⟨gi,0,none⟩) i ci]) (by simp[results,Tryz.results92,go_sem,p0,p1,pf,q0,q1]) rfl ⟨(i:Int),some ⟨gi,0,none⟩,ci,l,?_,⟨oO,oO,by rw[HLl.out],HW.out⟩,O9.out,C9.out,M9.out⟩;rw[HLl.out]
def MoB(r:Int)(l:LL):Prop:=(-1<=r/\r<=5)/\l.length<=4/\∀ xs∈l,LtW xs/\Rd xs/\xs.length<=5
theorem MoB.sum{r:Int}{l:LL}(h:MoB r l):aAK l<=20:=by
 have h1:=aKz (b:=5) (fun xs hx=>(h.2.2 xs hx).2.2);have:=h.2.1;omega
theorem MoB.len{r:Int}{l:LL}(h:MoB r l):l.length+aAK l<=1048576:=by
 have h1:=h.sum;have h2:=h.2.1;omega
theorem MoB.ok{r:Int}{l:LL}(h:MoB r l):OkSS l:=⟨⟨by have:=h.2.1;omega,fun xs hx=>by have:=(h.2.2 xs hx).2.2;omega⟩,fun xs hx=>(h.2.2 xs hx).1.ok⟩
theorem MoB.wf{r:Int}{l:LL}(h:MoB r l):(Lit.int .i64 r).wf=true:=by
 have:=h.1;simp[Lit.wf,IntKind.min,IntKind.max,IntKind.signed,IntKind.bits];omega
theorem MoB.rank{r:Int}{l:LL}(h:MoB r l){k:Int}(h1:-1<=k)(h2:k<=5):MoB k l:=⟨⟨h1,h2⟩,h.2⟩
theorem MoB.add{r:Int}{l:LL}(h:MoB r l)(h3:l.length<=3):MoB r (l++[[1]]):=by
 refine⟨h.1,by simp;omega,fun xs hx=>?_⟩;rcases List.mem_append.1 hx with hx|hx
 .exact h.2.2 xs hx
 rw[List.mem_singleton] at hx;subst hx;exact⟨LtW.one (by unfold Lt3;omega),Rd.one 1,by simp⟩
theorem aUG{w6 w7:World}{lo gb n c c7:Nat}{A A7:OA}{l:LL}{rows:List Row}{u:Value}(a0:aAt rows=l)(a8:lo<=gb)(a7:gb<w6.heap.size)(a5:w6.ownsRow lo 44 1 (.slice A n c) n (aBi rows))(a4:∀ g,Value.ownBlock (.slice A n c)=some g->g<gb)(a3:OwnRows w6 lo gb 3 rows)(h1:w7.ownsRow lo 44 1 (.slice A7 (n+1) c7) (n+1) (aBi rows++[Row.v ⟨some ⟨w6,0,none⟩,1,[1]⟩]))(h2:(w6.alloc (.cells #[(1:Int)] 3)).grownBy w7 (Value.ownBlock (.slice A n c)))(h3:Value.ownBlock (.slice A7 (n+1) c7)=Value.ownBlock (.slice A n c) \/ Value.ownBlock (.slice A7 (n+1) c7)=some (w6.heap.size+1+1)) :
  OSS (w7.setCell ⟨gb,1,none⟩ u) lo (w7.setCell ⟨gb,1,none⟩ u).heap.size 44 3 A7 c7 (l++[[1]])/\Mid lo gb w6 w7:=by
 have a1:=oE w6 (.cells #[(1:Int)] 3);have hz:(w6.alloc (.cells #[(1:Int)] 3)).heap.size=w6.heap.size+1:=World.size_alloc _ _;have m7:Mid lo gb (w6.alloc (.cells #[(1:Int)] 3)) w7:=Mid.of_grown h2 fun g hg=>⟨(a5.lt g hg).1,a4 g hg⟩
 have a9:=m7.size;have a6:=oU w7 gb 1 u;have r7:=(((a3.mid a1 oZl).grown (aAb a5 a1 oZl) oD h2).mid a6 (Or.inr oN))
 have a2:=aMj w6 3 (.int .i64 1);have n7:=aAb (aAb a2 m7 oL) a6 oL;have o7:(w7.setCell ⟨gb,1,none⟩ u).ownsRow lo 44 1 (.slice A7 (n+1) c7) (n+1) (aBi rows++[Row.v ⟨some ⟨w6,0,none⟩,1,[1]⟩]):=by
  refine h1.kept (aAZ w7 gb 1 u) ?_;rcases h3 with h3|h3
  .rw[h3]
   cases hv:Value.ownBlock (.slice A n c) with
  |none=>exact .inl rfl
  |some j=>exact .inr fun e=>by have:=a4 j hv;injection e with e;omega
  rw[h3];exact .inr fun e=>by injection e with e;omega
 refine⟨OSS.mk' (rows:=rows++[⟨some ⟨w6,0,none⟩,1,[1]⟩]) (by rw[aBg];exact o7) ?_ (by rw[aAv,a0];rfl),a1.zero.trans m7⟩;exact OwnRows.push r7 (r:=⟨some ⟨w6,0,none⟩,1,[1]⟩) (base:=w6.heap.size) n7 oO oO (by rw[World.size_setCell];omega) oN (fun g hg=>(n7.lt g hg).2)
theorem aCX(p:Nat)(A:OA)(bs:LI)(c:Nat)(w:World)(hb:OkB bs)(hl:bs.length<=1048576)(h:Cur w p A bs c) :
  Calls Tryz.prog 145 #[.pointer (some ⟨p,0,none⟩)] w fun e w'=>∃ r A' c' l,e=.returned (.agg #[.int .i64 r,.slice A' (List.length l) c'])/\MoB r l/\OSS w' w.heap.size w'.heap.size 44 3 A' c' l/\Cur w' p A bs c/\Mid p (p+1) w w':=by
 have aD:=h.lt;have a8:=oE w (.cells #[(0:Int),.slice none 0 0] 76);have B2:=oJ w #[(0:Int),.slice none 0 0] 76;have h0:=h.mid a8 (Or.inr rfl);go_enter Tryz.func145,Tryz.ntmps145
 go_wp2_with fail;generalize w.alloc (.cells #[(0:Int),.slice none 0 0] 76)=w1 at B2 h0 a8 |-;have aP:w.heap.size<w1.heap.size:=B2.1;with_reducible refine(aKc p A bs c _ hb hl h0).mono ?_
 rintro e w3 ⟨r,Ai,ci,l,rfl,hg,hO,h3,m3⟩;have aL:=m3.size;replace B2:=B2.mid m3;have hM:=a8.zero.trans m3;have aH:l.length<=3:=by have:=hg.2.1;have:=hg.2.2.1;omega
 have HG:Hid (MoB r l):=oH ⟨⟨by have:=hg.1;omega,by have:=hg.2.1;omega⟩,oO,hg.2.2.2⟩;obtain⟨L,hL⟩:∃ n,l.length=n:=⟨_,rfl⟩
 have HL:=oH hL;rw[hL] at aH |-;have a3:=oE w3 (.cells #[r,.slice Ai L ci] 76);have G5:=oJ w3 #[r,.slice Ai L ci] 76;obtain⟨gb,aB⟩:∃ g,w3.heap.size=g:=⟨_,rfl⟩
 clear hg hL h0 m3 a8;go_wp2_with fail;replace B2:=B2.mid a3 oZr;have hC:=h3.mid a3 (Or.inr rfl);replace hM:=hM.trans a3.zero;have a7:=hO.mid a3 oZl;rw[aB] at G5 a7 aL;try rw[aB]
 obtain⟨w5,aI⟩:∃ x,w3.alloc (.cells #[.int .i64 r,.slice Ai L ci] 76)=x:=⟨_,rfl⟩
 rw[aI] at B2 hC hM a7 G5 |-;clear h3 hO a3 aI aB;with_reducible refine(aAQ 16 oD oD p A bs c _ hb hl hC).mono ?_
 rintro e w6 ⟨n,rfl,hn,a2,m6⟩;have aQ:=m6.size;have aK:gb<w6.heap.size:=by have:=G5.1;omega
 replace B2:=B2.mid m6;replace G5:=G5.mid m6;replace hM:=hM.trans m6;have O6:=(a7.mid m6).wide (lo':=w1.heap.size) oN (hi':=gb) oN oO;clear hC m6 a7;by_cases h0:n=0
 .subst h0
  go_wp2_with fail;with_reducible refine(aAQ 6 oD oD p A bs c _ hb hl a2).mono ?_
  rintro e w7 ⟨k,rfl,hk,aE,m7⟩;have aM:=m7.size;replace B2:=B2.mid m7;replace G5:=G5.mid m7;replace hM:=hM.trans m7;have O7:=O6.mid m7;obtain⟨kr,aG⟩:∃ x:Int,(k:Int) - 1=x:=⟨_,rfl⟩
  have aR:IntKind.i64.wrap ((k:Int) - 1)=kr:=by rw[<- aG];exact oI _
  have aA:Hid (MoB kr l):=oH (HG.out.rank oO oO);have a0:=oU w7 gb 0 kr;have G8:=G5.set 0 kr oM rfl;simp only[List.set_cons_zero] at G8;have B8:=B2.mid a0;have C8:=aE.mid a0;have M8:=hM.transNew a0 oL;have O8:=O7.mid a0;have g0:=G5.cell 0 rfl;have g1:=G5.cell 1 rfl;have gf:=G5.2.2;have gl:=G5.1;clear a0 a2 aE m7 hM O7 O6 B2 aG hk G5;have q0:=G8.cell 0 rfl;have q1:=G8.cell 1 rfl;have p0:=B8.cell 0 rfl;have p1:=B8.cell 1 rfl;have pf:=B8.2.2;have aF:=G8.1;have a1:=(oU (w7.setCell ⟨gb,0,none⟩ kr) w.heap.size 0 kr).trans (oU _ w 1 (.slice Ai L ci));have C9:=oH (C8.mid a1 (Or.inl aD));have M9:=oH (M8.transNew a1 (Or.inl oN));have O9:=oH ((O8.mid a1).wide (lo':=w.heap.size) oO (oV O8.size a1.size) oN);clear a1 C8 M8 O8;go_wp2_with fail;refine oW (v:=.agg #[kr,.slice Ai L ci]) (by simp[results,Tryz.results145,go_sem,p0,p1,pf,q0,q1]) rfl ⟨kr,Ai,ci,l,?_,aA.out,O9.out,C9.out,M9.out⟩;rw[HL.out]
 .have d0:((n:Int) == 0)=false:=by simp;omega
  by_cases h1:n=1
  .subst h1
   obtain⟨rows,a6,a9,aC,a5⟩:=O6.cut;rw[HL.out] at a9 aC;have a4:=aAb a9 (oE w6 (.cells #[(1:Int)] 3)) oZl;have g0:=G5.cell 0 rfl;have g1:=G5.cell 1 rfl;have gf:=G5.2.2;have gl:=G5.1;clear O6;go_wp2_with (at_builtin;refine aAk rfl _ _ 24 rfl w1 44 (.slice none 0 0) 1 24 aDl aDi rfl oD _ _ _ rfl a4 1 [.slice (some ⟨w6,0,none⟩) 1 1] (by simp[go_sem]) rfl ?c1 ?c2 ?c3 (by simp;omega) ?next)
   case c1=>intro u hu;simp at hu;subst hu;rfl
   case c2=>unfold maxLen;omega
   case c3=>omega
   case next=>
    intro v7 w7 h1 h2 h3;obtain⟨A7,c7,rfl, -, -⟩:=aAc h1;obtain⟨O8,m7⟩:=aUG (u:=.slice A7 (L+1) c7) a6 oO aK a9 aC a5 h1 h2 h3;have aM:=m7.size;have a0:=oU w7 gb 1 (.slice A7 (L+1) c7);have G7:=G5.mid m7 (Or.inr oN);have G8:=G7.set 1 (.slice A7 (L+1) c7) oM rfl;simp only[List.set_cons_succ,List.set_cons_zero] at G8;have B7:=B2.mid m7;have B8:=B7.mid a0;have C8:=(a2.mid m7).mid a0;have M8:=(hM.transNew m7 oL).transNew a0 oL;have aA:Hid (MoB r (l++[[1]])):=oH (HG.out.add (by rw[HL.out];exact aH));have aJ:Hid ((l++[[1]]).length=L+1):=oH (by rw[List.length_append,HL.out];rfl);have gw:=G7.cell 0 rfl;have gv:=G7.cell 1 rfl;have aN:=G7.2.2;have aO:=G7.1;clear a0 a2 hM B2 G5 B7 G7 h1 h2 h3 m7 a9 a4 aC a5 g0 g1 gf gl;have q0:=G8.cell 0 rfl;have q1:=G8.cell 1 rfl;have p0:=B8.cell 0 rfl;have p1:=B8.cell 1 rfl;have pf:=B8.2.2;have aF:=G8.1;have a1:=(oU (w7.setCell ⟨gb,1,none⟩ (.slice A7 (L+1) c7)) w 0 r).trans (oU _ w 1 (.slice A7 (L+1) c7));have C9:=oH (C8.mid a1 (Or.inl aD));have M9:=oH (M8.transNew a1 (Or.inl oN));have O9:=oH ((O8.mid a1).wide (lo':=w.heap.size) oO (oV O8.size a1.size) oN);clear a1 C8 M8 O8;go_wp2_with fail;refine oW (v:=.agg #[r,.slice A7 (L+1) c7]) (by simp[results,Tryz.results145,go_sem,p0,p1,pf,q0,q1]) rfl ⟨r,A7,c7,l++[[1]],?_,aA.out,O9.out,C9.out,M9.out⟩;rw[aJ.out]
  have d1:((n:Int) == 1)=false:=by simp;omega
  replace O6:=O6;have q0:=G5.cell 0 rfl;have q1:=G5.cell 1 rfl;have p0:=B2.cell 0 rfl;have p1:=B2.cell 1 rfl;have pf:=B2.2.2;have aF:=G5.1;have a1:=(oU w6 w 0 r).trans (oU _ w 1 (.slice Ai L ci));have C9:=oH (a2.mid a1 (Or.inl aD));have M9:=oH (hM.transNew a1 (Or.inl oN));have O9:=oH ((O6.mid a1).wide (lo':=w.heap.size) oO (oV O6.size a1.size) oN);clear a1 a2 hM O6;go_wp2_with fail;refine oW (v:=.agg #[r,.slice Ai L ci]) (by simp[results,Tryz.results145,go_sem,p0,p1,pf,q0,q1]) rfl ⟨r,Ai,ci,l,?_,HG.out,O9.out,C9.out,M9.out⟩;rw[HL.out]
theorem aEr(A:OA)(bs:LI)(c:Nat)(w:World)(hi:Nat)(hb:OkB bs)(hl:bs.length<=1048576)(hr:RV w 0 hi A (aHb bs)) :
  Calls Tryz.prog 81 #[.slice A bs.length c] w fun e w'=>∃ r:Int,e=.returned (.int .i64 r)/\(-1<=r/\r<=4)/\Mid 0 0 w w':=by
 go_enter Tryz.func81,Tryz.ntmps81
 go_wp2_with fail;with_reducible refine(aEz A bs c w hi hb hl hr).mono ?_
 rintro e w2 ⟨p,rfl,hp,h2,m2⟩;have a0:=h2.lt;go_wp2_with fail;with_reducible refine(aAQ 6 oD oD p A bs c _ hb hl h2).mono ?_
 rintro e w3 ⟨k,rfl,hk,hC,m3⟩;have hM:=m2.transNew m3 oL;have a1:IntKind.i64.wrap ((k:Int) - 1)=(k:Int) - 1:=oI _;clear h2 m2 hC m3;go_wp2_with fail;go_ret;exact⟨(k:Int) - 1,rfl,oO,hM⟩
theorem aHd(A:OA)(bs:LI)(c:Nat)(w:World)(hi:Nat)(hb:OkB bs)(hl:bs.length<=1048576)(hr:RV w 0 hi A (aHb bs)) :
  Calls Tryz.prog 80 #[.slice A bs.length c] w fun e w'=>∃ r A1 c1 l k,e=.returned (.tuple #[.agg #[.int .i64 r,.slice A1 (List.length l) c1],.int .i64 k])/\MoB r l/\(-1<=k/\k<=4)/\OSS w' w.heap.size w'.heap.size 44 3 A1 c1 l/\Mid 0 0 w w':=by
 have a4:=oE w (.cells #[(0:Int),.slice none 0 0] 76);have B2:=oJ w #[(0:Int),.slice none 0 0] 76;have a6:=hr.mid a4 oZl;go_enter Tryz.func80,Tryz.ntmps80
 go_wp2_with fail;generalize (w.alloc (.cells #[(0:Int),.slice none 0 0] 76))=w1 at B2 a6 a4 |-;have aM:w.heap.size<w1.heap.size:=B2.1;with_reducible refine(aEz A bs c w1 hi hb hl a6).mono ?_
 rintro e w2 ⟨p,rfl,hp,h2,m2⟩;replace B2:=B2.mid m2 oZr;have a9:=a4.trans m2;have aN:=m2.size;have a7:w.heap.size<p:=by omega
 have aE:=h2.lt;clear a4 m2 a6 hr;go_wp2_with fail;with_reducible refine(aCX p A bs c _ hb hl h2).mono ?_
 rintro e w3 ⟨r,Ai,ci,l,rfl,hg,hO,hC,m3⟩;replace B2:=B2.mid m3 (Or.inl a7);have hM:=a9.transNew m3 oL;have aF:=m3.size;have HG:=oH hg;obtain⟨L,hL⟩:∃ n,l.length=n:=⟨_,rfl⟩
 have HL:=oH hL;rw[hL];clear hg hL h2 m3 a9;have a1:=oE w3 (.cells #[r,.slice Ai L ci] 76);have G5:=oJ w3 #[r,.slice Ai L ci] 76;obtain⟨gb,a5⟩:∃ g,w3.heap.size=g:=⟨_,rfl⟩
 go_wp2_with fail;replace B2:=B2.mid a1 oZr;replace hC:=hC.mid a1 (Or.inr rfl);replace hM:=hM.trans a1.zero;have a0:=hO.mid a1 oZl;have aC:=a1.size;rw[a5] at G5 a0 aF;try rw[a5]
 generalize w3.alloc (.cells #[r,.slice Ai L ci] 76)=w5 at B2 hC hM a0 aC G5 |-;clear hO a1 aC a5;have a2:=Mid.drew1 w5;replace G5:=G5.mid a2 oZr;replace B2:=B2.mid a2 oZr;replace hM:=hM.trans a2;replace a0:=a0.mid a2 oZl;replace hC:=hC.mid a2 (Or.inr rfl);clear a2;have g0:=G5.cell 0 rfl;have g1:=G5.cell 1 rfl;refine aAo (S:=(fun w'=>w'.cell? ⟨gb,0,none⟩=some (.int .i64 r)/\w'.cell? ⟨gb,1,none⟩=some (.slice Ai L ci))) [] oK ⟨g0,g1⟩ ?_;generalize World.drew w5=wz at B2 G5 a0 hC hM g0 g1 |-;have hS:wz.cell? ⟨gb,0,none⟩=some (.int .i64 r)/\wz.cell? ⟨gb,1,none⟩=some (.slice Ai L ci):=⟨g0,g1⟩
 refine tkZ [] 0 rfl hS ?_;try simp only[oP]
 refine tkZ [] 1 rfl hS ?_;try simp only[oP]
 refine tkZ [] 3 rfl hS ?_;try simp only[oP]
 clear hS;refine rdZ 2 rfl (fun K hK=>?_)
 (go_simp;(with_reducible refine(aAQ 5 oD oD p A bs c _ hb hl hC).mono ?_);rintro en w6 ⟨k1,rfl,aK,a8,m6⟩;have G6:=G5.mid m6 (Or.inr (by have:=hC.lt;omega));go_wp2_with fail)
 refine hK.out _ _ (Or.inr ⟨G6.cell 0 rfl,G6.cell 1 rfl⟩) (fun _=>?_);clear hK K;try simp only[oP]
 replace B2:=B2.mid m6 (Or.inl a7);replace a0:=a0.mid m6;replace hM:=hM.transNew m6 oL;have aO:=m6.size;have aJ:=G5.1;clear G5 hC m6 g0 g1;refine rdZ 4 rfl (fun K hK=>?_)
 (go_simp;(with_reducible refine(aAQ 2 oD oD p A bs c _ hb hl a8).mono ?_);rintro en w8 ⟨k2,rfl,aL,aH,m8⟩;have G5:=G6.mid m8;go_wp2_with fail)
 refine hK.out _ _ (Or.inr ⟨G5.cell 0 rfl,G5.cell 1 rfl⟩) (fun _=>?_);clear hK K;try simp only[oP]
 replace B2:=B2.mid m8 (Or.inl a7);replace a0:=a0.mid m8;replace hM:=hM.transNew m8 oL;have aP:=m8.size;clear G6 a8 m8;have aG:IntKind.i64.wrap ((k1:Int) - (k2:Int))=(k1:Int) - (k2:Int):=oI _;have aD:-1<=(k1:Int) - (k2:Int)/\(k1:Int) - (k2:Int)<=4:=by omega
 have aB:w8.cell? ⟨gb,0,none⟩=some (.int .i64 r)/\w8.cell? ⟨gb,1,none⟩=some (.slice Ai L ci):=⟨G5.cell 0 rfl,G5.cell 1 rfl⟩
 refine tkZ [] 5 rfl aB ?_;try simp only[oP]
 clear aB aG;have aI:=B2.1;have a3:=(oU w8 w 0 r).trans (oU _ w 1 (.slice Ai L ci));have G7:=G5.mid a3;have V7:=(B2.set 0 r oM rfl).set 1 (.slice Ai L ci) oM rfl;simp only[List.set_cons_succ,List.set_cons_zero] at V7;have q0:=B2.cell 0 rfl;have q1:=B2.cell 1 rfl;have qf:=B2.2.2;have ql:=B2.1;have gl:=G5.1;refine rdZ 6 rfl (fun K hK=>?_);go_simp;refine hK.out _ _ (Or.inr ⟨G7.cell 0 rfl,G7.cell 1 rfl⟩) (fun _=>?_);clear hK K;try simp only[oP]
 have aA:((w8.setCell ⟨w,0,none⟩ r).setCell ⟨w,1,none⟩ (.slice Ai L ci)).cell? ⟨gb,0,none⟩=some (.int .i64 r)/\((w8.setCell ⟨w,0,none⟩ r).setCell ⟨w,1,none⟩ (.slice Ai L ci)).cell? ⟨gb,1,none⟩=some (.slice Ai L ci):=⟨G7.cell 0 rfl,G7.cell 1 rfl⟩
 refine tkZ [] 7 rfl aA ?_;try simp only[oP]
 refine aAj oK ?_ _;have O9:=oH ((a0.mid a3).wide (lo':=w.heap.size) oO (oV a0.size a3.size) oN);have M9:=oH (hM.transNew a3 (Or.inl oN));clear a3 a0 hM aA G7 q0 q1 B2;have q0:=V7.cell 0 rfl;have q1:=V7.cell 1 rfl;go_wp2_with fail;refine oW (v:=.tuple #[.agg #[r,.slice Ai L ci],.int .i64 ((k1:Int) - (k2:Int))]) (by simp[results,Tryz.results80,go_sem,q0,q1]) rfl ⟨r,Ai,ci,l,(k1:Int) - (k2:Int),?_,HG.out,aD,O9.out,M9.out⟩;rw[HL.out]
theorem aFv(A:OA)(bs:LI)(c:Nat)(w:World)(hi:Nat)(hb:OkB bs)(hl:bs.length<=1048576)(hr:RV w 0 hi A (aHb bs)) :
  Calls Tryz.prog 60 #[.slice A bs.length c] w fun e w'=>∃ r A1 c1 l A2 c2 xs,e=.returned (.tuple #[.agg #[.int .i64 r,.slice A1 (List.length l) c1],.slice A2 (List.length xs) c2])/\MoB r l/\(xs.length<=6/\LtW xs/\Rd xs)/\OSS w' w.heap.size w'.heap.size 44 3 A1 c1 l/\OI w' w.heap.size w'.heap.size A2 c2 xs/\Mid 0 0 w w':=by
 have a5:=oE w (.cells #[(0:Int),.slice none 0 0] 76);have B2:=oJ w #[(0:Int),.slice none 0 0] 76;have a7:=hr.mid a5 oZl;go_enter Tryz.func60,Tryz.ntmps60
 go_wp2_with fail;generalize (w.alloc (.cells #[(0:Int),.slice none 0 0] 76))=w1 at B2 a7 a5 |-;have aJ:w.heap.size<w1.heap.size:=B2.1;with_reducible refine(aEz A bs c w1 hi hb hl a7).mono ?_
 rintro e w2 ⟨p,rfl,hp,h2,m2⟩;replace B2:=B2.mid m2 oZr;have a8:=a5.trans m2;have aK:=m2.size;have aB:w.heap.size<p:=by omega
 have aF:=h2.lt;clear a5 m2 a7 hr;go_wp2_with fail;with_reducible refine(aCX p A bs c _ hb hl h2).mono ?_
 rintro e w3 ⟨r,Ai,ci,l,rfl,hg,hO,hC,m3⟩;replace B2:=B2.mid m3 (Or.inl aB);have hM:=a8.transNew m3 oL;have aG:=m3.size;have HG:=oH hg;obtain⟨L,hL⟩:∃ n,l.length=n:=⟨_,rfl⟩
 have HL:=oH hL;rw[hL];clear hg hL h2 m3 a8;have a2:=oE w3 (.cells #[r,.slice Ai L ci] 76);have G5:=oJ w3 #[r,.slice Ai L ci] 76;obtain⟨gb,a6⟩:∃ g,w3.heap.size=g:=⟨_,rfl⟩
 go_wp2_with fail;replace B2:=B2.mid a2 oZr;replace hC:=hC.mid a2 (Or.inr rfl);replace hM:=hM.trans a2.zero;have a0:=hO.mid a2 oZl;have aA:=a2.size;rw[a6] at G5 a0 aG;try rw[a6]
 generalize w3.alloc (.cells #[r,.slice Ai L ci] 76)=w5 at B2 hC hM a0 aA G5 |-;clear hO a2 aA a6;obtain⟨mr,aE⟩:∃ m:Int,min r 3=m:=⟨_,rfl⟩
 obtain⟨mk,aD⟩:∃ m:Int,max 1 mr=m:=⟨_,rfl⟩
 have a4:1<=mk/\mk<=3:=by omega
 have a3:=Mid.drew1 w5;replace G5:=G5.mid a3 oZr;replace B2:=B2.mid a3 oZr;replace hM:=hM.trans a3;replace a0:=a0.mid a3 oZl;replace hC:=hC.mid a3 (Or.inr rfl);clear a3;have g0:=G5.cell 0 rfl;have g1:=G5.cell 1 rfl;refine aAo (S:=(fun w'=>w'.cell? ⟨gb,0,none⟩=some (.int .i64 r)/\w'.cell? ⟨gb,1,none⟩=some (.slice Ai L ci))) [] oK ⟨g0,g1⟩ ?_;generalize World.drew w5=wz at B2 G5 a0 hC hM g0 g1 |-;have hS:wz.cell? ⟨gb,0,none⟩=some (.int .i64 r)/\wz.cell? ⟨gb,1,none⟩=some (.slice Ai L ci):=⟨g0,g1⟩
 refine tkZ [] 0 rfl hS ?_;try simp only[oP]
 refine tkZ [] 1 rfl hS ?_;try simp only[oP]
 refine tkZ [] 2 rfl hS ?_;try simp only[oP]
 refine tkZ [] 3 rfl hS ?_;try simp only[oP]
 refine tkZ [] 4 rfl hS ?_;try simp only[oP]
 refine tkZ [] 5 rfl hS ?_;try simp only[oP]
 clear hS;refine rdZ 6 rfl (fun K hK=>?_)
 (go_simp;(try simp only[aE,aD]);(with_reducible refine(aMa mk a4.1 a4.2 6 oD oD p A bs c _ hb hl hC).mono ?_);rintro en w6 ⟨Aw,cw,xs,rfl,hx,ow,aC,m6⟩;have G6:=G5.mid m6 (Or.inr (by have:=hC.lt;omega));go_wp2_with fail)
 refine hK.out _ _ (Or.inr ⟨G6.cell 0 rfl,G6.cell 1 rfl⟩) (fun _=>?_);clear hK K;try simp only[oP]
 replace B2:=B2.mid m6 (Or.inl aB);replace a0:=a0.mid m6;replace hM:=hM.transNew m6 oL;have aL:=m6.size;have aI:=G5.1;have HX:Hid (xs.length<=6/\LtW xs/\Rd xs):=oH ⟨by have:=hx.1;omega,hx.2⟩;clear G5 hC aC m6 g0 g1 hx;have G5:=G6;clear G6;have aH:=B2.1;have a1:=(oU w6 w 0 r).trans (oU _ w 1 (.slice Ai L ci));have G7:=G5.mid a1;have V7:=(B2.set 0 r oM rfl).set 1 (.slice Ai L ci) oM rfl;simp only[List.set_cons_succ,List.set_cons_zero] at V7;have q0:=B2.cell 0 rfl;have q1:=B2.cell 1 rfl;have qf:=B2.2.2;have ql:=B2.1;have gl:=G5.1;refine rdZ 7 rfl (fun K hK=>?_);go_simp;refine hK.out _ _ (Or.inr ⟨G7.cell 0 rfl,G7.cell 1 rfl⟩) (fun _=>?_);clear hK K;try simp only[oP]
 have a9:((w6.setCell ⟨w,0,none⟩ r).setCell ⟨w,1,none⟩ (.slice Ai L ci)).cell? ⟨gb,0,none⟩=some (.int .i64 r)/\((w6.setCell ⟨w,0,none⟩ r).setCell ⟨w,1,none⟩ (.slice Ai L ci)).cell? ⟨gb,1,none⟩=some (.slice Ai L ci):=⟨G7.cell 0 rfl,G7.cell 1 rfl⟩
 refine tkZ [] 8 rfl a9 ?_;try simp only[oP]
 refine aAj oK ?_ _;have O9:=oH ((a0.mid a1).wide (lo':=w.heap.size) oO (oV a0.size a1.size) oN);have W9:=oH ((ow.mid a1).wide (lo':=w.heap.size) oO (oV ow.size a1.size) oN);have M9:=oH (hM.transNew a1 (Or.inl oN));clear a1 a0 hM a9 G7 q0 q1 B2 ow;have q0:=V7.cell 0 rfl;have q1:=V7.cell 1 rfl;go_wp2_with fail;refine oW (v:=.tuple #[.agg #[r,.slice Ai L ci],.slice Aw xs.length cw]) (by simp[results,Tryz.results60,go_sem,q0,q1]) rfl ⟨r,Ai,ci,l,Aw,cw,xs,?_,HG.out,HX.out,O9.out,W9.out,M9.out⟩;rw[HL.out]
theorem aFn(A:OA)(bs:LI)(c:Nat)(w:World)(hi:Nat)(hb:OkB bs)(hl:bs.length<=1048576)(hr:RV w 0 hi A (aHb bs)) :
  Calls Tryz.prog 84 #[.slice A bs.length c] w fun e w'=>∃ r A1 c1 l r2 A2 c2 l2,e=.returned (.tuple #[.agg #[.int .i64 r,.slice A1 (List.length l) c1],.agg #[.int .i64 r2,.slice A2 (List.length l2) c2]])/\MoB r l/\MoB r2 l2/\OSS w' w.heap.size w'.heap.size 44 3 A1 c1 l/\OSS w' w.heap.size w'.heap.size 44 3 A2 c2 l2/\Mid 0 0 w w':=by
 have a9:=oE w (.cells #[(0:Int),.slice none 0 0] 76);have B2:=oJ w #[(0:Int),.slice none 0 0] 76;have a7:=oE (w.alloc (.cells #[(0:Int),.slice none 0 0] 76)) (.cells #[(0:Int),.slice none 0 0] 76);have B3:=oJ (w.alloc (.cells #[(0:Int),.slice none 0 0] 76)) #[(0:Int),.slice none 0 0] 76;rw[World.size_alloc] at B3;replace B2:=B2.mid a7 oZr;replace a9:=a9.trans a7;have aJ:=hr.mid a9 oZl;go_enter Tryz.func84,Tryz.ntmps84
 go_wp2_with fail;clear a7;generalize ((w.alloc (.cells #[(0:Int),.slice none 0 0] 76)).alloc (.cells #[(0:Int),.slice none 0 0] 76))=w1 at B2 B3 aJ a9 |-;have aX:w.heap.size+1<w1.heap.size:=B3.1;with_reducible refine(aEz A bs c w1 hi hb hl aJ).mono ?_
 rintro e w2 ⟨p,rfl,hp,h2,m2⟩;replace B2:=B2.mid m2 oZr;replace B3:=B3.mid m2 oZr;have aO:=a9.trans m2;have aY:=m2.size;have aT:=h2.lt;clear a9 m2 aJ hr;go_wp2_with fail;with_reducible refine(aCX p A bs c _ hb hl h2).mono ?_
 rintro e w3 ⟨r,Ai,ci,l,rfl,hg,hO,aC,m3⟩;replace B2:=B2.mid m3;replace B3:=B3.mid m3;have aD:=aO.transNew m3 oL;have aK:=m3.size;have a6:=oH hg;obtain⟨L,hL⟩:∃ n,l.length=n:=⟨_,rfl⟩
 have aA:=oH hL;rw[hL];clear hg hL h2 m3 aO;have a8:=oE w3 (.cells #[r,.slice Ai L ci] 76);have G5:=oJ w3 #[r,.slice Ai L ci] 76;obtain⟨gb,aI⟩:∃ g,w3.heap.size=g:=⟨_,rfl⟩
 replace B2:=B2.mid a8 oZr;replace B3:=B3.mid a8 oZr;replace aC:=aC.mid a8 (Or.inr rfl);replace aD:=aD.trans a8.zero;have a2:=hO.mid a8 oZl;rw[aI] at G5 a2 aK;obtain⟨w5,aL⟩:∃ x,w3.alloc (.cells #[.int .i64 r,.slice Ai L ci] 76)=x:=⟨_,rfl⟩
 rw[aL] at B2 B3 aC aD a2 G5;have aU:=G5.1;clear hO a8;have hC:=aC;have hM:=aD;clear aC aD;go_wp2_with fail;try rw[aL]
 try rw[aI]
 clear aL aI;with_reducible refine(aGL 2 oD oD p A bs c _ hb hl hC).mono ?_
 rintro e w8 ⟨q,rfl,aN,m8⟩;replace B2:=B2.mid m8;replace B3:=B3.mid m8;replace G5:=G5.mid m8;replace a2:=a2.mid m8;replace hM:=hM.transNew m8 oL;have aZ:=m8.size;clear hC m8;have hC:=aN;clear aN;cases q
 rotate_left
 .go_wp2_with fail
  clear hC;have a4:=Mid.drew1 w8;replace B2:=B2.mid a4 oZr;replace B3:=B3.mid a4 oZr;replace G5:=G5.mid a4 oZr;replace a2:=a2.mid a4 oZl;replace hM:=hM.trans a4;clear a4;have g0:=G5.cell 0 rfl;have g1:=G5.cell 1 rfl;refine aAo (S:=(fun w'=>w'.cell? ⟨gb,0,none⟩=some (.int .i64 r)/\w'.cell? ⟨gb,1,none⟩=some (.slice Ai L ci))) [] oK ⟨g0,g1⟩ ?_;generalize World.drew w8=wz at B2 B3 G5 a2 hM g0 g1 |-;have hS:wz.cell? ⟨gb,0,none⟩=some (.int .i64 r)/\wz.cell? ⟨gb,1,none⟩=some (.slice Ai L ci):=⟨g0,g1⟩
  refine tkZ [] 0 rfl hS ?_;try simp only[oP]
  refine tkZ [] 1 rfl hS ?_;try simp only[oP]
  clear hS g0 g1;have a5:=G5.1;have q0:=B2.cell 0 rfl;have q1:=B2.cell 1 rfl;have qf:=B2.2.2;have ql:=B2.1;have aW:=B3.1;have a0:=((oU wz w 0 r).trans (oU _ w 1 (.slice Ai L ci)))
  have a1:=G5.mid a0;have a3:=B3.mid a0;have V2:=((B2.set 0 r oM rfl).set 1 (.slice Ai L ci) oM rfl)
  simp only[List.set_cons_succ,List.set_cons_zero] at V2;have O1:=a2.mid a0;have O2:=a2.mid a0;have M1:=hM.transNew a0 (Or.inl oN);have aM:=a0.size;refine rdZ 2 rfl (fun K hK=>?_);go_simp;refine hK.out _ _ (Or.inr ⟨a1.cell 0 rfl,a1.cell 1 rfl⟩) (fun _=>?_);clear hK K;try simp only[oP]
  clear a0 B2 B3 G5 a2 hM q0 q1 qf ql a5;generalize ((wz.setCell ⟨w,0,none⟩ r).setCell ⟨w,1,none⟩ (.slice Ai L ci))=wA at a1 a3 V2 O1 O2  M1 aM |-;have q0:=a3.cell 0 rfl;have q1:=a3.cell 1 rfl;have qf:=a3.2.2;have ql:=a3.1;have aV:=V2.1;have aG:=a1.1;have a0:=((oU wA (w.heap.size+1) 0 r).trans (oU _ (w.heap.size+1) 1 (.slice Ai L ci)))
  have aB:=V2.mid a0;have V3:=((a3.set 0 r oM rfl).set 1 (.slice Ai L ci) oM rfl)
  simp only[List.set_cons_succ,List.set_cons_zero] at V3;replace a1:=a1.mid a0;have O9:=oH ((O1.mid a0).wide (lo':=w.heap.size) oO (oV O1.size a0.size) oN);have aF:=oH ((O2.mid a0).wide (lo':=w.heap.size) oO (oV O2.size a0.size) oN);have M9:=oH (M1.transNew a0 oL);refine rdZ 3 rfl (fun K hK=>?_);go_simp;refine hK.out _ _ (Or.inr ⟨a1.cell 0 rfl,a1.cell 1 rfl⟩) (fun _=>?_);clear hK K;try simp only[oP]
  refine aAj oK ?_ _;clear a0 O1 O2  M1 q0 q1 qf ql a3 V2 a1;have q0:=aB.cell 0 rfl;have q1:=aB.cell 1 rfl;have k0:=V3.cell 0 rfl;have k1:=V3.cell 1 rfl;go_wp2_with fail;refine oW (v:=.tuple #[.agg #[r,.slice Ai L ci],.agg #[r,.slice Ai L ci]]) (by simp[results,Tryz.results84,go_sem,q0,q1,k0,k1]) rfl ⟨r,Ai,ci,l,r,Ai,ci,l,?_,a6.out,a6.out,O9.out,aF.out,M9.out⟩;rw[aA.out]
 go_wp2_with fail;have a4:=Mid.drew1 w8;replace B2:=B2.mid a4 oZr;replace B3:=B3.mid a4 oZr;replace G5:=G5.mid a4 oZr;replace a2:=a2.mid a4 oZl;replace hM:=hM.trans a4;replace hC:=hC.mid a4 (Or.inr rfl);clear a4;have g0:=G5.cell 0 rfl;have g1:=G5.cell 1 rfl;refine aAo (S:=(fun w'=>w'.cell? ⟨gb,0,none⟩=some (.int .i64 r)/\w'.cell? ⟨gb,1,none⟩=some (.slice Ai L ci))) [] oK ⟨g0,g1⟩ ?_;generalize World.drew w8=wz at B2 B3 G5 a2 hC hM g0 g1 |-;have hS:wz.cell? ⟨gb,0,none⟩=some (.int .i64 r)/\wz.cell? ⟨gb,1,none⟩=some (.slice Ai L ci):=⟨g0,g1⟩
 refine tkZ [] 0 rfl hS ?_;try simp only[oP]
 refine tkZ [] 1 rfl hS ?_;try simp only[oP]
 clear hS g0 g1;have aS:=G5.1;refine rdZ 2 rfl (fun K hK=>?_)
 (go_simp;(with_reducible refine(aCX p A bs c _ hb hl hC).mono ?_);rintro en w9 ⟨r6,A6,c6,l6,rfl,aP,OG6,C9,m9⟩;have aE:=G5.mid m9;go_wp2_with fail)
 refine hK.out _ _ (Or.inr ⟨aE.cell 0 rfl,aE.cell 1 rfl⟩) (fun _=>?_);clear hK K;try simp only[oP]
 have aQ:=oH aP;obtain⟨L6,aH⟩:∃ n,l6.length=n:=⟨_,rfl⟩
 have aR:=oH aH;rw[aH];replace B2:=B2.mid m9;replace B3:=B3.mid m9;replace a2:=a2.mid m9;replace hM:=hM.transNew m9 oL;have aa:=m9.size;clear aP aH m9 hC C9 G5;have G5:=aE;clear aE;have a5:=G5.1;have q0:=B2.cell 0 rfl;have q1:=B2.cell 1 rfl;have qf:=B2.2.2;have ql:=B2.1;have aW:=B3.1;have a0:=((oU w9 w 0 r).trans (oU _ w 1 (.slice Ai L ci)))
 have a1:=G5.mid a0;have a3:=B3.mid a0;have V2:=((B2.set 0 r oM rfl).set 1 (.slice Ai L ci) oM rfl)
 simp only[List.set_cons_succ,List.set_cons_zero] at V2;have O1:=a2.mid a0;have O2:=OG6.mid a0;have M1:=hM.transNew a0 (Or.inl oN);have aM:=a0.size;refine rdZ 3 rfl (fun K hK=>?_);go_simp;refine hK.out _ _ (Or.inr ⟨a1.cell 0 rfl,a1.cell 1 rfl⟩) (fun _=>?_);clear hK K;try simp only[oP]
 clear a0 B2 B3 G5 a2 OG6 hM q0 q1 qf ql a5;generalize ((w9.setCell ⟨w,0,none⟩ r).setCell ⟨w,1,none⟩ (.slice Ai L ci))=wA at a1 a3 V2 O1 O2  M1 aM |-;have q0:=a3.cell 0 rfl;have q1:=a3.cell 1 rfl;have qf:=a3.2.2;have ql:=a3.1;have aV:=V2.1;have aG:=a1.1;have a0:=((oU wA (w.heap.size+1) 0 r6).trans (oU _ (w.heap.size+1) 1 (.slice A6 L6 c6)))
 have aB:=V2.mid a0;have V3:=((a3.set 0 r6 oM rfl).set 1 (.slice A6 L6 c6) oM rfl)
 simp only[List.set_cons_succ,List.set_cons_zero] at V3;replace a1:=a1.mid a0;have O9:=oH ((O1.mid a0).wide (lo':=w.heap.size) oO (oV O1.size a0.size) oN);have aF:=oH ((O2.mid a0).wide (lo':=w.heap.size) oO (oV O2.size a0.size) oN);have M9:=oH (M1.transNew a0 oL);refine rdZ 4 rfl (fun K hK=>?_);go_simp;refine hK.out _ _ (Or.inr ⟨a1.cell 0 rfl,a1.cell 1 rfl⟩) (fun _=>?_);clear hK K;try simp only[oP]
 refine aAj oK ?_ _;clear a0 O1 O2  M1 q0 q1 qf ql a3 V2 a1;have q0:=aB.cell 0 rfl;have q1:=aB.cell 1 rfl;have k0:=V3.cell 0 rfl;have k1:=V3.cell 1 rfl;go_wp2_with fail;refine oW (v:=.tuple #[.agg #[r,.slice Ai L ci],.agg #[r6,.slice A6 L6 c6]]) (by simp[results,Tryz.results84,go_sem,q0,q1,k0,k1]) rfl ⟨r,Ai,ci,l,r6,A6,c6,l6,?_,a6.out,aQ.out,O9.out,aF.out,M9.out⟩;rw[aA.out,aR.out]
theorem aEq(A:OA)(bs:LI)(c:Nat)(w:World)(hi:Nat)(hb:OkB bs)(hl:bs.length<=1048576)(hr:RV w 0 hi A (aHb bs)) :
  Calls Tryz.prog 70 #[.slice A bs.length c] w fun e w'=>∃ r A1 c1 l r2 A2 c2 l2,e=.returned (.tuple #[.agg #[.int .i64 r,.slice A1 (List.length l) c1],.agg #[.int .i64 r2,.slice A2 (List.length l2) c2]])/\MoB r l/\MoB r2 l2/\OSS w' w.heap.size w'.heap.size 44 3 A1 c1 l/\OSS w' w.heap.size w'.heap.size 44 3 A2 c2 l2/\Mid 0 0 w w':=by
 have aK:=oE w (.cells #[(0:Int),.slice none 0 0] 76);have B2:=oJ w #[(0:Int),.slice none 0 0] 76;have aJ:=oE (w.alloc (.cells #[(0:Int),.slice none 0 0] 76)) (.cells #[(0:Int),.slice none 0 0] 76);have B3:=oJ (w.alloc (.cells #[(0:Int),.slice none 0 0] 76)) #[(0:Int),.slice none 0 0] 76;rw[World.size_alloc] at B3;replace B2:=B2.mid aJ oZr;replace aK:=aK.trans aJ;have aV:=hr.mid aK oZl;go_enter Tryz.func70,Tryz.ntmps70
 go_wp2_with fail;clear aJ;generalize ((w.alloc (.cells #[(0:Int),.slice none 0 0] 76)).alloc (.cells #[(0:Int),.slice none 0 0] 76))=w1 at B2 B3 aV aK |-;have af:w.heap.size+1<w1.heap.size:=B3.1;with_reducible refine(aEz A bs c w1 hi hb hl aV).mono ?_
 rintro e w2 ⟨p,rfl,hp,h2,m2⟩;replace B2:=B2.mid m2 oZr;replace B3:=B3.mid m2 oZr;have aR:=aK.trans m2;have ag:=m2.size;have ab:=h2.lt;clear aK m2 aV hr;go_wp2_with fail;with_reducible refine(aCX p A bs c _ hb hl h2).mono ?_
 rintro e w3 ⟨r,Ai,ci,l,rfl,hg,hO,a9,m3⟩;replace B2:=B2.mid m3;replace B3:=B3.mid m3;have aA:=aR.transNew m3 oL;have aW:=m3.size;have aC:=oH hg;obtain⟨L,hL⟩:∃ n,l.length=n:=⟨_,rfl⟩
 have aI:=oH hL;rw[hL];clear hg hL h2 m3 aR;have a7:=oE w3 (.cells #[r,.slice Ai L ci] 76);have G5:=oJ w3 #[r,.slice Ai L ci] 76;obtain⟨gb,aF⟩:∃ g,w3.heap.size=g:=⟨_,rfl⟩
 replace B2:=B2.mid a7 oZr;replace B3:=B3.mid a7 oZr;replace a9:=a9.mid a7 (Or.inr rfl);replace aA:=aA.trans a7.zero;have a2:=hO.mid a7 oZl;rw[aF] at G5 a2 aW;obtain⟨w5,aD⟩:∃ x,w3.alloc (.cells #[.int .i64 r,.slice Ai L ci] 76)=x:=⟨_,rfl⟩
 rw[aD] at B2 B3 a9 aA a2 G5;have ad:=G5.1;clear hO a7;have hC:=a9;have hM:=aA;clear a9 aA;go_wp2_with fail;try rw[aD]
 try rw[aF]
 clear aD aF;have h2:=hC;have aR:=hM;clear hC hM;with_reducible refine(aCX p A bs c _ hb hl h2).mono ?_
 rintro e w6 ⟨r6,A6,c6,l6,rfl,hg,hO,a9,m3⟩;replace B2:=B2.mid m3;replace B3:=B3.mid m3;replace G5:=G5.mid m3;replace a2:=a2.mid m3;have aA:=aR.transNew m3 oL;have aX:=m3.size;have aN:=oH hg;obtain⟨L6,hL⟩:∃ n,l6.length=n:=⟨_,rfl⟩
 have aO:=oH hL;rw[hL];clear hg hL h2 m3 aR;have aL:=G5.cell 0 rfl;have aM:=G5.cell 1 rfl;have aH:=G5.1;have a7:=oE w6 (.cells #[r6,.slice A6 L6 c6] 76);have G6:=oJ w6 #[r6,.slice A6 L6 c6] 76;obtain⟨cb,aF⟩:∃ g,w6.heap.size=g:=⟨_,rfl⟩
 replace B2:=B2.mid a7 oZr;replace B3:=B3.mid a7 oZr;replace G5:=G5.mid a7 oZr;replace a2:=a2.mid a7 oZl;replace a9:=a9.mid a7 (Or.inr rfl);replace aA:=aA.trans a7.zero;have a8:=hO.mid a7 oZl;rw[aF] at G6 a8 aX;have aG:=aH;rw[aF] at aG;obtain⟨w7,aD⟩:∃ x,w6.alloc (.cells #[.int .i64 r6,.slice A6 L6 c6] 76)=x:=⟨_,rfl⟩
 rw[aD] at B2 B3 G5 a2 a9 aA a8 G6;have ae:=G6.1;clear hO a7;have hC:=a9;have hM:=aA;clear a9 aA;have g0:=G5.cell 0 rfl;have g1:=G5.cell 1 rfl;have k0:=G6.cell 0 rfl;have k1:=G6.cell 1 rfl;by_cases hrr:r6=r
 .have aT:(r6 != r)=false:=by simp[hrr]
  clear hrr;go_wp2_with fail;clear aL aM aH aG g0 g1 k0 k1 aT;try rw[aD]
  clear aD aF;clear hC;have a3:=Mid.drew1 w7;replace B2:=B2.mid a3 oZr;replace B3:=B3.mid a3 oZr;replace G5:=G5.mid a3 oZr;replace G6:=G6.mid a3 oZr;replace a2:=a2.mid a3 oZl;replace a8:=a8.mid a3 oZl;replace hM:=hM.trans a3;clear a3;have g0:=G5.cell 0 rfl;have g1:=G5.cell 1 rfl;have h0:=G6.cell 0 rfl;have h1:=G6.cell 1 rfl;refine aAo (S:=(fun w'=>(w'.cell? ⟨gb,0,none⟩=some (.int .i64 r)/\w'.cell? ⟨gb,1,none⟩=some (.slice Ai L ci))/\(w'.cell? ⟨cb,0,none⟩=some (.int .i64 r6)/\w'.cell? ⟨cb,1,none⟩=some (.slice A6 L6 c6)))) [] oK ⟨⟨g0,g1⟩,⟨h0,h1⟩⟩ ?_;generalize World.drew w7=wz at B2 B3 G5 G6 a2 a8 hM g0 g1 h0 h1 |-;have hS:(wz.cell? ⟨gb,0,none⟩=some (.int .i64 r)/\wz.cell? ⟨gb,1,none⟩=some (.slice Ai L ci))/\(wz.cell? ⟨cb,0,none⟩=some (.int .i64 r6)/\wz.cell? ⟨cb,1,none⟩=some (.slice A6 L6 c6)):=⟨⟨g0,g1⟩,⟨h0,h1⟩⟩
  refine tkZ [] 0 rfl hS ?_;try simp only[oP]
  refine tkZ [] 1 rfl hS ?_;try simp only[oP]
  clear hS g0 g1 h0 h1;have a6:=G5.1;have aB:=G6.1;have q0:=B2.cell 0 rfl;have q1:=B2.cell 1 rfl;have qf:=B2.2.2;have ql:=B2.1;have aZ:=B3.1;have a0:=((oU wz w 0 r).trans (oU _ w 1 (.slice Ai L ci)))
  have a1:=G5.mid a0;have a5:=G6.mid a0;have a4:=B3.mid a0;have V2:=((B2.set 0 r oM rfl).set 1 (.slice Ai L ci) oM rfl)
  simp only[List.set_cons_succ,List.set_cons_zero] at V2;have O1:=a2.mid a0;have O2:=a8.mid a0;have M1:=hM.transNew a0 (Or.inl oN);have aS:=a0.size;refine rdZ 2 rfl (fun K hK=>?_);go_simp;refine hK.out _ _ (Or.inr ⟨⟨a1.cell 0 rfl,a1.cell 1 rfl⟩,⟨a5.cell 0 rfl,a5.cell 1 rfl⟩⟩) (fun _=>?_);clear hK K;try simp only[oP]
  clear a0 B2 B3 G5 G6 a2 a8 hM q0 q1 qf ql a6 aB;generalize ((wz.setCell ⟨w,0,none⟩ r).setCell ⟨w,1,none⟩ (.slice Ai L ci))=wA at a1 a5 a4 V2 O1 O2  M1 aS |-;have q0:=a4.cell 0 rfl;have q1:=a4.cell 1 rfl;have qf:=a4.2.2;have ql:=a4.1;have aY:=V2.1;have aQ:=a1.1;have aU:=a5.1;have a0:=((oU wA (w.heap.size+1) 0 r6).trans (oU _ (w.heap.size+1) 1 (.slice A6 L6 c6)))
  have aE:=V2.mid a0;have V3:=((a4.set 0 r6 oM rfl).set 1 (.slice A6 L6 c6) oM rfl)
  simp only[List.set_cons_succ,List.set_cons_zero] at V3;replace a1:=a1.mid a0;replace a5:=a5.mid a0;have O9:=oH ((O1.mid a0).wide (lo':=w.heap.size) oO (oV O1.size a0.size) oN);have aP:=oH ((O2.mid a0).wide (lo':=w.heap.size) oO (oV O2.size a0.size) oN);have M9:=oH (M1.transNew a0 oL);refine rdZ 3 rfl (fun K hK=>?_);go_simp;refine hK.out _ _ (Or.inr ⟨⟨a1.cell 0 rfl,a1.cell 1 rfl⟩,⟨a5.cell 0 rfl,a5.cell 1 rfl⟩⟩) (fun _=>?_);clear hK K;try simp only[oP]
  refine aAj oK ?_ _;clear a0 O1 O2  M1 q0 q1 qf ql a4 V2 a1 a5;have q0:=aE.cell 0 rfl;have q1:=aE.cell 1 rfl;have k0:=V3.cell 0 rfl;have k1:=V3.cell 1 rfl;go_wp2_with fail;refine oW (v:=.tuple #[.agg #[r,.slice Ai L ci],.agg #[r6,.slice A6 L6 c6]]) (by simp[results,Tryz.results70,go_sem,q0,q1,k0,k1]) rfl ⟨r,Ai,ci,l,r6,A6,c6,l6,?_,aC.out,aN.out,O9.out,aP.out,M9.out⟩;rw[aI.out,aO.out]
 have aT:(r6 != r)=true:=by simp[hrr]
 go_wp2_with fail;clear aL aM aH aG g0 g1 k0 k1 aT;try rw[aD]
 clear aD aF;with_reducible refine(aGL 2 oD oD p A bs c _ hb hl hC).mono ?_
 rintro e w8 ⟨q,rfl,aa,m8⟩;replace B2:=B2.mid m8;replace B3:=B3.mid m8;replace G5:=G5.mid m8;replace G6:=G6.mid m8;replace a2:=a2.mid m8;replace a8:=a8.mid m8;replace hM:=hM.transNew m8 oL;have ah:=m8.size;clear hC m8 aa;cases q
 .go_wp2_with fail
  have a3:=Mid.drew1 w8;replace B2:=B2.mid a3 oZr;replace B3:=B3.mid a3 oZr;replace G5:=G5.mid a3 oZr;replace G6:=G6.mid a3 oZr;replace a2:=a2.mid a3 oZl;replace a8:=a8.mid a3 oZl;replace hM:=hM.trans a3;clear a3;have g0:=G5.cell 0 rfl;have g1:=G5.cell 1 rfl;have h0:=G6.cell 0 rfl;have h1:=G6.cell 1 rfl;refine aAo (S:=(fun w'=>(w'.cell? ⟨gb,0,none⟩=some (.int .i64 r)/\w'.cell? ⟨gb,1,none⟩=some (.slice Ai L ci))/\(w'.cell? ⟨cb,0,none⟩=some (.int .i64 r6)/\w'.cell? ⟨cb,1,none⟩=some (.slice A6 L6 c6)))) [] oK ⟨⟨g0,g1⟩,⟨h0,h1⟩⟩ ?_;generalize World.drew w8=wz at B2 B3 G5 G6 a2 a8 hM g0 g1 h0 h1 |-;have hS:(wz.cell? ⟨gb,0,none⟩=some (.int .i64 r)/\wz.cell? ⟨gb,1,none⟩=some (.slice Ai L ci))/\(wz.cell? ⟨cb,0,none⟩=some (.int .i64 r6)/\wz.cell? ⟨cb,1,none⟩=some (.slice A6 L6 c6)):=⟨⟨g0,g1⟩,⟨h0,h1⟩⟩
  refine tkZ [] 0 rfl hS ?_;try simp only[oP]
  refine tkZ [] 1 rfl hS ?_;try simp only[oP]
  clear hS g0 g1 h0 h1;have a6:=G5.1;have aB:=G6.1;have q0:=B2.cell 0 rfl;have q1:=B2.cell 1 rfl;have qf:=B2.2.2;have ql:=B2.1;have aZ:=B3.1;have a0:=((oU wz w 0 r).trans (oU _ w 1 (.slice Ai L ci)))
  have a1:=G5.mid a0;have a5:=G6.mid a0;have a4:=B3.mid a0;have V2:=((B2.set 0 r oM rfl).set 1 (.slice Ai L ci) oM rfl)
  simp only[List.set_cons_succ,List.set_cons_zero] at V2;have O1:=a2.mid a0;have O2:=a8.mid a0;have M1:=hM.transNew a0 (Or.inl oN);have aS:=a0.size;refine rdZ 2 rfl (fun K hK=>?_);go_simp;refine hK.out _ _ (Or.inr ⟨⟨a1.cell 0 rfl,a1.cell 1 rfl⟩,⟨a5.cell 0 rfl,a5.cell 1 rfl⟩⟩) (fun _=>?_);clear hK K;try simp only[oP]
  clear a0 B2 B3 G5 G6 a2 a8 hM q0 q1 qf ql a6 aB;generalize ((wz.setCell ⟨w,0,none⟩ r).setCell ⟨w,1,none⟩ (.slice Ai L ci))=wA at a1 a5 a4 V2 O1 O2  M1 aS |-;have q0:=a4.cell 0 rfl;have q1:=a4.cell 1 rfl;have qf:=a4.2.2;have ql:=a4.1;have aY:=V2.1;have aQ:=a1.1;have aU:=a5.1;have a0:=((oU wA (w.heap.size+1) 0 r6).trans (oU _ (w.heap.size+1) 1 (.slice A6 L6 c6)))
  have aE:=V2.mid a0;have V3:=((a4.set 0 r6 oM rfl).set 1 (.slice A6 L6 c6) oM rfl)
  simp only[List.set_cons_succ,List.set_cons_zero] at V3;replace a1:=a1.mid a0;replace a5:=a5.mid a0;have O9:=oH ((O1.mid a0).wide (lo':=w.heap.size) oO (oV O1.size a0.size) oN);have aP:=oH ((O2.mid a0).wide (lo':=w.heap.size) oO (oV O2.size a0.size) oN);have M9:=oH (M1.transNew a0 oL);refine rdZ 3 rfl (fun K hK=>?_);go_simp;refine hK.out _ _ (Or.inr ⟨⟨a1.cell 0 rfl,a1.cell 1 rfl⟩,⟨a5.cell 0 rfl,a5.cell 1 rfl⟩⟩) (fun _=>?_);clear hK K;try simp only[oP]
  refine aAj oK ?_ _;clear a0 O1 O2  M1 q0 q1 qf ql a4 V2 a1 a5;have q0:=aE.cell 0 rfl;have q1:=aE.cell 1 rfl;have k0:=V3.cell 0 rfl;have k1:=V3.cell 1 rfl;go_wp2_with fail;refine oW (v:=.tuple #[.agg #[r,.slice Ai L ci],.agg #[r6,.slice A6 L6 c6]]) (by simp[results,Tryz.results70,go_sem,q0,q1,k0,k1]) rfl ⟨r,Ai,ci,l,r6,A6,c6,l6,?_,aC.out,aN.out,O9.out,aP.out,M9.out⟩;rw[aI.out,aO.out]
 go_wp2_with fail;have a3:=Mid.drew1 w8;replace B2:=B2.mid a3 oZr;replace B3:=B3.mid a3 oZr;replace G5:=G5.mid a3 oZr;replace a2:=a2.mid a3 oZl;replace hM:=hM.trans a3;clear a3;have g0:=G5.cell 0 rfl;have g1:=G5.cell 1 rfl;refine aAo (S:=(fun w'=>w'.cell? ⟨gb,0,none⟩=some (.int .i64 r)/\w'.cell? ⟨gb,1,none⟩=some (.slice Ai L ci))) [] oK ⟨g0,g1⟩ ?_;generalize World.drew w8=wz at B2 B3 G5 a2 hM g0 g1 |-;have hS:wz.cell? ⟨gb,0,none⟩=some (.int .i64 r)/\wz.cell? ⟨gb,1,none⟩=some (.slice Ai L ci):=⟨g0,g1⟩
 refine tkZ [] 0 rfl hS ?_;try simp only[oP]
 refine tkZ [] 1 rfl hS ?_;try simp only[oP]
 clear hS g0 g1;have a6:=G5.1;have q0:=B2.cell 0 rfl;have q1:=B2.cell 1 rfl;have qf:=B2.2.2;have ql:=B2.1;have aZ:=B3.1;have a0:=((oU wz w 0 r).trans (oU _ w 1 (.slice Ai L ci)))
 have a1:=G5.mid a0;have a4:=B3.mid a0;have V2:=((B2.set 0 r oM rfl).set 1 (.slice Ai L ci) oM rfl)
 simp only[List.set_cons_succ,List.set_cons_zero] at V2;have O1:=a2.mid a0;have O2:=a2.mid a0;have M1:=hM.transNew a0 (Or.inl oN);have aS:=a0.size;refine rdZ 2 rfl (fun K hK=>?_);go_simp;refine hK.out _ _ (Or.inr ⟨a1.cell 0 rfl,a1.cell 1 rfl⟩) (fun _=>?_);clear hK K;try simp only[oP]
 clear a0 B2 B3 G5 a2 hM q0 q1 qf ql a6;generalize ((wz.setCell ⟨w,0,none⟩ r).setCell ⟨w,1,none⟩ (.slice Ai L ci))=wA at a1 a4 V2 O1 O2  M1 aS |-;have q0:=a4.cell 0 rfl;have q1:=a4.cell 1 rfl;have qf:=a4.2.2;have ql:=a4.1;have aY:=V2.1;have aQ:=a1.1;have a0:=((oU wA (w.heap.size+1) 0 r).trans (oU _ (w.heap.size+1) 1 (.slice Ai L ci)))
 have aE:=V2.mid a0;have V3:=((a4.set 0 r oM rfl).set 1 (.slice Ai L ci) oM rfl)
 simp only[List.set_cons_succ,List.set_cons_zero] at V3;replace a1:=a1.mid a0;have O9:=oH ((O1.mid a0).wide (lo':=w.heap.size) oO (oV O1.size a0.size) oN);have aP:=oH ((O2.mid a0).wide (lo':=w.heap.size) oO (oV O2.size a0.size) oN);have M9:=oH (M1.transNew a0 oL);refine rdZ 3 rfl (fun K hK=>?_);go_simp;refine hK.out _ _ (Or.inr ⟨a1.cell 0 rfl,a1.cell 1 rfl⟩) (fun _=>?_);clear hK K;try simp only[oP]
 refine aAj oK ?_ _;clear a0 O1 O2  M1 q0 q1 qf ql a4 V2 a1;have q0:=aE.cell 0 rfl;have q1:=aE.cell 1 rfl;have k0:=V3.cell 0 rfl;have k1:=V3.cell 1 rfl;go_wp2_with fail;refine oW (v:=.tuple #[.agg #[r,.slice Ai L ci],.agg #[r,.slice Ai L ci]]) (by simp[results,Tryz.results70,go_sem,q0,q1,k0,k1]) rfl ⟨r,Ai,ci,l,r,Ai,ci,l,?_,aC.out,aC.out,O9.out,aP.out,M9.out⟩;rw[aI.out]
end Go.Proofs.YtkimajabegojoaaGreat
