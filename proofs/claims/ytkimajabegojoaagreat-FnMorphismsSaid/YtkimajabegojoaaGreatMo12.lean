/- Lemmas. -/
import Derived.Test.YtkimajabegojoaaGreatMo11
import Derived.Test.YtkimajabegojoaaGreatMo8
import Derived.Test.YtkimajabegojoaaGreatMo5
import Derived.Test.YtkimajabegojoaaGreatMo9
import Derived.Test.YtkimajabegojoaaGreatMo7
import Derived.Test.YtkimajabegojoaaGreatMo2
import Derived.Test.YtkimajabegojoaaGreatMo6
import Derived.Test.YtkimajabegojoaaGreatMo3
import Derived.Test.YtkimajabegojoaaGreatMo1
import Derived.Lib.MinMax
namespace Go.Proofs.YtkimajabegojoaaGreat
set_option linter.unusedVariables false
set_option linter.unusedSimpArgs false
set_option maxHeartbeats 40000000
set_option maxRecDepth 100000
open Go.RowKit
theorem aDx(r s:Int)(A:OA)(es:List Ed)(c:Nat)(e:Ed)(w:World)(lo hi:Nat)(hr:RG w lo hi A es)(hg:IsGr r s es)(he:edB r s e=true)(hl:es.length<120)(bb:Bool)(aI:decide ((es.length:Int)<((aCw e es).length:Int))=bb) :
  Calls Tryz.prog 228 #[aAJ r s A es.length c,e.v] w fun en w'=>∃ A1 c1,en=.returned (.tuple #[aAJ r s A1 (aCw e es).length c1,.bool bb])/\OG w' w.heap.size w'.heap.size A1 c1 (aCw e es)/\Mid 0 0 w w':=by
 have a3:Mid 0 0 w (((w.alloc (.cells #[r,s,.slice A es.length c] 35)).alloc (.cells #[.int .i64 e.a,.int .i64 e.l,.int .i64 e.b] 110)).alloc (.cells #[(0:Int),(0:Int),.slice none 0 0] 35)):=((oE _ _).trans (oE _ _)).trans (oE _ _);have B0:=((oJ w #[r,s,.slice A es.length c] 35).mid (oE _ (.cells #[.int .i64 e.a,.int .i64 e.l,.int .i64 e.b] 110)) oZr).mid (oE _ (.cells #[(0:Int),(0:Int),.slice none 0 0] 35)) oZr;have B1:=(oJ (w.alloc (.cells #[r,s,.slice A es.length c] 35)) #[.int .i64 e.a,.int .i64 e.l,.int .i64 e.b] 110).mid (oE _ (.cells #[(0:Int),(0:Int),.slice none 0 0] 35)) oZr;have B2:=oJ ((w.alloc (.cells #[r,s,.slice A es.length c] 35)).alloc (.cells #[.int .i64 e.a,.int .i64 e.l,.int .i64 e.b] 110)) #[(0:Int),(0:Int),.slice none 0 0] 35;simp only[World.size_alloc] at B1 B2;have HG:=oH hg;clear hg;go_enter Tryz.func228,Tryz.ntmps228
 go_wp2_with fail;generalize ((w.alloc (.cells #[r,s,.slice A es.length c] 35)).alloc (.cells #[.int .i64 e.a,.int .i64 e.l,.int .i64 e.b] 110)).alloc (.cells #[(0:Int),(0:Int),.slice none 0 0] 35)=w1 at a3 B0 B1 B2 |-;have aT:w.heap.size+1+1<w1.heap.size:=B2.1;with_reducible refine(aCk r s A es c _ _ _ (hr.mid a3 oZl) oO).mono ?_
 rintro en w2 ⟨A1,c1,rfl,aL,aE⟩;have aC:=oE w2 (.cells #[r,s,.slice A1 es.length c1] 35);have Y3:=oJ w2 #[r,s,.slice A1 es.length c1] 35;have aU:=aE.size;replace B0:=B0.mid aE oZr;replace B1:=B1.mid aE oZr;replace B2:=B2.mid aE oZr;replace a3:=a3.trans aE;replace B0:=B0.mid aC oZr;replace B1:=B1.mid aC oZr;replace B2:=B2.mid aC oZr;replace a3:=a3.trans aC;obtain⟨p0,p1,p2⟩:=B0.c3 rfl;go_wp2_with fail;generalize w2.alloc (.cells #[r,s,.slice A1 es.length c1] 35)=w3 at a3 B0 B1 B2 Y3 p0 p1 p2 |-;have aP:w2.heap.size<w3.heap.size:=Y3.1;with_reducible refine(aBa r s A es c _ _ _ (hr.mid a3 oZl).rv oO true (oX rfl HG.out)).mono ?_
 rintro en w4 ⟨rfl,a7⟩;replace B0:=B0.mid a7 oZr;replace B1:=B1.mid a7 oZr;replace B2:=B2.mid a7 oZr;replace Y3:=Y3.mid a7 oZr;replace a3:=a3.trans a7;have aV:=a7.size;clear p0 p1 p2 a7 aL aC;obtain⟨p0,p1,p2⟩:=B0.c3 rfl;obtain⟨k0,k1,k2⟩:=B1.c3 rfl;go_wp2_with fail;have aH:=aGY r s A es.length c e w4;rw[he] at aH;with_reducible refine aH.mono ?_
 rintro en w5 ⟨rfl,a8⟩;replace B0:=B0.mid a8 oZr;replace B1:=B1.mid a8 oZr;replace B2:=B2.mid a8 oZr;replace Y3:=Y3.mid a8 oZr;replace a3:=a3.trans a8;have aW:=a8.size;clear p0 p1 p2 k0 k1 k2 a8 aH;obtain⟨p0,p1,p2⟩:=B0.c3 rfl;obtain⟨k0,k1,k2⟩:=B1.c3 rfl;have d1:decide ((120:Int)<=(es.length:Int))=false:=by simp;omega
 go_wp2_with fail;with_reducible refine(aBz A es c e w5 _ _ (hr.mid a3 oZl) oO).mono ?_
 rintro en w6 ⟨A6,c6,rfl,aJ,a9⟩;replace B0:=B0.mid a9 oZr;replace B1:=B1.mid a9 oZr;replace B2:=B2.mid a9 oZr;replace Y3:=Y3.mid a9 oZr;replace a3:=a3.trans a9;have aX:=a9.size;clear p0 p1 p2 k0 k1 k2 a9;obtain⟨P,hP⟩:∃ P,aCw e es=P:=⟨_,rfl⟩
 rw[hP] at aI aJ |-;have a4:=Mid.setCell w6 (lo:=w2.heap.size) (hi:=w2.heap.size+1) (p:=⟨w2,2,none⟩) (.slice A6 P.length c6) oN oS;have qf:=Y3.2.2;have q2:=Y3.cell 2 rfl;have aQ:w2.heap.size<w6.heap.size:=Y3.1;have Y4:=Y3.set 2 (.slice A6 P.length c6) oM rfl;simp only[List.set_cons_succ,List.set_cons_zero] at Y4;have a6:=B0.mid a4;have a5:=B2.mid a4;have aA:=a3.storeNew (p:=⟨w2,2,none⟩) (by show w.heap.size<=w2.heap.size;omega) (.slice A6 P.length c6);have aB:=aJ.mid a4;have aM:=a4.size;go_wp2_with fail;generalize w6.setCell ⟨w2,2,none⟩ (.slice A6 P.length c6)=w9 at Y4 a6 a5 aA aB aM |-;have aF:=Mid.drew1 w9;clear B0 B2 Y3 a3 aJ a4 B1;have aN:w9.heap.size<=w9.drew.heap.size:=oN;replace a6:=a6.mid aF oZr;replace a5:=a5.mid aF oZr;replace Y4:=Y4.mid aF oZr;replace aB:=aB.mid aF oZl;replace aA:=aA.trans aF;obtain⟨p0,p1,p2⟩:=a6.c3 rfl;obtain⟨q0,q1,q2⟩:=Y4.c3 rfl;have d2:=aI;have aK:decide (es.length<P.length)=bb:=by rw[<- aI];exact decide_eq_decide.2 oO
 clear qf q2;have aR:w.heap.size+1+1<w2.heap.size:=by omega
 clear q0 q1 q2 p0 p1 p2;obtain⟨q0,q1,q2⟩:=Y4.c3 rfl;obtain⟨p0,p1,p2⟩:=a6.c3 rfl;refine aAo (S:=(fun w'=>(w'.cell? ⟨w2,0,none⟩=some (.int .i64 r)/\w'.cell? ⟨w2,1,none⟩=some (.int .i64 s)/\w'.cell? ⟨w2,2,none⟩=some (.slice A6 P.length c6))/\w'.cell? ⟨w,2,none⟩=some (.slice A es.length c))) [] oK ⟨⟨q0,q1,q2⟩,p2⟩ ?_;generalize World.drew w9=wz at Y4 a6 a5 aA aB aN q0 q1 q2 p2 |-;have hS:(wz.cell? ⟨w2,0,none⟩=some (.int .i64 r)/\wz.cell? ⟨w2,1,none⟩=some (.int .i64 s)/\wz.cell? ⟨w2,2,none⟩=some (.slice A6 P.length c6))/\wz.cell? ⟨w,2,none⟩=some (.slice A es.length c):=⟨⟨q0,q1,q2⟩,p2⟩
 refine tkZ [] 0 rfl hS ?_;try simp only[oP]
 refine tkZ [] 1 rfl hS ?_;try simp only[oP]
 refine tkZ [] 2 rfl hS ?_;try simp only[oP]
 refine tkZ [] 3 rfl hS ?_;try simp only[oP]
 refine tkZ [] 4 rfl hS ?_;try simp only[oP]
 refine tkZ [] 5 rfl hS ?_;try simp only[oP]
 refine tkZ [] 6 rfl hS ?_;try simp only[oP]
 refine tkZ [] 7 rfl hS ?_;try simp only[oP]
 have a4:=Mid.s3 wz (w.heap.size+1+1) r s (.slice A6 P.length c6);have Y5:=Y4.mid a4;have B5:=a6.mid a4;have V2:=a5.s3 r s (.slice A6 P.length c6);have aG:=aB.mid a4;have aD:=aA.n3 (w.heap.size+1+1) oO r s (.slice A6 P.length c6);have aO:=a4.size;obtain⟨a0,a1,a2⟩:=a5.c3 rfl;have af:=a5.2.2;have aS:w.heap.size+1+1<wz.heap.size:=a5.1;refine rdZ 8 rfl (fun K hK=>?_);go_simp;refine hK.out _ _ (Or.inr ⟨Y5.c3 rfl,B5.cell 2 rfl⟩) (fun _=>?_);clear hK K;try simp only[oP]
 refine rdZ 9 rfl (fun K hK=>?_);go_simp;refine hK.out _ _ (Or.inr ⟨Y5.c3 rfl,B5.cell 2 rfl⟩) (fun _=>?_);clear hK K;try simp only[oP]
 refine aAj oK ?_ _;clear hS q0 q1 q2 p0 p1 p2 a0 a1 a2 af a4 Y4 a6 a5 aB aA;generalize ((wz.setCell ⟨w.heap.size+1+1,0,none⟩ r).setCell ⟨w.heap.size+1+1,1,none⟩ s).setCell ⟨w.heap.size+1+1,2,none⟩ (.slice A6 P.length c6)=w11 at V2 Y5 B5 aG aD aO |-;obtain⟨a0,a1,a2⟩:=V2.c3 rfl;have af:=V2.2.2;subst hP;go_wp2_with fail;refine oW (v:=.tuple #[.agg #[r,s,.slice A6 (aCw e es).length c6],.bool bb]) (by simp[results,Tryz.results228,go_sem,a0,a1,a2,af,aK]) rfl ⟨A6,c6,rfl,?_,?_⟩
 .exact OG.wide aG oO oO oN
 exact aD
structure DrG (r s:Int) (es:List Ed):Prop where
 rk:-10<=r/\r<=10
 sz:-10<=s/\s<=100
 len:es.length<=121
 all:∀ e∈es,(-100<=e.a/\e.a<=100)/\(-100<=e.l/\e.l<=100)/\(-100<=e.b/\e.b<=100)
theorem DrG.of_gr{r s:Int}{es:List Ed}(h:IsGr r s es):DrG r s es:=⟨by have:=h.rank;omega,by have:=h.size;omega,by have:=h.len;omega,fun e he=>by
 have h1:=h.all e he;have h2:=h.rank;have h3:=h.size;simp only[InG] at h1;omega⟩
theorem DrG.zero:DrG 0 0 []:=⟨oO,oO,by simp,by simp⟩
theorem aKl{r s:Int}{es:List Ed}{e:Ed}(h:IsGr r s es)(he:InG r s e)(hl:es.length<120):IsGr r s (aCw e es):=⟨h.rank,h.size,by have:=aDw e es;omega,fun x hx=>by
 rcases aJq.1 hx with rfl|hx
 .exact he
 .exact h.all x hx,aPi h.asc⟩
theorem aPr{r s:Int}{e:Ed}(h:InG r s e)(hs:1<=s/\s<=40):edB r s e=true:=by
 simp only[InG] at h;unfold edB;have e1:wrap64 (s - 1)=s - 1:=by unfold wrap64;omega
 rw[e1];simp[inB];omega
theorem aOE(p:Nat)(A:OA)(bs:LI)(c:Nat)(w:World)(hb:OkB bs)(hl:bs.length<=1048576)(h:Cur w p A bs c) :
  Calls Tryz.prog 239 #[.pointer (some ⟨p,0,none⟩)] w fun e w'=>∃ r n A' c' es,e=.returned (aAJ (r:Nat) (n:Nat) A' (List.length es) c')/\(IsGr (r:Nat) (n:Nat) es/\n<=5/\es.length<=8)/\OG w' w.heap.size w'.heap.size A' c' es/\Cur w' p A bs c/\Mid p (p+1) w w':=by
 have cs:=h.lt;have bk:=oE w (.cells #[(0:Int),(0:Int),.slice none 0 0] 35);have B2:=oJ w #[(0:Int),(0:Int),.slice none 0 0] 35;have h0:=h.mid bk (Or.inr rfl);go_enter Tryz.func239,Tryz.ntmps239
 have aR:=oE (w.alloc (.cells #[(0:Int),(0:Int),.slice none 0 0] 35)) (.cells #[(1:Int),(2:Int),(2:Int),(2:Int),(3:Int)] 3);have b3:=oJ (w.alloc (.cells #[(0:Int),(0:Int),.slice none 0 0] 35)) #[(1:Int),(2:Int),(2:Int),(2:Int),(3:Int)] 3;rw[World.size_alloc] at b3;replace B2:=B2.mid aR oZr;replace h0:=h0.mid aR (Or.inr rfl);have bC:=bk.trans aR;go_wp2_with fail;generalize (w.alloc (.cells #[(0:Int),(0:Int),.slice none 0 0] 35)).alloc (.cells #[(1:Int),(2:Int),(2:Int),(2:Int),(3:Int)] 3)=w1 at b3 B2 h0 bC |-;have ct:w.heap.size+1<w1.heap.size:=b3.1;have cQ:RI w1 (w.heap.size+1) (w.heap.size+1+1) (some ⟨w.heap.size+1,0,none⟩) [1,2,2,2,3]:=
  ⟨ct,fun _=>⟨w.heap.size+1,0,rfl,oN,oS,fun j u hu=>by rw[Nat.zero_add];exact b3.2.1 j u (by simpa [aAe] using hu)⟩⟩
 with_reducible refine(aDC (some ⟨w.heap.size+1,0,none⟩) [1,2,2,2,3] 5 5 rfl oD oD p A bs c _ (w.heap.size+1) _ cQ oL hb hl h0).mono ?_
 rintro e w2 ⟨r,rfl,cR,h2,m2⟩;have hr:1<=r/\r<=3:=by simp at cR;omega
 have bq:=B2.mid m2;have cP:=bC.zero.trans m2;clear cQ b3 cR h0 B2 bC bk aR m2;go_wp2_with fail;with_reducible refine(aAQ 5 oD oD p A bs c _ hb hl h2).mono ?_
 rintro e w3 ⟨k,rfl,hk,h3,m3⟩;have bE:=bq.mid m3;have bm:=cP.trans m3;have dN:=bm.size;have ek:IntKind.i64.wrap (1+(k:Int))=1+(k:Int):=oI _;clear h2 bq cP m3;go_wp2_with fail;have aS:=oE w3 (.cells #[r,.int .i64 (1+(k:Int)),.slice none 0 0] 35);have G0:=oJ w3 #[r,.int .i64 (1+(k:Int)),.slice none 0 0] 35;have am:=bE.mid aS oZr;have h4:=h3.mid aS (Or.inr rfl);have bD:=bm.trans aS.zero;obtain⟨gb,cN⟩:∃ g,w3.heap.size=g:=⟨_,rfl⟩
 have dK:w.heap.size<gb:=by have:=bE.1;omega
 obtain⟨rn,bn⟩:=Int.eq_ofNat_of_zero_le (by omega:0<=r);obtain⟨n,hn⟩:∃ n:Nat,1+(k:Int)=n:=⟨1+k,oO⟩
 rw[hn,cN,bn] at G0 |-;rw[hn,bn] at am h4 bD;generalize w3.alloc (.cells #[.int .i64 (rn:Int),.int .i64 (n:Int),.slice none 0 0] 35)=w4 at G0 am h4 bD |-;have bo:1<=(rn:Int)/\(rn:Int)<=3:=by omega
 have dM:1<=(n:Int)/\(n:Int)<=5:=by omega
 have dI:gb<w4.heap.size:=G0.1;clear h3 bE aS bm ek hn bn hk hr cN;with_reducible refine(aAQ 9 oD oD p A bs c _ hb hl h4).mono ?_
 rintro e w5 ⟨m0,rfl,bC,h5,m5⟩;replace G0:=G0.mid m5;replace am:=am.mid m5;have cq:=bD.trans m5;have cr:OG w5 (gb+1) w5.heap.size none 0 []:=OG.nil;clear h4 m5 bD;go_wp2_with fail;go_loopw [4] (fun nv wr=>∃(m:Nat) (es:List Ed) (Ae:OA) (ce L:Nat),nv=.int .i64 m/\Hid (es.length=L)/\L+m<=8/\Hid (IsGr rn n es)/\Box wr gb [.int .i64 rn,.int .i64 n,.slice Ae L ce]/\OG wr (gb+1) wr.heap.size Ae ce es/\Box wr w.heap.size [.int .i64 0,.int .i64 0,.slice none 0 0]/\Cur wr p A bs c/\Mid p (p+1) w wr)
  (fun nv _=>aQW nv)
 case atStart=>exact⟨m0,[],none,0,0,rfl,oH rfl,oO,oH ⟨bo,oO,by simp,by simp,List.Pairwise.nil⟩,G0,cr,am,h5,cq⟩
 obtain⟨m,es,Ae,ce,L,rfl,HL,dC,HG,hG,hO,hB,hC,hM⟩:=hrel;have dJ:gb<wr.heap.size:=hG.1;by_cases hlt:0<m
 .replace hG:=hG.mid (Mid.drew1 wr) oZr
  replace hO:=hO.mid (Mid.drew1 wr) oZl;replace hB:=hB.mid (Mid.drew1 wr) oZr;replace hC:=hC.mid (Mid.drew1 wr) (Or.inr rfl);replace hM:=hM.trans (Mid.drew1 wr).zero;have cu:wr.heap.size<=wr.drew.heap.size:=oN;have p0:=hG.cell 0 rfl;have p1:=hG.cell 1 rfl;go_wp2_with fail;refine aAo (S:=(fun w'=>w'.cell? ⟨gb,0,none⟩=some (.int .i64 (rn:Int))/\w'.cell? ⟨gb,1,none⟩=some (.int .i64 (n:Int)))) [] oK ⟨p0,p1⟩ ?_;generalize World.drew wr=wz at hG hO hB hC hM p0 p1 cu |-;have hS:wz.cell? ⟨gb,0,none⟩=some (.int .i64 (rn:Int))/\wz.cell? ⟨gb,1,none⟩=some (.int .i64 (n:Int)):=⟨p0,p1⟩
  have dL:gb<wz.heap.size:=hG.1;have cH:OG wz (gb+1) wz.heap.size Ae ce es:=hO.wide oN hO.size oN;clear hO;refine tkZ [] 0 rfl hS ?_;try simp only[oP]
  refine tkZ [] 1 rfl hS ?_;try simp only[oP]
  refine tkZ [] 2 rfl hS ?_;try simp only[oP]
  refine tkZ [] 4 rfl hS ?_;try simp only[oP]
  refine tkZ [] 5 rfl hS ?_;try simp only[oP]
  refine tkZ [] 6 rfl hS ?_;try simp only[oP]
  refine tkZ [] 9 rfl hS ?_;try simp only[oP]
  refine tkZ [] 10 rfl hS ?_;try simp only[oP]
  refine tkZ [] 11 rfl hS ?_;try simp only[oP]
  refine aBb (rs:=[3,14]) oK oM (AllReadyZ.cons rfl (fun K hK=>?_) (AllReadyZ.cons rfl (fun K hK=>?_) AllReadyZ.nil))
  ·(go_simp;(with_reducible refine(aAQ (n:Int) oO oO p A bs c _ hb hl hC).mono ?_);rintro en aI ⟨x1,rfl,dO,bM,m1⟩;have a8:=hG.mid m1;go_wp2_with fail)
   refine hK.out _ _ (Or.inr ⟨a8.cell 0 rfl,a8.cell 1 rfl⟩) (fun _=>?_);clear hK K;try simp only[oP]
   have dD:=And.intro (a8.cell 0 rfl) (a8.cell 1 rfl);have bF:=hB.mid m1;have cC:=cH.mid m1;have c7:=hM.trans m1;have dS:=m1.size;refine aBb (rs:=[7,14]) oK oM (AllReadyZ.cons rfl (fun K hK=>?_) (AllReadyZ.cons rfl (fun K hK=>?_) AllReadyZ.nil))
   ·(go_simp;(with_reducible refine(aAQ (rn:Int) oO oO p A bs c _ hb hl bM).mono ?_);rintro en aJ ⟨x2,rfl,dP,bQ,m2⟩;have aE:=a8.mid m2;go_wp2_with fail)
    refine hK.out _ _ (Or.inr ⟨aE.cell 0 rfl,aE.cell 1 rfl⟩) (fun _=>?_);clear hK K;try simp only[oP]
    have cd:=And.intro (aE.cell 0 rfl) (aE.cell 1 rfl);have bL:=bF.mid m2;have cD:=cC.mid m2;have c8:=c7.trans m2;have dT:=m2.size;have dB:IntKind.i64.wrap (1+(x2:Int))=1+(x2:Int):=oI _;refine tkZ [] 8 rfl cd ?_;try simp only[oP]
    refine aBb (rs:=[12,14]) oK oM (AllReadyZ.cons rfl (fun K hK=>?_) (AllReadyZ.cons rfl (fun K hK=>?_) AllReadyZ.nil));focus
     (go_simp;(with_reducible refine(aAQ (n:Int) oO oO p A bs c _ hb hl bQ).mono ?_);rintro en aK ⟨x3,rfl,dQ,bx,m3⟩;have aF:=aE.mid m3;go_wp2_with fail)
     refine hK.out _ _ (Or.inr ⟨aF.cell 0 rfl,aF.cell 1 rfl⟩) (fun _=>?_);clear hK K;try simp only[oP]
     have cf:=And.intro (aF.cell 0 rfl) (aF.cell 1 rfl);have bt:=bL.mid m3;have cZ:=cD.mid m3;have cX:=c8.trans m3;have dU:=m3.size;refine tkZ [] 13 rfl cf ?_;try simp only[oP]
     refine rdZ 14 rfl (fun K hK=>?_);go_simp;refine hK.out _ _ (Or.inr ⟨aAa (oE aK (.cells #[(0:Int),(0:Int),(0:Int)] 110)) aF.1 oZr (aF.cell 0 rfl),aAa (oE aK (.cells #[(0:Int),(0:Int),(0:Int)] 110)) aF.1 oZr (aF.cell 1 rfl)⟩) (fun _=>?_);clear hK K;try simp only[oP]
     have aY:=oE aK (.cells #[(0:Int),(0:Int),(0:Int)] 110);have az:=oJ aK #[(0:Int),(0:Int),(0:Int)] 110;have b9:=aF.mid aY oZr;have bu:=bt.mid aY oZr;have cE:=cZ.mid aY oZl;have bR:=bx.mid aY (Or.inr rfl);have c9:=cX.trans aY.zero;have d5:=aY.size;have cn:=aF.1;have ck:=bx.lt;have ch:=bt.1;generalize aK.alloc (.cells #[(0:Int),(0:Int),(0:Int)] 110)=wc4 at az b9 bu cE bR c9 d5 |-;clear aY;have dE:=And.intro (b9.cell 0 rfl) (b9.cell 1 rfl);have ad:=az.2.2;obtain⟨e0,e1,e2⟩:=az.c3 rfl;have ae:=az.1;have af:gb≠aK.heap.size:=by omega
     have a0:=Mid.s3 wc4 aK (.int .i64 (x1:Int)) (.int .i64 (1+(x2:Int))) (.int .i64 (x3:Int));have V:=az.s3 (.int .i64 (x1:Int)) (.int .i64 (1+(x2:Int))) (.int .i64 (x3:Int));have bl:=bR.lt;have G9:=b9.mid a0 oO;have B9:=bu.mid a0 oO;have O9:=cE.mid a0 oO;have C9:=bR.mid a0 oO;have M9:=c9.transNew a0 oO;refine rdZ 15 rfl (fun K hK=>?_);go_simp;refine hK.out _ _ (Or.inr ⟨G9.cell 0 rfl,G9.cell 1 rfl⟩) (fun _=>?_);clear hK K;try simp only[oP]
     refine aAj oK ?_ _;generalize ((wc4.setCell ⟨aK,0,none⟩ (.int .i64 (x1:Int))).setCell ⟨aK,1,none⟩ (.int .i64 (1+(x2:Int)))).setCell ⟨aK,2,none⟩ (.int .i64 (x3:Int))=w9 at V G9 B9 O9 C9 M9 |-;obtain⟨P,hP⟩:∃ P,aCw ⟨(x1:Int),1+(x2:Int),(x3:Int)⟩ es=P:=⟨_,rfl⟩
     have a4:InG rn n ⟨(x1:Int),1+(x2:Int),(x3:Int)⟩:=by simp only[InG];omega
     have aG:=HL.out;have aT:IsGr rn n P:=hP ▸ aKl HG.out a4 oO;have ab:P.length<=L+1:=by have:=aDw ⟨(x1:Int),1+(x2:Int),(x3:Int)⟩ es;rw[hP] at this;omega
     obtain⟨bb,aH⟩:∃ b,decide ((es.length:Int)<(P.length:Int))=b:=⟨_,rfl⟩
     have a3:=aDx rn n Ae es ce ⟨(x1:Int),1+(x2:Int),(x3:Int)⟩ w9 _ _ O9.rg HG.out (aPr a4 oO) oO bb (by rw[hP];exact aH);obtain⟨L2,a5⟩:∃ l,P.length=l:=⟨_,rfl⟩
     rw[hP,aG,a5] at a3;have aN:Hid (Calls Tryz.prog 228 #[.agg #[.int .i64 (rn:Int),.int .i64 (n:Int),.slice Ae L ce],.agg #[.int .i64 (x1:Int),.int .i64 (1+(x2:Int)),.int .i64 (x3:Int)]] w9 fun en w'=>∃ A1 c1,en=.returned (.tuple #[.agg #[.int .i64 (rn:Int),.int .i64 (n:Int),.slice A1 L2 c1],.bool bb])/\OG w' w9.heap.size w'.heap.size A1 c1 P/\Mid 0 0 w9 w'):=oH a3
    rotate_left
    focus
     go_simp;refine hK.out _ _ (Or.inr ⟨aAa (oE aJ (.cells #[(0:Int),(0:Int),(0:Int)] 110)) aE.1 oZr (aE.cell 0 rfl),aAa (oE aJ (.cells #[(0:Int),(0:Int),(0:Int)] 110)) aE.1 oZr (aE.cell 1 rfl)⟩) (fun _=>?_);clear hK K;try simp only[oP]
     have aZ:=oE aJ (.cells #[(0:Int),(0:Int),(0:Int)] 110);have c4:=oJ aJ #[(0:Int),(0:Int),(0:Int)] 110;have bA:=aE.mid aZ oZr;have bv:=bL.mid aZ oZr;have cF:=cD.mid aZ oZl;have bz:=bQ.mid aZ (Or.inr rfl);have cA:=c8.trans aZ.zero;have d6:=aZ.size;have co:=aE.1;have cl:=bQ.lt;have ci:=bL.1;generalize aJ.alloc (.cells #[(0:Int),(0:Int),(0:Int)] 110)=wc6 at c4 bA bv cF bz cA d6 |-;clear aZ;have dF:=And.intro (bA.cell 0 rfl) (bA.cell 1 rfl);refine rdZ 12 rfl (fun K hK=>?_)
     (go_simp;(with_reducible refine(aAQ (n:Int) oO oO p A bs c _ hb hl bz).mono ?_);rintro en cT ⟨x7,rfl,dR,c0,m7⟩;have b0:=bA.mid m7;go_wp2_with fail)
     refine hK.out _ _ (Or.inr ⟨b0.cell 0 rfl,b0.cell 1 rfl⟩) (fun _=>?_);clear hK K;try simp only[oP]
     have cg:=And.intro (b0.cell 0 rfl) (b0.cell 1 rfl);have cW:=bv.mid m7;have ca:=cF.mid m7;have cY:=cA.trans m7;have dV:=m7.size;have b8:=c4.mid m7;refine tkZ [] 13 rfl cg ?_;try simp only[oP]
     have ad:=b8.2.2;obtain⟨e0,e1,e2⟩:=b8.c3 rfl;have ae:=b8.1;have af:gb≠aJ.heap.size:=by omega
     have a0:=Mid.s3 cT aJ (.int .i64 (x1:Int)) (.int .i64 (1+(x2:Int))) (.int .i64 (x7:Int));have V:=b8.s3 (.int .i64 (x1:Int)) (.int .i64 (1+(x2:Int))) (.int .i64 (x7:Int));have bl:=c0.lt;have G9:=b0.mid a0 oO;have B9:=cW.mid a0 oO;have O9:=ca.mid a0 oO;have C9:=c0.mid a0 oO;have M9:=cY.transNew a0 oO;refine rdZ 15 rfl (fun K hK=>?_);go_simp;refine hK.out _ _ (Or.inr ⟨G9.cell 0 rfl,G9.cell 1 rfl⟩) (fun _=>?_);clear hK K;try simp only[oP]
     refine aAj oK ?_ _;generalize ((cT.setCell ⟨aJ,0,none⟩ (.int .i64 (x1:Int))).setCell ⟨aJ,1,none⟩ (.int .i64 (1+(x2:Int)))).setCell ⟨aJ,2,none⟩ (.int .i64 (x7:Int))=w9 at V G9 B9 O9 C9 M9 |-;obtain⟨P,hP⟩:∃ P,aCw ⟨(x1:Int),1+(x2:Int),(x7:Int)⟩ es=P:=⟨_,rfl⟩
     have a4:InG rn n ⟨(x1:Int),1+(x2:Int),(x7:Int)⟩:=by simp only[InG];omega
     have aG:=HL.out;have aT:IsGr rn n P:=hP ▸ aKl HG.out a4 oO;have ab:P.length<=L+1:=by have:=aDw ⟨(x1:Int),1+(x2:Int),(x7:Int)⟩ es;rw[hP] at this;omega
     obtain⟨bb,aH⟩:∃ b,decide ((es.length:Int)<(P.length:Int))=b:=⟨_,rfl⟩
     have a3:=aDx rn n Ae es ce ⟨(x1:Int),1+(x2:Int),(x7:Int)⟩ w9 _ _ O9.rg HG.out (aPr a4 oO) oO bb (by rw[hP];exact aH);obtain⟨L2,a5⟩:∃ l,P.length=l:=⟨_,rfl⟩
     rw[hP,aG,a5] at a3;have aN:Hid (Calls Tryz.prog 228 #[.agg #[.int .i64 (rn:Int),.int .i64 (n:Int),.slice Ae L ce],.agg #[.int .i64 (x1:Int),.int .i64 (1+(x2:Int)),.int .i64 (x7:Int)]] w9 fun en w'=>∃ A1 c1,en=.returned (.tuple #[.agg #[.int .i64 (rn:Int),.int .i64 (n:Int),.slice A1 L2 c1],.bool bb])/\OG w' w9.heap.size w'.heap.size A1 c1 P/\Mid 0 0 w9 w'):=oH a3
    rotate_left
    all_goals
     have HP:=oH aT;have ap:=oH a5;have c6:L2<=L+1:=by omega
     obtain⟨g0,g1,g2⟩:=G9.c3 rfl;obtain⟨v0,v1,v2⟩:=V.c3 rfl;have cL:=G9.1;have b5:=V.1;clear hP a4 aG aT ab aH a3 a5 O9 a0 ad e0 e1 e2 ae af;go_wp2_with fail;with_reducible refine(aN.out).mono ?_
     rintro en wf ⟨A1,c1,rfl,oP,mf⟩;have a2:=G9.mid mf oZr;have a6:=B9.mid mf oZr;have a7:=C9.mid mf (Or.inr rfl);have aU:=M9.trans mf.zero;have cS:=mf.size;clear g0 g1 g2 v0 v1 v2 V G9 B9 C9 M9 mf aN b5;obtain⟨g0,g1,g2⟩:=a2.c3 rfl;have gf:=a2.2.2;have gl:=a2.1;have cJ:=a6.1;have b4:=a7.lt;have a0:=Mid.s3 wf gb (.int .i64 (rn:Int)) (.int .i64 (n:Int)) (.slice A1 L2 c1);have ao:=a2.s3 (.int .i64 (rn:Int)) (.int .i64 (n:Int)) (.slice A1 L2 c1);have al:=a6.mid a0 oO;have ar:=(oP.mid a0).wide (lo':=gb+1) oO a0.size oN;have an:=a7.mid a0 oO;have aq:=aU.transNew a0 oO;clear a0 a6 a7 aU oP;go_wp2_with fail;go_roundw
     case rel=>exact⟨m - 1,P,A1,c1,L2,by go_num,ap,oO,HP,ao,ar,al,an,aq⟩
     simp[aQW];omega
   go_simp;refine hK.out _ _ (Or.inr ⟨aAa (oE aI (.cells #[(0:Int),(0:Int),(0:Int)] 110)) a8.1 oZr (a8.cell 0 rfl),aAa (oE aI (.cells #[(0:Int),(0:Int),(0:Int)] 110)) a8.1 oZr (a8.cell 1 rfl)⟩) (fun _=>?_);clear hK K;try simp only[oP]
   have aa:=oE aI (.cells #[(0:Int),(0:Int),(0:Int)] 110);have c5:=oJ aI #[(0:Int),(0:Int),(0:Int)] 110;have bB:=a8.mid aa oZr;have bw:=bF.mid aa oZr;have cG:=cC.mid aa oZl;have c2:=bM.mid aa (Or.inr rfl);have cB:=c7.trans aa.zero;have d7:=aa.size;have cp:=a8.1;have cm:=bM.lt;have cj:=bF.1;generalize aI.alloc (.cells #[(0:Int),(0:Int),(0:Int)] 110)=wc9 at c5 bB bw cG c2 cB d7 |-;clear aa;have dG:=And.intro (bB.cell 0 rfl) (bB.cell 1 rfl);refine rdZ 7 rfl (fun K hK=>?_)
   (go_simp;(with_reducible refine(aAQ (rn:Int) oO oO p A bs c _ hb hl c2).mono ?_);rintro en d8 ⟨aL,rfl,cv,bN,ag⟩;have a9:=bB.mid ag;go_wp2_with fail)
   refine hK.out _ _ (Or.inr ⟨a9.cell 0 rfl,a9.cell 1 rfl⟩) (fun _=>?_);clear hK K;try simp only[oP]
   have bg:=And.intro (a9.cell 0 rfl) (a9.cell 1 rfl);have bG:=bw.mid ag;have ba:=cG.mid ag;have bV:=cB.trans ag;have d0:=ag.size;have bS:=c5.mid ag;have cU:IntKind.i64.wrap (1+(aL:Int))=1+(aL:Int):=oI _;refine tkZ [] 8 rfl bg ?_;try simp only[oP]
   refine rdZ 12 rfl (fun K hK=>?_)
   (go_simp;(with_reducible refine(aAQ (n:Int) oO oO p A bs c _ hb hl bN).mono ?_);rintro en b6 ⟨aV,rfl,cw,av,ah⟩;have aA:=a9.mid ah;go_wp2_with fail)
   refine hK.out _ _ (Or.inr ⟨aA.cell 0 rfl,aA.cell 1 rfl⟩) (fun _=>?_);clear hK K;try simp only[oP]
   have bh:=And.intro (aA.cell 0 rfl) (aA.cell 1 rfl);have bH:=bG.mid ah;have bc:=ba.mid ah;have bW:=bV.trans ah;have d1:=ah.size;have aO:=bS.mid ah;refine tkZ [] 13 rfl bh ?_;try simp only[oP]
   have ad:=aO.2.2;obtain⟨e0,e1,e2⟩:=aO.c3 rfl;have ae:=aO.1;have af:gb≠aI.heap.size:=by omega
   have a0:=Mid.s3 b6 aI (.int .i64 (x1:Int)) (.int .i64 (1+(aL:Int))) (.int .i64 (aV:Int));have V:=aO.s3 (.int .i64 (x1:Int)) (.int .i64 (1+(aL:Int))) (.int .i64 (aV:Int));have bl:=av.lt;have G9:=aA.mid a0 oO;have B9:=bH.mid a0 oO;have O9:=bc.mid a0 oO;have C9:=av.mid a0 oO;have M9:=bW.transNew a0 oO;refine rdZ 15 rfl (fun K hK=>?_);go_simp;refine hK.out _ _ (Or.inr ⟨G9.cell 0 rfl,G9.cell 1 rfl⟩) (fun _=>?_);clear hK K;try simp only[oP]
   refine aAj oK ?_ _;generalize ((b6.setCell ⟨aI,0,none⟩ (.int .i64 (x1:Int))).setCell ⟨aI,1,none⟩ (.int .i64 (1+(aL:Int)))).setCell ⟨aI,2,none⟩ (.int .i64 (aV:Int))=w9 at V G9 B9 O9 C9 M9 |-;obtain⟨P,hP⟩:∃ P,aCw ⟨(x1:Int),1+(aL:Int),(aV:Int)⟩ es=P:=⟨_,rfl⟩
   have a4:InG rn n ⟨(x1:Int),1+(aL:Int),(aV:Int)⟩:=by simp only[InG];omega
   have aG:=HL.out;have aT:IsGr rn n P:=hP ▸ aKl HG.out a4 oO;have ab:P.length<=L+1:=by have:=aDw ⟨(x1:Int),1+(aL:Int),(aV:Int)⟩ es;rw[hP] at this;omega
   obtain⟨bb,aH⟩:∃ b,decide ((es.length:Int)<(P.length:Int))=b:=⟨_,rfl⟩
   have a3:=aDx rn n Ae es ce ⟨(x1:Int),1+(aL:Int),(aV:Int)⟩ w9 _ _ O9.rg HG.out (aPr a4 oO) oO bb (by rw[hP];exact aH);obtain⟨L2,a5⟩:∃ l,P.length=l:=⟨_,rfl⟩
   rw[hP,aG,a5] at a3;have aN:Hid (Calls Tryz.prog 228 #[.agg #[.int .i64 (rn:Int),.int .i64 (n:Int),.slice Ae L ce],.agg #[.int .i64 (x1:Int),.int .i64 (1+(aL:Int)),.int .i64 (aV:Int)]] w9 fun en w'=>∃ A1 c1,en=.returned (.tuple #[.agg #[.int .i64 (rn:Int),.int .i64 (n:Int),.slice A1 L2 c1],.bool bb])/\OG w' w9.heap.size w'.heap.size A1 c1 P/\Mid 0 0 w9 w'):=oH a3;have HP:=oH aT;have ap:=oH a5;have c6:L2<=L+1:=by omega
   obtain⟨g0,g1,g2⟩:=G9.c3 rfl;obtain⟨v0,v1,v2⟩:=V.c3 rfl;have cL:=G9.1;have b5:=V.1;clear hP a4 aG aT ab aH a3 a5 O9 a0 ad e0 e1 e2 ae af;go_wp2_with fail;with_reducible refine(aN.out).mono ?_
   rintro en wf ⟨A1,c1,rfl,oP,mf⟩;have a2:=G9.mid mf oZr;have a6:=B9.mid mf oZr;have a7:=C9.mid mf (Or.inr rfl);have aU:=M9.trans mf.zero;have cS:=mf.size;clear g0 g1 g2 v0 v1 v2 V G9 B9 C9 M9 mf aN b5;obtain⟨g0,g1,g2⟩:=a2.c3 rfl;have gf:=a2.2.2;have gl:=a2.1;have cJ:=a6.1;have b4:=a7.lt;have a0:=Mid.s3 wf gb (.int .i64 (rn:Int)) (.int .i64 (n:Int)) (.slice A1 L2 c1);have ao:=a2.s3 (.int .i64 (rn:Int)) (.int .i64 (n:Int)) (.slice A1 L2 c1);have al:=a6.mid a0 oO;have ar:=(oP.mid a0).wide (lo':=gb+1) oO a0.size oN;have an:=a7.mid a0 oO;have aq:=aU.transNew a0 oO;clear a0 a6 a7 aU oP;go_wp2_with fail;go_roundw
   case rel=>exact⟨m - 1,P,A1,c1,L2,by go_num,ap,oO,HP,ao,ar,al,an,aq⟩
   simp[aQW];omega
  go_simp;refine hK.out _ _ (Or.inr ⟨aAa (oE wz (.cells #[(0:Int),(0:Int),(0:Int)] 110)) hG.1 oZr (hG.cell 0 rfl),aAa (oE wz (.cells #[(0:Int),(0:Int),(0:Int)] 110)) hG.1 oZr (hG.cell 1 rfl)⟩) (fun _=>?_);clear hK K;try simp only[oP]
  have a1:=oE wz (.cells #[(0:Int),(0:Int),(0:Int)] 110);have ay:=oJ wz #[(0:Int),(0:Int),(0:Int)] 110;have aQ:=hG.mid a1 oZr;have au:=hB.mid a1 oZr;have b2:=cH.mid a1 oZl;have aw:=hC.mid a1 (Or.inr rfl);have b1:=hM.trans a1.zero;have bp:=a1.size;have cM:=hG.1;have cK:=hC.lt;have cI:=hB.1;generalize wz.alloc (.cells #[(0:Int),(0:Int),(0:Int)] 110)=wc13 at ay aQ au b2 aw b1 bp |-;clear a1;have cb:=And.intro (aQ.cell 0 rfl) (aQ.cell 1 rfl);refine rdZ 3 rfl (fun K hK=>?_)
  (go_simp;(with_reducible refine(aAQ (n:Int) oO oO p A bs c _ hb hl aw).mono ?_);rintro en d9 ⟨aW,rfl,cx,bO,ai⟩;have aB:=aQ.mid ai;go_wp2_with fail)
  refine hK.out _ _ (Or.inr ⟨aB.cell 0 rfl,aB.cell 1 rfl⟩) (fun _=>?_);clear hK K;try simp only[oP]
  have cc:=And.intro (aB.cell 0 rfl) (aB.cell 1 rfl);have bI:=au.mid ai;have bd:=b2.mid ai;have bX:=b1.trans ai;have d2:=ai.size;have bT:=ay.mid ai;refine rdZ 7 rfl (fun K hK=>?_)
  (go_simp;(with_reducible refine(aAQ (rn:Int) oO oO p A bs c _ hb hl bO).mono ?_);rintro en dA ⟨aM,rfl,cy,bP,aj⟩;have aC:=aB.mid aj;go_wp2_with fail)
  refine hK.out _ _ (Or.inr ⟨aC.cell 0 rfl,aC.cell 1 rfl⟩) (fun _=>?_);clear hK K;try simp only[oP]
  have bi:=And.intro (aC.cell 0 rfl) (aC.cell 1 rfl);have bJ:=bI.mid aj;have be:=bd.mid aj;have bY:=bX.trans aj;have d3:=aj.size;have bU:=bT.mid aj;have cV:IntKind.i64.wrap (1+(aM:Int))=1+(aM:Int):=oI _;refine tkZ [] 8 rfl bi ?_;try simp only[oP]
  refine rdZ 12 rfl (fun K hK=>?_)
  (go_simp;(with_reducible refine(aAQ (n:Int) oO oO p A bs c _ hb hl bP).mono ?_);rintro en b7 ⟨aX,rfl,cz,ax,ak⟩;have aD:=aC.mid ak;go_wp2_with fail)
  refine hK.out _ _ (Or.inr ⟨aD.cell 0 rfl,aD.cell 1 rfl⟩) (fun _=>?_);clear hK K;try simp only[oP]
  have bj:=And.intro (aD.cell 0 rfl) (aD.cell 1 rfl);have bK:=bJ.mid ak;have bf:=be.mid ak;have bZ:=bY.trans ak;have d4:=ak.size;have aP:=bU.mid ak;refine tkZ [] 13 rfl bj ?_;try simp only[oP]
  have ad:=aP.2.2;obtain⟨e0,e1,e2⟩:=aP.c3 rfl;have ae:=aP.1;have af:gb≠wz.heap.size:=by omega
  have a0:=Mid.s3 b7 wz (.int .i64 (aW:Int)) (.int .i64 (1+(aM:Int))) (.int .i64 (aX:Int));have V:=aP.s3 (.int .i64 (aW:Int)) (.int .i64 (1+(aM:Int))) (.int .i64 (aX:Int));have bl:=ax.lt;have G9:=aD.mid a0 oO;have B9:=bK.mid a0 oO;have O9:=bf.mid a0 oO;have C9:=ax.mid a0 oO;have M9:=bZ.transNew a0 oO;refine rdZ 15 rfl (fun K hK=>?_);go_simp;refine hK.out _ _ (Or.inr ⟨G9.cell 0 rfl,G9.cell 1 rfl⟩) (fun _=>?_);clear hK K;try simp only[oP]
  refine aAj oK ?_ _;generalize ((b7.setCell ⟨wz,0,none⟩ (.int .i64 (aW:Int))).setCell ⟨wz,1,none⟩ (.int .i64 (1+(aM:Int)))).setCell ⟨wz,2,none⟩ (.int .i64 (aX:Int))=w9 at V G9 B9 O9 C9 M9 |-;obtain⟨P,hP⟩:∃ P,aCw ⟨(aW:Int),1+(aM:Int),(aX:Int)⟩ es=P:=⟨_,rfl⟩
  have a4:InG rn n ⟨(aW:Int),1+(aM:Int),(aX:Int)⟩:=by simp only[InG];omega
  have aG:=HL.out;have aT:IsGr rn n P:=hP ▸ aKl HG.out a4 oO;have ab:P.length<=L+1:=by have:=aDw ⟨(aW:Int),1+(aM:Int),(aX:Int)⟩ es;rw[hP] at this;omega
  obtain⟨bb,aH⟩:∃ b,decide ((es.length:Int)<(P.length:Int))=b:=⟨_,rfl⟩
  have a3:=aDx rn n Ae es ce ⟨(aW:Int),1+(aM:Int),(aX:Int)⟩ w9 _ _ O9.rg HG.out (aPr a4 oO) oO bb (by rw[hP];exact aH);obtain⟨L2,a5⟩:∃ l,P.length=l:=⟨_,rfl⟩
  rw[hP,aG,a5] at a3;have aN:Hid (Calls Tryz.prog 228 #[.agg #[.int .i64 (rn:Int),.int .i64 (n:Int),.slice Ae L ce],.agg #[.int .i64 (aW:Int),.int .i64 (1+(aM:Int)),.int .i64 (aX:Int)]] w9 fun en w'=>∃ A1 c1,en=.returned (.tuple #[.agg #[.int .i64 (rn:Int),.int .i64 (n:Int),.slice A1 L2 c1],.bool bb])/\OG w' w9.heap.size w'.heap.size A1 c1 P/\Mid 0 0 w9 w'):=oH a3;have HP:=oH aT;have ap:=oH a5;have c6:L2<=L+1:=by omega
  obtain⟨g0,g1,g2⟩:=G9.c3 rfl;obtain⟨v0,v1,v2⟩:=V.c3 rfl;have cL:=G9.1;have b5:=V.1;clear hP a4 aG aT ab aH a3 a5 O9 a0 ad e0 e1 e2 ae af;go_wp2_with fail;with_reducible refine(aN.out).mono ?_
  rintro en wf ⟨A1,c1,rfl,oP,mf⟩;have a2:=G9.mid mf oZr;have a6:=B9.mid mf oZr;have a7:=C9.mid mf (Or.inr rfl);have aU:=M9.trans mf.zero;have cS:=mf.size;clear g0 g1 g2 v0 v1 v2 V G9 B9 C9 M9 mf aN b5;obtain⟨g0,g1,g2⟩:=a2.c3 rfl;have gf:=a2.2.2;have gl:=a2.1;have cJ:=a6.1;have b4:=a7.lt;have a0:=Mid.s3 wf gb (.int .i64 (rn:Int)) (.int .i64 (n:Int)) (.slice A1 L2 c1);have ao:=a2.s3 (.int .i64 (rn:Int)) (.int .i64 (n:Int)) (.slice A1 L2 c1);have al:=a6.mid a0 oO;have ar:=(oP.mid a0).wide (lo':=gb+1) oO a0.size oN;have an:=a7.mid a0 oO;have aq:=aU.transNew a0 oO;clear a0 a6 a7 aU oP;go_wp2_with fail;go_roundw
  case rel=>exact⟨m - 1,P,A1,c1,L2,by go_num,ap,oO,HP,ao,ar,al,an,aq⟩
  simp[aQW];omega
 obtain⟨q0,q1,q2⟩:=hG.c3 rfl;obtain⟨p0,p1,p2⟩:=hB.c3 rfl;have pf:=hB.2.2;have dH:=hB.1;have cO:=HL.out;have a0:=Mid.s3 wr w (.int .i64 (rn:Int)) (.int .i64 (n:Int)) (.slice Ae L ce);have O9:=oH ((hO.mid a0).wide (lo':=w.heap.size) oO a0.size oN);have C9:=oH (hC.mid a0 (Or.inl cs));have M9:=oH (hM.transNew a0 (Or.inl oN));have br:=oH cO;clear a0 cO hO hC hM;go_wp2_with fail;refine oW (v:=.agg #[.int .i64 (rn:Int),.int .i64 (n:Int),.slice Ae L ce]) (by simp[results,Tryz.results239,go_sem,p0,p1,p2,pf,q0,q1,q2]) rfl ⟨rn,n,Ae,ce,es,?_,⟨HG.out,oO,by have:=br.out;omega⟩,O9.out,C9.out,M9.out⟩;rw[br.out]
theorem DrG.size{r s t:Int}{es:List Ed}(h:DrG r s es)(ht:-10<=t/\t<=100):DrG r t es:=⟨h.rk,ht,h.len,h.all⟩
theorem DrG.rank{r s t:Int}{es:List Ed}(h:DrG r s es)(ht:-10<=t/\t<=10):DrG t s es:=⟨ht,h.sz,h.len,h.all⟩
theorem DrG.add{r s:Int}{es:List Ed}{e:Ed}(h:DrG r s es)(hl:es.length<=120)(he:(-100<=e.a/\e.a<=100)/\(-100<=e.l/\e.l<=100)/\(-100<=e.b/\e.b<=100)):DrG r s (es++[e]):=⟨h.rk,h.sz,by rw[List.length_append];simp;omega,fun x hx=>by
 rcases List.mem_append.1 hx with hx|hx
 .exact h.all x hx
 .simp at hx
  rw[hx];exact he⟩
theorem aRM(p:Nat)(A:OA)(bs:LI)(c:Nat)(w:World)(hb:OkB bs)(hl:bs.length<=1048576)(h:Cur w p A bs c) :
  Calls Tryz.prog 193 #[.pointer (some ⟨p,0,none⟩)] w fun e w'=>∃ r s A' c' es,e=.returned (aAJ r s A' (List.length es) c')/\DrG r s es/\OG w' w.heap.size w'.heap.size A' c' es/\Cur w' p A bs c/\Mid p (p+1) w w':=by
 have aT:=h.lt;have aS:=oE w (.cells #[(0:Int),(0:Int),.slice none 0 0] 35);have B2:=oJ w #[(0:Int),(0:Int),.slice none 0 0] 35;have h0:=h.mid aS (Or.inr rfl);go_enter Tryz.func193,Tryz.ntmps193
 go_wp2_with fail;generalize (w.alloc (.cells #[(0:Int),(0:Int),.slice none 0 0] 35))=w1 at B2 h0 aS |-;have ao:w.heap.size<w1.heap.size:=B2.1;with_reducible refine(aOE p A bs c w1 hb hl h0).mono ?_
 rintro e w2 ⟨r,n,Ae,ce,es,rfl,⟨hg,an,ak⟩,hO,h2,m2⟩;replace B2:=B2.mid m2;have aK:=aS.zero.trans m2;have ap:=m2.size;have HG:=oH (DrG.of_gr hg);obtain⟨L,hL⟩:∃ l,es.length=l:=⟨_,rfl⟩
 have HL:=oH hL;have ar:L<=8:=by omega
 rw[hL];have a5:=oE w2 (.cells #[.int .i64 (r:Int),.int .i64 (n:Int),.slice Ae L ce] 35);have G0:=oJ w2 #[.int .i64 (r:Int),.int .i64 (n:Int),.slice Ae L ce] 35;obtain⟨gb,af⟩:∃ g,w2.heap.size=g:=⟨_,rfl⟩
 clear hg an ak aS h0 m2 hL;go_wp2_with fail;rw[af] at G0;replace B2:=B2.mid a5 oZr;replace h2:=h2.mid a5 (Or.inr rfl);replace aK:=aK.trans a5.zero;have aX:=(hO.mid a5 oZl).wide (lo':=w.heap.size+1) (hi':=gb) oO oO (by have:=G0.1;omega);generalize w2.alloc (.cells #[.int .i64 (r:Int),.int .i64 (n:Int),.slice Ae L ce] 35)=w3 at G0 B2 h2 aK aX |-;have am:gb<w3.heap.size:=G0.1;have aw:w.heap.size<gb:=by omega
 clear a5 hO ao ap af;with_reducible refine(aAQ 14 oD oD p A bs c _ hb hl h2).mono ?_
 rintro e w4 ⟨k,rfl,hk,h4,m4⟩;replace G0:=G0.mid m4;replace B2:=B2.mid m4;have a3:=aX.mid m4;have a4:=aK.trans m4;clear h2 aX aK m4 am;rcases(by omega:k=0 \/ k=1 \/ k=2 \/ 3<=k) with rfl|rfl|rfl|hk3
 .have HD:=oH (HG.out)
  have al:=oE w4 (.cells #[.int .i64 (-1),(0:Int),(1:Int),(41:Int)] 3);have aC:=oJ w4 #[.int .i64 (-1),(0:Int),(1:Int),(41:Int)] 3;go_wp2_with fail;replace G0:=G0.mid al oZr;replace B2:=B2.mid al oZr;have aB:=a3.mid al oZl;have h5:=h4.mid al (Or.inr rfl);have a8:=a4.trans al.zero;have aD:=G0.1;have aF:=h4.lt;have aG:RI (w4.alloc (.cells #[.int .i64 (-1),(0:Int),(1:Int),(41:Int)] 3)) w4 (w4.heap.size+1) (some ⟨w4,0,none⟩) [-1,0,1,41]:=⟨aC.1,fun _=>⟨w4.heap.size,0,rfl,oN,oS,fun j u hu=>by rw[Nat.zero_add];exact aC.2.1 j u (by simpa [aAe] using hu)⟩⟩
  generalize (w4.alloc (.cells #[.int .i64 (-1),(0:Int),(1:Int),(41:Int)] 3))=w5 at G0 B2 aB h5 a8 aG aD |-;clear a3 h4 a4 al aC;with_reducible refine(aDC (some ⟨w4,0,none⟩) [-1,0,1,41] 4 4 rfl oD oD p A bs c _ _ _ aG (Or.inl aF) hb hl h5).mono ?_
  rintro e w6 ⟨t,rfl,aO,h6,m6⟩;have ht:-10<=t/\t<=100:=by simp at aO;omega
  replace G0:=G0.mid m6;replace B2:=B2.mid m6;have a1:=aB.mid m6;have a2:=a8.trans m6;clear aB h5 a8 m6 aG aO;obtain⟨g0,g1,g2⟩:=G0.c3 rfl;have gf:=G0.2.2;have gl:=G0.1;have a0:=Mid.setCell w6 (lo:=gb) (hi:=gb+1) (p:=⟨gb,1,none⟩) t oN oS;replace G0:=G0.set 1 t oM rfl;simp only[List.set_cons_succ,List.set_cons_zero] at G0;replace B2:=B2.mid a0;replace a1:=a1.mid a0 (Or.inr oN);replace h6:=h6.mid a0;replace a2:=a2.transNew a0 oL;have ql:=B2.1;have aV:=G0.1;obtain⟨k0,k1,k2⟩:=G0.c3 rfl;obtain⟨q0,q1,q2⟩:=B2.c3 rfl;have qf:=B2.2.2;obtain⟨wT,aU⟩:∃ x,w6.setCell ⟨gb,1,none⟩ (.int .i64 t)=x:=⟨_,rfl⟩
  rw[aU] at G0 B2 a1 h6 a2 ql aV k0 k1 k2 q0 q1 q2 qf;clear a0;have a0:=Mid.s3 wT w (.int .i64 (r:Int)) t (.slice Ae L ce);have O9:=oH ((a1.mid a0).wide (lo':=w.heap.size) (hi':=_) oO (by have:=a0.size;have:=a1.size;exact oV a1.size a0.size) oN);have C9:=oH (h6.mid a0 (Or.inl aT));have M9:=oH (a2.transNew a0 (Or.inl oN));clear a0 a1 h6 a2;go_wp2_with fail;refine oW (v:=.agg #[.int .i64 (r:Int),t,.slice Ae L ce]) (by simp[results,Tryz.results193,go_sem,q0,q1,q2,qf,k0,k1,k2]) rfl ⟨(r:Int),t,Ae,ce,es,?_,(HG.out.size ht),O9.out,C9.out,M9.out⟩;rw[HL.out]
 .have HD:=oH (HG.out)
  have al:=oE w4 (.cells #[(0:Int),(1:Int),(4:Int)] 3);have aC:=oJ w4 #[(0:Int),(1:Int),(4:Int)] 3;go_wp2_with fail;replace G0:=G0.mid al oZr;replace B2:=B2.mid al oZr;have aB:=a3.mid al oZl;have h5:=h4.mid al (Or.inr rfl);have a8:=a4.trans al.zero;have aD:=G0.1;have aF:=h4.lt;have aG:RI (w4.alloc (.cells #[(0:Int),(1:Int),(4:Int)] 3)) w4 (w4.heap.size+1) (some ⟨w4,0,none⟩) [0,1,4]:=⟨aC.1,fun _=>⟨w4.heap.size,0,rfl,oN,oS,fun j u hu=>by rw[Nat.zero_add];exact aC.2.1 j u (by simpa [aAe] using hu)⟩⟩
  generalize (w4.alloc (.cells #[(0:Int),(1:Int),(4:Int)] 3))=w5 at G0 B2 aB h5 a8 aG aD |-;clear a3 h4 a4 al aC;with_reducible refine(aDC (some ⟨w4,0,none⟩) [0,1,4] 3 3 rfl oD oD p A bs c _ _ _ aG (Or.inl aF) hb hl h5).mono ?_
  rintro e w6 ⟨t,rfl,aO,h6,m6⟩;have ht:-10<=t/\t<=10:=by simp at aO;omega
  replace G0:=G0.mid m6;replace B2:=B2.mid m6;have a1:=aB.mid m6;have a2:=a8.trans m6;clear aB h5 a8 m6 aG aO;obtain⟨g0,g1,g2⟩:=G0.c3 rfl;have gf:=G0.2.2;have gl:=G0.1;have a0:=Mid.setCell w6 (lo:=gb) (hi:=gb+1) (p:=⟨gb,0,none⟩) t oN oS;replace G0:=G0.set 0 t oM rfl;simp only[List.set_cons_succ,List.set_cons_zero] at G0;replace B2:=B2.mid a0;replace a1:=a1.mid a0 (Or.inr oN);replace h6:=h6.mid a0;replace a2:=a2.transNew a0 oL;have ql:=B2.1;have aV:=G0.1;obtain⟨k0,k1,k2⟩:=G0.c3 rfl;obtain⟨q0,q1,q2⟩:=B2.c3 rfl;have qf:=B2.2.2;obtain⟨wT,aU⟩:∃ x,w6.setCell ⟨gb,0,none⟩ (.int .i64 t)=x:=⟨_,rfl⟩
  rw[aU] at G0 B2 a1 h6 a2 ql aV k0 k1 k2 q0 q1 q2 qf;clear a0;have a0:=Mid.s3 wT w t (.int .i64 (n:Int)) (.slice Ae L ce);have O9:=oH ((a1.mid a0).wide (lo':=w.heap.size) (hi':=_) oO (by have:=a0.size;have:=a1.size;exact oV a1.size a0.size) oN);have C9:=oH (h6.mid a0 (Or.inl aT));have M9:=oH (a2.transNew a0 (Or.inl oN));clear a0 a1 h6 a2;go_wp2_with fail;refine oW (v:=.agg #[t,.int .i64 (n:Int),.slice Ae L ce]) (by simp[results,Tryz.results193,go_sem,q0,q1,q2,qf,k0,k1,k2]) rfl ⟨t,(n:Int),Ae,ce,es,?_,(HG.out.rank ht),O9.out,C9.out,M9.out⟩;rw[HL.out]
 .have aH:=Mid.drew1 w4
  replace G0:=G0.mid aH oZr;replace B2:=B2.mid aH oZr;replace a3:=a3.mid aH oZl;replace h4:=h4.mid aH (Or.inr rfl);replace a4:=a4.trans aH.zero;clear aH;have g2:=G0.cell 2 rfl;go_wp2_with fail;refine aAo (S:=(fun w'=>w'.cell? ⟨gb,2,none⟩=some (.slice Ae L ce))) [8] oK g2 ?_;generalize World.drew w4=wz at G0 B2 a3 h4 a4 g2 |-;refine tkZ [8] 0 rfl g2 ?_;try simp only[oP]
  refine tkZ [8] 1 rfl g2 ?_;try simp only[oP]
  refine tkZ [8] 2 rfl g2 ?_;try simp only[oP]
  refine rdZ 3 rfl (fun K hK=>?_)
  (go_simp;(with_reducible refine(aAQ 4 oD oD p A bs c _ hb hl h4).mono ?_);rintro en w5 ⟨x,rfl,hx,h5,m5⟩;have G5:=G0.mid m5;go_wp2_with fail)
  refine hK.out _ _ (Or.inr (G5.cell 2 rfl)) (fun _=>?_);clear hK K;try simp only[oP]
  have B5:=B2.mid m5;have O5:=a3.mid m5;have a8:=a4.trans m5;clear g2 G0 B2 a3 h4 a4 m5;have k2:=G5.cell 2 rfl;refine tkZ [8] 4 rfl k2 ?_;try simp only[oP]
  have al:=oE w5 (.cells #[.int .i64 (x:Int),(1:Int),(0:Int)] 110);have G6:=G5.mid al oZr;have ae:Rs (w5.alloc (.cells #[.int .i64 (x:Int),(1:Int),(0:Int)] 110)) (w5.heap.size+1) (some ⟨w5,0,none⟩) [.int .i64 (x:Int),(1:Int),(0:Int)]:=fun _=>⟨w5.heap.size,0,rfl,oS,fun j u hu=>(World.cell?_alloc_at _ _ _ _ rfl).trans (by simpa using hu)⟩
  refine rdZ 5 rfl (fun K hK=>?_);go_simp;refine hK.out _ _ (Or.inr (G6.cell 2 rfl)) (fun _=>?_);clear hK K;try simp only[oP]
  have B6:=B5.mid al oZr;have O6:=O5.mid al oZl;have h6:=h5.mid al (Or.inr rfl);have a2:=a8.trans al.zero;have au:=G5.1;generalize w5.alloc (.cells #[.int .i64 (x:Int),(1:Int),(0:Int)] 110)=w6 at G6 ae B6 O6 h6 a2 |-;clear al B5 O5 h5 a8 k2 G5;have a7:=O6.2.1;rw[HL.out] at a7;have aN:∀ u∈[Value.int .i64 (x:Int),(1:Int),(0:Int)],u.oneCell'=true:=by
   intro u hu;simp at hu;rcases hu with rfl|rfl|rfl <;> rfl
  have HO:=oH aN;have aa:L+1<=maxLen:=by unfold maxLen;omega
  have aY:(L+1) * 24<=140737488355328:=by omega
  have av:gb<w6.heap.size:=G6.1;have aJ:w.heap.size+1<=w6.heap.size:=by have:=G6.1;omega
  have ah:Value.ownBlock (.slice Ae L ce)≠some gb:=fun h=>by have:=O6.2.2 gb (by rw[HL.out];exact h);omega
  have aL:Value.ownBlock (.slice Ae L ce)≠some w.heap.size:=fun h=>by have:=a7.lt _ h;omega
  have HN:=oH ah;clear aN ah;refine rdZ 6 rfl (fun K hK=>?_)
  (refine aAV (by rfl) (.tmp 23) (.tmp 27) 33 (by rfl) (w.heap.size+1) 110 (.agg #[(0:Int),(0:Int),(0:Int)]) 3 24 aMH aNq rfl oD (.slice Ae L ce) L _ (by rfl) a7 (some ⟨w5,0,none⟩) 1 1 _ [.int .i64 (x:Int),(1:Int),(0:Int)] (by rfl) ae rfl HO.out aa aY aJ ?_;intro v9 w9 ad a6 aI;obtain⟨A9,c9,rfl, -, -⟩:=aAc ad)
  refine hK.out _ _ (Or.inr ((G6.grown a6 HN.out).cell 2 rfl)) (fun _=>?_);clear hK K;try simp only[oP]
  have G9:=G6.grown a6 HN.out;have B9:=B6.grown a6 aL;have m9:=oF a7 a6;have h9:=h6.mid m9;have ag:=a2.transNew m9 oL;clear ae B6 O6 h6 a2 G6 a7 aJ aL;have gf:=G9.2.2;have gl:=G9.1;obtain⟨g0,g1,g2⟩:=G9.c3 rfl;refine tkZ [8] 7 rfl g2 ?_;try simp only[oP]
  have aA:=Mid.setCell w9 (lo:=gb) (hi:=gb+1) (p:=⟨gb,2,none⟩) (.slice A9 (L+1) c9) oN oS;have aR:=G9.set 2 (.slice A9 (L+1) c9) oM rfl;simp only[List.set_cons_succ,List.set_cons_zero] at aR;have aQ:=B9.mid aA;have aW:=h9.mid aA;have aE:=ag.transNew aA oL;have aM:(w9.setCell ⟨gb,2,none⟩ (.slice A9 (L+1) c9)).ownsRow (w.heap.size+1) 110 3 (.slice A9 (L+1) c9) (L+1) (aAe (edI (es++[⟨(x:Int),1,0⟩]))):=by
   rw[aCW,aAi,aIe];refine ownsRow_setCell_other ad ?_ _;rcases aI with h|h
   .rw[h]
    exact HN.out
   rw[h];intro e;have:=Option.some.inj e;have hh:w6.heap.size=gb:=this;omega
  refine rdZ 8 rfl (fun K hK=>?_);go_simp;refine hK.out _ _ (Or.inl oM) (fun _=>?_);clear hK K;try simp only[oP]
  refine aAj oK ?_ _;have aZ:(es++[(⟨(x:Int),1,0⟩:Ed)]).length=L+1:=by rw[List.length_append,HL.out];rfl
  have aj:=oH aZ;obtain⟨A11,aq,aP,ab,a9⟩:=OG.mk' aM;rw[aZ] at aP;injection aP with e1 e2 e3
  subst e1 e3;have ai:Hid (DrG (r:Int) (n:Int) (es++[(⟨(x:Int),1,0⟩:Ed)])):=oH (DrG.add HG.out (by rw[HL.out];omega) (And.intro (show -100<=(x:Int)/\(x:Int)<=100 by omega) (And.intro oM oM)));generalize w9.setCell ⟨gb,2,none⟩ (.slice A9 (L+1) c9)=wT at aR aQ aW aE a9 |-;clear aA G9 B9 h9 ag gf gl g0 g1 g2 m9 ad aM a6 aI aZ ab;obtain⟨g0,g1,g2⟩:=aR.c3 rfl;obtain⟨q0,q1,q2⟩:=aQ.c3 rfl;have qf:=aQ.2.2;have ql:=aQ.1;have gl:=aR.1;have a0:=Mid.s3 wT w (.int .i64 (r:Int)) (.int .i64 (n:Int)) (.slice A9 (L+1) c9);have O9:=oH ((a9.mid a0).wide (lo':=w.heap.size) oO (by have:=a0.size;have:=a9.size;omega) oN);have C9:=oH (aW.mid a0 (Or.inl aT));have M9:=oH (aE.transNew a0 (Or.inl oN));clear a0 a9 aW aE;go_wp2_with fail;refine oW (v:=.agg #[.int .i64 (r:Int),.int .i64 (n:Int),.slice A9 (L+1) c9]) (by simp[results,Tryz.results193,go_sem,q0,q1,q2,qf,g0,g1,g2]) rfl ⟨(r:Int),(n:Int),A9,c9,(es++[(⟨(x:Int),1,0⟩:Ed)]),?_,ai.out,O9.out,C9.out,M9.out⟩;rw[aj.out]
 have e0:¬ ((k:Int)=0):=by omega
 have e1:¬ ((k:Int)=1):=by omega
 have e2:¬ ((k:Int)=2):=by omega
 generalize aU:w4=wT at G0 B2 a3 h4 a4 |-;obtain⟨g0,g1,g2⟩:=G0.c3 rfl;obtain⟨q0,q1,q2⟩:=B2.c3 rfl;have qf:=B2.2.2;have ql:=B2.1;have gl:=G0.1;have a0:=Mid.s3 wT w (.int .i64 (r:Int)) (.int .i64 (n:Int)) (.slice Ae L ce);have O9:=oH ((a3.mid a0).wide (lo':=w.heap.size) oO (by have:=a0.size;have:=a3.size;omega) oN);have C9:=oH (h4.mid a0 (Or.inl aT));have M9:=oH (a4.transNew a0 (Or.inl oN));clear a0 a3 h4 a4;go_wp2_with fail;refine oW (v:=.agg #[.int .i64 (r:Int),.int .i64 (n:Int),.slice Ae L ce]) (by simp[results,Tryz.results193,go_sem,q0,q1,q2,qf,g0,g1,g2]) rfl ⟨(r:Int),(n:Int),Ae,ce,es,?_,HG.out,O9.out,C9.out,M9.out⟩;rw[HL.out]
section
open Go.RowKit
section
variable {w w' W W':World} {lo a b:Nat} {A A':OA} {n c c':Nat} {rows:List Row} {r:Row}
theorem Own1.midB(h:Own1 w lo A n c rows)(m:Mid a b w w')(hd:b<=lo):Own1 w' lo A n c rows:=
 ⟨aAb h.out m (Or.inl hd),(h.rows.mid m (Or.inl hd)).wide oN m.size oN⟩
theorem Own1.pushB(h:Own1 w lo A n c rows)(m:Mid a b w W)(hd:b<=lo)(hl:lo<=w.heap.size)(a0:W.ownsRow w 3 1 r.v r.xs.length (aAe r.xs))(h1:W'.ownsRow lo 44 1 (.slice A' (n+1) c') (n+1) (aBi rows++[r.v]))(h2:W.grownBy W' (obS A n c)):Own1 W' lo A' (n+1) c' (rows++[r]):=by
 refine⟨by rw[aBg];exact h1,?_⟩;have k1:=(h.rows.mid m (Or.inl hd)).push (r:=r) (base:=w.heap.size) (hi':=W.heap.size) a0 oN hl m.size oN (fun g hg=>(a0.lt g hg).2);exact(k1.grown (h.midB m hd).out oD h2).wide oN h2.size oN
variable {ops:Array Oper} {rest:List Oper} {o:Oper} {ac:Act} {Q:Exit->Act->World->Prop}
theorem aOc(a0:o.guard=none)(s x:Operand)(ho:o.op=.call { callee:=.builtin .append,args:=#[s,x],argTypes:=#[24,24] })(hs:ac.eval s=.slice A n c)(h:Own1 w lo A n c rows)(m:Mid a b w W)(hd:b<=lo)(r:Row)(u:Value)(hu:r.v=u)(hrow:W.ownsRow w 3 1 r.v r.xs.length (aAe r.xs))(hx:ac.eval x=.slice (some ⟨W,0,none⟩) 1 1)(hn:n<=1048576)(hb:lo<=w.heap.size)(hk:∀ A' c' w',Own1 w' lo A' (n+1) c' (rows++[r])->W.grownBy w' (obS A n c)->wpList Tryz.prog ops Q rest (ac.put o.dst (.slice A' (n+1) c')) w') :
  wpList Tryz.prog ops Q (o::rest) ac (W.alloc (.cells #[u] 44)):=by
 subst hu;have a1:=m.size;refine aAk (news:=[r.v]) a0 s x 24 ho lo 44 (.slice none 0 0) 1 24 aDl aDi rfl oD (.slice A n c) n (aBi rows) hs (h.midB m hd).out 1 hx rfl ?_ (by unfold maxLen;omega) oO oO ?_
 .intro u hu
  simp at hu;subst hu
  rfl
 intro v' w' h1 h2 h3;obtain⟨A',c',rfl, -, -⟩:=aAc h1;exact hk A' c' w' (h.pushB m hd hb hrow h1 h2) h2
end
def DrWs(l:LL):Prop:=l.length<=5/\∀ w∈l,w.length<=5/\LtW w/\Rd w
theorem DrWs.len{l:LL}(h:DrWs l):∀ {k:Nat},aAK (l.take k)<=5 * k:=by
 intro k
 induction k with
|zero=>simp[aAK]
|succ k ih=>
  by_cases hk:k<l.length
  .have e:=aBI (List.getElem?_eq_getElem hk)
   have:=(h.2 _ (List.getElem_mem hk)).1;omega
  rw[List.take_of_length_le oO] at ih |-;omega
theorem DrWs.sum{l:LL}(h:DrWs l):aAK l<=25:=by
 have:=h.len (k:=l.length);rw[List.take_length] at this;have:=h.1;omega
theorem DrWs.ok{l:LL}(h:DrWs l):OkSS l:=⟨⟨by have:=h.1;omega,fun xs hx=>by have:=(h.2 xs hx).1;omega⟩,fun xs hx=>(h.2 xs hx).2.1.ok⟩
theorem aOF(r:Int)(aC:1<=r)(aD:r<=3)(p:Nat)(A:OA)(bs:LI)(c:Nat)(w:World)(hb:OkB bs)(hl:bs.length<=1048576)(h:Cur w p A bs c) :
  Calls Tryz.prog 177 #[.pointer (some ⟨p,0,none⟩),.int .i64 r] w fun e w'=>∃ A' c' rows,e=.returned (.slice A' (List.length rows) c')/\((aAt rows).length<=3/\DrWs (aAt rows))/\Own1 w' w.heap.size A' rows.length c' rows/\Cur w' p A bs c/\Mid p (p+1) w w':=by
 have a2:=h.lt;have a0:=oE w (.cells #[] 44);have ho:=Own1.empty w;have h0:=h.mid a0 (Or.inr rfl);go_enter Tryz.func177,Tryz.ntmps177
 go_wp2_with fail;with_reducible refine(aAQ 4 oD oD p A bs c _ hb hl h0).mono ?_
 rintro e w1 ⟨n0,rfl,aG,h1,m1⟩;have a9:=ho.midB m1 oO;have a4:=a0.zero.trans m1;have aH:=a4.size;clear h0 a0 m1 ho;go_wp2_with fail;go_loopw [5,6] (fun wv nv wr=>∃(rows:List Row) (n:Nat) (Ax:OA) (cx L:Nat),nv=.int .i64 n/\wv=.slice Ax L cx/\Hid (rows.length=L)/\L+n<=3/\Hid (DrWs (aAt rows))/\Own1 wr w.heap.size Ax L cx rows/\Cur wr p A bs c/\Mid p (p+1) w wr)
  (fun _ nv _=>aQW nv)
 case atStart=>exact⟨[],n0,_,_,0,rfl,rfl,oH rfl,oO,oH ⟨by simp[aAt],by simp[aAt]⟩,a9,h1,a4⟩
 obtain⟨rows,n,Ax,cx,L,rfl,rfl,HL,aF,HW,ho,hc,hm⟩:=hrel;have hs:=hm.size;by_cases hlt:0<n
 .go_wp2_with fail
  with_reducible refine(aMa r aC aD 5 oD oD p A bs c _ hb hl hc).mono ?_
  rintro e w2 ⟨Ay,cy,ys,rfl,⟨aE,a7,a6⟩,oy,a8,m2⟩;have aB:=oy.2.1;have HY:=oH (show ys.length<=5/\LtW ys/\Rd ys from⟨oO,a7,a6⟩);have a5:=hm.trans m2;have aI:=a5.size;clear aE a7 a6 oy hc hm;go_wp2_with (at_builtin;refine aOc rfl _ _ rfl rfl ho m2 a2 ⟨Ay,cy,ys⟩ _ rfl aB rfl oO hs ?next)
  case next=>
   intro A3 c3 w3 aA a1;have m3:Mid w w2 w2 w3:=oF (ho.midB m2 a2).out a1;go_wp2_with fail;go_roundw
   case rel=>
    refine⟨rows++[⟨Ay,cy,ys⟩],n - 1,A3,c3,L+1,by go_num,rfl,oH (by simp[HL.out]),oO,oH ?_,aA,a8.mid m3 (Or.inl a2),a5.transNew m3 (Or.inl oN)⟩;have h1:=HW.out;have h2:=HL.out;rw[aAv];refine⟨by rw[List.length_append,aAD];simp[aAt];omega,fun x hx=>?_⟩;rcases List.mem_append.1 hx with hx|hx
    .exact h1.2 x hx
    simp[aAt] at hx;rw[hx];exact HY.out
   simp[aQW];omega
 go_wp2_with fail;go_ret;have a3:=HL.out;refine⟨Ax,cx,rows,by rw[a3];rfl,⟨by rw[aAD];omega,HW.out⟩,by rw[a3];exact ho,hc,hm⟩
end
theorem DrG.sub{rank:Int}{l:LL}{rr rs:Int}{res:List Ed}{b:Bool}(h:SubIs rank l rr rs res b):DrG rr rs res:=by
 rcases h with⟨-,h,rfl,rfl,rfl⟩|⟨-, -,rfl,rfl,rfl⟩
 .exact DrG.of_gr (aCJ (aJP h))
 exact DrG.zero
theorem aRO(p:Nat)(A:OA)(bs:LI)(c:Nat)(w:World)(hb:OkB bs)(hl:bs.length<=1048576)(h:Cur w p A bs c) :
  Calls Tryz.prog 254 #[.pointer (some ⟨p,0,none⟩)] w fun e w'=>∃ r s A' c' es,e=.returned (aAJ r s A' (List.length es) c')/\DrG r s es/\OG w' w.heap.size w'.heap.size A' c' es/\Cur w' p A bs c/\Mid p (p+1) w w':=by
 have aJ:=h.lt;have aA:=oE w (.cells #[(0:Int),(0:Int),.slice none 0 0] 35);have B2:=oJ w #[(0:Int),(0:Int),.slice none 0 0] 35;have h0:=h.mid aA (Or.inr rfl);go_enter Tryz.func254,Tryz.ntmps254
 have a0:=oE (w.alloc (.cells #[(0:Int),(0:Int),.slice none 0 0] 35)) (.cells #[(1:Int),(2:Int),(2:Int),(2:Int),(2:Int),(3:Int)] 3);have a3:=oJ (w.alloc (.cells #[(0:Int),(0:Int),.slice none 0 0] 35)) #[(1:Int),(2:Int),(2:Int),(2:Int),(2:Int),(3:Int)] 3;rw[World.size_alloc] at a3;replace B2:=B2.mid a0 oZr;replace h0:=h0.mid a0 (Or.inr rfl);have aB:=aA.trans a0;go_wp2_with fail;generalize (w.alloc (.cells #[(0:Int),(0:Int),.slice none 0 0] 35)).alloc (.cells #[(1:Int),(2:Int),(2:Int),(2:Int),(2:Int),(3:Int)] 3)=w1 at a3 B2 h0 aB |-;have aK:w.heap.size+1<w1.heap.size:=a3.1;have aH:RI w1 (w.heap.size+1) (w.heap.size+1+1) (some ⟨w.heap.size+1,0,none⟩) [1,2,2,2,2,3]:=
  ⟨aK,fun _=>⟨w.heap.size+1,0,rfl,oN,oS,fun j u hu=>by rw[Nat.zero_add];exact a3.2.1 j u (by simpa [aAe] using hu)⟩⟩
 with_reducible refine(aDC (some ⟨w.heap.size+1,0,none⟩) [1,2,2,2,2,3] 6 6 rfl oD oD p A bs c _ (w.heap.size+1) _ aH oL hb hl h0).mono ?_
 rintro e w2 ⟨r,rfl,aI,h2,m2⟩;have hr:1<=r/\r<=3:=by simp at aI;omega
 replace B2:=B2.mid m2;have aF:=aB.zero.trans m2;have aO:=m2.size;clear aH a3 aI h0 aB aA a0 m2;go_wp2_with fail;with_reducible refine(aOF r hr.1 hr.2 p A bs c _ hb hl h2).mono ?_
 rintro e w3 ⟨Al,cl,rows,rfl,⟨aD,hw⟩,hL,h3,m3⟩;have aP:=m3.size;replace B2:=B2.mid m3;have aG:=aF.trans m3;obtain⟨l,a7⟩:∃ l,aAt rows=l:=⟨_,rfl⟩
 have aE:rows.length=l.length:=by rw[<- a7,aAD]
 have a4:=hL.oss a7;rw[a7] at hw aD;have aM:=hw.sum;obtain⟨rr,rs,a8,b,a1⟩:=aSM r l;have hF:=aCj r Al l cl w3 _ _ a4.rss hw.ok.2 oO rr rs a8 b a1;have HD:=oH (DrG.sub a1);obtain⟨L,a9⟩:∃ x,a8.length=x:=⟨_,rfl⟩
 rw[a9] at hF;have HL:=oH a9;have HF:Hid (Calls Tryz.prog 15 #[.int .i64 r,.slice Al l.length cl] w3 fun e w'=>∃ A1 c1,e=.returned (.tuple #[.agg #[.int .i64 rr,.int .i64 rs,.slice A1 L c1],.bool b])/\OG w' w3.heap.size w'.heap.size A1 c1 a8/\Mid 0 0 w3 w'):=oH hF;rw[aE];clear hF a1 a9 aM a4 hw aD aE a7 hL h2 aF m3;go_wp2_with fail;with_reducible refine(HF.out).mono ?_
 rintro e w4 ⟨A1,c1,rfl,aC,m4⟩;have aQ:=m4.size;replace B2:=B2.mid m4 oZr;have hC:=h3.mid m4 (Or.inr rfl);have hM:=aG.trans m4.zero;have a2:=oE w4 (.cells #[rr,rs,.slice A1 L c1] 35);have G5:=oJ w4 #[rr,rs,.slice A1 L c1] 35;replace B2:=B2.mid a2 oZr;replace hC:=hC.mid a2 (Or.inr rfl);replace hM:=hM.trans a2.zero;have a6:=(aC.mid a2 oZl)
 have aL:=a2.size;obtain⟨w5,aN⟩:∃ x,w4.alloc (.cells #[.int .i64 rr,.int .i64 rs,.slice A1 L c1] 35)=x:=⟨_,rfl⟩
 rw[aN] at B2 hC hM a6 aL G5;clear h3 aG aC m4 a2 HF;obtain⟨g0,g1,g2⟩:=G5.c3 rfl;have gl:=G5.1;obtain⟨q0,q1,q2⟩:=B2.c3 rfl;have qf:=B2.2.2;have ql:=B2.1;have a5:=Mid.s3 w5 w rr rs (.slice A1 L c1);have O9:=oH ((a6.mid a5).wide (lo':=w.heap.size) oO (oV a6.size a5.size) oN);have C9:=oH (hC.mid a5 (Or.inl aJ));have M9:=oH (hM.transNew a5 (Or.inl oN));clear a5 a6 hC hM;go_wp2_with fail;refine oW (v:=.agg #[rr,rs,.slice A1 L c1]) (by simp[results,Tryz.results254,go_sem,q0,q1,q2,qf]) rfl ⟨rr,rs,A1,c1,a8,?_,HD.out,O9.out,C9.out,M9.out⟩;rw[HL.out]
theorem aRN(p:Nat)(A:OA)(bs:LI)(c:Nat)(w:World)(hb:OkB bs)(hl:bs.length<=1048576)(h:Cur w p A bs c) :
  Calls Tryz.prog 214 #[.pointer (some ⟨p,0,none⟩)] w fun e w'=>∃ r s A' c' es,e=.returned (aAJ r s A' (List.length es) c')/\DrG r s es/\OG w' w.heap.size w'.heap.size A' c' es/\Cur w' p A bs c/\Mid p (p+1) w w':=by
 have a2:=h.lt;have a0:=oE w (.cells #[(0:Int),(0:Int),.slice none 0 0] 35);have B2:=oJ w #[(0:Int),(0:Int),.slice none 0 0] 35;have h0:=h.mid a0 (Or.inr rfl);go_enter Tryz.func214,Tryz.ntmps214
 go_wp2_with fail;generalize (w.alloc (.cells #[(0:Int),(0:Int),.slice none 0 0] 35))=w1 at B2 h0 a0 |-;have a3:w.heap.size<w1.heap.size:=B2.1;with_reducible refine(aGL 8 oD oD p A bs c _ hb hl h0).mono ?_
 rintro e w2 ⟨q,rfl,h2,m2⟩;have a4:=m2.size;replace B2:=B2.mid m2;replace a0:=a0.zero.trans m2;clear h0 m2;cases q
 focus
  go_wp2_with fail;with_reducible refine(aRO p A bs c _ hb hl h2).mono ?_
 rotate_left
 focus
  go_wp2_with fail;with_reducible refine(aRM p A bs c _ hb hl h2).mono ?_
 rotate_left
 all_goals
  rintro e w3 ⟨r,s,Ae,ce,es,rfl,hg,hO,hC,m3⟩;have a5:=m3.size;replace B2:=B2.mid m3;have hM:=a0.trans m3;have HG:=oH hg;obtain⟨L,hL⟩:∃ l,es.length=l:=⟨_,rfl⟩
  have HL:=oH hL;rw[hL];clear hg hL a0 h2 m3;obtain⟨q0,q1,q2⟩:=B2.c3 rfl;have qf:=B2.2.2;have ql:=B2.1;have a1:=Mid.s3 w3 w r s (.slice Ae L ce);have O9:=oH ((hO.mid a1).wide (lo':=w.heap.size) oO (oV hO.size a1.size) oN);have C9:=oH (hC.mid a1 (Or.inl a2));have M9:=oH (hM.transNew a1 (Or.inl oN));clear a1 hO hC hM;go_wp2_with fail;refine oW (v:=.agg #[r,s,.slice Ae L ce]) (by simp[results,Tryz.results214,go_sem,q0,q1,q2,qf]) rfl ⟨r,s,Ae,ce,es,?_,HG.out,O9.out,C9.out,M9.out⟩;rw[HL.out]
theorem aRm(A:OA)(n c:Nat)(w:World) :
  Calls Tryz.prog 6 #[.slice A n c] w fun e w'=>e=.returned (.bool (decide ((n:Int) > 1048576)))/\w=w':=by
 go_enter Tryz.func6,Tryz.ntmps6
 go_wp2_with fail;all_goals
  go_ret;exact⟨rfl,rfl⟩
theorem aNI(A:OA)(xs:LI)(c:Nat)(A':OA)(ys:LI)(c':Nat)(w:World)(lo hi lo' hi':Nat)(h:RI w lo hi A xs)(h':RI w lo' hi' A' ys)(hl:xs.length<=1048576)(a6:ys.length<=1048576)(r:Bool)(hr:r=decide (xs=ys)) :
  Calls Tryz.prog 42 #[.slice A xs.length c,.slice A' ys.length c'] w (Stp (.bool r) w):=by
 have HR:=oH hr;clear hr;by_cases hne:xs.length=ys.length
 .obtain⟨n,hn⟩:∃ n,n=ys.length:=⟨_,rfl⟩
  rw[hne,<- hn];have a1:Hid (xs.length=n):=oH oO;have a2:Hid (ys.length=n):=oH oO;have aA:n<=1048576:=by omega
  clear hl a6 hne hn;go_enter Tryz.func42,Tryz.ntmps42
  go_wp2_with fail;go_loopw [5] (fun i wr=>∃ k:Nat,k<=n/\i=.int .i64 k/\Hid (xs.take k=ys.take k)/\(∃ m,wr=w.drewN m)) (fun i _=>n - (intOf i).toNat)
  case atStart=>exact⟨0,oZ,rfl,oH rfl,0,rfl⟩
  obtain⟨k,hk,rfl,HT,m,rfl⟩:=hrel;by_cases hlt:k<n
  .obtain⟨b,aB,x,rfl, -,hx,hc⟩:=h.rs.int (k:=k) (by rw[a1.out];exact hlt)
   obtain⟨b',a8,x',rfl, -,a4,a9⟩:=h'.rs.int (k:=k) (by rw[a2.out];exact hlt);have HX:=oH hx;have a3:=oH a4;clear hx a4;go_wp2_with fail;go_quiet (fail)
   by_cases hxx:x=x'
   .subst hxx
    go_wp2_with fail;go_roundw
    case rel=>exact⟨k+1,oO,by go_num,oH (by rw[aAw xs HX.out,aAw ys a3.out,HT.out]),_,rfl⟩
    simp[intOf];omega
   go_wp2_with fail;go_ret;have a0:r=false:=by
    rw[HR.out];refine decide_eq_false fun e=>hxx ?_;have e1:=HX.out;rw[e,a3.out] at e1;exact(Option.some.inj e1).symm
   rw[a0];exact⟨rfl,((Mid.refl 0 0 w).drewN _).drewN _⟩
  go_wp2_with fail;go_ret;have a5:k=n:=by omega
  have e1:=HT.out;rw[a5,List.take_of_length_le (by rw[a1.out];exact oN),List.take_of_length_le (by rw[a2.out];exact oN)] at e1;have a7:r=true:=by rw[HR.out];exact decide_eq_true e1
  rw[a7];exact⟨rfl,(Mid.refl 0 0 w).drewN _⟩
 have a0:r=false:=by
  rw[HR.out];exact decide_eq_false fun e=>hne (by rw[e])
 rw[a0];go_enter Tryz.func42,Tryz.ntmps42
 go_wp2_with fail;go_ret;exact⟨rfl,Mid.refl 0 0 w⟩
theorem aQo{xs:LI}{n k:Nat}(h:xs.length=n)(hk:k<n):(xs.take k++xs.drop (k+1)).length+1=n:=by
 rw[List.length_append,List.length_take,List.length_drop];omega
theorem aQp{xs:LI}{k:Nat}{x:Int}(h:x∈xs.take k++xs.drop (k+1)):x∈xs:=by
 rcases List.mem_append.1 h with h|h
 .exact List.mem_of_mem_take h
 exact List.mem_of_mem_drop h
theorem aQB(xs:LI)(k:Nat):(aAe xs).take k=aAe (xs.take k):=by simp[aAe]
theorem aRK(xs:LI)(k:Nat):(aAe xs).drop k=aAe (xs.drop k):=by simp[aAe]
theorem aLY(p:Nat)(A:OA)(bs:LI)(c:Nat)(w:World)(hb:OkB bs)(hl:bs.length<=1048576)(h:Cur w p A bs c) :
  Calls Tryz.prog 194 #[.pointer (some ⟨p,0,none⟩)] w fun e w'=>∃ r s A' c' es,e=.returned (aAJ r s A' (List.length es) c')/\DrG r s es/\OG w' w.heap.size w'.heap.size A' c' es/\Cur w' p A bs c/\Mid p (p+1) w w':=by
 have bo:=h.lt;have aN:=oE w (.cells #[(0:Int),(0:Int),.slice none 0 0] 35);have B2:=oJ w #[(0:Int),(0:Int),.slice none 0 0] 35;have h0:=h.mid aN (Or.inr rfl);go_enter Tryz.func194,Tryz.ntmps194
 have aC:=oE (w.alloc (.cells #[(0:Int),(0:Int),.slice none 0 0] 35)) (.cells #[(1:Int),(2:Int),(2:Int),(2:Int),(3:Int)] 3);have aW:=oJ (w.alloc (.cells #[(0:Int),(0:Int),.slice none 0 0] 35)) #[(1:Int),(2:Int),(2:Int),(2:Int),(3:Int)] 3;rw[World.size_alloc] at aW;replace B2:=B2.mid aC oZr;replace h0:=h0.mid aC (Or.inr rfl);have bD:=aN.trans aC;go_wp2_with fail;generalize (w.alloc (.cells #[(0:Int),(0:Int),.slice none 0 0] 35)).alloc (.cells #[(1:Int),(2:Int),(2:Int),(2:Int),(3:Int)] 3)=w1 at aW B2 h0 bD |-;have bp:w.heap.size+1<w1.heap.size:=aW.1;have bW:RI w1 (w.heap.size+1) (w.heap.size+1+1) (some ⟨w.heap.size+1,0,none⟩) [1,2,2,2,3]:=
  ⟨bp,fun _=>⟨w.heap.size+1,0,rfl,oN,oS,fun j u hu=>by rw[Nat.zero_add];exact aW.2.1 j u (by simpa [aAe] using hu)⟩⟩
 with_reducible refine(aDC (some ⟨w.heap.size+1,0,none⟩) [1,2,2,2,3] 5 5 rfl oD oD p A bs c _ (w.heap.size+1) _ bW oL hb hl h0).mono ?_
 rintro e w2 ⟨r,rfl,bX,h2,m2⟩;have hr:1<=r/\r<=3:=by simp at bX;omega
 have bL:=B2.mid m2;have bU:=bD.zero.trans m2;clear bW aW bX h0 B2 bD aN aC m2;go_wp2_with fail;with_reducible refine(aAQ 5 oD oD p A bs c _ hb hl h2).mono ?_
 rintro e w3 ⟨k,rfl,hk,h3,m3⟩;have ar:=bL.mid m3;have bE:=bU.trans m3;have c8:=bE.size;have ek:IntKind.i64.wrap (1+(k:Int))=1+(k:Int):=oI _;clear h2 bL bU m3;have aD:=oE w3 (.cells #[r,.int .i64 (1+(k:Int)),.slice none 0 0] 35);have G0:=oJ w3 #[r,.int .i64 (1+(k:Int)),.slice none 0 0] 35;have aj:=ar.mid aD oZr;have h4:=h3.mid aD (Or.inr rfl);have aF:=bE.trans aD.zero;have b9:w.heap.size<w3.heap.size:=ar.1;go_wp2_with fail;obtain⟨gb,bS⟩:∃ g,w3.heap.size=g:=⟨_,rfl⟩
 have c0:w.heap.size<gb:=by omega
 obtain⟨rn,bH⟩:=Int.eq_ofNat_of_zero_le (by omega:0<=r);obtain⟨n,hn⟩:∃ n:Nat,1+(k:Int)=n:=⟨1+k,oO⟩
 rw[hn,bS,bH] at G0 |-;rw[hn,bH] at aj h4 aF;generalize w3.alloc (.cells #[.int .i64 (rn:Int),.int .i64 (n:Int),.slice none 0 0] 35)=w4 at G0 aj h4 aF |-;have bI:1<=(rn:Int)/\(rn:Int)<=3:=by omega
 have c7:1<=(n:Int)/\(n:Int)<=5:=by omega
 have bl:gb<w4.heap.size:=G0.1;clear h3 ar aD bE ek hn bH hk hr bS b9;have bV:OG w4 (gb+1) w4.heap.size none 0 []:=OG.nil;go_loopw [6] (fun xv wr=>∃(x:Nat) (es:List Ed) (Ae:OA) (ce L:Nat),xv=.int .i64 ((x:Int)+1)/\x<=rn/\Hid (es.length=L)/\L<=5 * x/\Hid (IsGr rn n es)/\Box wr gb [.int .i64 rn,.int .i64 n,.slice Ae L ce]/\OG wr (gb+1) wr.heap.size Ae ce es/\Box wr w.heap.size [.int .i64 0,.int .i64 0,.slice none 0 0]/\Cur wr p A bs c/\Mid p (p+1) w wr)
  (fun xv _=>rn+1 - (intOf xv).toNat)
 case atStart=>exact⟨0,[],none,0,0,by go_num,oZ,oH rfl,oO,oH ⟨bI,oO,by simp,by simp,List.Pairwise.nil⟩,G0,bV,aj,h4,aF⟩
 obtain⟨x,es,Ae,ce,L,rfl,cF,HL,bN,HG,hG,hO,hB,hC,hM⟩:=hrel;clear G0 bV aj h4 aF bl;have bm:gb<wr.heap.size:=hG.1;obtain⟨g0,g1,g2⟩:=hG.c3 rfl;by_cases hlt:x<rn
 .have bB:(x:Int)+1<=(rn:Int):=by omega
  have a1:=oE wr (.cells #[] 3);have aq:=aAd wr 3 1;have aE:=a1.size;obtain⟨bb,b6⟩:∃ g,wr.heap.size=g:=⟨_,rfl⟩
  rw[b6] at aq bm aE;clear g0 g1 g2;go_wp2_with fail;have ay:=hG.mid a1 oZr;have ao:=hO.mid a1 oZl;have av:=hB.mid a1 oZr;have ax:=hC.mid a1 (Or.inr rfl);have az:=hM.trans a1.zero;rw[b6] at ao;clear hO hB hC hM hG a1;generalize wr.alloc (.cells #[] 3)=w5 at aE aq ay ao av ax az |-;clear b6;go_loopw [7,8] (fun lv vv wq=>∃(v:Nat) (left:LI) (Al:OA) (cl:Nat),vv=.int .i64 v/\v<=n/\lv=.slice Al v cl/\Hid (left.length=v)/\Hid (∀ y∈left,0<=y/\y<n)/\wq.ownsRow bb 3 1 (.slice Al v cl) v (aAe left)/\Box wq gb [.int .i64 rn,.int .i64 n,.slice Ae L ce]/\OG wq (gb+1) bb Ae ce es/\Box wq w.heap.size [.int .i64 0,.int .i64 0,.slice none 0 0]/\Cur wq p A bs c/\Mid p (p+1) w wq/\bb<=wq.heap.size)
   (fun _ vv _=>n - (intOf vv).toNat)
  case atStart=>exact⟨0,[],_,_,by go_num,oZ,rfl,oH rfl,oH oM,aq,ay,ao,av,ax,az,aE⟩
  obtain⟨v,left,Al,cl,rfl,cE,rfl,HLL,HLB,aG,am,ap,ak,al,an,bK⟩:=hrel;clear aq ay ao av ax az aE;by_cases hv:v<n
  .have cD:(v:Int)<(n:Int):=by omega
   go_wp2_with (at_builtin;refine aAk rfl _ _ 44 rfl bb 3 (.int .i64 0) 1 8 aBo aBs rfl oD _ _ _ rfl aG 1 [.int .i64 (v:Int)] rfl rfl ?c1 ?c2 ?c3 bK ?next)
   case c1=>exact aAm [(v:Int)]
   case c2=>unfold maxLen;omega
   case c3=>omega
   case next=>
    intro v3 w3 ae aY b3;have m3:Mid bb wr wr w3:=oF aG aY;have be:=am.mid m3;have bh:=ap.mid m3 (Or.inr oN);have bc:=ak.mid m3;have bd:=al.mid m3;have bg:=an.transNew m3 oL;have cA:=m3.size;obtain⟨A3,c3,rfl, -, -⟩:=aAc ae;clear aG aY b3 m3 am ap ak al an;go_wp2_with fail;go_roundw
    case rel=>
     refine⟨v+1,left++[(v:Int)],A3,c3,by go_num,oO,rfl,oH (by rw[List.length_append,HLL.out];rfl),oH fun y hy=>?_,by rw[aAi];exact ae,be,bh,bc,bd,bg,oO⟩;rcases List.mem_append.1 hy with hy|hy
     .exact HLB.out y hy
     rw[List.mem_singleton] at hy;omega
    simp[intOf];omega
  obtain rfl:v=n:=by omega
  go_wp2_with fail;have bO:=ap.wide oN (hi':=wr.heap.size) bK oN;have af:=aAh aG (show gb+1<=bb by omega);clear aG ap;go_loopw [7,9] (fun lv vv wq=>∃(u:Nat) (left:LI) (Al:OA) (cl Lf:Nat) (es:List Ed) (Ae:OA) (ce L:Nat),vv=.int .i64 u/\u+Lf=v/\lv=.slice Al Lf cl/\Hid (left.length=Lf)/\Hid (∀ y∈left,0<=y/\y<v)/\wq.ownsRow (gb+1) 3 1 (.slice Al Lf cl) Lf (aAe left)/\Hid (es.length=L)/\L<=5 * x+u/\Hid (IsGr rn v es)/\Box wq gb [.int .i64 rn,.int .i64 v,.slice Ae L ce]/\OG wq (gb+1) wq.heap.size Ae ce es/\Box wq w.heap.size [.int .i64 0,.int .i64 0,.slice none 0 0]/\Cur wq p A bs c/\Mid p (p+1) w wq)
   (fun _ vv _=>v - (intOf vv).toNat)
  case atStart=>exact⟨0,left,Al,cl,v,es,Ae,ce,L,by go_num,oO,rfl,HLL,HLB,af,HL,oO,HG,am,bO,ak,al,an⟩
  clear af bO HLL HLB HL HG am ak al an bN bK;obtain⟨u,left,Al,cl,Lf,es,Ae,ce,L,rfl,cC,rfl,HLL,HLB,aG,HL,bN,HG,hG,hO,hB,hC,hM⟩:=hrel;by_cases hlt:u<v
  .have ab:(u:Int)<(v:Int):=by omega
   have bf:0<Lf:=by omega
   go_wp2_with fail;with_reducible refine(aER Lf bf oO p A bs c _ hb hl hC).mono ?_
   rintro e w2 ⟨k,rfl,hk,aS,m2⟩;have a4:=aAb aG m2 oL;have aJ:=hG.mid m2;have aM:=(hO.mid m2).wide oN m2.size oN;have aR:=hB.mid m2;have aU:=hM.trans m2;clear aG hG hO hB hC hM m2;have a2:=Mid.drew1 w2;replace a4:=aAb a4 a2 oZl;replace aM:=aM.mid a2 oZl;replace aJ:=aJ.mid a2 oZr;replace aR:=aR.mid a2 oZr;replace aS:=aS.mid a2 (Or.inr rfl);replace aU:=aU.trans a2.zero;replace aM:OG w2.drew (gb+1) w2.drew.heap.size Ae ce es:=aM;clear a2;obtain⟨b,aI,y,ba,aw,hy,aX⟩:=(Rs.of_own a4).int (k:=k) (by have:=HLL.out;omega);subst ba;have cG:=HLB.out y (oG hy);clear hy;have g2:=aJ.cell 2 rfl;go_wp2_with fail;refine aAo (S:=(fun w'=>w'.cell? ⟨gb,2,none⟩=some (.slice Ae L ce)/\w'.cell? ⟨b,aI+k,none⟩=some (.int .i64 y))) [11] oK ⟨g2,aX⟩ ?_;generalize World.drew w2=wz at a4 aJ aM aR aS aU g2 aX aw |-;have hS:=And.intro g2 aX;refine tkZ [11] 0 rfl hS ?_;try simp only[oP]
   refine tkZ [11] 1 rfl hS ?_;try simp only[oP]
   refine tkZ [11] 2 rfl hS ?_;try simp only[oP]
   refine tkZ [11] 3 rfl hS ?_;try simp only[oP]
   refine tkZ [11] 4 rfl hS ?_;try simp only[oP]
   refine tkZ [11] 5 rfl hS ?_;try simp only[oP]
   refine tkZ [11] 6 rfl hS ?_;try simp only[oP]
   refine tkZ [11] 7 rfl hS ?_;try simp only[oP]
   refine tkZ [11] 8 rfl hS ?_;try simp only[oP]
   have hP:=aBz Ae es ce ⟨(u:Int),(x:Int)+1,y⟩ wz _ _ aM.rg (by rw[HL.out];omega);have bT:InG rn v ⟨(u:Int),(x:Int)+1,y⟩:=by simp only[InG];omega
   have b8:=aKl HG.out bT (by rw[HL.out];omega);have b2:=aDw ⟨(u:Int),(x:Int)+1,y⟩ es;obtain⟨P,b1⟩:∃ P,aCw ⟨(u:Int),(x:Int)+1,y⟩ es=P:=⟨_,rfl⟩
   rw[b1,HL.out] at hP b2;rw[b1] at b8;obtain⟨L2,aL⟩:∃ l,P.length=l:=⟨_,rfl⟩
   rw[aL] at hP b2;have bY:=oH b8;have au:=oH aL;have bx:L2<=5 * x+(u+1):=by omega
   have HP:Hid (Calls Tryz.prog 138 #[.slice Ae L ce,.agg #[.int .i64 (u:Int),.int .i64 ((x:Int)+1),.int .i64 y]] wz fun en w'=>∃ A' c',en=.returned (.slice A' L2 c')/\OG w' wz.heap.size w'.heap.size A' c' P/\Mid 0 0 wz w'):=oH hP;clear hP bT b8 b2 b1 aL hS;refine rdZ 9 rfl (fun K hK=>?_)
   (go_simp;(with_reducible refine(HP.out).mono ?_);rintro en wp ⟨A9,c9,rfl,oP,mP⟩;have aK:=aJ.mid mP oZr;have aO:=aAa mP aw oZr aX;go_wp2_with fail)
   refine hK.out _ _ (Or.inr ⟨aK.cell 2 rfl,aO⟩) (fun _=>?_);clear hK K;try simp only[oP]
   have bP:=And.intro (aK.cell 2 rfl) aO;refine tkZ [11] 10 rfl bP ?_;try simp only[oP]
   have ag:=aAb a4 mP oZl;have bM:=aR.mid mP oZr;have aT:=aS.mid mP (Or.inr rfl);have aV:=aU.trans mP.zero;have br:=mP.size;have bA:=aJ.1;clear a4 aJ aM aR aS aU g2 aX mP aO bP HP aw;have gl:=aK.1;have gf:=aK.2.2;have g2:=aK.cell 2 rfl;have a5:=Mid.setCell wp (lo:=gb) (hi:=gb+1) (p:=⟨gb,2,none⟩) (.slice A9 L2 c9) oN oS;have a0:=aK.set 2 (.slice A9 L2 c9) oM rfl;simp only[List.set_cons_succ,List.set_cons_zero] at a0;have a3:=aAb ag a5 (Or.inl oN);have a9:=(oP.mid a5).wide (lo':=gb+1) oO a5.size oN;have a6:=bM.mid a5;have a7:=aT.mid a5;have a8:=aV.transNew a5 oL;clear a5 ag bM aT aV oP aK;refine rdZ 11 rfl (fun K hK=>?_);go_simp;refine hK.out _ _ (Or.inl oM) (fun _=>?_);clear hK K;try simp only[oP]
   refine aAj oK ?_ _;generalize wp.setCell ⟨gb,2,none⟩ (.slice A9 L2 c9)=w11 at a0 a3 a9 a6 a7 a8 |-;clear gl gf g2 br bA;have bk:Lf<=cl:=by
    obtain⟨A',c',hv,h1,h2⟩:=aAc a3;injection hv with _ _ hc
    omega
   have aQ:=Rs.of_own a3;have a2:=Mid.drew1 w11;replace a0:=a0.mid a2 oZr;replace a6:=a6.mid a2 oZr;replace a9:OG w11.drew (gb+1) w11.drew.heap.size A9 c9 P:=a9.mid a2 oZl;replace a7:=a7.mid a2 (Or.inr rfl);replace a8:=a8.trans a2.zero;replace aQ:Rs w11.drew w11.drew.heap.size (some ⟨b,aI,none⟩) (aAe left):=aQ;clear a2 a3;go_wp2_with fail;refine aAo (S:=(fun _=>True)) [] oK trivial ?_;generalize World.drew w11=wz at a0 a9 a6 a7 a8 aQ |-;have bA:gb+1<=wz.heap.size:=a0.1;have c6:k<=cl:=by omega
   have c5:k+1<=Lf:=by omega
   have bt:IntKind.i64.wrap ((k:Int)+1)=(k:Int)+1:=oI _;have bu:(0:Int)<=(k:Int)+1:=by omega
   have bv:((k:Int)+1).toNat=k+1:=by omega
   have bw:(k:Int)+1<=(Lf:Int):=by omega
   have bC:(aAe (left.take k)).length=k * 1:=by have:=HLL.out;rw[aAB,List.length_take];omega
   have ab:(aAe (left.drop (k+1))).length=(Lf - (k+1)) * 1:=by have:=HLL.out;rw[aAB,List.length_drop];omega
   have ah:Rs wz wz (some ⟨b,aI,none⟩) (aAe (left.take k)):=by rw[<- aQB];exact aQ.take k
   have ai:Rs wz wz (if cl=k+1 then some ⟨b,aI,none⟩ else some ⟨b,aI+(k+1),none⟩) (aAe (left.drop (k+1))):=by
    have:=aQ.drop (k:=k+1) (n:=Lf) (cap:=cl) 1 (by have:=HLL.out;rw[aAB];omega) bk;rw[Nat.mul_one,aRK] at this;have e:Option.map (fun x:Addr=>x.add (k+1)) (some (⟨b,aI,none⟩:Addr))=some ⟨b,aI+(k+1),none⟩:=rfl;rw[e] at this;exact this
   have bn:0+k<=maxLen:=by unfold maxLen;omega
   have bj:(0+k) * 8<=140737488355328:=by omega
   have bF:k+(Lf - (k+1))<=maxLen:=by unfold maxLen;omega
   have b7:(k+(Lf - (k+1))) * 8<=140737488355328:=by omega
   clear aQ;refine tkZ [] 1 rfl trivial ?_;try simp only[oP]
   refine tkZ [] 2 rfl trivial ?_;try simp only[oP]
   refine tkZ [] 3 rfl trivial ?_;try simp only[oP]
   refine tkZ [] 5 rfl trivial ?_;try simp only[oP]
   refine tkZ [] 6 rfl trivial ?_;try simp only[oP]
   refine tkZ [] 7 rfl trivial ?_;try simp only[oP]
   refine tkZ [] 8 rfl trivial ?_;try simp only[oP]
   refine rdZ 0 rfl (fun K hK=>?_);go_simp;refine hK.out _ _ (Or.inr trivial) (fun _=>?_);clear hK K;try simp only[oP]
   have aN:=oE wz (.cells #[] 3);have e0:=aAd wz 3 1;have aA:=ah.alloc oN (.cells #[] 3);have aB:=ai.alloc oN (.cells #[] 3);have bq:(wz.alloc (.cells #[] 3)).heap.size=wz.heap.size+1:=by simp
   generalize wz.alloc (.cells #[] 3)=wa at aN e0 aA aB bq |-;have bJ:wz.heap.size<=wa.heap.size:=by omega
   refine rdZ 4 rfl (fun K hK=>?_)
   (refine aAV (by rfl) (.tmp 55) (.tmp 58) 44 (by rfl) wz.heap.size 3 (.int .i64 0) 1 8 aBo aBs rfl oD _ 0 [] (by rfl) e0 (some ⟨b,aI,none⟩) k cl _ (aAe (left.take k)) (by rfl) aA bC (aAm _) bn bj bJ ?_;intro v4 w4 ad aZ b4;obtain⟨A4,c4,rfl, -, -⟩:=aAc ad)
   refine hK.out _ _ (Or.inr trivial) (fun _=>?_);clear hK K;try simp only[oP]
   have m4:Mid wz wa wa w4:=oF e0 aZ;have aF:Mid 0 0 wz w4:=aN.transNew m4 (Or.inl oN);have aH:Rs w4 wz _ (aAe (left.drop (k+1))):=aB.keep fun q hq=>World.cell?_of_block (m4.block _ oO oO);rw[Nat.zero_add,List.nil_append] at ad;try rw[Nat.zero_add]
   clear aZ b4 e0 aA aB ah ai aN m4;refine rdZ 9 rfl (fun K hK=>?_)
   (refine aAV (by rfl) (.tmp 59) (.tmp 63) 44 (by rfl) wz.heap.size 3 (.int .i64 0) 1 8 aBo aBs rfl oD (.slice A4 k c4) k _ (by rfl) ad _ (Lf - (k+1)) _ _ (aAe (left.drop (k+1))) (by rfl) aH ab (aAm _) bF b7 aF.size ?_;intro v9 w9 bG aa b5;obtain⟨A19,bZ,rfl, -, -⟩:=aAc bG)
   refine hK.out _ _ (Or.inr trivial) (fun _=>?_);clear hK K;try simp only[oP]
   have m9:Mid wz w4 w4 w9:=oF ad aa;have aP:Mid 0 0 wz w9:=aF.transNew m9 (Or.inl oN);clear aa b5 aH ad m9 aF;refine tkZ [] 10 rfl trivial ?_;try simp only[oP]
   refine aAj oK ?_ _;have bi:=bG;go_wp2_with fail;go_roundw
   case rel=>
    have bB:=HLL.out;have bz:=aQo bB hk;refine⟨u+1,left.take k++left.drop (k+1),A19,bZ,k+(Lf - (k+1)),P,A9,c9,L2,by go_num,oO,rfl,oH oO,oH fun y hy=>HLB.out y (aQp hy),?_,au,oO,bY,a0.mid aP oZr,(a9.mid aP oZl).wide oN aP.size oN,a6.mid aP oZr,a7.mid aP (Or.inr rfl),a8.trans aP.zero⟩;rw[aAi];exact aAh bG bA
   simp[intOf];omega
  obtain rfl:u=v:=by omega
  go_wp2_with fail;go_roundw
  case rel=>exact⟨x+1,es,Ae,ce,L,by go_num,oO,HL,oO,HG,hG,hO,hB,hC,hM⟩
  simp[intOf];omega
 have bB:¬ ((x:Int)+1<=(rn:Int)):=by omega
 have hF:=aDd rn n Ae es ce wr _ _ hO.rg HG.out;have hD:=DrG.of_gr (aCJ (r:=(rn:Int)) (g:=((n:Int),es)) HG.out);obtain⟨fs,bR⟩:∃ y,(coreA (rn:Int) ((n:Int),es)).1=y:=⟨_,rfl⟩
 obtain⟨fe,bQ⟩:∃ y,(coreA (rn:Int) ((n:Int),es)).2=y:=⟨_,rfl⟩
 rw[bR,bQ] at hF hD;obtain⟨L2,aL⟩:∃ l,fe.length=l:=⟨_,rfl⟩
 rw[aL,HL.out] at hF;have au:=oH aL;have HD:=oH hD;have HF:Hid (Calls Tryz.prog 104 #[.agg #[.int .i64 rn,.int .i64 n,.slice Ae L ce]] wr fun e w'=>∃ A1 c1,e=.returned (.agg #[.int .i64 rn,.int .i64 fs,.slice A1 L2 c1])/\OG w' wr.heap.size w'.heap.size A1 c1 fe/\Mid 0 0 wr w'):=oH hF;clear hF hD bR bQ aL;go_wp2_with fail;with_reducible refine(HF.out).mono ?_
 rintro e w9 ⟨A1,c1,rfl,b0,m9⟩;have B2:=hB.mid m9 oZr;have aT:=hC.mid m9 (Or.inr rfl);have aV:=hM.trans m9.zero;have cB:=m9.size;clear hB hC hM hO hG m9 HF g0 g1 g2;obtain⟨q0,q1,q2⟩:=B2.c3 rfl;have qf:=B2.2.2;have ql:=B2.1;have a5:=Mid.s3 w9 w (.int .i64 (rn:Int)) fs (.slice A1 L2 c1);have O9:=oH ((b0.mid a5).wide (lo':=w.heap.size) oO (oV b0.size a5.size) oN);have C9:=oH (aT.mid a5 (Or.inl bo));have M9:=oH (aV.transNew a5 (Or.inl oN));clear a5 b0 aT aV;go_wp2_with fail;refine oW (v:=.agg #[.int .i64 (rn:Int),fs,.slice A1 L2 c1]) (by simp[results,Tryz.results194,go_sem,q0,q1,q2,qf]) rfl ⟨(rn:Int),fs,A1,c1,fe,?_,HD.out,O9.out,C9.out,M9.out⟩;rw[au.out]
theorem aLh(p:Nat)(A:OA)(bs:LI)(c:Nat)(w:World)(hb:OkB bs)(hl:bs.length<=1048576)(h:Cur w p A bs c) :
  Calls Tryz.prog 142 #[.pointer (some ⟨p,0,none⟩)] w fun e w'=>∃ r s A' c' es,e=.returned (aAJ r s A' (List.length es) c')/\DrG r s es/\OG w' w.heap.size w'.heap.size A' c' es/\Cur w' p A bs c/\Mid p (p+1) w w':=by
 have a2:=h.lt;have a0:=oE w (.cells #[(0:Int),(0:Int),.slice none 0 0] 35);have B2:=oJ w #[(0:Int),(0:Int),.slice none 0 0] 35;have h0:=h.mid a0 (Or.inr rfl);go_enter Tryz.func142,Tryz.ntmps142
 go_wp2_with fail;generalize (w.alloc (.cells #[(0:Int),(0:Int),.slice none 0 0] 35))=w1 at B2 h0 a0 |-;have a3:w.heap.size<w1.heap.size:=B2.1;with_reducible refine(aGL 2 oD oD p A bs c _ hb hl h0).mono ?_
 rintro e w2 ⟨q,rfl,h2,m2⟩;have a4:=m2.size;replace B2:=B2.mid m2;replace a0:=a0.zero.trans m2;clear h0 m2;cases q
 focus
  go_wp2_with fail;with_reducible refine(aRN p A bs c _ hb hl h2).mono ?_
 rotate_left
 focus
  go_wp2_with fail;with_reducible refine(aLY p A bs c _ hb hl h2).mono ?_
 rotate_left
 all_goals
  rintro e w3 ⟨r,s,Ae,ce,es,rfl,hg,hO,hC,m3⟩;have a5:=m3.size;replace B2:=B2.mid m3;have hM:=a0.trans m3;have HG:=oH hg;obtain⟨L,hL⟩:∃ l,es.length=l:=⟨_,rfl⟩
  have HL:=oH hL;rw[hL];clear hg hL a0 h2 m3;obtain⟨q0,q1,q2⟩:=B2.c3 rfl;have qf:=B2.2.2;have ql:=B2.1;have a1:=Mid.s3 w3 w r s (.slice Ae L ce);have O9:=oH ((hO.mid a1).wide (lo':=w.heap.size) oO (oV hO.size a1.size) oN);have C9:=oH (hC.mid a1 (Or.inl a2));have M9:=oH (hM.transNew a1 (Or.inl oN));clear a1 hO hC hM;go_wp2_with fail;refine oW (v:=.agg #[r,s,.slice Ae L ce]) (by simp[results,Tryz.results142,go_sem,q0,q1,q2,qf]) rfl ⟨r,s,Ae,ce,es,?_,HG.out,O9.out,C9.out,M9.out⟩;rw[HL.out]
def aAI(es:List Ed)(w:LI)(x:Int):Bool:=okB w x && decide (0<=aAr es (rdA es 0 w).1 x)
def aIX(es:List Ed)(w:LI):Bool:=decide ((rdA es 0 w).1=0)
def aOG(es:List Ed)(r n:Nat):LL:=(pre (aAI es) (aAg r) (n+1)).filter (aIX es)
theorem aPD{r s:Int}{es:List Ed}(hf:IsFol r s es)(L:LI):∀(n:Nat) {v:LI},v∈lay (aAI es) L n->Pa es 0 v (rdA es 0 v).1
|0,v,h=>by simp[lay] at h;subst h;rfl
|n+1,v,h=>by
  obtain⟨w,hw,x,hx,a0,rfl⟩:=aGM.1 h;have h1:=aPD hf L n hw;unfold aAI at a0;rw[Bool.and_eq_true] at a0;have h2:=h1.snoc (aCs (of_decide_eq_true a0.2));rw[aJu hf h2];exact h2
theorem aVp{r s:Int}{es:List Ed}(hf:IsFol r s es){L:LI}{n:Nat}{v:LI}(h:v∈lay (aAI es) L n):goV es 0 v=some (rdA es 0 v).1:=(aPL es v 0 _).2 (aJu hf (aPD hf L n h))
theorem aKt(r n0 n:Nat)(A:OA)(es:List Ed)(c:Nat)(w:World)(lo hi:Nat)(hr:RG w lo hi A es)(bE:IsFol r n0 es)(hn:n<=4) :
  Calls Tryz.prog 48 #[aAJ r n0 A es.length c,.int .i64 0,.int .i64 n] w fun e w'=>∃ A1 c1,e=.returned (.slice A1 (aOG es r n).length c1)/\OSS w' w.heap.size w'.heap.size 44 3 A1 c1 (aOG es r n)/\Mid 0 0 w w':=by
 have ao:1<=r:=by have:=bE.gr.rank;omega
 have e2:r<=3:=by have:=bE.gr.rank;omega
 have dz:1<=(n0:Int)/\(n0:Int)<=40:=bE.gr.size;have dp:=bE.gr.len;have dJ:=oH (show ∀ e∈es,1<=e.l/\e.l<=3 from fun e he=>by have h1:=bE.gr.all e he;simp only[InG] at h1;omega);have bz:(aAg r).length<=6:=by rw[aBR];omega
 have cM:=oH (fun k (hk:k<=5)=>aUu (f:=aAI es) bz hk);have cP:=oH (fun k (hk:k<=6)=>aQN (f:=aAI es) bz hk);have b0:Mid 0 0 w ((w.alloc (.cells #[r,n0,.slice A es.length c] 35)).alloc (.cells #[] 44)):=(oE _ _).trans (oE _ _);have B0:=(oJ w #[r,n0,.slice A es.length c] 35).mid (oE _ (.cells #[] 44)) oZr;have O1:=Own1.empty (w.alloc (.cells #[r,n0,.slice A es.length c] 35));simp only[World.size_alloc] at O1;have d2:=fun W h=>aAY r n0 A es c W lo hi h oO true (oX rfl bE);have dK:=oH d2;have cJ:=oH bE;clear d2 bE;have dT:inB 0 0 ((n0:Int) - 1)=true:=by unfold inB;simp;omega
 have ci:inB (n:Int) 0 4=true:=by unfold inB;simp;omega
 go_enter Tryz.func48,Tryz.ntmps48
 go_wp2_with fail;generalize (w.alloc (.cells #[r,n0,.slice A es.length c] 35)).alloc (.cells #[] 44)=w1 at b0 B0 O1 |-;have bX:w.heap.size+1<w1.heap.size:=(O1.lt rfl).2;with_reducible refine(dK.out _ (hr.mid b0 oZl)).mono ?_
 rintro en w2 ⟨rfl,aX⟩;have e3:=aX.size;replace O1:=O1.mid aX;replace B0:=B0.mid aX oZr;replace b0:=b0.trans aX;clear aX;obtain⟨p0,p1,p2⟩:=B0.c3 rfl;have da:IntKind.i64.wrap ((n0:Int) - 1)=(n0:Int) - 1:=oI _;go_wp2_with fail;with_reducible refine(aBQ dT _).mono ?_
 rintro en w3 ⟨rfl,rfl⟩;have dk:w.heap.size<w2.heap.size:=B0.1;have cZ:w.heap.size<w2.heap.size+1:=by omega
 have P0:=(aAd w2 3 1).alloc (.cells #[.slice (some ⟨w2,0,none⟩) 0 0] 44);have P1:=aMj (w2.alloc (.cells #[] 3)) 44 (.slice (some ⟨w2,0,none⟩) 0 0);simp only[World.size_alloc] at P1;have dZ:(w2.alloc (.cells #[] 3)).heap.size<=((w2.alloc (.cells #[] 3)).alloc (.cells #[.slice (some ⟨w2,0,none⟩) 0 0] 44)).heap.size:=by simp
 have cR:Own1 ((w2.alloc (.cells #[] 3)).alloc (.cells #[.slice (some ⟨w2,0,none⟩) 0 0] 44)) w2 (some ⟨w2.heap.size+1,0,none⟩) 1 1 [⟨some ⟨w2,0,none⟩,0,[]⟩]:=
  ⟨aAh P1 (Nat.le_succ _),⟨fun r hr=>by rw[List.mem_singleton] at hr;subst hr;exact⟨oN,P0,fun g hg=>(P0.lt g hg).2⟩,by simp⟩⟩
 have aR:Mid 0 0 w2 ((w2.alloc (.cells #[] 3)).alloc (.cells #[.slice (some ⟨w2,0,none⟩) 0 0] 44)):=(oE _ _).trans (oE _ _);go_wp2_with fail;with_reducible refine(aBQ ci _).mono ?_
 rintro en w3 ⟨rfl,rfl⟩;go_wp2_with fail;generalize (w2.alloc (.cells #[] 3)).alloc (.cells #[.slice (some ⟨w2,0,none⟩) 0 0] 44)=w3 at cR aR |-;replace O1:=O1.mid aR;replace B0:=B0.mid aR oZr;replace b0:=b0.trans aR;have e4:=aR.size;have bk:Apart (some ⟨w.heap.size+1,0,none⟩) 0 0 (some ⟨w2.heap.size+1,0,none⟩) 1 1:=fun g hg e=>by
  injection hg with hg
  injection e with e
  simp only at hg e;omega
 have bT:=oH (cR.base (show w.heap.size+1<=w2.heap.size by omega));have be:=oH O1;have b8:=oH bk;have cH:Hid (aAt [(⟨some ⟨w2,0,none⟩,0,[]⟩:Row)]=lay (aAI es) (aAg r) 0):=oH rfl;generalize [(⟨some ⟨w2,0,none⟩,0,[]⟩:Row)]=rowsL0 at bT cH;clear O1 cR bk P0 P1 p0 p1 p2 aR da dZ cZ;generalize (some (⟨w.heap.size+1,0,none⟩:Addr))=AO at be b8 |-;generalize (some (⟨w2.heap.size+1,0,none⟩:Addr))=AL at bT b8 |-;with_reducible refine(aFS r _ oO).mono ?_
 rintro en w4 ⟨A8,c8,rfl,cT,bW⟩;have e5:=bW.size;replace be:=oH (be.out.mid bW);replace bT:=oH (bT.out.mid bW);replace B0:=B0.mid bW oZr;replace b0:=b0.trans bW;obtain⟨LL,cU⟩:∃ LL,(aAg r).length=LL:=⟨_,rfl⟩
 rw[cU] at cT |-;have dQ:LL<=6:=by omega
 have cV:w.heap.size<w3.heap.size:=by omega
 have cu:=oH cU;have aN:=oH cT;generalize w3.heap.size=Lp at aN cV;clear cT bW cU;go_wp2_with fail;go_loopw [7,8,10] (fun ov lv nv wr=>∃(k no nl:Nat) (ab aL:List Row) (A1 A2:OA) (c1 c2:Nat),nv=.int .i64 k/\ov=.slice A1 no c1/\lv=.slice A2 nl c2/\Hid (k<=n+1)/\Hid (aAt ab=(pre (aAI es) (aAg r) k).filter (aIX es))/\Hid (aAt aL=lay (aAI es) (aAg r) k)/\Hid (Own1 wr (w.heap.size+1) A1 no c1 ab)/\Hid (Own1 wr (w.heap.size+1) A2 nl c2 aL)/\Hid (Apart A1 no c1 A2 nl c2)/\Hid (wr.ownsRow Lp 3 1 (.slice A8 LL c8) LL (aAe (aAg r)))/\Box wr w.heap.size [.int .i64 r,.int .i64 n0,.slice A es.length c]/\Mid 0 0 w wr) (fun _ _ nv _=>n+1 - (intOf nv).toNat)
 case atStart=>exact⟨0,0,1,[],rowsL0,AO,AL,0,1,rfl,rfl,rfl,oH oZ,oH rfl,cH,be,bT,b8,aN,B0,b0⟩
 clear cH be bT b8 aN B0 b0;obtain⟨wo,de⟩:∃ wo,wo=wr:=⟨_,rfl⟩
 subst de;obtain⟨k,no,nl,ab,aL,A1,A2,c1,c2,rfl,rfl,rfl,HK,HDO,HDL,HO,HL,HAP,aN,B0,hm⟩:=hrel;have dx:=HK.out;by_cases hlt:k<n+1
 .have d1:decide ((k:Int)<=(n:Int))=true:=by simp;omega
  have d8:(k:Int)<=(n:Int):=by omega
  have dy:nl<=7776:=by have h1:=cM.out k oO;have h2:=HL.out.len;rw[<- HDL.out,aAD] at h1;omega
  have e0:no<=40000:=by have h1:=cP.out k oO;have h2:=HO.out.len;have h3:=List.length_filter_le (aIX es) (pre (aAI es) (aAg r) k);rw[<- HDO.out,aAD] at h3;omega
  have dE:w.heap.size+1<=wo.heap.size:=B0.1;have aR:=oE wo (.cells #[] 44);have d3:=(Own1.empty wo).base dE;have bm:Apart A1 no c1 (some ⟨wo,0,none⟩) 0 0:=fun g hg e=>by
   injection e with e
   have:=HO.out.lt hg;simp only at e;omega
  have bl:Apart A2 nl c2 (some ⟨wo,0,none⟩) 0 0:=fun g hg e=>by
   injection e with e
   have:=HL.out.lt hg;simp only at e;omega
  have bv:=oH d3;have a1:=oH bm;have a6:=oH bl;have cO:=oH (HO.out.mid aR);have cK:=oH (HL.out.mid aR);have bK:=oH (aAb aN.out aR oZl);have B1:=B0.mid aR oZr;have cB:=hm.trans aR;clear d3 bm bl HO HL aN B0;go_wp2_with fail;generalize wo.alloc (.cells #[] 44)=w5 at aR bv cO cK bK B1 cB |-;generalize (some (⟨wo,0,none⟩:Addr))=AN at bv a1 a6 |-;have ba:Hid (aAt ([]:List Row)=aAW (aAI es) (aAg r) ((lay (aAI es) (aAg r) k).take 0)):=oH rfl;have bc:Hid (aAt ab=(pre (aAI es) (aAg r) k++(lay (aAI es) (aAg r) k).take 0).filter (aIX es)):=oH (by rw[HDO.out];simp);clear aR HDO hm;go_loopw [7,11,12] (fun ov xv iv wr=>∃(i b7 nn:Nat) (a7 aE:List Row) (A3 A4:OA) (c3 c4:Nat),iv=.int .i64 i/\ov=.slice A3 b7 c3/\xv=.slice A4 nn c4/\Hid (i<=nl)/\Hid (aAt a7=(pre (aAI es) (aAg r) k++(lay (aAI es) (aAg r) k).take i).filter (aIX es))/\Hid (aAt aE=aAW (aAI es) (aAg r) ((lay (aAI es) (aAg r) k).take i))/\Hid (Own1 wr (w.heap.size+1) A3 b7 c3 a7)/\Hid (Own1 wr (w.heap.size+1) A2 nl c2 aL)/\Hid (Own1 wr (w.heap.size+1) A4 nn c4 aE)/\Hid (Apart A3 b7 c3 A2 nl c2)/\Hid (Apart A3 b7 c3 A4 nn c4)/\Hid (Apart A2 nl c2 A4 nn c4)/\Hid (wr.ownsRow Lp 3 1 (.slice A8 LL c8) LL (aAe (aAg r)))/\Box wr w.heap.size [.int .i64 r,.int .i64 n0,.slice A es.length c]/\Mid 0 0 w wr) (fun _ _ iv _=>nl - (intOf iv).toNat)
  case atStart=>exact⟨0,no,0,ab,[],A1,AN,c1,0,rfl,rfl,rfl,oH oZ,bc,ba,cO,cK,bv,HAP,a1,a6,bK,B1,cB⟩
  clear bc ba cO cK bv HAP a1 a6 bK B1 cB dE;obtain⟨wp,df⟩:∃ wp,wp=wr:=⟨_,rfl⟩
  subst df;obtain⟨i,b7,nn,a7,aE,A3,A4,c3,c4,rfl,rfl,rfl,HI,HDO,HDN,HO,HL,HN,HAP,a1,a6,aN,B0,hm⟩:=hrel;have dt:=HI.out;by_cases hlt2:i<nl
  .obtain⟨rr,cD⟩:=aAy aL (show i<aL.length by rw[HL.out.len];exact hlt2)
   have cG:(lay (aAI es) (aAg r) k)[i]?=some rr.xs:=by rw[<- HDL.out];simp[aAt,cD]
   obtain⟨b2,dM,dR,dl,ce,cE,cd⟩:=HL.out.row cD;obtain⟨bS,cF⟩:=aNv (oG cG);have dL:=oH cD;have bg:=oH cG;have d0:=oH cF;obtain⟨Aw,cw,xw⟩:=rr;simp only[Row.v] at ce cE cd bS cF;simp only at bg d0;have dB:OkI xw:=fun x hx=>by have:=aAU.1 (cF x hx);omega
   have br:=oG cG;have c0:=aVp cJ.out br;obtain⟨u,hu⟩:∃ u,(rdA es 0 xw).1=u:=⟨_,rfl⟩
   rw[hu] at c0;have HU:=oH hu;have cX:Calls Tryz.prog 128 #[aAJ r n0 A es.length c,(0:Int),.slice Aw xw.length cw] wp fun e w'=>e=.returned (.tuple #[u,.bool true])/\Mid 0 0 wp w':=by
    have h1:=aEZ r n0 0 A es c Aw xw cw wp lo hi _ _ (hr.mid hm oZl) cE cJ.out oO oO dB;refine Calls.mono h1 ?_;rintro e w' ⟨u2,b,rfl,h2,h3,h4⟩;have bp:goV es ((0:Nat):Int) xw=some u:=c0;cases b
    .have h5:=h3 rfl
     rw[bp] at h5;cases h5
    have h5:=h2 rfl;rw[bp] at h5;injection h5 with h5
    subst h5;exact⟨rfl,h4⟩
   clear br hu;rw[bS] at cX;have b6:=oH bS;have cy:=oH cE;have dh:=oH c0;obtain⟨p0,p1,p2⟩:=B0.c3 rfl;have dr:(0:Int)<=(i:Int):=by omega
   have ds:(i:Int)<(nl:Int):=by omega
   have e9:w.heap.size<wp.heap.size:=B0.1;rw[bS] at ce;have dP:=HL;clear cD cG cF c0 dB cE;subst dM;go_wp2_with fail;with_reducible refine cX.mono ?_
   rintro en w6 ⟨rfl,bC⟩;have e6:=bC.size;have bU:=oH (HO.out.mid bC);have bu:=oH (HL.out.mid bC);have bx:=oH (HN.out.mid bC);have b9:=oH (aAb aN.out bC oZl);have bR:=cy.out.mid bC oZl;have B6:=B0.mid bC oZr;replace hm:=hm.trans bC;clear HO HL HN aN cy B0 bC p0 p1 p2 dP ce cX;obtain⟨lb,bO⟩:∃ lb,aIX es xw=lb:=⟨_,rfl⟩
   have bd:=oH bO;have e8:(u == 0)=lb:=by
    rw[<- bO];unfold aIX;rw[HU.out];by_cases h:u=0
    .rw[beq_iff_eq.2 h,decide_eq_true h]
    rw[beq_eq_false_iff_ne.2 h,decide_eq_false h]
   clear bO;cases lb
   focus
    have bf:=bU;have cL:=bu;have cN:=bx;have bL:=b9;have B9:=B6;have a9:=hm;have bG:=HAP;have ai:=a1;have bJ:Hid (aAt a7=(pre (aAI es) (aAg r) k++(lay (aAI es) (aAg r) k).take (i+1)).filter (aIX es)):=oH (by
     obtain⟨h1,h2⟩:=List.getElem?_eq_some_iff.1 bg.out;rw[HDO.out,List.take_succ_eq_append_getElem h1,h2,<- List.append_assoc,List.filter_append (l₁:=pre (aAI es) (aAg r) k++(lay (aAI es) (aAg r) k).take i),List.filter_cons,if_neg (by rw[bd.out];simp)];simp)
    have bI:Hid (aAt aE=aAW (aAI es) (aAg r) ((lay (aAI es) (aAg r) k).take i)++aGN (aAI es) ((aAg r).take 0) xw):=oH (by rw[HDN.out];simp[aGN]);have ct:=oH (aFH (f:=aAI es) (L:=aAg r) bg.out);have dD:=a9.size;clear bU bu bx b9 B6 HAP a1 HDO HDN hm bR;go_wp2_with fail;obtain⟨A9,rfl⟩:∃ x,x=A3:=⟨_,rfl⟩
    obtain⟨c9,rfl⟩:∃ x,x=c3:=⟨_,rfl⟩
    obtain⟨nO,rfl⟩:∃ x,x=b7:=⟨_,rfl⟩
    obtain⟨b5,rfl⟩:∃ x,x=a7:=⟨_,rfl⟩
   rotate_left
   focus
    have cq:=aAd w6 3 1;have aR:=oE w6 (.cells #[] 3);have dC:=(bR.mid aR oZl).rs;have bV:(aAe xw).length=k * 1:=by rw[aAB,bS];omega
    go_wp2_with (at_builtin;refine aBY rfl _ _ 44 rfl w6 3 (.int .i64 0) 1 8 aBo aBs rfl oD _ _ _ rfl cq Aw k cw _ (aAe xw) rfl dC bV (aAm _) ?c4 ?c5 ?c6 ?next)
    case c4=>unfold maxLen;omega
    case c5=>omega
    case c6=>simp
    intro v7 w7 cC bq cY;obtain⟨A7,c7,rfl, -, -⟩:=aAc cC;try rw[Nat.zero_add,List.nil_append] at cC
    try rw[Nat.zero_add]
    have bD:Mid 0 0 w6 w7:=aR.transNew (oF cq bq) (Or.inl oN);have e7:=bD.size;have cx:Hid (w7.ownsRow w6 3 1 (Row.v ⟨A7,c7,xw⟩) xw.length (aAe xw)):=oH (by unfold Row.v;rw[bS];exact cC);have cz:Hid (Row.v ⟨A7,c7,xw⟩=.slice A7 k c7):=oH (by unfold Row.v;rw[bS]);clear cC bq cY cq aR dC bV;have dX:b7<=50000:=by
     have h1:=bU.out.len;have h2:=congrArg List.length HDO.out;have h3:=cP.out k oO;have h4:=cM.out k oO;rw[aAD] at h2;have h5:=List.length_filter_le (aIX es) (pre (aAI es) (aAg r) k++(lay (aAI es) (aAg r) k).take i);rw[List.length_append,List.length_take] at h5;omega
    go_wp2_with (at_builtin;refine MarkerX.to ?_)
    unfold MarkerX;refine aIO rfl _ _ rfl rfl bU.out bD ⟨A7,c7,xw⟩ (.slice A7 k c7) cz.out cx.out rfl oO oO ?_;intro A9 c9 w9 ak a3 aP;have bj:=bU.out.mid bD;have cS:=bu.out.mid bD;have cW:=bx.out.mid bD;have bM:=aAb b9.out bD oZl;have B7:=B6.mid bD oZr;have bs:=hm.trans bD;have af:∀ g,obS A3 b7 c3=some g->w.heap.size+1<=g:=fun g hg=>(bj.lt hg).1;have bf:=oH ak;have cL:=oH (cS.other bj HAP.out.symm a3);have cN:=oH (cW.other bj a1.out.symm a3);have bL:=oH (bM.kept a3 (aBd bM bj.out oD));have B9:=B7.grown a3 (by intro h0;have:=af _ h0;omega);have a9:=bs.grownNew a3 (fun g hg=>by have:=af g hg;omega);have bG:=oH (HAP.out.push aP cS);have ai:=oH (a1.out.push aP cW);have bJ:Hid (aAt (a7++[(⟨A7,c7,xw⟩:Row)])=(pre (aAI es) (aAg r) k++(lay (aAI es) (aAg r) k).take (i+1)).filter (aIX es)):=oH (by
     obtain⟨h1,h2⟩:=List.getElem?_eq_some_iff.1 bg.out;rw[aAv,HDO.out,List.take_succ_eq_append_getElem h1,h2,<- List.append_assoc,List.filter_append (l₁:=pre (aAI es) (aAg r) k++(lay (aAI es) (aAg r) k).take i),List.filter_cons,if_pos bd.out]
     rfl)
    have bI:Hid (aAt aE=aAW (aAI es) (aAg r) ((lay (aAI es) (aAg r) k).take i)++aGN (aAI es) ((aAg r).take 0) xw):=oH (by rw[HDN.out];simp[aGN]);have ct:=oH (aFH (f:=aAI es) (L:=aAg r) bg.out);have dD:=a9.size;clear ak a3 aP bj cS cW bM B7 bs af bU bu bx b9 B6 HAP a1 HDO HDN hm bD bR cz cx;go_wp2_with fail;generalize b7+1=nO at bf bG ai |-;generalize a7++[(⟨A7,c7,xw⟩:Row)]=b5 at bf bJ
   rotate_left
   all_goals
    go_loopw [11,16] (fun xv jv wr=>∃(j ah:Nat) (a4:List Row) (A5:OA) (c5:Nat),jv=.int .i64 j/\xv=.slice A5 ah c5/\Hid (j<=LL)/\Hid (aAt a4=aAW (aAI es) (aAg r) ((lay (aAI es) (aAg r) k).take i)++aGN (aAI es) ((aAg r).take j) xw)/\Hid (Own1 wr (w.heap.size+1) A9 nO c9 b5)/\Hid (Own1 wr (w.heap.size+1) (some ⟨b2,0,none⟩) nl c2 aL)/\Hid (Own1 wr (w.heap.size+1) A5 ah c5 a4)/\Hid (Apart A9 nO c9 A5 ah c5)/\Hid (Apart (some ⟨b2,0,none⟩) nl c2 A5 ah c5)/\Hid (wr.ownsRow Lp 3 1 (.slice A8 LL c8) LL (aAe (aAg r)))/\Box wr w.heap.size [.int .i64 r,.int .i64 n0,.slice A es.length c]/\Mid 0 0 w wr) (fun _ jv _=>LL - (intOf jv).toNat)
    case atStart=>exact⟨0,nn,aE,A4,c4,rfl,rfl,oH oZ,bI,bf,cL,cN,ai,a6,bL,B9,a9⟩
    clear bI bf cL cN ai a6 bL B9 a9 dD;obtain⟨wq,dg⟩:∃ wq,wq=wr:=⟨_,rfl⟩
    subst dg;obtain⟨j,ah,a4,A5,c5,rfl,rfl,HJ,HDN,HO,HL,HN,a1,a6,aN,B0,hm⟩:=hrel;have dw:=HJ.out;by_cases hlt3:j<LL
    .obtain⟨x,hx⟩:=aAy (aAg r) (show j<(aAg r).length by rw[cu.out];exact hlt3)
     have eB:=aAU.1 (oG hx);obtain⟨nx,cp⟩:∃ y,aAr es u x=y:=⟨_,rfl⟩
     have cv:=oH cp;have HX:=oH hx;obtain⟨g8,dN,dq,bA⟩:=aAS aN.out (show 0<LL by omega);subst dN;have cg:wq.cell? ⟨g8,j,none⟩=some (.int .i64 x):=(aN.out.cellAt j oO).trans (by rw[aAP,hx];rfl);have du:(0:Int)<=(j:Int):=by omega
     have dv:(j:Int)<(LL:Int):=by omega
     have dY:=HL.out.row dL.out;obtain⟨di,cQ, -,ca,cf,ag,bn⟩:=dY;simp only at ag bn;have hA:=fun m os=>aBL r n0 A es c u x (wg wq m os) lo hi (hr.mid (hm.trans (Mid.ofWg wq m os)) oZl) oO dJ.out oO oO;rw[cp] at hA;have k0:=aAf B0.1 (B0.cell 0 rfl);have k1:=aAf B0.1 (B0.cell 1 rfl);have k2:=aAf B0.1 (B0.cell 2 rfl);have k4:=aAf bA cg;have dI:=oH cg;clear hx cg cf cQ ca cp;rcases List.eq_nil_or_concat xw with hnil|⟨ws,y,hcc⟩
     focus
      have d7:k=0:=by have:=b6.out;rw[hnil] at this;exact this.symm
      have dU:((k:Int) == 0)=true:=by simp[d7]
      have aQ:okB xw x=true:=by rw[hnil];rfl
      clear hnil d7;obtain⟨dd,ch⟩:∃ dd,decide (0<=nx)=dd:=⟨_,rfl⟩
      have aa:aAI es xw x=dd:=by unfold aAI;rw[aQ,HU.out,cv.out,ch];rfl
      clear aQ;have k5:=HX
     rotate_left
     focus
      have dV:k=ws.length+1:=by have:=b6.out;rw[hcc,List.length_concat] at this;exact this.symm
      have dU:((k:Int) == 0)=false:=by simp;omega
      obtain⟨m,dA⟩:∃ m,ws.length=m:=⟨_,rfl⟩
      have d8:(k:Int) - 1=(m:Int):=by omega
      have dF:y∈xw:=by rw[hcc];simp
      have eC:=aAU.1 (d0.out y dF);have d6:xw[m]?=some y:=by rw[hcc,List.concat_eq_append,List.getElem?_append_right oO,<- dA];simp
      obtain⟨bw,ow,y',dO,dS,cA,d5⟩:=ag.at (k:=m) (by rw[b6.out];omega);subst dO;rw[d6] at cA;injection cA with cA
      subst cA;have cb:bw<wq.heap.size:=oT dS ag.1;have b0:(0:Int)<=(m:Int):=by omega
      have cB:(m:Int)<(k:Int):=by omega
      have k5:=aAf cb d5;have dc:IntKind.i64.wrap (m:Int)=(m:Int):=oI _;have eA:IntKind.i64.wrap (-y) = -y:=oI _;obtain⟨bb,d4⟩:∃ bb,(x == -y)=bb:=⟨_,rfl⟩
      have dG:(y == -x)=bb:=by
       rw[<- d4];by_cases h:x = -y
       .have h2:y = -x:=by omega
        rw[beq_iff_eq.2 h,beq_iff_eq.2 h2]
       have h2:¬ y = -x:=by omega
       rw[beq_eq_false_iff_ne.2 h,beq_eq_false_iff_ne.2 h2]
      have aQ:okB xw x=!bb:=by rw[hcc,List.concat_eq_append,aMd,dG]
      have dm:(x != -y)=!bb:=by rw[<- d4];rfl
      clear hcc dF d6 dA dV d5 dG;cases bb
      rotate_left
      .have aa:aAI es xw x=false:=by unfold aAI;rw[aQ];rfl
       have aM:Hid (aAt a4=aAW (aAI es) (aAg r) ((lay (aAI es) (aAg r) k).take i)++aGN (aAI es) ((aAg r).take (j+1)) xw):=oH (by rw[aON HX.out aa];exact HDN.out);clear aa HDN;go_wp2_with fail;refine wqg ?_;repeat
        (with_reducible refine wpQuiet_step (fun K hK=>?_))
        go_simp
        first|(with_reducible refine hK _ ?_)|(rw[if_neg oD];(with_reducible refine hK _ ?_))|(apply Exists.intro;refine⟨fun _=>?_,hK _ ?_⟩;((go_at_call 129;exact Calls.wg_of (hA _ _))))
        clear hK K
       with_reducible refine wpQuiet_nil ?_
       rintro _ ⟨⟨nq,osq⟩,rfl⟩;have aO:=Mid.ofWg wq nq osq;generalize wg wq nq osq=wx at aO |-;have aw:=oH (HO.out.mid aO);have ar:=oH (HL.out.mid aO);have aj:=oH (HN.out.mid aO);have aH:=oH (aAb aN.out aO oZl);have B2:=B0.mid aO oZr;have aX:=hm.trans aO;clear HO HL HN aN B0 hm aO ag k0 k1 k2 k4 k5 hA;go_wp2_with fail;go_roundw
       case rel=>exact⟨j+1,ah,a4,A5,c5,by go_num,rfl,oH oO,aM,aw,ar,aj,a1,a6,aH,B2,aX⟩
       simp[intOf];omega
      obtain⟨dd,ch⟩:∃ dd,decide (0<=nx)=dd:=⟨_,rfl⟩
      have aa:aAI es xw x=dd:=by unfold aAI;rw[aQ,HU.out,cv.out,ch];rfl
      clear aQ
     rotate_left
     all_goals
      cases dd
      .have aM:Hid (aAt a4=aAW (aAI es) (aAg r) ((lay (aAI es) (aAg r) k).take i)++aGN (aAI es) ((aAg r).take (j+1)) xw):=oH (by rw[aON HX.out aa];exact HDN.out)
       clear aa HDN;go_wp2_with fail;refine wqg ?_;repeat
        (with_reducible refine wpQuiet_step (fun K hK=>?_))
        go_simp
        first|(with_reducible refine hK _ ?_)|(rw[if_neg oD];(with_reducible refine hK _ ?_))|(apply Exists.intro;refine⟨fun _=>?_,hK _ ?_⟩;((go_at_call 129;exact Calls.wg_of (hA _ _))))
        clear hK K
       with_reducible refine wpQuiet_nil ?_
       rintro _ ⟨⟨nq,osq⟩,rfl⟩;have aO:=Mid.ofWg wq nq osq;generalize wg wq nq osq=wx at aO |-;have aw:=oH (HO.out.mid aO);have ar:=oH (HL.out.mid aO);have aj:=oH (HN.out.mid aO);have aH:=oH (aAb aN.out aO oZl);have B2:=B0.mid aO oZr;have aX:=hm.trans aO;clear HO HL HN aN B0 hm aO ag k0 k1 k2 k4 k5 hA;go_wp2_with fail;go_roundw
       case rel=>exact⟨j+1,ah,a4,A5,c5,by go_num,rfl,oH oO,aM,aw,ar,aj,a1,a6,aH,B2,aX⟩
       simp[intOf];omega
      have aQ:=aa;clear aa;go_wp2_with fail;refine wqg ?_;repeat
       (with_reducible refine wpQuiet_step (fun K hK=>?_))
       go_simp
       first|(with_reducible refine hK _ ?_)|(rw[if_neg oD];(with_reducible refine hK _ ?_))|(apply Exists.intro;refine⟨fun _=>?_,hK _ ?_⟩;((go_at_call 129;exact Calls.wg_of (hA _ _))))
       clear hK K
      with_reducible refine wpQuiet_nil ?_
      rintro _ ⟨⟨nq,osq⟩,rfl⟩;have aO:=Mid.ofWg wq nq osq;generalize wg wq nq osq=wx at aO |-;have an:=aO.trans (Mid.drew1 wx);have cs:=an.size;have aw:=oH (HO.out.mid an);have ar:=oH (HL.out.mid an);have aj:=oH (HN.out.mid an);have aH:=oH (aAb aN.out an oZl);have B2:=B0.mid an oZr;have aX:=hm.trans an;have ap:=ag.mid an oZl;have kz:=aAa an bA oZr dI.out;have a2:g8<(World.drew wx).heap.size:=oT bA cs;have d9:w.heap.size<wq.heap.size:=B0.1;have bB:w.heap.size+1<=(World.drew wx).heap.size:=oV d9 cs;have bV:(aAe xw).length=k * 1:=by rw[aAB,b6.out];omega
      have co:ah<=1048576:=by
       have h1:=HN.out.len;have h2:=congrArg List.length HDN.out;have h4:=aES (f:=aAI es) (L:=aAg r) ((lay (aAI es) (aAg r) k).take i);have h5:((lay (aAI es) (aAg r) k).take i).length<=1296:=by
        have h6:=aKd (f:=aAI es) bz k;have h7:6 ^ k<=6 ^ 4:=Nat.pow_le_pow_right oO oO;rw[List.length_take];omega
       have h8:((lay (aAI es) (aAg r) k).take i).length * (aAg r).length<=1296 * 6:=Nat.mul_le_mul h5 bz;have h9:=aMe (f:=aAI es) (L:=(aAg r).take j) xw;have dj:((aAg r).take j).length<=6:=by rw[List.length_take];omega
       rw[aAD,List.length_append] at h2;omega
      have b4:∀ u∈[Value.int .i64 x],u.oneCell'=true:=by
       intro u hu;simp at hu;subst hu
       rfl
      have cn:k+1<=maxLen:=by unfold maxLen;omega
      have cc:(k+1) * 8<=140737488355328:=by omega
      have bQ:0+k<=maxLen:=by unfold maxLen;omega
      have bN:(0+k) * 8<=140737488355328:=by omega
      have aM:Hid (∀ R:Row,R.xs=xw++[x]->aAt (a4++[R])=aAW (aAI es) (aAg r) ((lay (aAI es) (aAg r) k).take i)++aGN (aAI es) ((aAg r).take (j+1)) xw):=oH (by
       intro R hR;rw[aMf HX.out aQ,aAv,HDN.out];simp[aAt,hR])
      clear HO HL HN aN B0 hm ag aO cs d9 aQ HDN k0 k1 k2 k4 k5 hA bA;go_wp2_with fail;refine aAo (S:=(fun w'=>w'.cell? ⟨g8,j,none⟩=some (.int .i64 x))) [11,12] oK kz ?_;generalize World.drew wx=wz at aw ar aj aH B2 aX ap kz a2 bB an |-;refine tkZ [11,12] 0 rfl kz ?_;try simp only[oP]
      refine tkZ [3,9,10,11,12] 2 rfl kz ?_;try simp only[oP]
      refine tkZ [6,7,8,9,10,11,12] 4 rfl kz ?_;try simp only[oP]
      refine tkZ [6,7,8,9,10,11,12] 5 rfl kz ?_;try simp only[oP]
      refine tkZ [7,8,9,10,11,12] 6 rfl kz ?_;try simp only[oP]
      refine tkZ [8,9,10,11,12] 7 rfl kz ?_;try simp only[oP]
      refine aBb (rs:=[1,8]) oK oM (AllReadyZ.cons rfl (fun K hK=>?_) (AllReadyZ.cons rfl (fun K hK=>?_) AllReadyZ.nil))
      .go_simp
       refine hK.out _ _ (Or.inr (aAa (oE wz (.cells #[] 3)) a2 oZr kz)) (fun _=>?_);clear hK K;try simp only[oP]
       have aC:=oE wz (.cells #[] 3);have e1:=aAd wz 3 1;have ao:=ap.mid aC oZl;have k1:=aAa aC a2 oZr kz;have bX:(wz.alloc (.cells #[] 3)).heap.size=wz.heap.size+1:=by simp
       generalize wz.alloc (.cells #[] 3)=wa at aC e1 ao k1 bX |-;have ae:g8<wa.heap.size:=by omega
       have am:wz.heap.size<=wa.heap.size:=by omega
       have cj:wz.heap.size<wa.heap.size:=by omega
       clear bX;refine aBb (rs:=[3,8]) oK oM (AllReadyZ.cons rfl (fun K hK=>?_) (AllReadyZ.cons rfl (fun K hK=>?_) AllReadyZ.nil))
       ·(refine aAV (by rfl) (.tmp 106) (.tmp 107) 44 (by rfl) wz.heap.size 3 (.int .i64 0) 1 8 aBo aBs rfl oD _ 0 _ (by rfl) e1 _ k cw _ (aAe xw) (by rfl) ao.rs bV (aAm _) bQ bN am ?_;intro v3 w3 al aB ay;obtain⟨A3x,bi,rfl, -, -⟩:=aAc al)
        refine hK.out _ _ (Or.inr (aAa (oF e1 aB) ae (Or.inl a2) k1)) (fun _=>?_);clear hK K;try simp only[oP]
        try rw[Nat.zero_add,List.nil_append] at al
        try rw[Nat.zero_add]
        have k3:=aAa (oF e1 aB) ae (Or.inl a2) k1;have cl:=aC.transNew (oF e1 aB) (Or.inl oN);have bo:g8<w3.heap.size:=oT a2 cl.size;clear aC e1 ao k1 aB ay am;refine rdZ 8 rfl (fun K hK=>?_);go_simp;refine hK.out _ _ (Or.inr (aAa (oE w3 (.cells #[x] 3)) bo oZr k3)) (fun _=>?_);clear hK K;try simp only[oP]
        have aA:=oE w3 (.cells #[x] 3);have kc:=aAa aA bo oZr k3;have aZ:=cl.trans aA;have a5:=al.alloc (.cells #[x] 3);have aK:=aGy (w:=w3.alloc (.cells #[x] 3)) (p:=w3.heap.size) (v:=.int .i64 x) (World.cell?_alloc_at _ _ _ _ rfl);generalize w3.alloc (.cells #[x] 3)=wc at aA kc aZ a5 aK |-;clear aA al cl k3;have aW:g8<wc.heap.size:=oT a2 aZ.size;refine rdZ 9 rfl (fun K hK=>?_)
        (refine aAV (by rfl) (.tmp 108) (.tmp 113) 44 (by rfl) wz.heap.size 3 (.int .i64 0) 1 8 aBo aBs rfl oD (.slice A3x k bi) k _ (by rfl) a5 (some ⟨w3,0,none⟩) 1 1 _ [x] (by rfl) aK rfl b4 cn cc aZ.size ?_;intro v9 w9 b3 a3 aP;obtain⟨A9x,aI,rfl, -, -⟩:=aAc b3)
        refine hK.out _ _ (Or.inr (aAa (oF a5 a3) aW (Or.inl a2) kc)) (fun _=>?_);clear hK K;try simp only[oP]
        have k9:=aAa (oF a5 a3) aW (Or.inl a2) kc;have a9:=aZ.transNew (oF a5 a3) (Or.inl oN);have az:g8<w9.heap.size:=oT a2 a9.size;have aD:w9.ownsRow wz 3 1 (Row.v ⟨A9x,aI,xw++[x]⟩) (xw++[x]).length (aAe (xw++[x])):=aSk (by rw[aAi];exact b3) b6.out;have bF:Row.v ⟨A9x,aI,xw++[x]⟩=.slice A9x (k+1) aI:=by simp only[Row.v,List.length_append,b6.out,List.length_singleton]
        clear b3 a3 aP a5 aK aZ kc;refine rdZ 10 rfl (fun K hK=>?_);go_simp;refine hK.out _ _ (Or.inr (aAa (oE w9 (.cells #[.slice A9x (k+1) aI] 44)) az oZr k9)) (fun _=>?_);clear hK K;try simp only[oP]
        refine rdZ 11 rfl (fun K hK=>?_)
        (refine aGl (by rfl) (.tmp 105) (.tmp 115) (by rfl) (by rfl) aj.out a9 ⟨A9x,aI,xw++[x]⟩ (.slice A9x (k+1) aI) bF aD (by rfl) co bB ?_;intro A11 bh dH aU a0 a8)
        refine hK.out _ _ (Or.inl oM) (fun _=>?_);clear hK K;try simp only[oP]
        have ak:=aw.out.mid a9;have ax:=ar.out.mid a9;have aV:=aj.out.mid a9;have aJ:=aAb aH.out a9 oZl;have B9:=B2.mid a9 oZr;have aY:=aX.trans a9;have af:∀ g,obS A5 ah c5=some g->w.heap.size+1<=g:=fun g hg=>(aV.lt hg).1;have av:=oH (ak.other aV a1.out a0);have aq:=oH (ax.other aV a6.out a0);have au:=oH aU;have aT:=oH (aJ.kept a0 (aBd aJ aV.out oD));have bZ:=B9.grown a0 (by intro h0;have:=af _ h0;omega);have b1:=aY.grownNew a0 (fun g hg=>by have:=af g hg;omega);have aG:=oH ((a1.out.symm.push a8 ak).symm);have aF:=oH ((a6.out.symm.push a8 ax).symm);have aS:=oH (aM.out ⟨A9x,aI,xw++[x]⟩ rfl);clear aU a0 a8 ak ax aV aJ B9 aY af aw ar aj aH B2 aX a9 an a1 a6 aM aD bF ap kz k9;refine rdZ 12 rfl (fun K hK=>?_);go_simp;refine hK.out _ _ (Or.inl oM) (fun _=>?_);clear hK K;try simp only[oP]
        refine aAj oK ?_ _;go_wp2_with fail;go_roundw
        case rel=>exact⟨j+1,ah+1,_,A11,bh,by go_num,rfl,oH oO,aS,av,aq,au,aG,aF,aT,bZ,b1⟩
        simp[intOf];omega
       go_simp;refine hK.out _ _ (Or.inr (aAa (oE wa (.cells #[x] 3)) ae oZr k1)) (fun _=>?_);clear hK K;try simp only[oP]
       have aA:=oE wa (.cells #[x] 3);have k8:=aAa aA ae oZr k1;have cm:=aC.trans aA;replace e1:=e1.alloc (.cells #[x] 3);replace ao:=ao.mid aA oZl;have c8:(wa.alloc (.cells #[x] 3)).cell? ⟨wa,0,none⟩=some (.int .i64 x):=World.cell?_alloc_at _ _ _ _ rfl;have bt:(wa.alloc (.cells #[x] 3)).heap.size=wa.heap.size+1:=by simp
       generalize wa.alloc (.cells #[x] 3)=w8 at aA k8 cm e1 ao c8 bt |-;have ad:g8<w8.heap.size:=by omega
       replace am:wz.heap.size<=w8.heap.size:=by omega
       have ck:wa.heap.size<w8.heap.size:=by omega
       clear k1 aC aA bt;refine rdZ 3 rfl (fun K hK=>?_)
       (refine aAV (by rfl) (.tmp 106) (.tmp 107) 44 (by rfl) wz.heap.size 3 (.int .i64 0) 1 8 aBo aBs rfl oD _ 0 _ (by rfl) e1 _ k cw _ (aAe xw) (by rfl) ao.rs bV (aAm _) bQ bN am ?_;intro v3 w3 al aB ay;obtain⟨A3x,bi,rfl, -, -⟩:=aAc al)
       refine hK.out _ _ (Or.inr (aAa (oF e1 aB) ad (Or.inl a2) k8)) (fun _=>?_);clear hK K;try simp only[oP]
       try rw[Nat.zero_add,List.nil_append] at al
       try rw[Nat.zero_add]
       have kc:=aAa (oF e1 aB) ad (Or.inl a2) k8;have aZ:=cm.transNew (oF e1 aB) (Or.inl oN);have a5:=al;have aK:=aGy (aGa aB (show wa.heap.size<w8.heap.size by omega) (aPI oO) c8);generalize w3=wc at kc aZ a5 aK |-;clear cm k8 e1 ao c8 aB ay al;have aW:g8<wc.heap.size:=oT a2 aZ.size;refine rdZ 9 rfl (fun K hK=>?_)
       (refine aAV (by rfl) (.tmp 108) (.tmp 113) 44 (by rfl) wz.heap.size 3 (.int .i64 0) 1 8 aBo aBs rfl oD (.slice A3x k bi) k _ (by rfl) a5 (some ⟨wa,0,none⟩) 1 1 _ [x] (by rfl) aK rfl b4 cn cc aZ.size ?_;intro v9 w9 b3 a3 aP;obtain⟨A9x,aI,rfl, -, -⟩:=aAc b3)
       refine hK.out _ _ (Or.inr (aAa (oF a5 a3) aW (Or.inl a2) kc)) (fun _=>?_);clear hK K;try simp only[oP]
       have k9:=aAa (oF a5 a3) aW (Or.inl a2) kc;have a9:=aZ.transNew (oF a5 a3) (Or.inl oN);have az:g8<w9.heap.size:=oT a2 a9.size;have aD:w9.ownsRow wz 3 1 (Row.v ⟨A9x,aI,xw++[x]⟩) (xw++[x]).length (aAe (xw++[x])):=aSk (by rw[aAi];exact b3) b6.out;have bF:Row.v ⟨A9x,aI,xw++[x]⟩=.slice A9x (k+1) aI:=by simp only[Row.v,List.length_append,b6.out,List.length_singleton]
       clear b3 a3 aP a5 aK aZ kc;refine rdZ 10 rfl (fun K hK=>?_);go_simp;refine hK.out _ _ (Or.inr (aAa (oE w9 (.cells #[.slice A9x (k+1) aI] 44)) az oZr k9)) (fun _=>?_);clear hK K;try simp only[oP]
       refine rdZ 11 rfl (fun K hK=>?_)
       (refine aGl (by rfl) (.tmp 105) (.tmp 115) (by rfl) (by rfl) aj.out a9 ⟨A9x,aI,xw++[x]⟩ (.slice A9x (k+1) aI) bF aD (by rfl) co bB ?_;intro A11 bh dH aU a0 a8)
       refine hK.out _ _ (Or.inl oM) (fun _=>?_);clear hK K;try simp only[oP]
       have ak:=aw.out.mid a9;have ax:=ar.out.mid a9;have aV:=aj.out.mid a9;have aJ:=aAb aH.out a9 oZl;have B9:=B2.mid a9 oZr;have aY:=aX.trans a9;have af:∀ g,obS A5 ah c5=some g->w.heap.size+1<=g:=fun g hg=>(aV.lt hg).1;have av:=oH (ak.other aV a1.out a0);have aq:=oH (ax.other aV a6.out a0);have au:=oH aU;have aT:=oH (aJ.kept a0 (aBd aJ aV.out oD));have bZ:=B9.grown a0 (by intro h0;have:=af _ h0;omega);have b1:=aY.grownNew a0 (fun g hg=>by have:=af g hg;omega);have aG:=oH ((a1.out.symm.push a8 ak).symm);have aF:=oH ((a6.out.symm.push a8 ax).symm);have aS:=oH (aM.out ⟨A9x,aI,xw++[x]⟩ rfl);clear aU a0 a8 ak ax aV aJ B9 aY af aw ar aj aH B2 aX a9 an a1 a6 aM aD bF ap kz k9;refine rdZ 12 rfl (fun K hK=>?_);go_simp;refine hK.out _ _ (Or.inl oM) (fun _=>?_);clear hK K;try simp only[oP]
       refine aAj oK ?_ _;go_wp2_with fail;go_roundw
       case rel=>exact⟨j+1,ah+1,_,A11,bh,by go_num,rfl,oH oO,aS,av,aq,au,aG,aF,aT,bZ,b1⟩
       simp[intOf];omega
      go_simp;refine hK.out _ _ (Or.inr (aAa (oE wz (.cells #[x] 3)) a2 oZr kz)) (fun _=>?_);clear hK K;try simp only[oP]
      have aA:=oE wz (.cells #[x] 3);have k8:=aAa aA a2 oZr kz;have cr:=ap.mid aA oZl;have c8:(wz.alloc (.cells #[x] 3)).cell? ⟨wz,0,none⟩=some (.int .i64 x):=World.cell?_alloc_at _ _ _ _ rfl;have bt:(wz.alloc (.cells #[x] 3)).heap.size=wz.heap.size+1:=by simp
      generalize wz.alloc (.cells #[x] 3)=w8 at aA k8 cr c8 bt |-;have ad:g8<w8.heap.size:=by omega
      have ck:wz.heap.size<w8.heap.size:=by omega
      clear bt;refine rdZ 1 rfl (fun K hK=>?_);go_simp;refine hK.out _ _ (Or.inr (aAa (oE w8 (.cells #[] 3)) ad oZr k8)) (fun _=>?_);clear hK K;try simp only[oP]
      have aC:=oE w8 (.cells #[] 3);have e1:=aAd w8 3 1;have ao:=cr.mid aC oZl;have c1:=aAa aC (show wz.heap.size<w8.heap.size by omega) oZr c8;have k1:=aAa aC ad oZr k8;have bP:=aA.trans aC;have bX:(w8.alloc (.cells #[] 3)).heap.size=w8.heap.size+1:=by simp
      generalize w8.alloc (.cells #[] 3)=wa at aC e1 ao c1 k1 bP bX |-;have ae:g8<wa.heap.size:=by omega
      have am:w8.heap.size<=wa.heap.size:=by omega
      have cj:w8.heap.size<wa.heap.size:=by omega
      clear aA aC k8 cr c8 bX;refine rdZ 3 rfl (fun K hK=>?_)
      (refine aAV (by rfl) (.tmp 106) (.tmp 107) 44 (by rfl) w8.heap.size 3 (.int .i64 0) 1 8 aBo aBs rfl oD _ 0 _ (by rfl) e1 _ k cw _ (aAe xw) (by rfl) ao.rs bV (aAm _) bQ bN am ?_;intro v3 w3 al aB ay;obtain⟨A3x,bi,rfl, -, -⟩:=aAc al)
      refine hK.out _ _ (Or.inr (aAa (oF e1 aB) ae (Or.inl ad) k1)) (fun _=>?_);clear hK K;try simp only[oP]
      try rw[Nat.zero_add,List.nil_append] at al
      try rw[Nat.zero_add]
      have kc:=aAa (oF e1 aB) ae (Or.inl ad) k1;have aZ:=bP.transNew (oF e1 aB) oL;have a5:=aAh al (show wz.heap.size<=w8.heap.size by omega);have aK:=aGy (aGa aB (show wz.heap.size<wa.heap.size by omega) (aPI oO) c1);generalize w3=wc at kc aZ a5 aK |-;clear e1 ao c1 k1 bP aB ay al;have aW:g8<wc.heap.size:=oT a2 aZ.size;refine rdZ 9 rfl (fun K hK=>?_)
      (refine aAV (by rfl) (.tmp 108) (.tmp 113) 44 (by rfl) wz.heap.size 3 (.int .i64 0) 1 8 aBo aBs rfl oD (.slice A3x k bi) k _ (by rfl) a5 (some ⟨wz,0,none⟩) 1 1 _ [x] (by rfl) aK rfl b4 cn cc aZ.size ?_;intro v9 w9 b3 a3 aP;obtain⟨A9x,aI,rfl, -, -⟩:=aAc b3)
      refine hK.out _ _ (Or.inr (aAa (oF a5 a3) aW (Or.inl a2) kc)) (fun _=>?_);clear hK K;try simp only[oP]
      have k9:=aAa (oF a5 a3) aW (Or.inl a2) kc;have a9:=aZ.transNew (oF a5 a3) (Or.inl oN);have az:g8<w9.heap.size:=oT a2 a9.size;have aD:w9.ownsRow wz 3 1 (Row.v ⟨A9x,aI,xw++[x]⟩) (xw++[x]).length (aAe (xw++[x])):=aSk (by rw[aAi];exact b3) b6.out;have bF:Row.v ⟨A9x,aI,xw++[x]⟩=.slice A9x (k+1) aI:=by simp only[Row.v,List.length_append,b6.out,List.length_singleton]
      clear b3 a3 aP a5 aK aZ kc;refine rdZ 10 rfl (fun K hK=>?_);go_simp;refine hK.out _ _ (Or.inr (aAa (oE w9 (.cells #[.slice A9x (k+1) aI] 44)) az oZr k9)) (fun _=>?_);clear hK K;try simp only[oP]
      refine rdZ 11 rfl (fun K hK=>?_)
      (refine aGl (by rfl) (.tmp 105) (.tmp 115) (by rfl) (by rfl) aj.out a9 ⟨A9x,aI,xw++[x]⟩ (.slice A9x (k+1) aI) bF aD (by rfl) co bB ?_;intro A11 bh dH aU a0 a8)
      refine hK.out _ _ (Or.inl oM) (fun _=>?_);clear hK K;try simp only[oP]
      have ak:=aw.out.mid a9;have ax:=ar.out.mid a9;have aV:=aj.out.mid a9;have aJ:=aAb aH.out a9 oZl;have B9:=B2.mid a9 oZr;have aY:=aX.trans a9;have af:∀ g,obS A5 ah c5=some g->w.heap.size+1<=g:=fun g hg=>(aV.lt hg).1;have av:=oH (ak.other aV a1.out a0);have aq:=oH (ax.other aV a6.out a0);have au:=oH aU;have aT:=oH (aJ.kept a0 (aBd aJ aV.out oD));have bZ:=B9.grown a0 (by intro h0;have:=af _ h0;omega);have b1:=aY.grownNew a0 (fun g hg=>by have:=af g hg;omega);have aG:=oH ((a1.out.symm.push a8 ak).symm);have aF:=oH ((a6.out.symm.push a8 ax).symm);have aS:=oH (aM.out ⟨A9x,aI,xw++[x]⟩ rfl);clear aU a0 a8 ak ax aV aJ B9 aY af aw ar aj aH B2 aX a9 an a1 a6 aM aD bF ap kz k9;refine rdZ 12 rfl (fun K hK=>?_);go_simp;refine hK.out _ _ (Or.inl oM) (fun _=>?_);clear hK K;try simp only[oP]
      refine aAj oK ?_ _;go_wp2_with fail;go_roundw
      case rel=>exact⟨j+1,ah+1,_,A11,bh,by go_num,rfl,oH oO,aS,av,aq,au,aG,aF,aT,bZ,b1⟩
      simp[intOf];omega
    obtain rfl:LL=j:=by omega
    have bY:(aAg r).take LL=aAg r:=List.take_of_length_le (by rw[cu.out];exact oN);have bH:Hid (aAt a4=aAW (aAI es) (aAg r) ((lay (aAI es) (aAg r) k).take (i+1))):=oH (by rw[ct.out,HDN.out,bY]);have db:IntKind.i64.wrap ((i:Int)+1)=(i:Int)+1:=oI _;clear bY HDN;go_wp2_with fail;go_roundw
    case rel=>
     exact⟨i+1,nO,ah,_,a4,A9,A5,c9,c5,by go_num,rfl,rfl,oH oO,bJ,bH,HO,HL,HN,bG,a1,a6,aN,B0,hm⟩
    simp[intOf];omega
  obtain rfl:nl=i:=by omega
  have bY:(lay (aAI es) (aAg r) k).take nl=lay (aAI es) (aAg r) k:=List.take_of_length_le (by rw[<- HDL.out,aAD,HL.out.len];exact oN);have cI:Hid (aAt a7=(pre (aAI es) (aAg r) (k+1)).filter (aIX es)):=oH (by rw[HDO.out,bY];rfl);have bH:Hid (aAt aE=lay (aAI es) (aAg r) (k+1)):=oH (by rw[HDN.out,bY];rfl);have db:IntKind.i64.wrap ((k:Int)+1)=(k:Int)+1:=oI _;clear bY HDO HDN;go_wp2_with fail;go_roundw
  case rel=>exact⟨k+1,b7,nn,a7,aE,A3,A4,c3,c4,by go_num,rfl,rfl,oH oO,cI,bH,HO,HN,a1,aN,B0,hm⟩
  simp[intOf];omega
 obtain rfl:k=n+1:=by omega
 have d8:¬ (((n+1:Nat):Int)<=(n:Int)):=by omega
 have d1:decide (((n+1:Nat):Int)<=(n:Int))=false:=by simp;omega
 have dW:(aOG es r n).length=no:=by unfold aOG;rw[<- HDO.out,aAD];exact HO.out.len
 have HQ:Hid (OSS wo w wo 44 3 A1 c1 (aOG es r n)):=oH ((HO.out.base (Nat.le_succ _)).oss HDO.out);subst dW;clear HDO HDL HO HL HAP aN cM cP cJ;go_wp2_with fail;go_ret;exact⟨_,_,rfl,HQ.out,hm⟩
end Go.Proofs.YtkimajabegojoaaGreat
